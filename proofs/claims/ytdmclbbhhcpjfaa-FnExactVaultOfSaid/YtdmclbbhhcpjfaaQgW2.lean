/- The walks of functions: the code comes to the answers that QgD tells. Written by a program of ours. -/
import Derived.Test.YtdmclbbhhcpjfaaQgW1
set_option linter.all false
set_option maxHeartbeats 4000000
set_option linter.unusedVariables false
set_option maxRecDepth 100000
namespace Go.Ev

/- loop.example/g00149/impl.areAll[loop.example/g00149/impl.Lease]$1 -/
def c106_r0 : List Ins := [⟨some 2, .box (.t 0), none⟩,
⟨some 3, .p (.mv (.c (.bool false))), none⟩]
def c106_r1 : List Ins := [(iQ 4 (.load (.t 1) 1 false)),
(iQ 5 (.load (.t 2) 4 true)),
⟨some 6, .callv (.t 4) [(.t 5)], none⟩,
(iQ 7 (.un .not (.t 6))),
(iQ 3 (.mv (.t 7)))]
def c106 : XFn := { np := 2, nt := 8, res := [.t 3], body := (.seq (.reg c106_r0) (.seq (.reg c106_r1) .ret)) }
def K106 (C : CRel) : Prop := ∀ (a0 : DLease) (f1 : Nat) (k1 : List V) (is1 : DLease → Option Bool) (hs1 : Shut k1) (hf1 : ∀ (x0 : DLease) r, is1 x0 = some r → C f1 ⟨.agg (eDLease x0) :: k1, []⟩ ⟨.bool r, [], []⟩) (r : Bool), g106 a0 is1 = some r → C 106 ⟨[.agg (eDLease a0), .iptr [.clo f1 k1]], []⟩ ⟨.bool r, [], []⟩
theorem F106 {C : CRel}  (a0 : DLease) (f1 : Nat) (k1 : List V) (is1 : DLease → Option Bool) (hs1 : Shut k1) (hf1 : ∀ (x0 : DLease) r, is1 x0 = some r → C f1 ⟨.agg (eDLease x0) :: k1, []⟩ ⟨.bool r, [], []⟩) (r : Bool) (h0 : g106 a0 is1 = some r) : FnOK C c106 ⟨[.agg (eDLease a0), .iptr [.clo f1 k1]], []⟩ ⟨.bool r, [], []⟩ := by
 refine fn_ (nl rfl) (seq_ (reg_ (st (box_ rfl tv rfl (sw ⟨[(1, .iptr [.clo f1 k1]), (2, .ptr 128 0)], [(128, [iV a0.id, iV a0.until_, iV a0.cap, .bool a0.queued])], []⟩ (fg ⟨rfl, rfl, tv⟩ ⟨rfl, tv⟩) (mvc_ tv (oe_ (wk_ ⟨[(1, .iptr [.clo f1 k1]), (2, .ptr 128 0)], [(128, [iV a0.id, iV a0.until_, iV a0.cap, .bool a0.queued])], []⟩ (fg ⟨rfl, rfl, tv⟩ ⟨rfl, tv⟩) (seq_ (reg_ (st (c_ (cp_ ⟨tv, tv⟩ rfl (nl rfl)) (st (c_ (v := .agg (eDLease a0)) (cp_ ⟨tv, tv⟩ rfl (nl rfl)) ?_))))))))))))))
 obtain ⟨r1, e2, h0⟩ := bnd h0
 refine st (callv0_ (r := .bool r1) rfl false (hf1 _ r1 e2) ⟨tv, tv⟩ (and_ rfl hs1.2.2.1) (mapc1 rfl (hs1.2.1 _ _ _ _ _)) (fun _ => rfl) (st (c_ (cp_ ⟨tv, tv⟩ rfl tv) (st (mv_ rfl tv (oe_ (wk_ ⟨[(3, .bool (!r1))], [], []⟩ (fgk (by kernel_rfl)) ?_)))))))
 obtain rfl := Option.some.inj h0
 exact rt_ (ret_ rfl rfl rfl rfl rfl tv)

/- loop.example/g00149/impl.areAll[loop.example/g00149/impl.Lease] -/
def c61_r0 : List Ins := [⟨some 3, .box (.t 1), none⟩,
⟨some 4, .p (.mv (.c (.bool false))), none⟩]
def c61_r1 : List Ins := [(iQ 5 (.mv (.t 0))),
(iQ 6 (.fn 106 [(.t 3)])),
⟨some 7, .call 105 [(.t 5), (.t 6)], none⟩,
(iQ 8 (.un .not (.t 7))),
(iQ 4 (.mv (.t 8)))]
def c61 : XFn := { np := 2, nt := 9, res := [.t 4], body := (.seq (.reg c61_r0) (.seq (.reg c61_r1) .ret)) }
def K61 (C : CRel) : Prop := ∀ (a0 : List DLease) (f1 : Nat) (k1 : List V) (is1 : DLease → Option Bool) (hs1 : Shut k1) (hf1 : ∀ (x0 : DLease) r, is1 x0 = some r → C f1 ⟨.agg (eDLease x0) :: k1, []⟩ ⟨.bool r, [], []⟩) (r : Bool), g61 a0 is1 = some r → C 61 ⟨[.lst 4 (a0.map eDLease), .clo f1 k1], []⟩ ⟨.bool r, [], []⟩
theorem F61 {C : CRel} (H105 : K105 C) (H106 : K106 C) (a0 : List DLease) (f1 : Nat) (k1 : List V) (is1 : DLease → Option Bool) (hs1 : Shut k1) (hf1 : ∀ (x0 : DLease) r, is1 x0 = some r → C f1 ⟨.agg (eDLease x0) :: k1, []⟩ ⟨.bool r, [], []⟩) (r : Bool) (h0 : g61 a0 is1 = some r) : FnOK C c61 ⟨[.lst 4 (a0.map eDLease), .clo f1 k1], []⟩ ⟨.bool r, [], []⟩ := by
 refine fn_ (nl rfl) (seq_ (reg_ (st (box_ (dr_sh hs1) tv rfl (sw ⟨[(0, .lst 4 (a0.map eDLease)), (3, .ptr 192 0)], [(192, [.clo f1 k1])], []⟩ (fg ⟨rfl, rfl, tv⟩ ⟨rfl, tv⟩) (mvc_ tv (oe_ (wk_ ⟨[(0, .lst 4 (a0.map eDLease)), (3, .ptr 192 0)], [(192, [.clo f1 k1])], []⟩ (fg ⟨rfl, rfl, tv⟩ ⟨rfl, tv⟩) (seq_ (reg_ (st (mv_ rfl tv (st (c_ (cp_ ⟨tv, tv⟩ rfl rfl) ?_))))))))))))))
 obtain ⟨r1, e2, h0⟩ := bnd h0
 refine st (call0_ (r := .bool r1) false (H105 a0 106 [.iptr [.clo f1 k1]] (fun z106_0 => g106 z106_0 is1) (⟨fun _ _ _ _ _ => rfl, fun _ _ _ _ _ => rfl, rfl, fun _ _ _ n => by cases n <;> rfl, fun _ => rfl⟩) (fun z106_0 r h => H106 z106_0 f1 k1 is1 hs1 hf1 r h) r1 e2) ⟨tv, tv, tv⟩ rfl (mapc1 rfl (mapc1 (congrArg (fun z => V.clo 106 [.iptr [.clo f1 z]]) (hs1.2.2.2.1 _ _ _ _)) rfl)) (fun _ => rfl) (st (c_ (cp_ ⟨tv, tv⟩ rfl tv) (st (mv_ rfl tv (oe_ (wk_ ⟨[(4, .bool (!r1))], [], []⟩ (fgk (by kernel_rfl)) ?_)))))))
 obtain rfl := Option.some.inj h0
 exact rt_ (ret_ rfl rfl rfl rfl rfl tv)

/- loop.example/g00149/impl.TableOK$1 -/
def c62_r0 : List Ins := [⟨some 2, .box (.t 0), none⟩,
⟨some 3, .p (.mv (.c (.bool false))), none⟩]
def c62_r1 : List Ins := [(iQ 4 (.fieldA (.t 2) 1)),
(iQ 5 (.load (.t 4) 1 false)),
(iQ 6 (.fieldA (.t 2) 2)),
(iQ 7 (.load (.t 6) 1 false)),
⟨some 8, .call 63 [(.t 5), (.c (iV 0)), (.t 7)], none⟩,
(iQ 9 (.mv (.t 8))),
⟨some 10, .p (.fieldA (.t 2) 3), some (9, true)⟩,
⟨some 11, .p (.load (.t 10) 1 false), some (9, true)⟩,
⟨some 12, .p (.mv (.t 11)), some (9, true)⟩,
⟨some 13, .p (.fieldA (.t 2) 1), some (12, false)⟩,
⟨some 14, .p (.load (.t 13) 1 false), some (12, false)⟩,
⟨some 15, .p (.fieldA (.t 1) 0), some (12, false)⟩,
⟨some 16, .p (.load (.t 15) 1 false), some (12, false)⟩,
⟨some 17, .p (.bin .gtr (.t 14) (.t 16)), some (12, false)⟩,
⟨some 18, .pick (.t 12) (.c (.bool true)) (.t 17), some (9, true)⟩,
⟨some 19, .pick (.t 9) (.t 18) (.c (.bool false)), none⟩,
(iQ 3 (.mv (.t 19)))]
def c62 : XFn := { np := 2, nt := 20, res := [.t 3], body := (.seq (.reg c62_r0) (.seq (.reg c62_r1) .ret)) }
def K62 (C : CRel) : Prop := ∀ (a0 : DLease) (a1 : DTable) (r : Bool), g62 a0 a1 = some r → C 62 ⟨[.agg (eDLease a0), .iptr [iV a1.clock, iV a1.next, .lst 4 (a1.list_.map eDLease)]], []⟩ ⟨.bool r, [], []⟩
theorem F62 {C : CRel} (H63 : K63 C) (a0 : DLease) (a1 : DTable) (r : Bool) (h0 : g62 a0 a1 = some r) : FnOK C c62 ⟨[.agg (eDLease a0), .iptr [iV a1.clock, iV a1.next, .lst 4 (a1.list_.map eDLease)]], []⟩ ⟨.bool r, [], []⟩ := by
 refine fn_ (nl rfl) (seq_ (reg_ (st (box_ rfl tv rfl (st (mvc_ tv (oe_ (wk_ ⟨[(1, .iptr [iV a1.clock, iV a1.next, .lst 4 (a1.list_.map eDLease)]), (2, .ptr 128 0)], [(128, [iV a0.id, iV a0.until_, iV a0.cap, .bool a0.queued])], []⟩ (fgk (by kernel_rfl)) (seq_ (reg_ (st (c_ (cp_ ⟨tv, tv⟩ rfl tv) (st (c_ (cp_ ⟨tv, tv⟩ rfl (nl rfl)) (st (c_ (cp_ ⟨tv, tv⟩ rfl tv) (st (c_ (cp_ ⟨tv, tv⟩ rfl (nl rfl)) ?_))))))))))))))))))
 obtain ⟨r1, e2, h0⟩ := bnd h0
 refine st (call0_ (r := .bool r1) false (H63 a0.until_ 0 a0.cap r1 e2) ⟨tv, tv, tv, tv⟩ rfl rfl (fun _ => rfl) (st (mv_ rfl tv (st (pg_ (u := .ptr 128 3) rfl (fun hg => (cp_ ⟨tv, tv⟩ rfl tv)) (st (pg_ (u := .bool a0.queued) rfl (fun hg => (cp_ ⟨(fun _ => hg), tv⟩ rfl (nl rfl))) (st (pg_ (u := .bool a0.queued) rfl (fun hg => (cmv (v := .may (r1 == true) (.bool a0.queued)) rfl (fun _ => hg))) (st (pg_ (u := .ptr 128 1) rfl (fun hg => (cp_ ⟨tv, tv⟩ rfl tv)) (st (pg_ (u := iV a0.until_) rfl (fun hg => (cp_ ⟨(fun _ => hg), tv⟩ rfl (nl rfl))) (st (pg_ (u := .iptr [iV a1.clock, iV a1.next, .lst 4 (a1.list_.map eDLease)]) rfl (fun hg => (cp_ ⟨tv, tv⟩ rfl (nl rfl))) (sw ⟨[(9, .bool r1), (12, .may (r1 == true) (.bool a0.queued)), (14, .may ((r1 == true) && (a0.queued == false)) (iV a0.until_)), (15, .may ((r1 == true) && (a0.queued == false)) (.iptr [iV a1.clock, iV a1.next, .lst 4 (a1.list_.map eDLease)]))], [], []⟩ (fgk (by kernel_rfl)) (pg_ (u := iV a1.clock) rfl (fun hg => (cp_ ⟨(fun _ => hg), tv⟩ rfl (nl rfl))) (st (pg_ (u := .bool (decide (a0.until_ > a1.clock))) rfl (fun hg => (cp_ ⟨(fun _ => hg), (fun _ => hg), tv⟩ rfl tv)) (st (pickg_ (u := .bool (bif a0.queued then true else (decide (a0.until_ > a1.clock)))) rfl (fun hg => cpick rfl rfl (fun _ => hg) rfl rfl tv (fun h => and_ hg (eqf h)) rfl) (st (pick_ rfl rfl rfl (fun h => eqt h) tv rfl (st (mv_ rfl tv (oe_ ?_))))))))))))))))))))))))))
 obtain ⟨v3, e4, h0⟩ := bl h0
 refine wk_ ⟨[(3, .bool v3)], [], []⟩ (fgk (by subst e4; kernel_rfl)) ?_
 obtain rfl := Option.some.inj h0
 exact rt_ (ret_ rfl rfl rfl rfl rfl tv)

/- loop.example/g00149/impl.TableOK -/
def c20_r0 : List Ins := [⟨some 1, .box (.t 0), none⟩,
⟨some 2, .p (.mv (.c (.bool false))), none⟩]
def c20_r1 : DP := (.take (iQ 3 (.fieldA (.t 1) 0))
(.take (iQ 4 (.load (.t 3) 1 false))
(.take ⟨some 5, .p (.bin .geq (.t 4) (.c (iV 0))), none⟩
(.take (iQ 6 (.mv (.t 5)))
(.take ⟨some 7, .p (.fieldA (.t 1) 1), some (6, true)⟩
(.take ⟨some 8, .p (.load (.t 7) 1 false), some (6, true)⟩
(.alt [] ⟨some 9, .call 58 [(.t 8)], some (6, true)⟩
(.take ⟨some 10, .pick (.t 6) (.t 9) (.c (.bool false)), none⟩
(.take (iQ 11 (.mv (.t 10)))
(.take ⟨some 12, .p (.fieldA (.t 1) 2), some (11, true)⟩
(.take ⟨some 13, .p (.load (.t 12) 1 false), some (11, true)⟩
(.take ⟨some 14, .p (.len (.t 13)), some (11, true)⟩
(.take ⟨some 15, .p (.bin .leq (.t 14) (.c (iV 40))), some (11, true)⟩
(.take ⟨some 16, .pick (.t 11) (.t 15) (.c (.bool false)), none⟩
(.take (iQ 17 (.mv (.t 16)))
(.take ⟨some 18, .p (.load (.t 1) 3 true), some (17, true)⟩
(.take ⟨some 20, .p (.fieldA (.t 1) 1), some (17, true)⟩
(.take ⟨some 21, .p (.load (.t 20) 1 false), some (17, true)⟩
(.take ⟨some 22, .p (.bin .sub (.t 21) (.c (iV 1))), some (17, true)⟩
(.alt [⟨some 22, .p (.bin .sub (.t 21) (.c (iV 1))), some (17, true)⟩, ⟨some 21, .p (.load (.t 20) 1 false), some (17, true)⟩, ⟨some 20, .p (.fieldA (.t 1) 1), some (17, true)⟩] ⟨some 19, .call 60 [(.t 18)], some (17, true)⟩
(.alt [] ⟨some 23, .call 59 [(.t 19), (.c (iV 1)), (.t 22)], some (17, true)⟩
(.take ⟨some 24, .pick (.t 17) (.t 23) (.c (.bool false)), none⟩
(.take (iQ 25 (.mv (.t 24)))
(.take ⟨some 26, .p (.fieldA (.t 1) 2), some (25, true)⟩
(.take ⟨some 27, .p (.load (.t 26) 1 false), some (25, true)⟩
(.take ⟨some 28, .p (.fn 62 [(.t 1)]), some (25, true)⟩
(.alt [] ⟨some 29, .call 61 [(.t 27), (.t 28)], some (25, true)⟩
(.take ⟨some 30, .pick (.t 25) (.t 29) (.c (.bool false)), none⟩
(.take (iQ 2 (.mv (.t 30)))
.fin))
.stop))))))
.stop)
.stop)))))))))))))
.stop)))))))
def c20 : XFn := { np := 1, nt := 31, res := [.t 2], body := (.seq (.reg c20_r0) (.seq (.draw c20_r1) .ret)) }
def K20 (C : CRel) : Prop := ∀ (a0 : DTable) (r : Bool), g20 a0 = some r → C 20 ⟨[.agg (eDTable a0)], []⟩ ⟨.bool r, [], []⟩
theorem F20 {C : CRel} (H58 : K58 C) (H59 : K59 C) (H60 : K60 C) (H61 : K61 C) (H62 : K62 C) (a0 : DTable) (r : Bool) (h0 : g20 a0 = some r) : FnOK C c20 ⟨[.agg (eDTable a0)], []⟩ ⟨.bool r, [], []⟩ := by
 refine fn_ (nl rfl) (seq_ (reg_ (st (box_ rfl tv rfl (st (mvc_ tv (oe_ (wk_ ⟨[(1, .ptr 64 0)], [(64, [iV a0.clock, iV a0.next, .lst 4 (a0.list_.map eDLease)])], []⟩ (fgk (by kernel_rfl)) (seq_ ?_)))))))))
 obtain ⟨r1, e2, h0⟩ := bnd h0
 obtain ⟨r3, e4, h0⟩ := bnd h0
 obtain ⟨r5, e6, h0⟩ := bnd h0
 obtain ⟨r7, e8, h0⟩ := bnd h0
 refine draw_ (dtake tv (c_ (cp_ ⟨tv, tv⟩ rfl tv) (⟨tv, (dtake tv (c_ (cp_ ⟨tv, tv⟩ rfl (nl rfl)) (⟨tv, (dtake tv (c_ (cp_ t3 rfl tv) (⟨tv, (dtake tv (mv_ rfl tv (⟨tv, (dtake tv (pg_ (u := .ptr 64 1) rfl (fun hg => (cp_ ⟨tv, tv⟩ rfl tv)) (⟨tv, (dtake tv (pg_ (u := iV a0.next) rfl (fun hg => (cp_ ⟨(fun _ => hg), tv⟩ rfl (nl rfl))) (⟨tv, (dalt (callg_ (r := .bool r1) rfl false (fun hg => H58 a0.next r1 (ip hg e2)) ⟨(fun hg => hg), tv⟩ (fun _ => rfl) (fun _ => rfl) (fun _ => rfl) (fun h => nomatch h) (dkw ⟨[(1, .ptr 64 0), (6, .bool (decide (a0.clock ≥ 0))), (9, .may ((decide (a0.clock ≥ 0)) == true) (.bool r1))], [(64, [iV a0.clock, iV a0.next, .lst 4 (a0.list_.map eDLease)])], []⟩ (fgk (by kernel_rfl)) ⟨[], tv, tv, (dtake tv (pick_ rfl rfl rfl (fun h => eqt h) tv rfl (⟨tv, (dtake tv (mv_ rfl tv (⟨tv, (dtake tv (pg_ (u := .ptr 64 2) rfl (fun hg => (cp_ ⟨tv, tv⟩ rfl tv)) (⟨tv, (dtake tv (pg_ (u := .lst 4 (a0.list_.map eDLease)) rfl (fun hg => (cp_ ⟨(fun _ => hg), tv⟩ rfl (nl rfl))) (⟨tv, (dtake tv (pg_ (u := iV (a0.list_.length : Int)) rfl (fun hg => (clenL (e := eDLease) (l0 := a0.list_) rfl rfl (fun _ => hg))) (⟨tv, (dtake tv (pg_ (u := .bool (decide ((a0.list_.length : Int) ≤ 40))) rfl (fun hg => (cp_ ⟨(fun _ => hg), tv, tv⟩ rfl tv)) (⟨tv, (dtake tv (pick_ rfl rfl rfl (fun h => eqt h) tv rfl (⟨tv, (dtake tv (mv_ rfl tv (⟨tv, ?_⟩)))⟩)))⟩)))⟩)))⟩)))⟩)))⟩)))⟩)))⟩)) dstop)⟩)))⟩)))⟩)))⟩)))⟩)))⟩)))
 refine dtake tv (pg_ (u := .agg (eDTable a0)) rfl (fun hg => (cp_ ⟨tv, tv⟩ rfl (nl rfl))) (⟨tv, (dtake tv (pg_ (u := .ptr 64 1) rfl (fun hg => (cp_ ⟨tv, tv⟩ rfl tv)) (⟨tv, (dtake tv (pg_ (u := iV a0.next) rfl (fun hg => (cp_ ⟨(fun _ => hg), tv⟩ rfl (nl rfl))) (⟨tv, (dtake tv (pg_ (u := iV (IntKind.i64.wrap (a0.next - 1))) rfl (fun hg => (cp_ ⟨(fun _ => hg), tv, tv⟩ rfl tv)) (⟨tv, (dalt (callg_ (r := .own 0 0 1 (r3.map eI)) rfl false (fun hg => H60 a0 r3 (ip hg e4)) ⟨(fun hg => hg), tv⟩ (fun _ => rfl) (fun _ => rfl) (fun _ => (and_ (fl1 (fun _ => rfl)) rfl)) (fun h => nomatch h) (dkw ⟨[(1, .ptr 64 0), (17, .bool (bif (bif (decide (a0.clock ≥ 0)) then r1 else false) then (decide ((a0.list_.length : Int) ≤ 40)) else false)), (19, .may ((bif (bif (decide (a0.clock ≥ 0)) then r1 else false) then (decide ((a0.list_.length : Int) ≤ 40)) else false) == true) (.lst 1 (r3.map eI))), (20, .may ((bif (bif (decide (a0.clock ≥ 0)) then r1 else false) then (decide ((a0.list_.length : Int) ≤ 40)) else false) == true) (.ptr 64 1)), (21, .may ((bif (bif (decide (a0.clock ≥ 0)) then r1 else false) then (decide ((a0.list_.length : Int) ≤ 40)) else false) == true) (iV a0.next)), (22, .may ((bif (bif (decide (a0.clock ≥ 0)) then r1 else false) then (decide ((a0.list_.length : Int) ≤ 40)) else false) == true) (iV (IntKind.i64.wrap (a0.next - 1))))], [(64, [iV a0.clock, iV a0.next, .lst 4 (a0.list_.map eDLease)])], []⟩ (fgk (by kernel_rfl)) ⟨[], ⟨⟨.inl tv, (againg (v := iV (IntKind.i64.wrap (a0.next - 1))) rfl (fun hg => (cp_ ⟨(fun _ => hg), tv, tv⟩ rfl tv)) rfl)⟩, ⟨.inl tv, (againg (v := iV a0.next) rfl (fun hg => (cp_ ⟨(fun _ => hg), tv⟩ rfl (nl rfl))) rfl)⟩, ⟨.inl tv, (againg (v := .ptr 64 1) rfl (fun hg => (cp_ ⟨tv, tv⟩ rfl tv)) rfl)⟩, tv⟩, tv, (dalt (callg_ (r := .bool r5) rfl false (fun hg => H59 r3 1 (IntKind.i64.wrap (a0.next - 1)) r5 (ip hg e6)) ⟨(fun hg => hg), tv, (fun hg => hg), tv⟩ (fun _ => rfl) (fun _ => rfl) (fun _ => rfl) (fun h => nomatch h) (dkw ⟨[(1, .ptr 64 0), (17, .bool (bif (bif (decide (a0.clock ≥ 0)) then r1 else false) then (decide ((a0.list_.length : Int) ≤ 40)) else false)), (23, .may ((bif (bif (decide (a0.clock ≥ 0)) then r1 else false) then (decide ((a0.list_.length : Int) ≤ 40)) else false) == true) (.bool r5))], [(64, [iV a0.clock, iV a0.next, .lst 4 (a0.list_.map eDLease)])], []⟩ (fgk (by kernel_rfl)) ⟨[], tv, tv, (dtake tv (pick_ rfl rfl rfl (fun h => eqt h) tv rfl (⟨tv, (dtake tv (mv_ rfl tv (⟨tv, (dtake tv (pg_ (u := .ptr 64 2) rfl (fun hg => (cp_ ⟨tv, tv⟩ rfl tv)) (⟨tv, (dtake tv (pg_ (u := .lst 4 (a0.list_.map eDLease)) rfl (fun hg => (cp_ ⟨(fun _ => hg), tv⟩ rfl (nl rfl))) (⟨tv, (dtake tv (pg_ (u := .clo 62 [.ptr 64 0]) rfl (fun hg => (cp_ ⟨tv, tv⟩ rfl rfl)) (⟨tv, (dalt (callg_ (r := .bool r7) rfl false (fun hg => H61 a0.list_ 62 [.iptr [iV a0.clock, iV a0.next, .lst 4 (a0.list_.map eDLease)]] (fun z62_0 => g62 z62_0 a0) (⟨fun _ _ _ _ _ => rfl, fun _ _ _ _ _ => rfl, rfl, fun _ _ _ n => by cases n <;> rfl, fun _ => rfl⟩) (fun z62_0 r h => H62 z62_0 a0 r h) r7 (ip hg e8)) ⟨(fun hg => hg), (fun hg => hg), tv⟩ (fun _ => rfl) (fun _ => rfl) (fun _ => rfl) (fun h => nomatch h) (dkw ⟨[(25, .bool (bif (bif (bif (decide (a0.clock ≥ 0)) then r1 else false) then (decide ((a0.list_.length : Int) ≤ 40)) else false) then r5 else false)), (29, .may ((bif (bif (bif (decide (a0.clock ≥ 0)) then r1 else false) then (decide ((a0.list_.length : Int) ≤ 40)) else false) then r5 else false) == true) (.bool r7))], [], []⟩ (fgk (by kernel_rfl)) ⟨[], tv, tv, (dtake tv (pick_ rfl rfl rfl (fun h => eqt h) tv rfl (⟨tv, (dtake tv (mv_ rfl tv (⟨tv, (dfin ?_)⟩)))⟩)))⟩)) dstop)⟩)))⟩)))⟩)))⟩)))⟩)))⟩)) dstop)⟩)) dstop)⟩)))⟩)))⟩)))⟩))
 obtain ⟨v9, e10, h0⟩ := bl h0
 refine wk_ ⟨[(2, .bool v9)], [], []⟩ (fgk (by subst e10; kernel_rfl)) ?_
 obtain rfl := Option.some.inj h0
 exact rt_ (ret_ rfl rfl rfl rfl rfl tv)

/- loop.example/g00149/impl.leases -/
def c95_r0 : List Ins := [⟨some 2, .nilS 1, none⟩]
def c95_r1 : List Ins := [⟨some 3, .nilS 1, none⟩]
def c95_r2 : List Ins := [(iQ 6 (.mv (.t 0))),
(iQ 7 (.len (.t 6))),
⟨some 8, .p (.mv (.c (iV 0))), none⟩]
def c95_r3 : List Ins := [(iQ 9 (.bin .lss (.t 8) (.t 7)))]
def c95_r4 : List Ins := [(iQ 10 (.idxA (.t 6) (.t 8) 2)),
(iQ 11 (.load (.t 10) 2 true)),
⟨some 5, .alloc [(iV 0), (.bool false)], none⟩,
⟨none, .store (.t 5) (.t 11) 2, none⟩]
def c95_r5 : List Ins := [(iQ 12 (.mv (.t 3))),
(iQ 13 (.fieldA (.t 5) 0)),
(iQ 14 (.load (.t 13) 1 false)),
⟨some 15, .mkS 1 [(iV 0)] 1 [(0, (.t 14))], none⟩,
⟨some 16, .app 1 8 (.t 12) (.t 15), none⟩,
(iQ 3 (.mv (.t 16)))]
def c95_r6 : List Ins := [⟨some 17, .p (.bin .add (.t 8) (.c (iV 1))), none⟩,
(iQ 8 (.mv (.t 17)))]
def c95_l0 : IR := (.seq (.reg c95_r3) (.seq (.ite (.t 9) .skip (.exit 0)) (.seq (.block 1 (.seq (.reg c95_r4) (.reg c95_r5))) (.reg c95_r6))))
def c95_r7 : List Ins := [(iQ 18 (.mv (.t 3))),
(iQ 2 (.mv (.t 18)))]
def c95 : XFn := { np := 1, nt := 19, res := [.t 2], body := (.seq (.reg c95_r0) (.seq (.reg c95_r1) (.seq (.seq (.reg c95_r2) (.block 0 (.loop c95_l0))) (.seq (.reg c95_r7) .ret)))) }
def K95 (C : CRel) : Prop := ∀ (a0 : List DIntent) (r : (List Int)), g95 a0 = some r → C 95 ⟨[.lst 2 (a0.map eDIntent)], []⟩ ⟨.own 0 0 1 (r.map eI), [], []⟩
theorem F95 {C : CRel}  (a0 : List DIntent) (r : (List Int)) (h0 : g95 a0 = some r) : FnOK C c95 ⟨[.lst 2 (a0.map eDIntent)], []⟩ ⟨.own 0 0 1 (r.map eI), [], []⟩ := by
 refine fn_ (nl rfl) (seq_ (reg_ (st (nilS_ (oe_ (wk_ ⟨[(0, .lst 2 (a0.map eDIntent))], [], []⟩ (fgk (by kernel_rfl)) (seq_ (reg_ (st (nilS_ (oe_ (wk_ ⟨[(0, .lst 2 (a0.map eDIntent)), (3, .own 192 0 1 ([].map eI))], [], []⟩ (fgk (by kernel_rfl)) (seq_ (seq_ (reg_ (st (mv_ rfl tv (st (c_ (clenL (e := eDIntent) (l0 := a0) rfl rfl tv) (st (mvc_ tv (oe_ (wk_ ⟨[(3, .own 192 0 1 ([].map eI)), (6, .lst 2 (a0.map eDIntent)), (7, iV (a0.length : Int)), (8, iV 0)], [], []⟩ (fgk (by kernel_rfl)) (block_ ?_))))))))))))))))))))))))
 obtain ⟨r18, e19, h0⟩ := bnd h0
 refine loop_ (R := (fun S => ∃ p13 : List Int, p13 = r18 ∧ S = ⟨[(3, .own 192 0 1 (p13.map eI))], [], []⟩)) (g95_l0 a0) (fun s S => match s with | (p5, p6) => S = ⟨[(3, .own 192 0 1 (p5.map eI)), (6, .lst 2 (a0.map eDIntent)), (7, iV (a0.length : Int)), (8, iV p6)], [], []⟩) e19 ⟨[(3, .own 192 0 1 ([].map eI)), (6, .lst 2 (a0.map eDIntent)), (7, iV (a0.length : Int)), (8, iV 0)], [], []⟩ (fgk (by kernel_rfl)) rfl 0 (fun _ => rfl) ?_ ?_
 ·rintro S _ hfg ⟨p13, rfl, rfl⟩
  refine wk_ ⟨[(3, .own 192 0 1 (p13.map eI))], [], []⟩ (fglk hfg (by kernel_rfl)) (seq_ (reg_ (st (mv_ rfl tv (st (mv_ rfl tv (oe_ (wk_ ⟨[(2, .own 192 0 1 (p13.map eI))], [], []⟩ (fgk (by kernel_rfl)) ?_))))))))
  obtain rfl := Option.some.inj h0
  exact rt_ (ret_ rfl rfl rfl rfl rfl tv)
 ·rintro ⟨p5, p6⟩ o1 _ K1 rfl h1 hx1 hK1 hE1 hR1
  refine seq_ (reg_ (st (c_ (cp_ t3 rfl tv) (oe_ (wk_ ⟨[(3, .own 192 0 1 (p5.map eI)), (6, .lst 2 (a0.map eDIntent)), (7, iV (a0.length : Int)), (8, iV p6), (9, .bool (decide (p6 < (a0.length : Int))))], [], []⟩ (fgk (by kernel_rfl)) (seq_ (ite_ (cb := (decide (p6 < (a0.length : Int)))) rfl (fun c14 => ?_) (fun c14 => ?_))))))))
  ·replace h1 := ip c14 h1
   refine sk_ (wk_ ⟨[(3, .own 192 0 1 (p5.map eI)), (6, .lst 2 (a0.map eDIntent)), (7, iV (a0.length : Int)), (8, iV p6)], [], []⟩ (fgk (by kernel_rfl)) (seq_ (block_ (seq_ (reg_ ?_)))))
   obtain ⟨y15, e16, h1⟩ := bnd h1
   refine st (c_ (cidxL (e := eDIntent) (y := y15) rfl rfl tv rfl rfl tv e16) (st (c_ (v := .agg (eDIntent y15)) (cp_ ⟨tv, tv⟩ rfl (nl rfl)) (st (alloc_ (st (stp_ rfl rfl tv rfl rfl rfl (nl rfl) (oe_ (wk_ ⟨[(3, .own 192 0 1 (p5.map eI)), (5, .ptr 320 0), (6, .lst 2 (a0.map eDIntent)), (7, iV (a0.length : Int)), (8, iV p6)], [(320, [iV y15.lease, .bool y15.undo])], []⟩ (fgk (by kernel_rfl)) (reg_ (st (mv_ rfl tv (st (c_ (cp_ ⟨tv, tv⟩ rfl tv) (st (c_ (cp_ ⟨tv, tv⟩ rfl (nl rfl)) (st (mkS_ ⟨tv, tv⟩ ⟨⟨nl rfl, rfl, rfl⟩, tv⟩ ?_))))))))))))))))))
   obtain ⟨c17, h1⟩ := grd h1
   refine st (app_ (e := eI) (l0 := p5) (l1 := ([y15.lease] : List Int)) rfl rfl tv rfl (by decide) c17 (st (mv_ rfl tv (oe_ (bn_ (wk_ ⟨[(3, .own 192 0 1 ((p5 ++ ([y15.lease] : List Int)).map eI)), (6, .lst 2 (a0.map eDIntent)), (7, iV (a0.length : Int)), (8, iV p6)], [], []⟩ (fgk (by kernel_rfl)) (reg_ (st (c_ (cp_ t3 rfl tv) (st (mv_ rfl tv (oe_ ?_))))))))))))
   obtain rfl := Option.some.inj h1
   exact hK1 _ rfl _ ⟨[(3, .own 192 0 1 ((p5 ++ ([y15.lease] : List Int)).map eI)), (6, .lst 2 (a0.map eDIntent)), (7, iV (a0.length : Int)), (8, iV (IntKind.i64.wrap (p6 + 1)))], [], []⟩ (fgk (by kernel_rfl)) rfl
  ·replace h1 := inb c14 h1
   obtain rfl := Option.some.inj h1
   obtain rfl := hx1 _ rfl
   refine exQ rfl ?_
   exact hE1 _ ⟨[(3, .own 192 0 1 (p5.map eI))], [], []⟩ (fgk (by kernel_rfl)) ⟨_, rfl, rfl⟩

/- slices.Grow[[]int,int] -/
def c144_r0 : List Ins := [⟨some 4, .nilS 1, none⟩]
def c144_r1 : List Ins := [(iQ 5 (.mv (.t 1))),
⟨some 6, .p (.bin .lss (.t 5) (.c (iV 0))), none⟩]
def c144_r2 : List Ins := [⟨some 7, .bad, none⟩,
⟨none, .bad, none⟩]
def c144_r3 : List Ins := [(iQ 8 (.mv (.t 1))),
(iQ 9 (.mv (.t 0))),
⟨some 10, .cap (.t 9), none⟩,
(iQ 11 (.mv (.t 0))),
(iQ 12 (.len (.t 11))),
(iQ 13 (.bin .sub (.t 10) (.t 12))),
(iQ 14 (.bin .sub (.t 8) (.t 13))),
(iQ 1 (.mv (.t 14)))]
def c144_r4 : List Ins := [(iQ 15 (.mv (.t 1))),
⟨some 16, .p (.bin .gtr (.t 15) (.c (iV 0))), none⟩]
def c144_r5 : List Ins := [(iQ 17 (.mv (.t 0))),
(iQ 18 (.mv (.t 0))),
⟨some 19, .cap (.t 18), none⟩,
⟨some 20, .p (.slice (.t 17) none (some (.t 19)) 1), none⟩,
(iQ 21 (.mv (.t 1))),
⟨some 22, .appz 1 8 [(iV 0)] (.t 20) (.t 21), none⟩,
(iQ 23 (.mv (.t 0))),
(iQ 24 (.len (.t 23))),
⟨some 25, .p (.slice (.t 22) none (some (.t 24)) 1), none⟩,
(iQ 0 (.mv (.t 25)))]
def c144_r6 : List Ins := [(iQ 26 (.mv (.t 0))),
(iQ 4 (.mv (.t 26)))]
def c144 : XFn := { np := 2, nt := 27, res := [.t 4], body := (.seq (.reg c144_r0) (.seq (.seq (.reg c144_r1) (.ite (.t 6) (.reg c144_r2) .skip)) (.seq (.seq (.reg c144_r3) (.seq (.reg c144_r4) (.ite (.t 16) (.reg c144_r5) .skip))) (.seq (.reg c144_r6) .ret)))) }
def K144 (C : CRel) : Prop := ∀ (a0 : List Int) (a1 : Int) (r : List Int), g144 a0 a1 = some r → C 144 ⟨[.own 1024000 0 1 (a0.map eI), iV a1], []⟩ ⟨.own 0 0 1 (r.map eI), [], []⟩
theorem F144 {C : CRel} (a0 : List Int) (a1 : Int) (r : List Int) (h0 : g144 a0 a1 = some r) : FnOK C c144 ⟨[.own 1024000 0 1 (a0.map eI), iV a1], []⟩ ⟨.own 0 0 1 (r.map eI), [], []⟩ := by
 refine fnc_ (nl rfl) fun f hf => ?_
 obtain ⟨⟨hb, hl⟩, h0⟩ := grd h0
 obtain rfl := Option.some.inj h0
 obtain ⟨n, rfl⟩ := Int.eq_ofNat_of_zero_le hb
 have hn : a0.length + n ≤ 17592186044416 := by omega
 have hbyte : (a0.length + n) * 8 ≤ 140737488355328 := Nat.le_trans (Nat.mul_le_mul_right 8 hn) (by decide)
 obtain ⟨hc1, hc2⟩ := hf 0 1024000 0 1 (a0.map eI) rfl (by decide)
 rw [List.length_map] at hc1
 have hc2 := hc2 rfl
 have w1 : IntKind.i64.wrap ((f 0 : Int) - (a0.length : Int)) = (f 0 : Int) - (a0.length : Int) := wrapI (by omega) (by omega)
 have w2 : IntKind.i64.wrap ((n : Int) - ((f 0 : Int) - (a0.length : Int))) = (n : Int) - ((f 0 : Int) - (a0.length : Int)) := wrapI (by omega) (by omega)
 refine seq_ (reg_ (st (nilS_ (oe_ (wk_ ⟨[(0, .own 1024000 0 1 (a0.map eI)), (1, iV n)], [], [(0, xcap + (f 0 : Int))]⟩ (fgc ⟨rfl, rfl, tv⟩ tv ⟨.inl ⟨_, rfl, .inl rfl⟩, tv⟩) (seq_ (seq_ (reg_ (st (mv_ rfl tv (st (c_ (cp_ t3 rfl tv) (oe_ (wk_ ⟨[(6, .bool (decide ((n : Int) < 0))), (0, .own 1024000 0 1 (a0.map eI)), (1, iV n)], [], [(0, xcap + (f 0 : Int))]⟩ (fgc ⟨rfl, rfl, rfl, tv⟩ tv ⟨.inl ⟨_, rfl, .inl rfl⟩, tv⟩) (ite_ (cb := decide ((n : Int) < 0)) rfl (fun h => absurd (of_decide_eq_true h) (by omega)) (fun _ => (sk_ (wk_ ⟨[(0, .own 1024000 0 1 (a0.map eI)), (1, iV n)], [], [(0, xcap + (f 0 : Int))]⟩ (fgc ⟨rfl, rfl, tv⟩ tv ⟨.inl ⟨_, rfl, .inl rfl⟩, tv⟩) (seq_ (seq_ (reg_ (st (mv_ rfl tv (st (mv_ rfl tv (st (cap_ (e := eI) (l0 := a0) rfl fun c _ _ hc => ?_)))))))))))))))))))))))))))
 have hcf : (c : Int) = (f 0 : Int) := by have := hc _ rfl (by omega); omega
 refine st (mv_ rfl tv (st (c_ (clenO (e := eI) (l0 := a0) rfl rfl tv) (st (c_ (cp_ (v := iV ((f 0 : Int) - (a0.length : Int))) ⟨tv, tv, tv⟩ (congrArg (fun z => some (True, V.int .i64 z)) ((congrArg (fun z => IntKind.i64.wrap (z - (a0.length : Int))) hcf).trans w1)) tv) (st (c_ (cp_ (v := iV ((n : Int) - ((f 0 : Int) - (a0.length : Int)))) ⟨tv, tv, tv⟩ (congrArg (fun z => some (True, V.int .i64 z)) w2) tv) (st (mv_ rfl tv (oe_ (wk_ ⟨[(0, .own 1024000 0 1 (a0.map eI)), (1, iV ((n : Int) - ((f 0 : Int) - (a0.length : Int))))], [], [(0, xcap + (f 0 : Int))]⟩ (fgc ⟨rfl, rfl, tv⟩ tv ⟨.inl ⟨_, rfl, .inl rfl⟩, tv⟩) (seq_ (reg_ (st (mv_ rfl tv (st (c_ (cp_ t3 rfl tv) (oe_ (wk_ ⟨[(16, .bool (decide ((n : Int) - ((f 0 : Int) - (a0.length : Int)) > 0))), (0, .own 1024000 0 1 (a0.map eI)), (1, iV ((n : Int) - ((f 0 : Int) - (a0.length : Int))))], [], [(0, xcap + (f 0 : Int))]⟩ (fgc ⟨rfl, rfl, rfl, tv⟩ tv ⟨.inl ⟨_, rfl, .inl rfl⟩, tv⟩) (ite_ (cb := decide ((n : Int) - ((f 0 : Int) - (a0.length : Int)) > 0)) rfl (fun hgt => ?_) (fun _ => ?_)))))))))))))))))))))
 ·have hgt' : f 0 < a0.length + n := by have := of_decide_eq_true hgt; omega
  obtain ⟨m, hm⟩ : ∃ m : Nat, (n : Int) - ((f 0 : Int) - (a0.length : Int)) = (m : Int) := ⟨a0.length + n - f 0, by omega⟩
  rw [hm]
  refine reg_ (st (mv_ rfl tv (st (mv_ rfl tv (st (cap_ (e := eI) (l0 := a0) rfl fun c2 _ _ hc3 => ?_))))))
  have hcf2 : c2 = f 0 := by have := hc3 _ rfl (by omega); omega
  subst hcf2
  refine st (c_ (sliceUp (e := eI) (l0 := a0) (t := 1024000) (sz := 1) (H := f 0) (c := xcap + (f 0 : Int)) rfl rfl hc1 (show (0 : Nat) < 1 by decide) rfl (by rw [lowC_x]; omega)) (st (mv_ rfl tv (st (appzx_ (e := eo eI 1) (l0 := a0.map some ++ List.replicate (f 0 - a0.length) none) (c := xcap + (f 0 : Int) - 0) (t := 1024000) (some (default : Int)) rfl rfl rfl (by decide) (Int.natCast_nonneg _) ?_ rfl (by omega) ?_ ?_)))))
  ·have e1 : (a0.map some ++ List.replicate (f 0 - a0.length) none).length + m = a0.length + n := by simp; omega
   have := Int.ofNat_le.2 hbyte
   rw [Int.natCast_mul] at this
   rw [← Int.natCast_add, e1]
   exact this
  ·have e1 : (a0.map some ++ List.replicate (f 0 - a0.length) none).length = f 0 := by simp; omega
   rw [e1]; omega
  refine st (mv_ rfl tv (st (c_ (clenO (e := eI) (l0 := a0) rfl rfl tv) ?_)))
  have hk : ((a0.map some ++ List.replicate (f 0 - a0.length) none) ++ List.replicate ((m : Int)).toNat (some (default : Int))).take a0.length = a0.map some := by
   rw [List.append_assoc, List.take_append_of_le_length (by simp), List.take_of_length_le (by simp)]
  have hlen : a0.length ≤ ((a0.map some ++ List.replicate (f 0 - a0.length) none) ++ List.replicate ((m : Int)).toNat (some (default : Int))).length := by simp only [List.length_append, List.length_map]; omega
  generalize (a0.map some ++ List.replicate (f 0 - a0.length) none) ++ List.replicate ((m : Int)).toNat (some (default : Int)) = R at hk hlen
  refine st (c_ (csliceO (e := eo eI 1) (y := a0.map some) rfl rfl tv ⟨tv, tv⟩ rfl rfl (by rw [show (none : Option Int).getD 0 = ((0 : Nat) : Int) from rfl]; exact (slcN R 0 a0.length (by omega) hlen).trans (congrArg some hk))) (st (mv_ rfl tv (oe_ ?_))))
  rw [← eo_some]
  refine wk_ ⟨[(0, .own 1408 0 1 (a0.map eI))], [], []⟩ (fg ⟨rfl, tv⟩ tv) (seq_ (reg_ (st (mv_ rfl tv (st (mv_ rfl tv (oe_ (w0_ ?_))))))))
  exact rt_ (ret_ rfl rfl rfl rfl rfl tv)
 ·refine sk_ ?_
  refine wk_ ⟨[(0, .own 1024000 0 1 (a0.map eI))], [], []⟩ (fg ⟨rfl, tv⟩ tv) (seq_ (reg_ (st (mv_ rfl tv (st (mv_ rfl tv (oe_ (w0_ ?_))))))))
  exact rt_ (ret_ rfl rfl rfl rfl rfl tv)


/- slices.Concat[[]int,int] -/
def c126_r0 : List Ins := [⟨some 2, .nilS 1, none⟩]
def c126_r1 : List Ins := [⟨some 3, .p (.mv (.c (iV 0))), none⟩]
def c126_r2 : List Ins := [(iQ 9 (.mv (.t 0))),
(iQ 10 (.len (.t 9))),
⟨some 11, .p (.mv (.c (iV 0))), none⟩]
def c126_r3 : List Ins := [(iQ 12 (.bin .lss (.t 11) (.t 10)))]
def c126_r4 : List Ins := [(iQ 13 (.idxA (.t 9) (.t 11) 1)),
(iQ 14 (.load (.t 13) 1 false)),
(iQ 5 (.mv (.t 14)))]
def c126_r5 : List Ins := [(iQ 15 (.mv (.t 3))),
(iQ 16 (.mv (.t 5))),
(iQ 17 (.len (.t 16))),
(iQ 18 (.bin .add (.t 15) (.t 17))),
(iQ 3 (.mv (.t 18)))]
def c126_r6 : List Ins := [(iQ 19 (.mv (.t 3))),
⟨some 20, .p (.bin .lss (.t 19) (.c (iV 0))), none⟩]
def c126_r7 : List Ins := [⟨some 21, .bad, none⟩,
⟨none, .bad, none⟩]
def c126_r8 : List Ins := [⟨some 22, .p (.bin .add (.t 11) (.c (iV 1))), none⟩,
(iQ 11 (.mv (.t 22)))]
def c126_l0 : IR := (.seq (.reg c126_r3) (.seq (.ite (.t 12) .skip (.exit 0)) (.seq (.block 1 (.seq (.reg c126_r4) (.seq (.reg c126_r5) (.seq (.reg c126_r6) (.ite (.t 20) (.reg c126_r7) .skip))))) (.reg c126_r8))))
def c126_r9 : List Ins := [(iQ 23 (.mv (.t 3))),
⟨some 24, .call 144 [(.c (.own 1048575 0 1 [])), (.t 23)], none⟩,
(iQ 6 (.mv (.t 24)))]
def c126_r10 : List Ins := [(iQ 25 (.mv (.t 0))),
(iQ 26 (.len (.t 25))),
⟨some 27, .p (.mv (.c (iV 0))), none⟩]
def c126_r11 : List Ins := [(iQ 28 (.bin .lss (.t 27) (.t 26)))]
def c126_r12 : List Ins := [(iQ 29 (.idxA (.t 25) (.t 27) 1)),
(iQ 30 (.load (.t 29) 1 false)),
(iQ 8 (.mv (.t 30)))]
def c126_r13 : List Ins := [(iQ 31 (.mv (.t 6))),
(iQ 32 (.mv (.t 8))),
⟨some 33, .app 1 8 (.t 31) (.t 32), none⟩,
(iQ 6 (.mv (.t 33)))]
def c126_r14 : List Ins := [⟨some 34, .p (.bin .add (.t 27) (.c (iV 1))), none⟩,
(iQ 27 (.mv (.t 34)))]
def c126_l1 : IR := (.seq (.reg c126_r11) (.seq (.ite (.t 28) .skip (.exit 2)) (.seq (.block 3 (.seq (.reg c126_r12) (.reg c126_r13))) (.reg c126_r14))))
def c126_r15 : List Ins := [(iQ 35 (.mv (.t 6))),
(iQ 2 (.mv (.t 35)))]
def c126 : XFn := { np := 1, nt := 36, res := [.t 2], body := (.seq (.reg c126_r0) (.seq (.reg c126_r1) (.seq (.seq (.reg c126_r2) (.block 0 (.loop c126_l0))) (.seq (.reg c126_r9) (.seq (.seq (.reg c126_r10) (.block 2 (.loop c126_l1))) (.seq (.reg c126_r15) .ret)))))) }
def K126 (C : CRel) : Prop := ∀ (a0 : List (List Int)) (r : (List Int)), g126 a0 = some r → C 126 ⟨[.lst 1 (a0.map (eL 1 eI))], []⟩ ⟨.own 0 0 1 (r.map eI), [], []⟩
theorem F126 {C : CRel} (H144 : K144 C) (a0 : List (List Int)) (r : (List Int)) (h0 : g126 a0 = some r) : FnOK C c126 ⟨[.lst 1 (a0.map (eL 1 eI))], []⟩ ⟨.own 0 0 1 (r.map eI), [], []⟩ := by
 refine fn_ (nl rfl) (seq_ (reg_ (st (nilS_ (oe_ (wk_ ⟨[(0, .lst 1 (a0.map (eL 1 eI)))], [], []⟩ (fgk (by kernel_rfl)) (seq_ (reg_ (st (mvc_ tv (oe_ (wk_ ⟨[(0, .lst 1 (a0.map (eL 1 eI))), (3, iV 0)], [], []⟩ (fgk (by kernel_rfl)) (seq_ (seq_ (reg_ (st (mv_ rfl tv (st (c_ (clenL (e := (eL 1 eI)) (l0 := a0) rfl rfl tv) (st (mvc_ tv (oe_ (wk_ ⟨[(0, .lst 1 (a0.map (eL 1 eI))), (3, iV 0), (9, .lst 1 (a0.map (eL 1 eI))), (10, iV (a0.length : Int)), (11, iV 0)], [], []⟩ (fgk (by kernel_rfl)) (block_ ?_))))))))))))))))))))))))
 obtain ⟨r25, e26, h0⟩ := bnd h0
 refine loop_ (R := (fun S => ∃ p15 : Int, p15 = r25 ∧ S = ⟨[(0, .lst 1 (a0.map (eL 1 eI))), (3, iV p15)], [], []⟩)) (g126_l0 a0) (fun s S => match s with | (p6, p7) => S = ⟨[(0, .lst 1 (a0.map (eL 1 eI))), (3, iV p6), (9, .lst 1 (a0.map (eL 1 eI))), (10, iV (a0.length : Int)), (11, iV p7)], [], []⟩) e26 ⟨[(0, .lst 1 (a0.map (eL 1 eI))), (3, iV 0), (9, .lst 1 (a0.map (eL 1 eI))), (10, iV (a0.length : Int)), (11, iV 0)], [], []⟩ (fgk (by kernel_rfl)) rfl 0 (fun _ => rfl) ?_ ?_
 ·rintro S _ hfg ⟨p15, rfl, rfl⟩
  refine wk_ ⟨[(0, .lst 1 (a0.map (eL 1 eI))), (3, iV p15)], [], []⟩ (fglk hfg (by kernel_rfl)) (seq_ (reg_ (st (mv_ rfl tv ?_))))
  obtain ⟨r27, e28, h0⟩ := bnd h0
  refine st (call1_ [] [] [1048575] false (H144 ([] : List Int) p15 r27 e28) ⟨tv, tv, tv⟩ (by kernel_rfl) (by kernel_rfl) (by kernel_rfl) (by kernel_rfl) (fun _ => and_ (and_ (fl1 (fun _ => rfl)) rfl) rfl) (sw ⟨[(0, .lst 1 (a0.map (eL 1 eI))), (24, .own 1536 0 1 (r27.map eI))], [], []⟩ (fgk (by kernel_rfl)) (mv_ rfl tv (oe_ (wk_ ⟨[(0, .lst 1 (a0.map (eL 1 eI))), (6, .own 1536 0 1 (r27.map eI))], [], []⟩ (fgk (by kernel_rfl)) (seq_ (seq_ (reg_ (st (mv_ rfl tv (st (c_ (clenL (e := (eL 1 eI)) (l0 := a0) rfl rfl tv) (st (mvc_ tv (oe_ (wk_ ⟨[(6, .own 1536 0 1 (r27.map eI)), (25, .lst 1 (a0.map (eL 1 eI))), (26, iV (a0.length : Int)), (27, iV 0)], [], []⟩ (fgk (by kernel_rfl)) (block_ ?_)))))))))))))))))
  obtain ⟨r46, e47, h0⟩ := bnd h0
  refine loop_ (R := (fun S => ∃ p41 : List Int, p41 = r46 ∧ S = ⟨[(6, .own 1536 0 1 (p41.map eI))], [], []⟩)) (g126_l1 a0) (fun s S => match s with | (p33, p34) => S = ⟨[(6, .own 1536 0 1 (p33.map eI)), (25, .lst 1 (a0.map (eL 1 eI))), (26, iV (a0.length : Int)), (27, iV p34)], [], []⟩) e47 ⟨[(6, .own 1536 0 1 (r27.map eI)), (25, .lst 1 (a0.map (eL 1 eI))), (26, iV (a0.length : Int)), (27, iV 0)], [], []⟩ (fgk (by kernel_rfl)) rfl 2 (fun _ => rfl) ?_ ?_
  ·rintro S _ hfg ⟨p41, rfl, rfl⟩
   refine wk_ ⟨[(6, .own 1536 0 1 (p41.map eI))], [], []⟩ (fglk hfg (by kernel_rfl)) (seq_ (reg_ (st (mv_ rfl tv (st (mv_ rfl tv (oe_ (wk_ ⟨[(2, .own 1536 0 1 (p41.map eI))], [], []⟩ (fgk (by kernel_rfl)) ?_))))))))
   obtain rfl := Option.some.inj h0
   exact rt_ (ret_ rfl rfl rfl rfl rfl tv)
  ·rintro ⟨p33, p34⟩ o1 _ K1 rfl h1 hx1 hK1 hE1 hR1
   refine seq_ (reg_ (st (c_ (cp_ t3 rfl tv) (oe_ (wk_ ⟨[(6, .own 1536 0 1 (p33.map eI)), (25, .lst 1 (a0.map (eL 1 eI))), (26, iV (a0.length : Int)), (27, iV p34), (28, .bool (decide (p34 < (a0.length : Int))))], [], []⟩ (fgk (by kernel_rfl)) (seq_ (ite_ (cb := (decide (p34 < (a0.length : Int)))) rfl (fun c42 => ?_) (fun c42 => ?_))))))))
   ·replace h1 := ip c42 h1
    refine sk_ (wk_ ⟨[(6, .own 1536 0 1 (p33.map eI)), (25, .lst 1 (a0.map (eL 1 eI))), (26, iV (a0.length : Int)), (27, iV p34)], [], []⟩ (fgk (by kernel_rfl)) (seq_ (block_ (seq_ (reg_ ?_)))))
    obtain ⟨y43, e44, h1⟩ := bnd h1
    refine st (c_ (cidxL (e := (eL 1 eI)) (y := y43) rfl rfl tv rfl rfl tv e44) (st (c_ (cp_ ⟨tv, tv⟩ rfl (nl rfl)) (st (mv_ rfl tv (oe_ (wk_ ⟨[(6, .own 1536 0 1 (p33.map eI)), (8, .lst 1 (y43.map eI)), (25, .lst 1 (a0.map (eL 1 eI))), (26, iV (a0.length : Int)), (27, iV p34)], [], []⟩ (fgk (by kernel_rfl)) (reg_ (st (mv_ rfl tv (st (mv_ rfl tv ?_))))))))))))
    obtain ⟨c45, h1⟩ := grd h1
    refine st (app_ (e := eI) (l0 := p33) (l1 := y43) rfl rfl tv rfl (by decide) c45 (st (mv_ rfl tv (oe_ (bn_ (wk_ ⟨[(6, .own 1536 0 1 ((p33 ++ y43).map eI)), (25, .lst 1 (a0.map (eL 1 eI))), (26, iV (a0.length : Int)), (27, iV p34)], [], []⟩ (fgk (by kernel_rfl)) (reg_ (st (c_ (cp_ t3 rfl tv) (st (mv_ rfl tv (oe_ ?_))))))))))))
    obtain rfl := Option.some.inj h1
    exact hK1 _ rfl _ ⟨[(6, .own 1536 0 1 ((p33 ++ y43).map eI)), (25, .lst 1 (a0.map (eL 1 eI))), (26, iV (a0.length : Int)), (27, iV (IntKind.i64.wrap (p34 + 1)))], [], []⟩ (fgk (by kernel_rfl)) rfl
   ·replace h1 := inb c42 h1
    obtain rfl := Option.some.inj h1
    obtain rfl := hx1 _ rfl
    refine exQ rfl ?_
    exact hE1 _ ⟨[(6, .own 1536 0 1 (p33.map eI))], [], []⟩ (fgk (by kernel_rfl)) ⟨_, rfl, rfl⟩
 ·rintro ⟨p6, p7⟩ o1 _ K1 rfl h1 hx1 hK1 hE1 hR1
  refine seq_ (reg_ (st (c_ (cp_ t3 rfl tv) (oe_ (wk_ ⟨[(0, .lst 1 (a0.map (eL 1 eI))), (3, iV p6), (9, .lst 1 (a0.map (eL 1 eI))), (10, iV (a0.length : Int)), (11, iV p7), (12, .bool (decide (p7 < (a0.length : Int))))], [], []⟩ (fgk (by kernel_rfl)) (seq_ (ite_ (cb := (decide (p7 < (a0.length : Int)))) rfl (fun c16 => ?_) (fun c16 => ?_))))))))
  ·replace h1 := ip c16 h1
   refine sk_ (wk_ ⟨[(0, .lst 1 (a0.map (eL 1 eI))), (3, iV p6), (9, .lst 1 (a0.map (eL 1 eI))), (10, iV (a0.length : Int)), (11, iV p7)], [], []⟩ (fgk (by kernel_rfl)) (seq_ (blockJ (fun S => ∃ p20 : Int, S = ⟨[(0, .lst 1 (a0.map (eL 1 eI))), (3, iV p20), (9, .lst 1 (a0.map (eL 1 eI))), (10, iV (a0.length : Int)), (11, iV p7)], [], []⟩ ∧ g126_j0 p7 p20 = some o1) ?_ (fun J21 => ?_))))
   ·rintro _ ⟨p20, rfl, h1⟩
    refine wk_ ⟨[(0, .lst 1 (a0.map (eL 1 eI))), (3, iV p20), (9, .lst 1 (a0.map (eL 1 eI))), (10, iV (a0.length : Int)), (11, iV p7)], [], []⟩ (fgk (by kernel_rfl)) (reg_ (st (c_ (cp_ t3 rfl tv) (st (mv_ rfl tv (oe_ ?_))))))
    obtain rfl := Option.some.inj h1
    exact hK1 _ rfl _ ⟨[(0, .lst 1 (a0.map (eL 1 eI))), (3, iV p20), (9, .lst 1 (a0.map (eL 1 eI))), (10, iV (a0.length : Int)), (11, iV (IntKind.i64.wrap (p7 + 1)))], [], []⟩ (fgk (by kernel_rfl)) rfl
   ·refine seq_ ?_
    refine reg_ ?_
    obtain ⟨y22, e23, h1⟩ := bnd h1
    refine st (c_ (cidxL (e := (eL 1 eI)) (y := y22) rfl rfl tv rfl rfl tv e23) (st (c_ (cp_ ⟨tv, tv⟩ rfl (nl rfl)) (st (mv_ rfl tv (oe_ (wk_ ⟨[(0, .lst 1 (a0.map (eL 1 eI))), (3, iV p6), (5, .lst 1 (y22.map eI)), (9, .lst 1 (a0.map (eL 1 eI))), (10, iV (a0.length : Int)), (11, iV p7)], [], []⟩ (fgk (by kernel_rfl)) (seq_ (reg_ (st (mv_ rfl tv (st (mv_ rfl tv (st (c_ (clenL (e := eI) (l0 := y22) rfl rfl tv) (st (c_ (cp_ t3 rfl tv) (st (mv_ rfl tv (oe_ (wk_ ⟨[(0, .lst 1 (a0.map (eL 1 eI))), (3, iV (IntKind.i64.wrap (p6 + (y22.length : Int)))), (9, .lst 1 (a0.map (eL 1 eI))), (10, iV (a0.length : Int)), (11, iV p7)], [], []⟩ (fgk (by kernel_rfl)) (seq_ (reg_ (st (mv_ rfl tv (st (c_ (cp_ t3 rfl tv) (oe_ (wk_ ⟨[(0, .lst 1 (a0.map (eL 1 eI))), (3, iV (IntKind.i64.wrap (p6 + (y22.length : Int)))), (9, .lst 1 (a0.map (eL 1 eI))), (10, iV (a0.length : Int)), (11, iV p7), (20, .bool (decide ((IntKind.i64.wrap (p6 + (y22.length : Int))) < 0)))], [], []⟩ (fgk (by kernel_rfl)) (ite_ (cb := (decide ((IntKind.i64.wrap (p6 + (y22.length : Int))) < 0))) rfl (fun c24 => ?_) (fun c24 => ?_)))))))))))))))))))))))))))))))
    ·replace h1 := ip c24 h1
     refine reg_ ?_
     cases h1
    ·replace h1 := inb c24 h1
     refine sk_ (bn_ ?_)
     exact J21 _ ⟨[(0, .lst 1 (a0.map (eL 1 eI))), (3, iV (IntKind.i64.wrap (p6 + (y22.length : Int)))), (9, .lst 1 (a0.map (eL 1 eI))), (10, iV (a0.length : Int)), (11, iV p7)], [], []⟩ (fgk (by kernel_rfl)) ⟨_, rfl, h1⟩
  ·replace h1 := inb c16 h1
   obtain rfl := Option.some.inj h1
   obtain rfl := hx1 _ rfl
   refine exQ rfl ?_
   exact hE1 _ ⟨[(0, .lst 1 (a0.map (eL 1 eI))), (3, iV p6)], [], []⟩ (fgk (by kernel_rfl)) ⟨_, rfl, rfl⟩

/- slices.IndexFunc[[]int,int] -/
def c127_r0 : List Ins := [⟨some 4, .p (.mv (.c (iV 0))), none⟩]
def c127_r1 : List Ins := [(iQ 6 (.mv (.t 0))),
(iQ 7 (.len (.t 6))),
⟨some 8, .p (.mv (.c (iV 0))), none⟩]
def c127_r2 : List Ins := [(iQ 9 (.bin .lss (.t 8) (.t 7)))]
def c127_r3 : List Ins := [(iQ 10 (.mv (.t 8))),
(iQ 5 (.mv (.t 10)))]
def c127_r4 : List Ins := [(iQ 11 (.mv (.t 1))),
(iQ 12 (.mv (.t 0))),
(iQ 13 (.mv (.t 5))),
(iQ 14 (.idxA (.t 12) (.t 13) 1)),
(iQ 15 (.load (.t 14) 1 false)),
⟨some 16, .callv (.t 11) [(.t 15)], none⟩]
def c127_r5 : List Ins := [(iQ 17 (.mv (.t 5))),
(iQ 4 (.mv (.t 17)))]
def c127_r6 : List Ins := [⟨some 18, .p (.bin .add (.t 8) (.c (iV 1))), none⟩,
(iQ 8 (.mv (.t 18)))]
def c127_l0 : IR := (.seq (.reg c127_r2) (.seq (.ite (.t 9) .skip (.exit 0)) (.seq (.block 1 (.seq (.reg c127_r3) (.seq (.reg c127_r4) (.ite (.t 16) (.seq (.reg c127_r5) .ret) .skip)))) (.reg c127_r6))))
def c127_r7 : List Ins := [⟨some 4, .p (.mv (.c (iV (-1)))), none⟩]
def c127 : XFn := { np := 2, nt := 19, res := [.t 4], body := (.seq (.reg c127_r0) (.seq (.seq (.reg c127_r1) (.block 0 (.loop c127_l0))) (.seq (.reg c127_r7) .ret))) }
def K127 (C : CRel) : Prop := ∀ (a0 : List Int) (f1 : Nat) (k1 : List V) (is1 : Int → Option Bool) (hs1 : Shut k1) (hf1 : ∀ (x0 : Int) r, is1 x0 = some r → C f1 ⟨iV x0 :: k1, []⟩ ⟨.bool r, [], []⟩) (r : Int), g127 a0 is1 = some r → C 127 ⟨[.lst 1 (a0.map eI), .clo f1 k1], []⟩ ⟨iV r, [], []⟩
theorem F127 {C : CRel}  (a0 : List Int) (f1 : Nat) (k1 : List V) (is1 : Int → Option Bool) (hs1 : Shut k1) (hf1 : ∀ (x0 : Int) r, is1 x0 = some r → C f1 ⟨iV x0 :: k1, []⟩ ⟨.bool r, [], []⟩) (r : Int) (h0 : g127 a0 is1 = some r) : FnOK C c127 ⟨[.lst 1 (a0.map eI), .clo f1 k1], []⟩ ⟨iV r, [], []⟩ := by
 refine fn_ (nl rfl) (seq_ (reg_ (st (mvc_ tv (oe_ (wk_ ⟨[(0, .lst 1 (a0.map eI)), (1, .clo f1 k1)], [], []⟩ (fg ⟨rfl, rfl, tv⟩ tv) (seq_ (seq_ (reg_ (st (mv_ rfl tv (st (c_ (clenL (e := eI) (l0 := a0) rfl rfl tv) (st (mvc_ tv (oe_ (wk_ ⟨[(0, .lst 1 (a0.map eI)), (1, .clo f1 k1), (7, iV (a0.length : Int)), (8, iV 0)], [], []⟩ (fg ⟨rfl, rfl, rfl, rfl, tv⟩ tv) (block_ ?_))))))))))))))))))
 obtain ⟨r21, e22, h0⟩ := bnd h0
 refine loop_ (R := (fun S => .inl () = r21 ∧ S = ⟨[], [], []⟩)) (g127_l0 a0 is1) (fun s S => match s with | p7 => S = ⟨[(0, .lst 1 (a0.map eI)), (1, .clo f1 k1), (7, iV (a0.length : Int)), (8, iV p7)], [], []⟩) e22 ⟨[(0, .lst 1 (a0.map eI)), (1, .clo f1 k1), (7, iV (a0.length : Int)), (8, iV 0)], [], []⟩ (fg ⟨rfl, rfl, rfl, rfl, tv⟩ tv) rfl 0 (fun _ => rfl) ?_ ?_
 ·rintro S _ hfg ⟨rfl, rfl⟩
  refine wk_ ⟨[], [], []⟩ (fglk hfg (by kernel_rfl)) (seq_ (reg_ (st (mvc_ tv (oe_ (wk_ ⟨[(4, iV (-1))], [], []⟩ (fgk (by kernel_rfl)) ?_))))))
  obtain rfl := Option.some.inj h0
  exact rt_ (ret_ rfl rfl rfl rfl rfl tv)
 ·rintro p7 o1 _ K1 rfl h1 hx1 hK1 hE1 hR1
  refine seq_ (reg_ (st (c_ (cp_ t3 rfl tv) (oe_ (wk_ ⟨[(0, .lst 1 (a0.map eI)), (1, .clo f1 k1), (7, iV (a0.length : Int)), (8, iV p7), (9, .bool (decide (p7 < (a0.length : Int))))], [], []⟩ (fg ⟨rfl, rfl, rfl, rfl, rfl, tv⟩ tv) (seq_ (ite_ (cb := (decide (p7 < (a0.length : Int)))) rfl (fun c15 => ?_) (fun c15 => ?_))))))))
  ·replace h1 := ip c15 h1
   refine sk_ (wk_ ⟨[(0, .lst 1 (a0.map eI)), (1, .clo f1 k1), (7, iV (a0.length : Int)), (8, iV p7)], [], []⟩ (fg ⟨rfl, rfl, rfl, rfl, tv⟩ tv) (seq_ (block_ (seq_ (reg_ (st (mv_ rfl tv (st (mv_ rfl tv (oe_ (wk_ ⟨[(0, .lst 1 (a0.map eI)), (1, .clo f1 k1), (5, iV p7), (7, iV (a0.length : Int)), (8, iV p7)], [], []⟩ (fg ⟨rfl, rfl, rfl, rfl, rfl, tv⟩ tv) (seq_ (reg_ (st (mv_ rfl tv (st (mv_ rfl tv (st (mv_ rfl tv ?_)))))))))))))))))))
   obtain ⟨y16, e17, h1⟩ := bnd h1
   refine st (c_ (cidxL (e := eI) (y := y16) rfl rfl tv rfl rfl tv e17) (st (c_ (cp_ ⟨tv, tv⟩ rfl (nl rfl)) ?_)))
   obtain ⟨r18, e19, h1⟩ := bnd h1
   refine st (callv0_ (r := .bool r18) rfl false (hf1 _ r18 e19) ⟨tv, tv⟩ (and_ rfl hs1.2.2.1) (mapc1 rfl (hs1.2.1 _ _ _ _ _)) (fun _ => rfl) (oe_ (wk_ ⟨[(0, .lst 1 (a0.map eI)), (1, .clo f1 k1), (5, iV p7), (7, iV (a0.length : Int)), (8, iV p7), (16, .bool r18)], [], []⟩ (fg ⟨rfl, rfl, rfl, rfl, rfl, rfl, tv⟩ tv) (ite_ (cb := r18) rfl (fun c20 => ?_) (fun c20 => ?_)))))
   ·replace h1 := ip c20 h1
    refine seq_ (reg_ (st (mv_ rfl tv (st (mv_ rfl tv (oe_ (wk_ ⟨[(4, iV p7)], [], []⟩ (fgk (by kernel_rfl)) ?_)))))))
    obtain rfl := Option.some.inj h1
    obtain rfl := hx1 _ rfl
    obtain rfl := Option.some.inj h0
    exact rt_ (hR1 _ (ret_ rfl rfl rfl rfl rfl tv))
   ·replace h1 := inb c20 h1
    refine sk_ (bn_ (wk_ ⟨[(0, .lst 1 (a0.map eI)), (1, .clo f1 k1), (7, iV (a0.length : Int)), (8, iV p7)], [], []⟩ (fg ⟨rfl, rfl, rfl, rfl, tv⟩ tv) (reg_ (st (c_ (cp_ t3 rfl tv) (st (mv_ rfl tv (oe_ ?_))))))))
    obtain rfl := Option.some.inj h1
    exact hK1 _ rfl _ ⟨[(0, .lst 1 (a0.map eI)), (1, .clo f1 k1), (7, iV (a0.length : Int)), (8, iV (IntKind.i64.wrap (p7 + 1)))], [], []⟩ (fg ⟨rfl, rfl, rfl, rfl, tv⟩ tv) rfl
  ·replace h1 := inb c15 h1
   obtain rfl := Option.some.inj h1
   obtain rfl := hx1 _ rfl
   refine exQ rfl ?_
   exact hE1 _ ⟨[], [], []⟩ (fgk (by kernel_rfl)) ⟨rfl, rfl⟩

/- (loop.example/g00149/impl.Vault).stray$1 -/
def c128_r0 : List Ins := [⟨some 3, .p (.mv (.c (.bool false))), none⟩]
def c128_r1 : List Ins := [(iQ 4 (.load (.t 1) 1 false)),
(iQ 5 (.mv (.t 0))),
(iQ 6 (.mget (.t 4) (.t 5))),
(iQ 7 (.un .not (.t 6))),
(iQ 3 (.mv (.t 7)))]
def c128 : XFn := { np := 2, nt := 8, res := [.t 3], body := (.seq (.reg c128_r0) (.seq (.reg c128_r1) .ret)) }
def K128 (C : CRel) : Prop := ∀ (a0 : Int) (a1 : List (Int × Bool)) (r : Bool), g128 a0 a1 = some r → C 128 ⟨[iV a0, .iptr [.lst 0 (kvV a1)]], []⟩ ⟨.bool r, [], []⟩
theorem F128 {C : CRel}  (a0 : Int) (a1 : List (Int × Bool)) (r : Bool) (h0 : g128 a0 a1 = some r) : FnOK C c128 ⟨[iV a0, .iptr [.lst 0 (kvV a1)]], []⟩ ⟨.bool r, [], []⟩ := by
 refine fn_ (nl rfl) (seq_ (reg_ (st (mvc_ tv (oe_ (wk_ ⟨[(0, iV a0), (1, .iptr [.lst 0 (kvV a1)])], [], []⟩ (fgk (by kernel_rfl)) (seq_ (reg_ (st (c_ (cp_ ⟨tv, tv⟩ rfl (nl rfl)) (st (mv_ rfl tv (st (c_ (cmgetL rfl rfl) (st (c_ (cp_ ⟨tv, tv⟩ rfl tv) (st (mv_ rfl tv (oe_ (wk_ ⟨[(3, .bool (!(kvGet a1 a0)))], [], []⟩ (fgk (by kernel_rfl)) ?_))))))))))))))))))))
 obtain rfl := Option.some.inj h0
 exact rt_ (ret_ rfl rfl rfl rfl rfl tv)

/- (loop.example/g00149/impl.Vault).stray -/
def c96_r0 : List Ins := [⟨some 1, .box (.t 0), none⟩,
⟨some 2, .p (.mv (.c (iV 0))), none⟩,
⟨some 3, .p (.mv (.c (.bool false))), none⟩]
def c96_r1 : List Ins := [⟨some 8, .mkM, none⟩,
⟨some 4, .alloc [.undef], none⟩,
⟨none, .store (.t 4) (.t 8) 1, none⟩]
def c96_r2 : DP := (.take (iQ 9 (.fieldA (.t 1) 0))
(.take (iQ 10 (.load (.t 9) 3 true))
(.take (iQ 12 (.fieldA (.t 1) 3))
(.take (iQ 13 (.load (.t 12) 1 false))
(.take ⟨some 18, .p (.mv (.c (iV 0))), none⟩
(.alt [⟨some 18, .p (.mv (.c (iV 0))), none⟩, (iQ 13 (.load (.t 12) 1 false)), (iQ 12 (.fieldA (.t 1) 3))] ⟨some 11, .call 60 [(.t 10)], none⟩
(.alt [⟨some 18, .p (.mv (.c (iV 0))), none⟩] ⟨some 14, .call 95 [(.t 13)], none⟩
(.alt [⟨some 18, .p (.mv (.c (iV 0))), none⟩] ⟨some 15, .mkS 1 [(.lst 1 [])] 2 [(0, (.t 11)), (1, (.t 14))], none⟩
(.alt [⟨some 18, .p (.mv (.c (iV 0))), none⟩] ⟨some 16, .call 126 [(.t 15)], none⟩
(.take (iQ 17 (.len (.t 16)))
.fin)
.stop)
.stop)
.stop)
.stop))))))
def c96_r3 : List Ins := [(iQ 19 (.bin .lss (.t 18) (.t 17)))]
def c96_r4 : List Ins := [(iQ 20 (.idxA (.t 16) (.t 18) 1)),
(iQ 21 (.load (.t 20) 1 false)),
(iQ 6 (.mv (.t 21)))]
def c96_r5 : List Ins := [(iQ 22 (.load (.t 4) 1 false)),
(iQ 23 (.mv (.t 6))),
⟨none, .mset (.t 22) (.t 23) (.c (.bool true)), none⟩]
def c96_r6 : List Ins := [⟨some 24, .p (.bin .add (.t 18) (.c (iV 1))), none⟩,
(iQ 18 (.mv (.t 24)))]
def c96_l0 : IR := (.seq (.reg c96_r3) (.seq (.ite (.t 19) .skip (.exit 0)) (.seq (.block 1 (.seq (.reg c96_r4) (.reg c96_r5))) (.reg c96_r6))))
def c96_r7 : List Ins := [(iQ 25 (.fieldA (.t 1) 4)),
(iQ 26 (.load (.t 25) 1 false)),
(iQ 27 (.fn 128 [(.t 4)])),
⟨some 28, .call 127 [(.t 26), (.t 27)], none⟩,
(iQ 7 (.mv (.t 28)))]
def c96_r8 : List Ins := [(iQ 29 (.mv (.t 7))),
⟨some 30, .p (.bin .lss (.t 29) (.c (iV 0))), none⟩]
def c96_r9 : List Ins := [⟨some 2, .p (.mv (.c (iV 0))), none⟩,
⟨some 3, .p (.mv (.c (.bool false))), none⟩]
def c96_r10 : List Ins := [(iQ 31 (.fieldA (.t 1) 4)),
(iQ 32 (.load (.t 31) 1 false)),
(iQ 33 (.mv (.t 7))),
(iQ 34 (.idxA (.t 32) (.t 33) 1)),
(iQ 35 (.load (.t 34) 1 false)),
(iQ 2 (.mv (.t 35))),
⟨some 3, .p (.mv (.c (.bool true))), none⟩]
def c96 : XFn := { np := 1, nt := 36, res := [.t 2, .t 3], body := (.seq (.reg c96_r0) (.seq (.reg c96_r1) (.seq (.seq (.draw c96_r2) (.block 0 (.loop c96_l0))) (.seq (.reg c96_r7) (.seq (.seq (.reg c96_r8) (.ite (.t 30) (.seq (.reg c96_r9) .ret) .skip)) (.seq (.reg c96_r10) .ret)))))) }
def K96 (C : CRel) : Prop := ∀ (a0 : DVault) (r : Int × Bool), g96 a0 = some r → C 96 ⟨[.agg (eDVault a0)], []⟩ ⟨.tup [iV r.1, .bool r.2], [], []⟩
theorem F96 {C : CRel} (H60 : K60 C) (H95 : K95 C) (H126 : K126 C) (H127 : K127 C) (H128 : K128 C) (a0 : DVault) (r : Int × Bool) (h0 : g96 a0 = some r) : FnOK C c96 ⟨[.agg (eDVault a0)], []⟩ ⟨.tup [iV r.1, .bool r.2], [], []⟩ := by
 refine fn_ (nl rfl) (seq_ (reg_ (st (box_ rfl tv rfl (st (mvc_ tv (st (mvc_ tv (oe_ (wk_ ⟨[(1, .ptr 64 0)], [(64, [iV a0.table.clock, iV a0.table.next, .lst 4 (a0.table.list_.map eDLease), .lst 2 (a0.intents.map eDIntent), .lst 1 (a0.accounts.map eI), .bool a0.sealed])], []⟩ (fgk (by kernel_rfl)) (seq_ (reg_ (st (mkM_ (st (alloc_ (st (stp_ rfl rfl tv rfl rfl rfl (nl rfl) (oe_ (wk_ ⟨[(1, .ptr 64 0), (4, .ptr 256 0)], [(64, [iV a0.table.clock, iV a0.table.next, .lst 4 (a0.table.list_.map eDLease), .lst 2 (a0.intents.map eDIntent), .lst 1 (a0.accounts.map eI), .bool a0.sealed]), (256, [.own 512 0 0 (kvV ([] : List (Int × Bool)))])], []⟩ (fgk (by kernel_rfl)) (seq_ (seq_ ?_))))))))))))))))))))))
 obtain ⟨r1, e2, h0⟩ := bnd h0
 obtain ⟨r3, e4, h0⟩ := bnd h0
 obtain ⟨r5, e6, h0⟩ := bnd h0
 refine draw_ (dtake tv (c_ (cp_ ⟨tv, tv⟩ rfl tv) (⟨tv, (dtake tv (c_ (v := .agg [iV a0.table.clock, iV a0.table.next, .lst 4 (a0.table.list_.map eDLease)]) (cp_ ⟨tv, tv⟩ rfl (nl rfl)) (⟨tv, (dtake tv (c_ (cp_ ⟨tv, tv⟩ rfl tv) (⟨tv, (dtake tv (c_ (cp_ ⟨tv, tv⟩ rfl (nl rfl)) (⟨tv, (dtake tv (mvc_ tv (⟨tv, (dalt (call0_ (r := .own 0 0 1 (r1.map eI)) false (H60 a0.table r1 e2) ⟨tv, tv⟩ rfl rfl (fun _ => (and_ (fl1 (fun _ => rfl)) rfl)) (dkw ⟨[(1, .ptr 64 0), (4, .ptr 256 0), (11, .own 704 0 1 (r1.map eI)), (12, .ptr 64 3), (13, .lst 2 (a0.intents.map eDIntent)), (18, iV 0)], [(64, [iV a0.table.clock, iV a0.table.next, .lst 4 (a0.table.list_.map eDLease), .lst 2 (a0.intents.map eDIntent), .lst 1 (a0.accounts.map eI), .bool a0.sealed]), (256, [.own 512 0 0 (kvV ([] : List (Int × Bool)))])], []⟩ (fgk (by kernel_rfl)) ⟨[], ⟨⟨.inl tv, (again1 (cp_ ⟨tv, tv⟩ rfl tv) rfl)⟩, ⟨.inl tv, (again1 (cp_ ⟨tv, tv⟩ rfl (nl rfl)) rfl)⟩, ⟨.inl tv, (again1 (cp_ ⟨tv, tv⟩ rfl tv) rfl)⟩, tv⟩, tv, (dalt (call0_ (r := .own 0 0 1 (r3.map eI)) false (H95 a0.intents r3 e4) ⟨tv, tv⟩ rfl rfl (fun _ => (and_ (fl1 (fun _ => rfl)) rfl)) (dkw ⟨[(1, .ptr 64 0), (4, .ptr 256 0), (11, .own 704 0 1 (r1.map eI)), (14, .own 896 0 1 (r3.map eI)), (18, iV 0)], [(64, [iV a0.table.clock, iV a0.table.next, .lst 4 (a0.table.list_.map eDLease), .lst 2 (a0.intents.map eDIntent), .lst 1 (a0.accounts.map eI), .bool a0.sealed]), (256, [.own 512 0 0 (kvV ([] : List (Int × Bool)))])], []⟩ (fgk (by kernel_rfl)) ⟨[], ⟨⟨.inl tv, (again1 (cp_ ⟨tv, tv⟩ rfl tv) rfl)⟩, tv⟩, tv, (dalt (mkS_ ⟨tv, tv, tv⟩ ⟨⟨nl rfl, rfl, rfl⟩, ⟨nl rfl, rfl, rfl⟩, tv⟩ (dk0 ⟨[], ⟨⟨.inl tv, (again1 (cp_ ⟨tv, tv⟩ rfl tv) rfl)⟩, tv⟩, tv, (dalt (call0_ (r := .own 0 0 1 (r5.map eI)) false (H126 ([r1, r3] : List (List Int)) r5 e6) ⟨tv, tv⟩ rfl rfl (fun _ => (and_ (fl1 (fun _ => rfl)) rfl)) (dkw ⟨[(1, .ptr 64 0), (4, .ptr 256 0), (16, .own 1024 0 1 (r5.map eI)), (18, iV 0)], [(64, [iV a0.table.clock, iV a0.table.next, .lst 4 (a0.table.list_.map eDLease), .lst 2 (a0.intents.map eDIntent), .lst 1 (a0.accounts.map eI), .bool a0.sealed]), (256, [.own 512 0 0 (kvV ([] : List (Int × Bool)))])], []⟩ (fgk (by kernel_rfl)) ⟨[], ⟨⟨.inl tv, (again1 (cp_ ⟨tv, tv⟩ rfl tv) rfl)⟩, tv⟩, tv, (dtake tv (c_ (clenO (e := eI) (l0 := r5) rfl rfl tv) (⟨tv, (dfin (wk_ ⟨[(1, .ptr 64 0), (4, .ptr 256 0), (16, .own 1024 0 1 (r5.map eI)), (17, iV (r5.length : Int)), (18, iV 0)], [(64, [iV a0.table.clock, iV a0.table.next, .lst 4 (a0.table.list_.map eDLease), .lst 2 (a0.intents.map eDIntent), .lst 1 (a0.accounts.map eI), .bool a0.sealed]), (256, [.own 512 0 0 (kvV ([] : List (Int × Bool)))])], []⟩ (fgk (by kernel_rfl)) (block_ ?_)))⟩)))⟩)) dstop)⟩)) dstop)⟩)) dstop)⟩)) dstop)⟩)))⟩)))⟩)))⟩)))⟩)))
 obtain ⟨r27, e28, h0⟩ := bnd h0
 refine loop_ (R := (fun S => ∃ p21 : List (Int × Bool), p21 = r27 ∧ S = ⟨[(1, .ptr 64 0), (4, .ptr 256 0)], [(64, [iV a0.table.clock, iV a0.table.next, .lst 4 (a0.table.list_.map eDLease), .lst 2 (a0.intents.map eDIntent), .lst 1 (a0.accounts.map eI), .bool a0.sealed]), (256, [.own 512 0 0 (kvV p21)])], []⟩)) (g96_l0 r5) (fun s S => match s with | (p12, p13) => S = ⟨[(1, .ptr 64 0), (4, .ptr 256 0), (16, .own 1024 0 1 (r5.map eI)), (17, iV (r5.length : Int)), (18, iV p12)], [(64, [iV a0.table.clock, iV a0.table.next, .lst 4 (a0.table.list_.map eDLease), .lst 2 (a0.intents.map eDIntent), .lst 1 (a0.accounts.map eI), .bool a0.sealed]), (256, [.own 512 0 0 (kvV p13)])], []⟩) e28 ⟨[(1, .ptr 64 0), (4, .ptr 256 0), (16, .own 1024 0 1 (r5.map eI)), (17, iV (r5.length : Int)), (18, iV 0)], [(64, [iV a0.table.clock, iV a0.table.next, .lst 4 (a0.table.list_.map eDLease), .lst 2 (a0.intents.map eDIntent), .lst 1 (a0.accounts.map eI), .bool a0.sealed]), (256, [.own 512 0 0 (kvV ([] : List (Int × Bool)))])], []⟩ (fgk (by kernel_rfl)) rfl 0 (fun _ => rfl) ?_ ?_
 ·rintro S _ hfg ⟨p21, rfl, rfl⟩
  refine wk_ ⟨[(1, .ptr 64 0), (4, .ptr 256 0)], [(64, [iV a0.table.clock, iV a0.table.next, .lst 4 (a0.table.list_.map eDLease), .lst 2 (a0.intents.map eDIntent), .lst 1 (a0.accounts.map eI), .bool a0.sealed]), (256, [.own 512 0 0 (kvV p21)])], []⟩ (fglk hfg (by kernel_rfl)) (seq_ (reg_ (st (c_ (cp_ ⟨tv, tv⟩ rfl tv) (st (c_ (cp_ ⟨tv, tv⟩ rfl (nl rfl)) (st (c_ (cp_ ⟨tv, tv⟩ rfl rfl) ?_))))))))
  obtain ⟨r29, e30, h0⟩ := bnd h0
  refine st (call0_ (r := iV r29) false (H127 a0.accounts 128 [.iptr [.lst 0 (kvV p21)]] (fun z128_0 => g128 z128_0 p21) (⟨fun _ _ _ _ _ => rfl, fun _ _ _ _ _ => rfl, rfl, fun _ _ _ n => by cases n <;> rfl, fun _ => rfl⟩) (fun z128_0 r h => H128 z128_0 p21 r h) r29 e30) ⟨tv, tv, tv⟩ rfl rfl (fun _ => rfl) (st (mv_ rfl tv (oe_ (wk_ ⟨[(1, .ptr 64 0), (7, iV r29)], [(64, [iV a0.table.clock, iV a0.table.next, .lst 4 (a0.table.list_.map eDLease), .lst 2 (a0.intents.map eDIntent), .lst 1 (a0.accounts.map eI), .bool a0.sealed])], []⟩ (fgk (by kernel_rfl)) (seq_ (seq_ (reg_ (st (mv_ rfl tv (st (c_ (cp_ t3 rfl tv) (oe_ (wk_ ⟨[(1, .ptr 64 0), (7, iV r29), (30, .bool (decide (r29 < 0)))], [(64, [iV a0.table.clock, iV a0.table.next, .lst 4 (a0.table.list_.map eDLease), .lst 2 (a0.intents.map eDIntent), .lst 1 (a0.accounts.map eI), .bool a0.sealed])], []⟩ (fgk (by kernel_rfl)) (ite_ (cb := (decide (r29 < 0))) rfl (fun c31 => ?_) (fun c31 => ?_))))))))))))))))
  ·replace h0 := ip c31 h0
   refine seq_ (reg_ (st (mvc_ tv (st (mvc_ tv (oe_ (wk_ ⟨[(2, iV 0), (3, .bool false)], [], []⟩ (fgk (by kernel_rfl)) ?_)))))))
   obtain rfl := Option.some.inj h0
   exact rt_ (ret_ rfl rfl rfl rfl rfl tv)
  ·replace h0 := inb c31 h0
   refine sk_ (wk_ ⟨[(1, .ptr 64 0), (7, iV r29)], [(64, [iV a0.table.clock, iV a0.table.next, .lst 4 (a0.table.list_.map eDLease), .lst 2 (a0.intents.map eDIntent), .lst 1 (a0.accounts.map eI), .bool a0.sealed])], []⟩ (fgk (by kernel_rfl)) (seq_ (reg_ (st (c_ (cp_ ⟨tv, tv⟩ rfl tv) (st (c_ (cp_ ⟨tv, tv⟩ rfl (nl rfl)) (st (mv_ rfl tv ?_)))))))))
   obtain ⟨y32, e33, h0⟩ := bnd h0
   refine st (c_ (cidxL (e := eI) (y := y32) rfl rfl tv rfl rfl tv e33) (st (c_ (cp_ ⟨tv, tv⟩ rfl (nl rfl)) (st (mv_ rfl tv (st (mvc_ tv (oe_ (wk_ ⟨[(2, iV y32), (3, .bool true)], [], []⟩ (fgk (by kernel_rfl)) ?_)))))))))
   obtain rfl := Option.some.inj h0
   exact rt_ (ret_ rfl rfl rfl rfl rfl tv)
 ·rintro ⟨p12, p13⟩ o1 _ K1 rfl h1 hx1 hK1 hE1 hR1
  refine seq_ (reg_ (st (c_ (cp_ t3 rfl tv) (oe_ (wk_ ⟨[(1, .ptr 64 0), (4, .ptr 256 0), (16, .own 1024 0 1 (r5.map eI)), (17, iV (r5.length : Int)), (18, iV p12), (19, .bool (decide (p12 < (r5.length : Int))))], [(64, [iV a0.table.clock, iV a0.table.next, .lst 4 (a0.table.list_.map eDLease), .lst 2 (a0.intents.map eDIntent), .lst 1 (a0.accounts.map eI), .bool a0.sealed]), (256, [.own 512 0 0 (kvV p13)])], []⟩ (fgk (by kernel_rfl)) (seq_ (ite_ (cb := (decide (p12 < (r5.length : Int)))) rfl (fun c22 => ?_) (fun c22 => ?_))))))))
  ·replace h1 := ip c22 h1
   refine sk_ (wk_ ⟨[(1, .ptr 64 0), (4, .ptr 256 0), (16, .own 1024 0 1 (r5.map eI)), (17, iV (r5.length : Int)), (18, iV p12)], [(64, [iV a0.table.clock, iV a0.table.next, .lst 4 (a0.table.list_.map eDLease), .lst 2 (a0.intents.map eDIntent), .lst 1 (a0.accounts.map eI), .bool a0.sealed]), (256, [.own 512 0 0 (kvV p13)])], []⟩ (fgk (by kernel_rfl)) (seq_ (block_ (seq_ (reg_ ?_)))))
   obtain ⟨y23, e24, h1⟩ := bnd h1
   refine st (c_ (cidxO (e := eI) (y := y23) rfl rfl tv rfl rfl tv e24) ?_)
   obtain ⟨y25, e26, h1⟩ := bnd h1
   refine st (c_ (cloadO (e := eI) (y := y25) (v := iV y25) rfl rfl tv rfl rfl e26 rfl (nl rfl) rfl) (st (mv_ rfl tv (oe_ (wk_ ⟨[(1, .ptr 64 0), (4, .ptr 256 0), (6, iV y25), (16, .own 1024 0 1 (r5.map eI)), (17, iV (r5.length : Int)), (18, iV p12)], [(64, [iV a0.table.clock, iV a0.table.next, .lst 4 (a0.table.list_.map eDLease), .lst 2 (a0.intents.map eDIntent), .lst 1 (a0.accounts.map eI), .bool a0.sealed]), (256, [.own 512 0 0 (kvV p13)])], []⟩ (fgk (by kernel_rfl)) (reg_ (st (c_ (cp_ ⟨tv, tv⟩ rfl (nl rfl)) (st (mv_ rfl tv (st (mset_ rfl rfl rfl (oe_ (bn_ (wk_ ⟨[(1, .ptr 64 0), (4, .ptr 256 0), (16, .own 1024 0 1 (r5.map eI)), (17, iV (r5.length : Int)), (18, iV p12)], [(64, [iV a0.table.clock, iV a0.table.next, .lst 4 (a0.table.list_.map eDLease), .lst 2 (a0.intents.map eDIntent), .lst 1 (a0.accounts.map eI), .bool a0.sealed]), (256, [.own 512 0 0 (kvV (kvPut p13 y25 true))])], []⟩ (fg ⟨rfl, rfl, rfl, rfl, rfl, tv⟩ ⟨rfl, (congrArg (fun z => some (([.own 512 0 0 z] : List V))) mputH_kv), tv⟩) (reg_ (st (c_ (cp_ t3 rfl tv) (st (mv_ rfl tv (oe_ ?_)))))))))))))))))))))
   obtain rfl := Option.some.inj h1
   exact hK1 _ rfl _ ⟨[(1, .ptr 64 0), (4, .ptr 256 0), (16, .own 1024 0 1 (r5.map eI)), (17, iV (r5.length : Int)), (18, iV (IntKind.i64.wrap (p12 + 1)))], [(64, [iV a0.table.clock, iV a0.table.next, .lst 4 (a0.table.list_.map eDLease), .lst 2 (a0.intents.map eDIntent), .lst 1 (a0.accounts.map eI), .bool a0.sealed]), (256, [.own 512 0 0 (kvV (kvPut p13 y25 true))])], []⟩ (fgk (by kernel_rfl)) rfl
  ·replace h1 := inb c22 h1
   obtain rfl := Option.some.inj h1
   obtain rfl := hx1 _ rfl
   refine exQ rfl ?_
   exact hE1 _ ⟨[(1, .ptr 64 0), (4, .ptr 256 0)], [(64, [iV a0.table.clock, iV a0.table.next, .lst 4 (a0.table.list_.map eDLease), .lst 2 (a0.intents.map eDIntent), .lst 1 (a0.accounts.map eI), .bool a0.sealed]), (256, [.own 512 0 0 (kvV p13)])], []⟩ (fgk (by kernel_rfl)) ⟨_, rfl, rfl⟩

/- slices.ContainsFunc[[]int,int] -/
def c129_r0 : List Ins := [⟨some 4, .p (.mv (.c (.bool false))), none⟩]
def c129_r1 : List Ins := [(iQ 5 (.mv (.t 0))),
(iQ 6 (.mv (.t 1))),
⟨some 7, .call 127 [(.t 5), (.t 6)], none⟩,
⟨some 8, .p (.bin .geq (.t 7) (.c (iV 0))), none⟩,
(iQ 4 (.mv (.t 8)))]
def c129 : XFn := { np := 2, nt := 9, res := [.t 4], body := (.seq (.reg c129_r0) (.seq (.reg c129_r1) .ret)) }
def K129 (C : CRel) : Prop := ∀ (a0 : List Int) (f1 : Nat) (k1 : List V) (is1 : Int → Option Bool) (hs1 : Shut k1) (hf1 : ∀ (x0 : Int) r, is1 x0 = some r → C f1 ⟨iV x0 :: k1, []⟩ ⟨.bool r, [], []⟩) (r : Bool), g129 a0 is1 = some r → C 129 ⟨[.lst 1 (a0.map eI), .clo f1 k1], []⟩ ⟨.bool r, [], []⟩
theorem F129 {C : CRel} (H127 : K127 C) (a0 : List Int) (f1 : Nat) (k1 : List V) (is1 : Int → Option Bool) (hs1 : Shut k1) (hf1 : ∀ (x0 : Int) r, is1 x0 = some r → C f1 ⟨iV x0 :: k1, []⟩ ⟨.bool r, [], []⟩) (r : Bool) (h0 : g129 a0 is1 = some r) : FnOK C c129 ⟨[.lst 1 (a0.map eI), .clo f1 k1], []⟩ ⟨.bool r, [], []⟩ := by
 refine fn_ (nl rfl) (seq_ (reg_ (st (mvc_ tv (oe_ (wk_ ⟨[(0, .lst 1 (a0.map eI)), (1, .clo f1 k1)], [], []⟩ (fg ⟨rfl, rfl, tv⟩ tv) (seq_ (reg_ (st (mv_ rfl tv (st (mv_ rfl tv ?_))))))))))))
 obtain ⟨r1, e2, h0⟩ := bnd h0
 refine st (call0_ (r := iV r1) false (H127 a0 f1 k1 is1 hs1 hf1 r1 e2) ⟨tv, tv, tv⟩ rfl (mapc1 rfl (mapc1 (clo_sh hs1) rfl)) (fun _ => rfl) (st (c_ (cp_ t3 rfl tv) (st (mv_ rfl tv (oe_ (wk_ ⟨[(4, .bool (decide (r1 ≥ 0)))], [], []⟩ (fgk (by kernel_rfl)) ?_)))))))
 obtain rfl := Option.some.inj h0
 exact rt_ (ret_ rfl rfl rfl rfl rfl tv)

/- loop.example/g00149/impl.areAll[int]$1 -/
def c130_r0 : List Ins := [⟨some 3, .p (.mv (.c (.bool false))), none⟩]
def c130_r1 : List Ins := [(iQ 4 (.load (.t 1) 1 false)),
(iQ 5 (.mv (.t 0))),
⟨some 6, .callv (.t 4) [(.t 5)], none⟩,
(iQ 7 (.un .not (.t 6))),
(iQ 3 (.mv (.t 7)))]
def c130 : XFn := { np := 2, nt := 8, res := [.t 3], body := (.seq (.reg c130_r0) (.seq (.reg c130_r1) .ret)) }
def K130 (C : CRel) : Prop := ∀ (a0 : Int) (f1 : Nat) (k1 : List V) (is1 : Int → Option Bool) (hs1 : Shut k1) (hf1 : ∀ (x0 : Int) r, is1 x0 = some r → C f1 ⟨iV x0 :: k1, []⟩ ⟨.bool r, [], []⟩) (r : Bool), g130 a0 is1 = some r → C 130 ⟨[iV a0, .iptr [.clo f1 k1]], []⟩ ⟨.bool r, [], []⟩
theorem F130 {C : CRel}  (a0 : Int) (f1 : Nat) (k1 : List V) (is1 : Int → Option Bool) (hs1 : Shut k1) (hf1 : ∀ (x0 : Int) r, is1 x0 = some r → C f1 ⟨iV x0 :: k1, []⟩ ⟨.bool r, [], []⟩) (r : Bool) (h0 : g130 a0 is1 = some r) : FnOK C c130 ⟨[iV a0, .iptr [.clo f1 k1]], []⟩ ⟨.bool r, [], []⟩ := by
 refine fn_ (nl rfl) (seq_ (reg_ (st (mvc_ tv (oe_ (wk_ ⟨[(0, iV a0), (1, .iptr [.clo f1 k1])], [], []⟩ (fg ⟨rfl, rfl, tv⟩ tv) (seq_ (reg_ (st (c_ (cp_ ⟨tv, tv⟩ rfl (nl rfl)) (st (mv_ rfl tv ?_))))))))))))
 obtain ⟨r1, e2, h0⟩ := bnd h0
 refine st (callv0_ (r := .bool r1) rfl false (hf1 _ r1 e2) ⟨tv, tv⟩ (and_ rfl hs1.2.2.1) (mapc1 rfl (hs1.2.1 _ _ _ _ _)) (fun _ => rfl) (st (c_ (cp_ ⟨tv, tv⟩ rfl tv) (st (mv_ rfl tv (oe_ (wk_ ⟨[(3, .bool (!r1))], [], []⟩ (fgk (by kernel_rfl)) ?_)))))))
 obtain rfl := Option.some.inj h0
 exact rt_ (ret_ rfl rfl rfl rfl rfl tv)

/- loop.example/g00149/impl.areAll[int] -/
def c97_r0 : List Ins := [⟨some 3, .box (.t 1), none⟩,
⟨some 4, .p (.mv (.c (.bool false))), none⟩]
def c97_r1 : List Ins := [(iQ 5 (.mv (.t 0))),
(iQ 6 (.fn 130 [(.t 3)])),
⟨some 7, .call 129 [(.t 5), (.t 6)], none⟩,
(iQ 8 (.un .not (.t 7))),
(iQ 4 (.mv (.t 8)))]
def c97 : XFn := { np := 2, nt := 9, res := [.t 4], body := (.seq (.reg c97_r0) (.seq (.reg c97_r1) .ret)) }
def K97 (C : CRel) : Prop := ∀ (a0 : List Int) (f1 : Nat) (k1 : List V) (is1 : Int → Option Bool) (hs1 : Shut k1) (hf1 : ∀ (x0 : Int) r, is1 x0 = some r → C f1 ⟨iV x0 :: k1, []⟩ ⟨.bool r, [], []⟩) (r : Bool), g97 a0 is1 = some r → C 97 ⟨[.lst 1 (a0.map eI), .clo f1 k1], []⟩ ⟨.bool r, [], []⟩
theorem F97 {C : CRel} (H129 : K129 C) (H130 : K130 C) (a0 : List Int) (f1 : Nat) (k1 : List V) (is1 : Int → Option Bool) (hs1 : Shut k1) (hf1 : ∀ (x0 : Int) r, is1 x0 = some r → C f1 ⟨iV x0 :: k1, []⟩ ⟨.bool r, [], []⟩) (r : Bool) (h0 : g97 a0 is1 = some r) : FnOK C c97 ⟨[.lst 1 (a0.map eI), .clo f1 k1], []⟩ ⟨.bool r, [], []⟩ := by
 refine fn_ (nl rfl) (seq_ (reg_ (st (box_ (dr_sh hs1) tv rfl (sw ⟨[(0, .lst 1 (a0.map eI)), (3, .ptr 192 0)], [(192, [.clo f1 k1])], []⟩ (fg ⟨rfl, rfl, tv⟩ ⟨rfl, tv⟩) (mvc_ tv (oe_ (wk_ ⟨[(0, .lst 1 (a0.map eI)), (3, .ptr 192 0)], [(192, [.clo f1 k1])], []⟩ (fg ⟨rfl, rfl, tv⟩ ⟨rfl, tv⟩) (seq_ (reg_ (st (mv_ rfl tv (st (c_ (cp_ ⟨tv, tv⟩ rfl rfl) ?_))))))))))))))
 obtain ⟨r1, e2, h0⟩ := bnd h0
 refine st (call0_ (r := .bool r1) false (H129 a0 130 [.iptr [.clo f1 k1]] (fun z130_0 => g130 z130_0 is1) (⟨fun _ _ _ _ _ => rfl, fun _ _ _ _ _ => rfl, rfl, fun _ _ _ n => by cases n <;> rfl, fun _ => rfl⟩) (fun z130_0 r h => H130 z130_0 f1 k1 is1 hs1 hf1 r h) r1 e2) ⟨tv, tv, tv⟩ rfl (mapc1 rfl (mapc1 (congrArg (fun z => V.clo 130 [.iptr [.clo f1 z]]) (hs1.2.2.2.1 _ _ _ _)) rfl)) (fun _ => rfl) (st (c_ (cp_ ⟨tv, tv⟩ rfl tv) (st (mv_ rfl tv (oe_ (wk_ ⟨[(4, .bool (!r1))], [], []⟩ (fgk (by kernel_rfl)) ?_)))))))
 obtain rfl := Option.some.inj h0
 exact rt_ (ret_ rfl rfl rfl rfl rfl tv)

/- slices.BinarySearchFunc[[]loop.example/g00149/impl.Lease,loop.example/g00149/impl.Lease,int] -/
def c113_r0 : List Ins := [⟨some 6, .p (.mv (.c (iV 0))), none⟩,
⟨some 7, .p (.mv (.c (.bool false))), none⟩]
def c113_r1 : List Ins := [(iQ 12 (.mv (.t 0))),
(iQ 13 (.len (.t 12))),
(iQ 8 (.mv (.t 13)))]
def c113_r2 : List Ins := [(iQ 14 (.mv (.t 8))),
⟨some 9, .p (.mv (.c (iV 0))), none⟩,
(iQ 10 (.mv (.t 14)))]
def c113_r3 : List Ins := [(iQ 15 (.mv (.t 9))),
(iQ 16 (.mv (.t 10))),
(iQ 17 (.bin .lss (.t 15) (.t 16)))]
def c113_r4 : List Ins := [(iQ 18 (.mv (.t 9))),
(iQ 19 (.mv (.t 10))),
(iQ 20 (.bin .add (.t 18) (.t 19))),
(iQ 21 (.conv .u64 (.t 20))),
⟨some 22, .p (.bin .shr (.t 21) (.c (.int .u64 1))), none⟩,
(iQ 23 (.conv .i64 (.t 22))),
(iQ 11 (.mv (.t 23)))]
def c113_r5 : List Ins := [(iQ 24 (.mv (.t 2))),
(iQ 25 (.mv (.t 0))),
(iQ 26 (.mv (.t 11))),
(iQ 27 (.idxA (.t 25) (.t 26) 4)),
(iQ 28 (.load (.t 27) 4 true)),
(iQ 29 (.mv (.t 1))),
⟨some 30, .callv (.t 24) [(.t 28), (.t 29)], none⟩,
⟨some 31, .p (.bin .lss (.t 30) (.c (iV 0))), none⟩]
def c113_r6 : List Ins := [(iQ 32 (.mv (.t 11))),
⟨some 33, .p (.bin .add (.t 32) (.c (iV 1))), none⟩,
(iQ 9 (.mv (.t 33)))]
def c113_r7 : List Ins := [(iQ 34 (.mv (.t 11))),
(iQ 10 (.mv (.t 34)))]
def c113_l0 : IR := (.seq (.seq (.reg c113_r3) (.ite (.t 17) .skip (.exit 0))) (.block 1 (.seq (.reg c113_r4) (.seq (.reg c113_r5) (.ite (.t 31) (.reg c113_r6) (.reg c113_r7))))))
def c113_r8 : List Ins := [(iQ 35 (.mv (.t 9))),
(iQ 36 (.mv (.t 9))),
(iQ 37 (.mv (.t 8))),
(iQ 38 (.bin .lss (.t 36) (.t 37))),
(iQ 39 (.mv (.t 38))),
⟨some 40, .p (.mv (.t 2)), some (39, true)⟩,
⟨some 41, .p (.mv (.t 0)), some (39, true)⟩,
⟨some 42, .p (.mv (.t 9)), some (39, true)⟩,
⟨some 43, .p (.idxA (.t 41) (.t 42) 4), some (39, true)⟩,
⟨some 44, .p (.load (.t 43) 4 true), some (39, true)⟩,
⟨some 45, .p (.mv (.t 1)), some (39, true)⟩,
⟨some 46, .callv (.t 40) [(.t 44), (.t 45)], some (39, true)⟩,
⟨some 47, .p (.bin .eql (.t 46) (.c (iV 0))), some (39, true)⟩,
⟨some 48, .pick (.t 39) (.t 47) (.c (.bool false)), none⟩,
(iQ 6 (.mv (.t 35))),
(iQ 7 (.mv (.t 48)))]
def c113 : XFn := { np := 3, nt := 49, res := [.t 6, .t 7], body := (.seq (.reg c113_r0) (.seq (.reg c113_r1) (.seq (.reg c113_r2) (.seq (.block 0 (.loop c113_l0)) (.seq (.reg c113_r8) .ret))))) }
def K113 (C : CRel) : Prop := ∀ (a0 : List DLease) (a1 : Int) (f2 : Nat) (k2 : List V) (is2 : DLease → Int → Option Int) (hs2 : Shut k2) (hf2 : ∀ (x0 : DLease) (x1 : Int) r, is2 x0 x1 = some r → C f2 ⟨.agg (eDLease x0) :: iV x1 :: k2, []⟩ ⟨iV r, [], []⟩) (r : Int × Bool), g113 a0 a1 is2 = some r → C 113 ⟨[.lst 4 (a0.map eDLease), iV a1, .clo f2 k2], []⟩ ⟨.tup [iV r.1, .bool r.2], [], []⟩
theorem F113 {C : CRel}  (a0 : List DLease) (a1 : Int) (f2 : Nat) (k2 : List V) (is2 : DLease → Int → Option Int) (hs2 : Shut k2) (hf2 : ∀ (x0 : DLease) (x1 : Int) r, is2 x0 x1 = some r → C f2 ⟨.agg (eDLease x0) :: iV x1 :: k2, []⟩ ⟨iV r, [], []⟩) (r : Int × Bool) (h0 : g113 a0 a1 is2 = some r) : FnOK C c113 ⟨[.lst 4 (a0.map eDLease), iV a1, .clo f2 k2], []⟩ ⟨.tup [iV r.1, .bool r.2], [], []⟩ := by
 refine fn_ (nl rfl) (seq_ (reg_ (st (mvc_ tv (st (mvc_ tv (oe_ (wk_ ⟨[(0, .lst 4 (a0.map eDLease)), (1, iV a1), (2, .clo f2 k2)], [], []⟩ (fg ⟨rfl, rfl, rfl, tv⟩ tv) (seq_ (reg_ (st (mv_ rfl tv (st (c_ (clenL (e := eDLease) (l0 := a0) rfl rfl tv) (st (mv_ rfl tv (oe_ (wk_ ⟨[(0, .lst 4 (a0.map eDLease)), (1, iV a1), (2, .clo f2 k2), (8, iV (a0.length : Int))], [], []⟩ (fg ⟨rfl, rfl, rfl, rfl, tv⟩ tv) (seq_ (reg_ (st (mv_ rfl tv (st (mvc_ tv (st (mv_ rfl tv (oe_ (wk_ ⟨[(0, .lst 4 (a0.map eDLease)), (1, iV a1), (2, .clo f2 k2), (8, iV (a0.length : Int)), (9, iV 0), (10, iV (a0.length : Int))], [], []⟩ (fg ⟨rfl, rfl, rfl, rfl, rfl, rfl, tv⟩ tv) (seq_ (block_ ?_))))))))))))))))))))))))))))))
 obtain ⟨r30, e31, h0⟩ := bnd h0
 refine loop_ (R := (fun S => ∃ p21 : Int, p21 = r30 ∧ S = ⟨[(0, .lst 4 (a0.map eDLease)), (1, iV a1), (2, .clo f2 k2), (8, iV (a0.length : Int)), (9, iV p21)], [], []⟩)) (g113_l0 a0 a1 is2) (fun s S => match s with | (p9, p10) => S = ⟨[(0, .lst 4 (a0.map eDLease)), (1, iV a1), (2, .clo f2 k2), (8, iV (a0.length : Int)), (9, iV p9), (10, iV p10)], [], []⟩) e31 ⟨[(0, .lst 4 (a0.map eDLease)), (1, iV a1), (2, .clo f2 k2), (8, iV (a0.length : Int)), (9, iV 0), (10, iV (a0.length : Int))], [], []⟩ (fg ⟨rfl, rfl, rfl, rfl, rfl, rfl, tv⟩ tv) rfl 0 (fun _ => rfl) ?_ ?_
 ·rintro S _ hfg ⟨p21, rfl, rfl⟩
  refine wk_ ⟨[(0, .lst 4 (a0.map eDLease)), (1, iV a1), (2, .clo f2 k2), (8, iV (a0.length : Int)), (9, iV p21)], [], []⟩ (fgl hfg ⟨rfl, rfl, rfl, rfl, rfl, tv⟩ tv) (seq_ (reg_ (st (mv_ rfl tv (st (mv_ rfl tv (st (mv_ rfl tv (st (c_ (cp_ t3 rfl tv) (st (mv_ rfl tv (st (pg_ (u := .clo f2 k2) rfl (fun hg => (cmv (v := .clo f2 k2) rfl tv)) (st (pg_ (u := .lst 4 (a0.map eDLease)) rfl (fun hg => (cmv (v := .lst 4 (a0.map eDLease)) rfl tv)) (st (pg_ (u := iV p21) rfl (fun hg => (cmv (v := iV p21) rfl tv)) ?_))))))))))))))))))
  obtain ⟨y32, e33, h0⟩ := bnd h0
  refine st (pg_ (u := .iptr [iV y32.id, iV y32.until_, iV y32.cap, .bool y32.queued]) rfl (fun hg => (cidxL (e := eDLease) (y := y32) rfl rfl (fun _ => hg) rfl rfl (fun _ => hg) (ip hg e33))) (st (pg_ (u := .agg (eDLease y32)) rfl (fun hg => (cp_ ⟨(fun _ => hg), tv⟩ rfl (nl rfl))) (st (pg_ (u := iV a1) rfl (fun hg => (cmv (v := iV a1) rfl tv)) ?_)))))
  obtain ⟨r34, e35, h0⟩ := bnd h0
  refine sw ⟨[(35, iV p21), (39, .bool (decide (p21 < (a0.length : Int)))), (40, .may ((decide (p21 < (a0.length : Int))) == true) (.clo f2 k2)), (44, .may ((decide (p21 < (a0.length : Int))) == true) (.agg (eDLease y32))), (45, .may ((decide (p21 < (a0.length : Int))) == true) (iV a1))], [], []⟩ (fg ⟨rfl, rfl, rfl, rfl, rfl, tv⟩ tv) (callvg_ (r := iV r34) rfl rfl rfl (fun hg => hg) false (fun hg => hf2 _ _ r34 (ip hg e35)) ⟨(fun hg => hg), (fun hg => hg), tv⟩ (fun _ => (and_ rfl (and_ rfl hs2.2.2.1))) (fun _ => (mapc1 rfl (mapc1 rfl (hs2.2.1 _ _ _ _ _)))) (fun _ => rfl) (fun h => nomatch h) (st (pg_ (u := .bool (r34 == 0)) rfl (fun hg => (cp_ ⟨(fun _ => hg), tv, tv⟩ rfl tv)) (st (pick_ rfl rfl rfl (fun h => eqt h) tv rfl (st (mv_ rfl tv (st (mv_ rfl tv (oe_ (wk_ ⟨[(6, iV p21), (7, .bool (bif (decide (p21 < (a0.length : Int))) then (r34 == 0) else false))], [], []⟩ (fgk (by kernel_rfl)) ?_)))))))))))
  obtain rfl := Option.some.inj h0
  exact rt_ (ret_ rfl rfl rfl rfl rfl tv)
 ·rintro ⟨p9, p10⟩ o1 _ K1 rfl h1 hx1 hK1 hE1 hR1
  refine seq_ (seq_ (reg_ (st (mv_ rfl tv (st (mv_ rfl tv (st (c_ (cp_ t3 rfl tv) (oe_ (wk_ ⟨[(0, .lst 4 (a0.map eDLease)), (1, iV a1), (2, .clo f2 k2), (8, iV (a0.length : Int)), (9, iV p9), (10, iV p10), (17, .bool (decide (p9 < p10)))], [], []⟩ (fg ⟨rfl, rfl, rfl, rfl, rfl, rfl, rfl, tv⟩ tv) (ite_ (cb := (decide (p9 < p10))) rfl (fun c22 => ?_) (fun c22 => ?_))))))))))))
  ·replace h1 := ip c22 h1
   refine sk_ (wk_ ⟨[(0, .lst 4 (a0.map eDLease)), (1, iV a1), (2, .clo f2 k2), (8, iV (a0.length : Int)), (9, iV p9), (10, iV p10)], [], []⟩ (fg ⟨rfl, rfl, rfl, rfl, rfl, rfl, tv⟩ tv) (block_ (seq_ (reg_ (st (mv_ rfl tv (st (mv_ rfl tv (st (c_ (cp_ t3 rfl tv) (st (c_ (cp_ ⟨tv, tv⟩ rfl tv) (st (c_ (cp_ ⟨tv, tv, tv⟩ rfl (by decide)) (st (c_ (cp_ ⟨tv, tv⟩ rfl tv) (st (mv_ rfl tv (oe_ ?_)))))))))))))))))))
   obtain ⟨v23, e24, h1⟩ := bl h1
   refine wk_ ⟨[(0, .lst 4 (a0.map eDLease)), (1, iV a1), (2, .clo f2 k2), (8, iV (a0.length : Int)), (9, iV p9), (10, iV p10), (11, iV v23)], [], []⟩ (fg ⟨(by subst e24; rfl), (by subst e24; rfl), (by subst e24; rfl), (by subst e24; rfl), (by subst e24; rfl), (by subst e24; rfl), (by subst e24; rfl), tv⟩ tv) (seq_ (reg_ (st (mv_ rfl tv (st (mv_ rfl tv (st (mv_ rfl tv ?_))))))))
   obtain ⟨y25, e26, h1⟩ := bnd h1
   refine st (c_ (cidxL (e := eDLease) (y := y25) rfl rfl tv rfl rfl tv e26) (st (c_ (v := .agg (eDLease y25)) (cp_ ⟨tv, tv⟩ rfl (nl rfl)) (st (mv_ rfl tv ?_)))))
   obtain ⟨r27, e28, h1⟩ := bnd h1
   refine st (callv0_ (r := iV r27) rfl false (hf2 _ _ r27 e28) ⟨tv, tv, tv⟩ (and_ rfl (and_ rfl hs2.2.2.1)) (mapc1 rfl (mapc1 rfl (hs2.2.1 _ _ _ _ _))) (fun _ => rfl) (st (c_ (cp_ t3 rfl tv) (oe_ (wk_ ⟨[(0, .lst 4 (a0.map eDLease)), (1, iV a1), (2, .clo f2 k2), (8, iV (a0.length : Int)), (9, iV p9), (10, iV p10), (11, iV v23), (31, .bool (decide (r27 < 0)))], [], []⟩ (fg ⟨rfl, rfl, rfl, rfl, rfl, rfl, rfl, rfl, tv⟩ tv) (ite_ (cb := (decide (r27 < 0))) rfl (fun c29 => ?_) (fun c29 => ?_)))))))
   ·replace h1 := ip c29 h1
    refine reg_ (st (mv_ rfl tv (st (c_ (cp_ t3 rfl tv) (st (mv_ rfl tv (oe_ (bn_ ?_))))))))
    obtain rfl := Option.some.inj h1
    exact hK1 _ rfl _ ⟨[(0, .lst 4 (a0.map eDLease)), (1, iV a1), (2, .clo f2 k2), (8, iV (a0.length : Int)), (9, iV (IntKind.i64.wrap (v23 + 1))), (10, iV p10)], [], []⟩ (fg ⟨rfl, rfl, rfl, rfl, rfl, rfl, tv⟩ tv) rfl
   ·replace h1 := inb c29 h1
    refine reg_ (st (mv_ rfl tv (st (mv_ rfl tv (oe_ (bn_ ?_))))))
    obtain rfl := Option.some.inj h1
    exact hK1 _ rfl _ ⟨[(0, .lst 4 (a0.map eDLease)), (1, iV a1), (2, .clo f2 k2), (8, iV (a0.length : Int)), (9, iV p9), (10, iV v23)], [], []⟩ (fg ⟨rfl, rfl, rfl, rfl, rfl, rfl, tv⟩ tv) rfl
  ·replace h1 := inb c22 h1
   obtain rfl := Option.some.inj h1
   obtain rfl := hx1 _ rfl
   refine exQ rfl ?_
   exact hE1 _ ⟨[(0, .lst 4 (a0.map eDLease)), (1, iV a1), (2, .clo f2 k2), (8, iV (a0.length : Int)), (9, iV p9)], [], []⟩ (fg ⟨rfl, rfl, rfl, rfl, rfl, tv⟩ tv) ⟨_, rfl, rfl⟩

/- cmp.isNaN[int] -/
def c136_r0 : List Ins := [⟨some 2, .p (.mv (.c (.bool false))), none⟩]
def c136_r1 : List Ins := [(iQ 3 (.mv (.t 0))),
(iQ 4 (.mv (.t 0))),
(iQ 5 (.bin .neq (.t 3) (.t 4))),
(iQ 2 (.mv (.t 5)))]
def c136 : XFn := { np := 1, nt := 6, res := [.t 2], body := (.seq (.reg c136_r0) (.seq (.reg c136_r1) .ret)) }
def K136 (C : CRel) : Prop := ∀ (a0 : Int) (r : Bool), g136 a0 = some r → C 136 ⟨[iV a0], []⟩ ⟨.bool r, [], []⟩
theorem F136 {C : CRel}  (a0 : Int) (r : Bool) (h0 : g136 a0 = some r) : FnOK C c136 ⟨[iV a0], []⟩ ⟨.bool r, [], []⟩ := by
 refine fn_ (nl rfl) (seq_ (reg_ (st (mvc_ tv (oe_ (wk_ ⟨[(0, iV a0)], [], []⟩ (fgk (by kernel_rfl)) (seq_ (reg_ (st (mv_ rfl tv (st (mv_ rfl tv (st (c_ (cp_ t3 rfl tv) (st (mv_ rfl tv (oe_ (wk_ ⟨[(2, .bool (a0 != a0))], [], []⟩ (fgk (by kernel_rfl)) ?_))))))))))))))))))
 obtain rfl := Option.some.inj h0
 exact rt_ (ret_ rfl rfl rfl rfl rfl tv)

/- cmp.Compare[int] -/
def c110_r0 : List Ins := [⟨some 4, .p (.mv (.c (iV 0))), none⟩]
def c110_r1 : List Ins := [(iQ 7 (.mv (.t 0))),
⟨some 8, .call 136 [(.t 7)], none⟩,
(iQ 5 (.mv (.t 8)))]
def c110_r2 : List Ins := [(iQ 9 (.mv (.t 1))),
⟨some 10, .call 136 [(.t 9)], none⟩,
(iQ 6 (.mv (.t 10)))]
def c110_r3 : List Ins := [(iQ 11 (.mv (.t 5)))]
def c110_r4 : List Ins := [(iQ 12 (.mv (.t 6)))]
def c110_r5 : List Ins := [⟨some 4, .p (.mv (.c (iV 0))), none⟩]
def c110_r6 : List Ins := [⟨some 4, .p (.mv (.c (iV (-1)))), none⟩]
def c110_r7 : List Ins := [(iQ 13 (.mv (.t 6)))]
def c110_r8 : List Ins := [⟨some 4, .p (.mv (.c (iV 1))), none⟩]
def c110_r9 : List Ins := [(iQ 14 (.mv (.t 0))),
(iQ 15 (.mv (.t 1))),
(iQ 16 (.bin .lss (.t 14) (.t 15)))]
def c110_r10 : List Ins := [⟨some 4, .p (.mv (.c (iV (-1)))), none⟩]
def c110_r11 : List Ins := [(iQ 17 (.mv (.t 0))),
(iQ 18 (.mv (.t 1))),
(iQ 19 (.bin .gtr (.t 17) (.t 18)))]
def c110_r12 : List Ins := [⟨some 4, .p (.mv (.c (iV 1))), none⟩]
def c110_r13 : List Ins := [⟨some 4, .p (.mv (.c (iV 0))), none⟩]
def c110 : XFn := { np := 2, nt := 20, res := [.t 4], body := (.seq (.reg c110_r0) (.seq (.reg c110_r1) (.seq (.reg c110_r2) (.seq (.seq (.reg c110_r3) (.ite (.t 11) (.seq (.seq (.reg c110_r4) (.ite (.t 12) (.seq (.reg c110_r5) .ret) .skip)) (.seq (.reg c110_r6) .ret)) .skip)) (.seq (.seq (.reg c110_r7) (.ite (.t 13) (.seq (.reg c110_r8) .ret) .skip)) (.seq (.seq (.reg c110_r9) (.ite (.t 16) (.seq (.reg c110_r10) .ret) .skip)) (.seq (.seq (.reg c110_r11) (.ite (.t 19) (.seq (.reg c110_r12) .ret) .skip)) (.seq (.reg c110_r13) .ret)))))))) }
def K110 (C : CRel) : Prop := ∀ (a0 : Int) (a1 : Int) (r : Int), g110 a0 a1 = some r → C 110 ⟨[iV a0, iV a1], []⟩ ⟨iV r, [], []⟩
theorem F110 {C : CRel} (H136 : K136 C) (a0 : Int) (a1 : Int) (r : Int) (h0 : g110 a0 a1 = some r) : FnOK C c110 ⟨[iV a0, iV a1], []⟩ ⟨iV r, [], []⟩ := by
 refine fn_ (nl rfl) (seq_ (reg_ (st (mvc_ tv (oe_ (wk_ ⟨[(0, iV a0), (1, iV a1)], [], []⟩ (fgk (by kernel_rfl)) (seq_ (reg_ (st (mv_ rfl tv ?_))))))))))
 obtain ⟨r1, e2, h0⟩ := bnd h0
 refine st (call0_ (r := .bool r1) false (H136 a0 r1 e2) ⟨tv, tv⟩ rfl rfl (fun _ => rfl) (st (mv_ rfl tv (oe_ (wk_ ⟨[(0, iV a0), (1, iV a1), (5, .bool r1)], [], []⟩ (fgk (by kernel_rfl)) (seq_ (reg_ (st (mv_ rfl tv ?_)))))))))
 obtain ⟨r3, e4, h0⟩ := bnd h0
 refine st (call0_ (r := .bool r3) false (H136 a1 r3 e4) ⟨tv, tv⟩ rfl rfl (fun _ => rfl) (st (mv_ rfl tv (oe_ (wk_ ⟨[(0, iV a0), (1, iV a1), (5, .bool r1), (6, .bool r3)], [], []⟩ (fgk (by kernel_rfl)) (seq_ (seq_ (reg_ (st (mv_ rfl tv (oe_ (wk_ ⟨[(0, iV a0), (1, iV a1), (6, .bool r3), (11, .bool r1)], [], []⟩ (fgk (by kernel_rfl)) (ite_ (cb := r1) rfl (fun c5 => ?_) (fun c5 => ?_))))))))))))))
 ·replace h0 := ip c5 h0
  refine seq_ (seq_ (reg_ (st (mv_ rfl tv (oe_ (wk_ ⟨[(12, .bool r3)], [], []⟩ (fgk (by kernel_rfl)) (ite_ (cb := r3) rfl (fun c6 => ?_) (fun c6 => ?_))))))))
  ·replace h0 := ip c6 h0
   refine seq_ (reg_ (st (mvc_ tv (oe_ (wk_ ⟨[(4, iV 0)], [], []⟩ (fgk (by kernel_rfl)) ?_)))))
   obtain rfl := Option.some.inj h0
   exact rt_ (ret_ rfl rfl rfl rfl rfl tv)
  ·replace h0 := inb c6 h0
   refine sk_ (wk_ ⟨[], [], []⟩ (fgk (by kernel_rfl)) (seq_ (reg_ (st (mvc_ tv (oe_ (wk_ ⟨[(4, iV (-1))], [], []⟩ (fgk (by kernel_rfl)) ?_)))))))
   obtain rfl := Option.some.inj h0
   exact rt_ (ret_ rfl rfl rfl rfl rfl tv)
 ·replace h0 := inb c5 h0
  refine sk_ (wk_ ⟨[(0, iV a0), (1, iV a1), (6, .bool r3)], [], []⟩ (fgk (by kernel_rfl)) (seq_ (seq_ (reg_ (st (mv_ rfl tv (oe_ (wk_ ⟨[(0, iV a0), (1, iV a1), (13, .bool r3)], [], []⟩ (fgk (by kernel_rfl)) (ite_ (cb := r3) rfl (fun c7 => ?_) (fun c7 => ?_))))))))))
  ·replace h0 := ip c7 h0
   refine seq_ (reg_ (st (mvc_ tv (oe_ (wk_ ⟨[(4, iV 1)], [], []⟩ (fgk (by kernel_rfl)) ?_)))))
   obtain rfl := Option.some.inj h0
   exact rt_ (ret_ rfl rfl rfl rfl rfl tv)
  ·replace h0 := inb c7 h0
   refine sk_ (wk_ ⟨[(0, iV a0), (1, iV a1)], [], []⟩ (fgk (by kernel_rfl)) (seq_ (seq_ (reg_ (st (mv_ rfl tv (st (mv_ rfl tv (st (c_ (cp_ t3 rfl tv) (oe_ (wk_ ⟨[(0, iV a0), (1, iV a1), (16, .bool (decide (a0 < a1)))], [], []⟩ (fgk (by kernel_rfl)) (ite_ (cb := (decide (a0 < a1))) rfl (fun c8 => ?_) (fun c8 => ?_))))))))))))))
   ·replace h0 := ip c8 h0
    refine seq_ (reg_ (st (mvc_ tv (oe_ (wk_ ⟨[(4, iV (-1))], [], []⟩ (fgk (by kernel_rfl)) ?_)))))
    obtain rfl := Option.some.inj h0
    exact rt_ (ret_ rfl rfl rfl rfl rfl tv)
   ·replace h0 := inb c8 h0
    refine sk_ (wk_ ⟨[(0, iV a0), (1, iV a1)], [], []⟩ (fgk (by kernel_rfl)) (seq_ (seq_ (reg_ (st (mv_ rfl tv (st (mv_ rfl tv (st (c_ (cp_ t3 rfl tv) (oe_ (wk_ ⟨[(19, .bool (decide (a0 > a1)))], [], []⟩ (fgk (by kernel_rfl)) (ite_ (cb := (decide (a0 > a1))) rfl (fun c9 => ?_) (fun c9 => ?_))))))))))))))
    ·replace h0 := ip c9 h0
     refine seq_ (reg_ (st (mvc_ tv (oe_ (wk_ ⟨[(4, iV 1)], [], []⟩ (fgk (by kernel_rfl)) ?_)))))
     obtain rfl := Option.some.inj h0
     exact rt_ (ret_ rfl rfl rfl rfl rfl tv)
    ·replace h0 := inb c9 h0
     refine sk_ (wk_ ⟨[], [], []⟩ (fgk (by kernel_rfl)) (seq_ (reg_ (st (mvc_ tv (oe_ (wk_ ⟨[(4, iV 0)], [], []⟩ (fgk (by kernel_rfl)) ?_)))))))
     obtain rfl := Option.some.inj h0
     exact rt_ (ret_ rfl rfl rfl rfl rfl tv)

/- (loop.example/g00149/impl.Table).find$1 -/
def c114_r0 : List Ins := [⟨some 2, .box (.t 0), none⟩,
⟨some 4, .p (.mv (.c (iV 0))), none⟩]
def c114_r1 : List Ins := [(iQ 5 (.fieldA (.t 2) 0)),
(iQ 6 (.load (.t 5) 1 false)),
(iQ 7 (.mv (.t 1))),
⟨some 8, .call 110 [(.t 6), (.t 7)], none⟩,
(iQ 4 (.mv (.t 8)))]
def c114 : XFn := { np := 2, nt := 9, res := [.t 4], body := (.seq (.reg c114_r0) (.seq (.reg c114_r1) .ret)) }
def K114 (C : CRel) : Prop := ∀ (a0 : DLease) (a1 : Int) (r : Int), g114 a0 a1 = some r → C 114 ⟨[.agg (eDLease a0), iV a1], []⟩ ⟨iV r, [], []⟩
theorem F114 {C : CRel} (H110 : K110 C) (a0 : DLease) (a1 : Int) (r : Int) (h0 : g114 a0 a1 = some r) : FnOK C c114 ⟨[.agg (eDLease a0), iV a1], []⟩ ⟨iV r, [], []⟩ := by
 refine fn_ (nl rfl) (seq_ (reg_ (st (box_ rfl tv rfl (st (mvc_ tv (oe_ (wk_ ⟨[(1, iV a1), (2, .ptr 128 0)], [(128, [iV a0.id, iV a0.until_, iV a0.cap, .bool a0.queued])], []⟩ (fgk (by kernel_rfl)) (seq_ (reg_ (st (c_ (cp_ ⟨tv, tv⟩ rfl tv) (st (c_ (cp_ ⟨tv, tv⟩ rfl (nl rfl)) (st (mv_ rfl tv ?_))))))))))))))))
 obtain ⟨r1, e2, h0⟩ := bnd h0
 refine st (call0_ (r := iV r1) false (H110 a0.id a1 r1 e2) ⟨tv, tv, tv⟩ rfl rfl (fun _ => rfl) (st (mv_ rfl tv (oe_ (wk_ ⟨[(4, iV r1)], [], []⟩ (fgk (by kernel_rfl)) ?_)))))
 obtain rfl := Option.some.inj h0
 exact rt_ (ret_ rfl rfl rfl rfl rfl tv)

/- (loop.example/g00149/impl.Table).find -/
def c77_r0 : List Ins := [⟨some 2, .box (.t 0), none⟩,
⟨some 4, .p (.mv (.c (iV 0))), none⟩,
⟨some 5, .p (.mv (.c (.bool false))), none⟩]
def c77_r1 : List Ins := [(iQ 6 (.fieldA (.t 2) 2)),
(iQ 7 (.load (.t 6) 1 false)),
(iQ 8 (.mv (.t 1))),
⟨some 9, .call 113 [(.t 7), (.t 8), (.c (.clo 114 []))], none⟩,
(iQ 10 (.ext (.t 9) 0)),
(iQ 11 (.ext (.t 9) 1)),
(iQ 4 (.mv (.t 10))),
(iQ 5 (.mv (.t 11)))]
def c77 : XFn := { np := 2, nt := 12, res := [.t 4, .t 5], body := (.seq (.reg c77_r0) (.seq (.reg c77_r1) .ret)) }
def K77 (C : CRel) : Prop := ∀ (a0 : DTable) (a1 : Int) (r : Int × Bool), g77 a0 a1 = some r → C 77 ⟨[.agg (eDTable a0), iV a1], []⟩ ⟨.tup [iV r.1, .bool r.2], [], []⟩
theorem F77 {C : CRel} (H113 : K113 C) (H114 : K114 C) (a0 : DTable) (a1 : Int) (r : Int × Bool) (h0 : g77 a0 a1 = some r) : FnOK C c77 ⟨[.agg (eDTable a0), iV a1], []⟩ ⟨.tup [iV r.1, .bool r.2], [], []⟩ := by
 refine fn_ (nl rfl) (seq_ (reg_ (st (box_ rfl tv rfl (st (mvc_ tv (st (mvc_ tv (oe_ (wk_ ⟨[(1, iV a1), (2, .ptr 128 0)], [(128, [iV a0.clock, iV a0.next, .lst 4 (a0.list_.map eDLease)])], []⟩ (fgk (by kernel_rfl)) (seq_ (reg_ (st (c_ (cp_ ⟨tv, tv⟩ rfl tv) (st (c_ (cp_ ⟨tv, tv⟩ rfl (nl rfl)) (st (mv_ rfl tv ?_))))))))))))))))))
 obtain ⟨r1, e2, h0⟩ := bnd h0
 refine st (call0_ (r := .tup [iV r1.1, .bool r1.2]) false (H113 a0.list_ a1 114 [] (fun z114_0 z114_1 => g114 z114_0 z114_1) (⟨fun _ _ _ _ _ => rfl, fun _ _ _ _ _ => rfl, rfl, fun _ _ _ n => by cases n <;> rfl, fun _ => rfl⟩) (fun z114_0 z114_1 r h => H114 z114_0 z114_1 r h) r1 e2) ⟨tv, tv, tv, tv⟩ rfl rfl (fun _ => rfl) (st (c_ (cp_ ⟨tv, tv⟩ rfl tv) (st (c_ (cp_ ⟨tv, tv⟩ rfl tv) (st (mv_ rfl tv (st (mv_ rfl tv (oe_ (wk_ ⟨[(4, iV r1.1), (5, .bool r1.2)], [], []⟩ (fgk (by kernel_rfl)) ?_)))))))))))
 obtain rfl := Option.some.inj h0
 exact rt_ (ret_ rfl rfl rfl rfl rfl tv)

/- loop.example/g00149/impl.VaultOK$1 -/
def c98_r0 : List Ins := [⟨some 3, .p (.mv (.c (.bool false))), none⟩]
def c98_r1 : List Ins := [(iQ 7 (.fieldA (.t 1) 0)),
(iQ 8 (.load (.t 7) 3 true)),
(iQ 9 (.mv (.t 0))),
⟨some 10, .call 77 [(.t 8), (.t 9)], none⟩,
(iQ 6 (.mv (.t 10))),
(iQ 11 (.ext (.t 6) 0)),
(iQ 12 (.ext (.t 6) 1)),
(iQ 4 (.mv (.t 11))),
(iQ 5 (.mv (.t 12)))]
def c98_r2 : List Ins := [(iQ 13 (.mv (.t 5))),
(iQ 14 (.un .not (.t 13))),
(iQ 3 (.mv (.t 14)))]
def c98 : XFn := { np := 2, nt := 15, res := [.t 3], body := (.seq (.reg c98_r0) (.seq (.reg c98_r1) (.seq (.reg c98_r2) .ret))) }
def K98 (C : CRel) : Prop := ∀ (a0 : Int) (a1 : DVault) (r : Bool), g98 a0 a1 = some r → C 98 ⟨[iV a0, .iptr [iV a1.table.clock, iV a1.table.next, .lst 4 (a1.table.list_.map eDLease), .lst 2 (a1.intents.map eDIntent), .lst 1 (a1.accounts.map eI), .bool a1.sealed]], []⟩ ⟨.bool r, [], []⟩
theorem F98 {C : CRel} (H77 : K77 C) (a0 : Int) (a1 : DVault) (r : Bool) (h0 : g98 a0 a1 = some r) : FnOK C c98 ⟨[iV a0, .iptr [iV a1.table.clock, iV a1.table.next, .lst 4 (a1.table.list_.map eDLease), .lst 2 (a1.intents.map eDIntent), .lst 1 (a1.accounts.map eI), .bool a1.sealed]], []⟩ ⟨.bool r, [], []⟩ := by
 refine fn_ (nl rfl) (seq_ (reg_ (st (mvc_ tv (oe_ (wk_ ⟨[(0, iV a0), (1, .iptr [iV a1.table.clock, iV a1.table.next, .lst 4 (a1.table.list_.map eDLease), .lst 2 (a1.intents.map eDIntent), .lst 1 (a1.accounts.map eI), .bool a1.sealed])], [], []⟩ (fgk (by kernel_rfl)) (seq_ (reg_ (st (c_ (cp_ ⟨tv, tv⟩ rfl (nl rfl)) (st (c_ (v := .agg [iV a1.table.clock, iV a1.table.next, .lst 4 (a1.table.list_.map eDLease)]) (cp_ ⟨tv, tv⟩ rfl (nl rfl)) (st (mv_ rfl tv ?_))))))))))))))
 obtain ⟨r1, e2, h0⟩ := bnd h0
 refine st (call0_ (r := .tup [iV r1.1, .bool r1.2]) false (H77 a1.table a0 r1 e2) ⟨tv, tv, tv⟩ rfl rfl (fun _ => rfl) (st (mv_ rfl tv (st (c_ (cp_ ⟨tv, tv⟩ rfl tv) (st (c_ (cp_ ⟨tv, tv⟩ rfl tv) (st (mv_ rfl tv (st (mv_ rfl tv (oe_ (wk_ ⟨[(5, .bool r1.2)], [], []⟩ (fgk (by kernel_rfl)) (seq_ (reg_ (st (mv_ rfl tv (st (c_ (cp_ ⟨tv, tv⟩ rfl tv) (st (mv_ rfl tv (oe_ (wk_ ⟨[(3, .bool (!r1.2))], [], []⟩ (fgk (by kernel_rfl)) ?_)))))))))))))))))))))))
 obtain rfl := Option.some.inj h0
 exact rt_ (ret_ rfl rfl rfl rfl rfl tv)

/- loop.example/g00149/impl.VaultOK -/
def c48_r0 : List Ins := [⟨some 1, .box (.t 0), none⟩,
⟨some 2, .p (.mv (.c (.bool false))), none⟩]
def c48_r1 : DP := (.take (iQ 5 (.fieldA (.t 1) 0))
(.take (iQ 6 (.load (.t 5) 3 true))
(.alt [] ⟨some 7, .call 20 [(.t 6)], none⟩
(.take (iQ 8 (.un .not (.t 7)))
(.take (iQ 9 (.mv (.t 8)))
(.take ⟨some 10, .p (.fieldA (.t 1) 3), some (9, false)⟩
(.take ⟨some 11, .p (.load (.t 10) 1 false), some (9, false)⟩
(.take ⟨some 12, .p (.len (.t 11)), some (9, false)⟩
(.take ⟨some 13, .p (.bin .gtr (.t 12) (.c (iV 40))), some (9, false)⟩
(.take ⟨some 14, .pick (.t 9) (.c (.bool true)) (.t 13), none⟩
(.take (iQ 15 (.mv (.t 14)))
(.take ⟨some 16, .p (.fieldA (.t 1) 3), some (15, false)⟩
(.take ⟨some 17, .p (.load (.t 16) 1 false), some (15, false)⟩
(.take ⟨some 19, .p (.fieldA (.t 1) 0), some (15, false)⟩
(.take ⟨some 20, .p (.fieldA (.t 19) 1), some (15, false)⟩
(.take ⟨some 21, .p (.load (.t 20) 1 false), some (15, false)⟩
(.take ⟨some 22, .p (.bin .sub (.t 21) (.c (iV 1))), some (15, false)⟩
(.alt [⟨some 22, .p (.bin .sub (.t 21) (.c (iV 1))), some (15, false)⟩, ⟨some 21, .p (.load (.t 20) 1 false), some (15, false)⟩, ⟨some 20, .p (.fieldA (.t 19) 1), some (15, false)⟩, ⟨some 19, .p (.fieldA (.t 1) 0), some (15, false)⟩] ⟨some 18, .call 95 [(.t 17)], some (15, false)⟩
(.alt [] ⟨some 23, .call 59 [(.t 18), (.c (iV 1)), (.t 22)], some (15, false)⟩
(.take ⟨some 24, .p (.un .not (.t 23)), some (15, false)⟩
(.take ⟨some 25, .pick (.t 15) (.c (.bool true)) (.t 24), none⟩
(.take (iQ 26 (.mv (.t 25)))
(.take ⟨some 27, .p (.fieldA (.t 1) 4), some (26, false)⟩
(.take ⟨some 28, .p (.load (.t 27) 1 false), some (26, false)⟩
(.take ⟨some 29, .p (.len (.t 28)), some (26, false)⟩
(.take ⟨some 30, .p (.bin .gtr (.t 29) (.c (iV 80))), some (26, false)⟩
(.take ⟨some 31, .pick (.t 26) (.c (.bool true)) (.t 30), none⟩
(.take (iQ 32 (.mv (.t 31)))
(.take ⟨some 33, .p (.fieldA (.t 1) 4), some (32, false)⟩
(.take ⟨some 34, .p (.load (.t 33) 1 false), some (32, false)⟩
(.take ⟨some 35, .p (.fieldA (.t 1) 0), some (32, false)⟩
(.take ⟨some 36, .p (.fieldA (.t 35) 1), some (32, false)⟩
(.take ⟨some 37, .p (.load (.t 36) 1 false), some (32, false)⟩
(.take ⟨some 38, .p (.bin .sub (.t 37) (.c (iV 1))), some (32, false)⟩
(.alt [] ⟨some 39, .call 59 [(.t 34), (.c (iV 1)), (.t 38)], some (32, false)⟩
(.take ⟨some 40, .p (.un .not (.t 39)), some (32, false)⟩
(.take ⟨some 41, .pick (.t 32) (.c (.bool true)) (.t 40), none⟩
.fin))
.stop))))))))))))))))
.stop)
.stop)))))))))))))))
.stop)))
def c48_r2 : List Ins := [⟨some 2, .p (.mv (.c (.bool false))), none⟩]
def c48_r3 : List Ins := [(iQ 43 (.load (.t 1) 6 true)),
⟨some 44, .call 96 [(.t 43)], none⟩,
(iQ 42 (.mv (.t 44))),
(iQ 45 (.ext (.t 42) 0)),
(iQ 46 (.ext (.t 42) 1)),
(iQ 3 (.mv (.t 45))),
(iQ 4 (.mv (.t 46)))]
def c48_r4 : List Ins := [(iQ 47 (.mv (.t 4))),
(iQ 48 (.un .not (.t 47))),
(iQ 49 (.mv (.t 48))),
⟨some 50, .p (.fieldA (.t 1) 3), some (49, true)⟩,
⟨some 51, .p (.load (.t 50) 1 false), some (49, true)⟩,
⟨some 52, .call 95 [(.t 51)], some (49, true)⟩,
⟨some 53, .p (.fn 98 [(.t 1)]), some (49, true)⟩,
⟨some 54, .call 97 [(.t 52), (.t 53)], some (49, true)⟩,
⟨some 55, .pick (.t 49) (.t 54) (.c (.bool false)), none⟩,
(iQ 2 (.mv (.t 55)))]
def c48 : XFn := { np := 1, nt := 56, res := [.t 2], body := (.seq (.reg c48_r0) (.seq (.seq (.draw c48_r1) (.ite (.t 41) (.seq (.reg c48_r2) .ret) .skip)) (.seq (.reg c48_r3) (.seq (.reg c48_r4) .ret)))) }
def K48 (C : CRel) : Prop := ∀ (a0 : DVault) (r : Bool), g48 a0 = some r → C 48 ⟨[.agg (eDVault a0)], []⟩ ⟨.bool r, [], []⟩
theorem F48 {C : CRel} (H20 : K20 C) (H59 : K59 C) (H95 : K95 C) (H96 : K96 C) (H97 : K97 C) (H98 : K98 C) (a0 : DVault) (r : Bool) (h0 : g48 a0 = some r) : FnOK C c48 ⟨[.agg (eDVault a0)], []⟩ ⟨.bool r, [], []⟩ := by
 refine fn_ (nl rfl) (seq_ (reg_ (st (box_ rfl tv rfl (st (mvc_ tv (oe_ (wk_ ⟨[(1, .ptr 64 0)], [(64, [iV a0.table.clock, iV a0.table.next, .lst 4 (a0.table.list_.map eDLease), .lst 2 (a0.intents.map eDIntent), .lst 1 (a0.accounts.map eI), .bool a0.sealed])], []⟩ (fgk (by kernel_rfl)) (seq_ (seq_ ?_))))))))))
 obtain ⟨r1, e2, h0⟩ := bnd h0
 obtain ⟨r3, e4, h0⟩ := bnd h0
 obtain ⟨r5, e6, h0⟩ := bnd h0
 obtain ⟨r7, e8, h0⟩ := bnd h0
 refine draw_ (dtake tv (c_ (cp_ ⟨tv, tv⟩ rfl tv) (⟨tv, (dtake tv (c_ (v := .agg [iV a0.table.clock, iV a0.table.next, .lst 4 (a0.table.list_.map eDLease)]) (cp_ ⟨tv, tv⟩ rfl (nl rfl)) (⟨tv, (dalt (call0_ (r := .bool r1) false (H20 a0.table r1 e2) ⟨tv, tv⟩ rfl rfl (fun _ => rfl) (dkw ⟨[(1, .ptr 64 0), (7, .bool r1)], [(64, [iV a0.table.clock, iV a0.table.next, .lst 4 (a0.table.list_.map eDLease), .lst 2 (a0.intents.map eDIntent), .lst 1 (a0.accounts.map eI), .bool a0.sealed])], []⟩ (fgk (by kernel_rfl)) ⟨[], tv, tv, (dtake tv (c_ (cp_ ⟨tv, tv⟩ rfl tv) (⟨tv, (dtake tv (mv_ rfl tv (⟨tv, (dtake tv (pg_ (u := .ptr 64 3) rfl (fun hg => (cp_ ⟨tv, tv⟩ rfl tv)) (⟨tv, (dtake tv (pg_ (u := .lst 2 (a0.intents.map eDIntent)) rfl (fun hg => (cp_ ⟨(fun _ => hg), tv⟩ rfl (nl rfl))) (⟨tv, (dtake tv (pg_ (u := iV (a0.intents.length : Int)) rfl (fun hg => (clenL (e := eDIntent) (l0 := a0.intents) rfl rfl (fun _ => hg))) (⟨tv, (dtake tv (pg_ (u := .bool (decide ((a0.intents.length : Int) > 40))) rfl (fun hg => (cp_ ⟨(fun _ => hg), tv, tv⟩ rfl tv)) (⟨tv, (dtake tv (pick_ rfl rfl rfl tv (fun h => eqf h) rfl (⟨tv, (dtake tv (mv_ rfl tv (⟨tv, (dtake tv (pg_ (u := .ptr 64 3) rfl (fun hg => (cp_ ⟨tv, tv⟩ rfl tv)) (⟨tv, (dtake tv (pg_ (u := .lst 2 (a0.intents.map eDIntent)) rfl (fun hg => (cp_ ⟨(fun _ => hg), tv⟩ rfl (nl rfl))) (⟨tv, (dtake tv (pg_ (u := .ptr 64 0) rfl (fun hg => (cp_ ⟨tv, tv⟩ rfl tv)) (⟨tv, (dtake tv (pg_ (u := .ptr 64 1) rfl (fun hg => (cp_ ⟨(fun _ => hg), tv⟩ rfl tv)) (⟨tv, ?_⟩)))⟩)))⟩)))⟩)))⟩)))⟩)))⟩)))⟩)))⟩)))⟩)))⟩)))⟩)))⟩)) dstop)⟩)))⟩)))
 refine dtake tv (pg_ (u := iV a0.table.next) rfl (fun hg => (cp_ ⟨(fun _ => hg), tv⟩ rfl (nl rfl))) (⟨tv, (dtake tv (pg_ (u := iV (IntKind.i64.wrap (a0.table.next - 1))) rfl (fun hg => (cp_ ⟨(fun _ => hg), tv, tv⟩ rfl tv)) (⟨tv, (dalt (callg_ (r := .own 0 0 1 (r3.map eI)) rfl false (fun hg => H95 a0.intents r3 (ip hg e4)) ⟨(fun hg => hg), tv⟩ (fun _ => rfl) (fun _ => rfl) (fun _ => (and_ (fl1 (fun _ => rfl)) rfl)) (fun h => nomatch h) (dkw ⟨[(1, .ptr 64 0), (15, .bool (bif (!r1) then true else (decide ((a0.intents.length : Int) > 40)))), (18, .may ((bif (!r1) then true else (decide ((a0.intents.length : Int) > 40))) == false) (.lst 1 (r3.map eI))), (19, .may ((bif (!r1) then true else (decide ((a0.intents.length : Int) > 40))) == false) (.ptr 64 0)), (20, .may ((bif (!r1) then true else (decide ((a0.intents.length : Int) > 40))) == false) (.ptr 64 1)), (21, .may ((bif (!r1) then true else (decide ((a0.intents.length : Int) > 40))) == false) (iV a0.table.next)), (22, .may ((bif (!r1) then true else (decide ((a0.intents.length : Int) > 40))) == false) (iV (IntKind.i64.wrap (a0.table.next - 1))))], [(64, [iV a0.table.clock, iV a0.table.next, .lst 4 (a0.table.list_.map eDLease), .lst 2 (a0.intents.map eDIntent), .lst 1 (a0.accounts.map eI), .bool a0.sealed])], []⟩ (fgk (by kernel_rfl)) ⟨[], ⟨⟨.inl tv, (againg (v := iV (IntKind.i64.wrap (a0.table.next - 1))) rfl (fun hg => (cp_ ⟨(fun _ => hg), tv, tv⟩ rfl tv)) rfl)⟩, ⟨.inl tv, (againg (v := iV a0.table.next) rfl (fun hg => (cp_ ⟨(fun _ => hg), tv⟩ rfl (nl rfl))) rfl)⟩, ⟨.inl tv, (againg (v := .ptr 64 1) rfl (fun hg => (cp_ ⟨(fun _ => hg), tv⟩ rfl tv)) rfl)⟩, ⟨.inl tv, (againg (v := .ptr 64 0) rfl (fun hg => (cp_ ⟨tv, tv⟩ rfl tv)) rfl)⟩, tv⟩, tv, (dalt (callg_ (r := .bool r5) rfl false (fun hg => H59 r3 1 (IntKind.i64.wrap (a0.table.next - 1)) r5 (ip hg e6)) ⟨(fun hg => hg), tv, (fun hg => hg), tv⟩ (fun _ => rfl) (fun _ => rfl) (fun _ => rfl) (fun h => nomatch h) (dkw ⟨[(1, .ptr 64 0), (15, .bool (bif (!r1) then true else (decide ((a0.intents.length : Int) > 40)))), (23, .may ((bif (!r1) then true else (decide ((a0.intents.length : Int) > 40))) == false) (.bool r5))], [(64, [iV a0.table.clock, iV a0.table.next, .lst 4 (a0.table.list_.map eDLease), .lst 2 (a0.intents.map eDIntent), .lst 1 (a0.accounts.map eI), .bool a0.sealed])], []⟩ (fgk (by kernel_rfl)) ⟨[], tv, tv, (dtake tv (pg_ (u := .bool (!r5)) rfl (fun hg => (cp_ ⟨(fun _ => hg), tv⟩ rfl tv)) (⟨tv, (dtake tv (pick_ rfl rfl rfl tv (fun h => eqf h) rfl (⟨tv, (dtake tv (mv_ rfl tv (⟨tv, (dtake tv (pg_ (u := .ptr 64 4) rfl (fun hg => (cp_ ⟨tv, tv⟩ rfl tv)) (⟨tv, (dtake tv (pg_ (u := .lst 1 (a0.accounts.map eI)) rfl (fun hg => (cp_ ⟨(fun _ => hg), tv⟩ rfl (nl rfl))) (⟨tv, (dtake tv (pg_ (u := iV (a0.accounts.length : Int)) rfl (fun hg => (clenL (e := eI) (l0 := a0.accounts) rfl rfl (fun _ => hg))) (⟨tv, (dtake tv (pg_ (u := .bool (decide ((a0.accounts.length : Int) > 80))) rfl (fun hg => (cp_ ⟨(fun _ => hg), tv, tv⟩ rfl tv)) (⟨tv, (dtake tv (pick_ rfl rfl rfl tv (fun h => eqf h) rfl (⟨tv, (dtake tv (mv_ rfl tv (⟨tv, (dtake tv (pg_ (u := .ptr 64 4) rfl (fun hg => (cp_ ⟨tv, tv⟩ rfl tv)) (⟨tv, (dtake tv (pg_ (u := .lst 1 (a0.accounts.map eI)) rfl (fun hg => (cp_ ⟨(fun _ => hg), tv⟩ rfl (nl rfl))) (⟨tv, (dtake tv (pg_ (u := .ptr 64 0) rfl (fun hg => (cp_ ⟨tv, tv⟩ rfl tv)) ?_))⟩)))⟩)))⟩)))⟩)))⟩)))⟩)))⟩)))⟩)))⟩)))⟩)))⟩)))⟩)) dstop)⟩)) dstop)⟩)))⟩))
 refine ⟨tv, (dtake tv (pg_ (u := .ptr 64 1) rfl (fun hg => (cp_ ⟨(fun _ => hg), tv⟩ rfl tv)) (⟨tv, (dtake tv (pg_ (u := iV a0.table.next) rfl (fun hg => (cp_ ⟨(fun _ => hg), tv⟩ rfl (nl rfl))) (⟨tv, (dtake tv (pg_ (u := iV (IntKind.i64.wrap (a0.table.next - 1))) rfl (fun hg => (cp_ ⟨(fun _ => hg), tv, tv⟩ rfl tv)) (⟨tv, (dalt (callg_ (r := .bool r7) rfl false (fun hg => H59 a0.accounts 1 (IntKind.i64.wrap (a0.table.next - 1)) r7 (ip hg e8)) ⟨(fun hg => hg), tv, (fun hg => hg), tv⟩ (fun _ => rfl) (fun _ => rfl) (fun _ => rfl) (fun h => nomatch h) (dkw ⟨[(1, .ptr 64 0), (32, .bool (bif (bif (bif (!r1) then true else (decide ((a0.intents.length : Int) > 40))) then true else (!r5)) then true else (decide ((a0.accounts.length : Int) > 80)))), (39, .may ((bif (bif (bif (!r1) then true else (decide ((a0.intents.length : Int) > 40))) then true else (!r5)) then true else (decide ((a0.accounts.length : Int) > 80))) == false) (.bool r7))], [(64, [iV a0.table.clock, iV a0.table.next, .lst 4 (a0.table.list_.map eDLease), .lst 2 (a0.intents.map eDIntent), .lst 1 (a0.accounts.map eI), .bool a0.sealed])], []⟩ (fgk (by kernel_rfl)) ⟨[], tv, tv, (dtake tv (pg_ (u := .bool (!r7)) rfl (fun hg => (cp_ ⟨(fun _ => hg), tv⟩ rfl tv)) (⟨tv, (dtake tv (pick_ rfl rfl rfl tv (fun h => eqf h) rfl (⟨tv, (dfin ?_)⟩)))⟩)))⟩)) dstop)⟩)))⟩)))⟩)))⟩
 obtain ⟨v9, e10, h0⟩ := bl h0
 refine wk_ ⟨[(1, .ptr 64 0), (41, .bool v9)], [(64, [iV a0.table.clock, iV a0.table.next, .lst 4 (a0.table.list_.map eDLease), .lst 2 (a0.intents.map eDIntent), .lst 1 (a0.accounts.map eI), .bool a0.sealed])], []⟩ (fgk (by subst e10; kernel_rfl)) (ite_ (cb := v9) rfl (fun c11 => ?_) (fun c11 => ?_))
 ·replace h0 := ip c11 h0
  refine seq_ (reg_ (st (mvc_ tv (oe_ (wk_ ⟨[(2, .bool false)], [], []⟩ (fgk (by kernel_rfl)) ?_)))))
  obtain rfl := Option.some.inj h0
  exact rt_ (ret_ rfl rfl rfl rfl rfl tv)
 ·replace h0 := inb c11 h0
  refine sk_ (wk_ ⟨[(1, .ptr 64 0)], [(64, [iV a0.table.clock, iV a0.table.next, .lst 4 (a0.table.list_.map eDLease), .lst 2 (a0.intents.map eDIntent), .lst 1 (a0.accounts.map eI), .bool a0.sealed])], []⟩ (fgk (by kernel_rfl)) (seq_ (reg_ (st (c_ (v := .agg (eDVault a0)) (cp_ ⟨tv, tv⟩ rfl (nl rfl)) ?_)))))
  obtain ⟨r12, e13, h0⟩ := bnd h0
  refine st (call0_ (r := .tup [iV r12.1, .bool r12.2]) false (H96 a0 r12 e13) ⟨tv, tv⟩ rfl rfl (fun _ => rfl) (st (mv_ rfl tv (st (c_ (cp_ ⟨tv, tv⟩ rfl tv) (st (c_ (cp_ ⟨tv, tv⟩ rfl tv) (st (mv_ rfl tv (st (mv_ rfl tv (oe_ (wk_ ⟨[(1, .ptr 64 0), (4, .bool r12.2)], [(64, [iV a0.table.clock, iV a0.table.next, .lst 4 (a0.table.list_.map eDLease), .lst 2 (a0.intents.map eDIntent), .lst 1 (a0.accounts.map eI), .bool a0.sealed])], []⟩ (fgk (by kernel_rfl)) (seq_ (reg_ (st (mv_ rfl tv (st (c_ (cp_ ⟨tv, tv⟩ rfl tv) (st (mv_ rfl tv (st (pg_ (u := .ptr 64 3) rfl (fun hg => (cp_ ⟨tv, tv⟩ rfl tv)) (st (pg_ (u := .lst 2 (a0.intents.map eDIntent)) rfl (fun hg => (cp_ ⟨(fun _ => hg), tv⟩ rfl (nl rfl))) ?_)))))))))))))))))))))))))
  obtain ⟨r14, e15, h0⟩ := bnd h0
  refine st (callg_ (r := .own 0 0 1 (r14.map eI)) rfl false (fun hg => H95 a0.intents r14 (ip hg e15)) ⟨(fun hg => hg), tv⟩ (fun _ => rfl) (fun _ => rfl) (fun _ => (and_ (fl1 (fun _ => rfl)) rfl)) (fun h => nomatch h) (st (pg_ (u := .clo 98 [.ptr 64 0]) rfl (fun hg => (cp_ ⟨tv, tv⟩ rfl rfl)) ?_)))
  obtain ⟨r16, e17, h0⟩ := bnd h0
  refine sw ⟨[(49, .bool (!r12.2)), (52, .may ((!r12.2) == true) (.lst 1 (r14.map eI))), (53, .may ((!r12.2) == true) (.clo 98 [.ptr 64 0]))], [(64, [iV a0.table.clock, iV a0.table.next, .lst 4 (a0.table.list_.map eDLease), .lst 2 (a0.intents.map eDIntent), .lst 1 (a0.accounts.map eI), .bool a0.sealed])], []⟩ (fgk (by kernel_rfl)) (callg_ (r := .bool r16) rfl false (fun hg => H97 r14 98 [.iptr [iV a0.table.clock, iV a0.table.next, .lst 4 (a0.table.list_.map eDLease), .lst 2 (a0.intents.map eDIntent), .lst 1 (a0.accounts.map eI), .bool a0.sealed]] (fun z98_0 => g98 z98_0 a0) (⟨fun _ _ _ _ _ => rfl, fun _ _ _ _ _ => rfl, rfl, fun _ _ _ n => by cases n <;> rfl, fun _ => rfl⟩) (fun z98_0 r h => H98 z98_0 a0 r h) r16 (ip hg e17)) ⟨(fun hg => hg), (fun hg => hg), tv⟩ (fun _ => rfl) (fun _ => rfl) (fun _ => rfl) (fun h => nomatch h) (st (pick_ rfl rfl rfl (fun h => eqt h) tv rfl (st (mv_ rfl tv (oe_ (wk_ ⟨[(2, .bool (bif (!r12.2) then r16 else false))], [], []⟩ (fgk (by kernel_rfl)) ?_)))))))
  obtain rfl := Option.some.inj h0
  exact rt_ (ret_ rfl rfl rfl rfl rfl tv)

/- loop.example/g00149/impl.isList[int] -/
def c87_r0 : List Ins := [⟨some 2, .p (.mv (.c (.bool false))), none⟩]
def c87_r1 : List Ins := [(iQ 3 (.mv (.t 0))),
(iQ 4 (.len (.t 3))),
⟨some 5, .p (.bin .leq (.t 4) (.c (iV 4096))), none⟩,
(iQ 2 (.mv (.t 5)))]
def c87 : XFn := { np := 1, nt := 6, res := [.t 2], body := (.seq (.reg c87_r0) (.seq (.reg c87_r1) .ret)) }
def K87 (C : CRel) : Prop := ∀ (a0 : List Int) (r : Bool), g87 a0 = some r → C 87 ⟨[.lst 1 (a0.map eI)], []⟩ ⟨.bool r, [], []⟩
theorem F87 {C : CRel}  (a0 : List Int) (r : Bool) (h0 : g87 a0 = some r) : FnOK C c87 ⟨[.lst 1 (a0.map eI)], []⟩ ⟨.bool r, [], []⟩ := by
 refine fn_ (nl rfl) (seq_ (reg_ (st (mvc_ tv (oe_ (wk_ ⟨[(0, .lst 1 (a0.map eI))], [], []⟩ (fgk (by kernel_rfl)) (seq_ (reg_ (st (mv_ rfl tv (st (c_ (clenL (e := eI) (l0 := a0) rfl rfl tv) (st (c_ (cp_ t3 rfl tv) (st (mv_ rfl tv (oe_ (wk_ ⟨[(2, .bool (decide ((a0.length : Int) ≤ 4096)))], [], []⟩ (fgk (by kernel_rfl)) ?_))))))))))))))))))
 obtain rfl := Option.some.inj h0
 exact rt_ (ret_ rfl rfl rfl rfl rfl tv)

/- slices.Clone[[]int,int] -/
def c120_r0 : List Ins := [⟨some 2, .nilS 1, none⟩]
def c120_r1 : List Ins := [(iQ 3 (.mv (.t 0))),
⟨some 4, .isnil (.t 3) false, none⟩]
def c120_r2 : List Ins := [⟨some 2, .nilS 1, none⟩]
def c120_r3 : List Ins := [⟨some 5, .mkS 1 [(iV 0)] 0 [], none⟩,
(iQ 6 (.mv (.t 0))),
⟨some 7, .app 1 8 (.t 5) (.t 6), none⟩,
(iQ 2 (.mv (.t 7)))]
def c120 : XFn := { np := 1, nt := 8, res := [.t 2], body := (.seq (.reg c120_r0) (.seq (.seq (.reg c120_r1) (.ite (.t 4) (.seq (.reg c120_r2) .ret) .skip)) (.seq (.reg c120_r3) .ret))) }
def K120 (C : CRel) : Prop := ∀ (a0 : List Int) (r : List Int), g120 a0 = some r → C 120 ⟨[.lst 1 (a0.map eI)], []⟩ ⟨.own 0 0 1 (r.map eI), [], []⟩
theorem F120 {C : CRel} (a0 : List Int) (r : List Int) (h0 : g120 a0 = some r) : FnOK C c120 ⟨[.lst 1 (a0.map eI)], []⟩ ⟨.own 0 0 1 (r.map eI), [], []⟩ := by
 refine fn_ (nl rfl) ?_
 obtain ⟨hc, h0⟩ := grd h0
 obtain rfl := Option.some.inj h0
 refine seq_ (reg_ (st (nilS_ (oe_ (wk_ ⟨[(0, .lst 1 (a0.map eI))], [], []⟩ (fg ⟨rfl, tv⟩ tv) (seq_ (seq_ (reg_ (st (mv_ rfl tv (st (isnilL (e := eI) (l0 := a0) rfl fun b hb => (oe_ (w0_ (ite_ (cb := b) rfl (fun h => ?_) (fun h => ?_))))))))))))))))
 ·obtain rfl := hb h
  refine seq_ (reg_ (st (nilS_ (oe_ (w0_ ?_)))))
  refine rt_ (ret_ rfl rfl rfl rfl rfl tv)
 ·refine sk_ ?_
  refine wk_ ⟨[(0, .lst 1 (a0.map eI))], [], []⟩ (fg ⟨rfl, tv⟩ tv) (seq_ (reg_ (st (mkS_ tv tv (st (mv_ rfl tv (st (app_ (e := eI) (l0 := ([] : List Int)) (l1 := a0) rfl rfl tv rfl (by decide) ?_ ?_))))))))
  rotate_left
  refine st (mv_ rfl tv (oe_ (w0_ ?_)))
  refine rt_ (ret_ rfl rfl rfl rfl rfl tv)
  have := Nat.mul_le_mul_right 8 hc
  exact Nat.le_trans this (by decide)

/- loop.example/g00149/impl.isList[loop.example/g00149/impl.Pair] -/
def c321_r0 : List Ins := [⟨some 2, .p (.mv (.c (.bool false))), none⟩]
def c321_r1 : List Ins := [(iQ 3 (.mv (.t 0))),
(iQ 4 (.len (.t 3))),
⟨some 5, .p (.bin .leq (.t 4) (.c (iV 4096))), none⟩,
(iQ 2 (.mv (.t 5)))]
def c321 : XFn := { np := 1, nt := 6, res := [.t 2], body := (.seq (.reg c321_r0) (.seq (.reg c321_r1) .ret)) }
def K321 (C : CRel) : Prop := ∀ (a0 : List DPair) (r : Bool), g321 a0 = some r → C 321 ⟨[.lst 2 (a0.map eDPair)], []⟩ ⟨.bool r, [], []⟩
theorem F321 {C : CRel}  (a0 : List DPair) (r : Bool) (h0 : g321 a0 = some r) : FnOK C c321 ⟨[.lst 2 (a0.map eDPair)], []⟩ ⟨.bool r, [], []⟩ := by
 refine fn_ (nl rfl) (seq_ (reg_ (st (mvc_ tv (oe_ (wk_ ⟨[(0, .lst 2 (a0.map eDPair))], [], []⟩ (fgk (by kernel_rfl)) (seq_ (reg_ (st (mv_ rfl tv (st (c_ (clenL (e := eDPair) (l0 := a0) rfl rfl tv) (st (c_ (cp_ t3 rfl tv) (st (mv_ rfl tv (oe_ (wk_ ⟨[(2, .bool (decide ((a0.length : Int) ≤ 4096)))], [], []⟩ (fgk (by kernel_rfl)) ?_))))))))))))))))))
 obtain rfl := Option.some.inj h0
 exact rt_ (ret_ rfl rfl rfl rfl rfl tv)

/- loop.example/g00149/impl.isKey -/
def c362_r0 : List Ins := [⟨some 2, .p (.mv (.c (.bool false))), none⟩]
def c362_r1 : List Ins := [(iQ 3 (.mv (.t 0))),
(iQ 4 (.lenS (.t 3))),
⟨some 5, .call 63 [(.t 4), (.c (iV 1)), (.c (iV 60))], none⟩,
(iQ 2 (.mv (.t 5)))]
def c362 : XFn := { np := 1, nt := 6, res := [.t 2], body := (.seq (.reg c362_r0) (.seq (.reg c362_r1) .ret)) }
def K362 (C : CRel) : Prop := ∀ (a0 : List UInt8) (r : Bool), g362 a0 = some r → C 362 ⟨[.str a0], []⟩ ⟨.bool r, [], []⟩
theorem F362 {C : CRel} (H63 : K63 C) (a0 : List UInt8) (r : Bool) (h0 : g362 a0 = some r) : FnOK C c362 ⟨[.str a0], []⟩ ⟨.bool r, [], []⟩ := by
 refine fn_ (nl rfl) (seq_ (reg_ (st (mvc_ tv (oe_ (wk_ ⟨[(0, .str a0)], [], []⟩ (fgk (by kernel_rfl)) (seq_ (reg_ (st (mv_ rfl tv (st (c_ (cp_ ⟨tv, tv⟩ rfl tv) ?_))))))))))))
 obtain ⟨r1, e2, h0⟩ := bnd h0
 refine st (call0_ (r := .bool r1) false (H63 (a0.length : Int) 1 60 r1 e2) ⟨tv, tv, tv, tv⟩ rfl rfl (fun _ => rfl) (st (mv_ rfl tv (oe_ (wk_ ⟨[(2, .bool r1)], [], []⟩ (fgk (by kernel_rfl)) ?_)))))
 obtain rfl := Option.some.inj h0
 exact rt_ (ret_ rfl rfl rfl rfl rfl tv)

/- loop.example/g00149/impl.isStore -/
def c322_r0 : List Ins := [⟨some 2, .p (.mv (.c (.bool false))), none⟩]
def c322_r1 : List Ins := [(iQ 5 (.mv (.t 0))),
(iQ 6 (.len (.t 5))),
⟨some 7, .p (.mv (.c (iV 0))), none⟩]
def c322_r2 : List Ins := [(iQ 8 (.bin .lss (.t 7) (.t 6)))]
def c322_r3 : List Ins := [(iQ 9 (.mv (.t 7))),
(iQ 10 (.idxA (.t 5) (.t 7) 2)),
(iQ 11 (.load (.t 10) 2 true)),
⟨some 4, .alloc [(.str []), (.str [])], none⟩,
(iQ 3 (.mv (.t 9))),
⟨none, .store (.t 4) (.t 11) 2, none⟩]
def c322_r4 : DP := (.take (iQ 12 (.fieldA (.t 4) 0))
(.take (iQ 13 (.load (.t 12) 1 false))
(.alt [] ⟨some 14, .call 362 [(.t 13)], none⟩
(.take (iQ 15 (.un .not (.t 14)))
(.take (iQ 16 (.mv (.t 15)))
(.take ⟨some 17, .p (.fieldA (.t 4) 1), some (16, false)⟩
(.take ⟨some 18, .p (.load (.t 17) 1 false), some (16, false)⟩
(.take ⟨some 19, .p (.lenS (.t 18)), some (16, false)⟩
(.take ⟨some 20, .p (.bin .gtr (.t 19) (.c (iV 400))), some (16, false)⟩
(.take ⟨some 21, .pick (.t 16) (.c (.bool true)) (.t 20), none⟩
(.take (iQ 22 (.mv (.t 21)))
(.take ⟨some 23, .p (.mv (.t 3)), some (22, false)⟩
(.take ⟨some 24, .p (.bin .gtr (.t 23) (.c (iV 0))), some (22, false)⟩
(.take ⟨some 25, .p (.mv (.t 24)), some (22, false)⟩
(.take ⟨some 26, .p (.mv (.t 0)), some (25, true)⟩
(.take ⟨some 27, .p (.mv (.t 3)), some (25, true)⟩
(.take ⟨some 28, .p (.bin .sub (.t 27) (.c (iV 1))), some (25, true)⟩
(.take ⟨some 29, .p (.idxA (.t 26) (.t 28) 2), some (25, true)⟩
(.take ⟨some 30, .p (.fieldA (.t 29) 0), some (25, true)⟩
(.take ⟨some 31, .p (.load (.t 30) 1 false), some (25, true)⟩
(.take ⟨some 32, .p (.fieldA (.t 4) 0), some (25, true)⟩
(.take ⟨some 33, .p (.load (.t 32) 1 false), some (25, true)⟩
(.take ⟨some 34, .p (.bin .geq (.t 31) (.t 33)), some (25, true)⟩
(.take ⟨some 35, .pick (.t 25) (.t 34) (.c (.bool false)), some (22, false)⟩
(.take ⟨some 36, .pick (.t 22) (.c (.bool true)) (.t 35), none⟩
.fin))))))))))))))))))))))
.stop)))
def c322_r5 : List Ins := [⟨some 2, .p (.mv (.c (.bool false))), none⟩]
def c322_r6 : List Ins := [⟨some 37, .p (.bin .add (.t 7) (.c (iV 1))), none⟩,
(iQ 7 (.mv (.t 37)))]
def c322_l0 : IR := (.seq (.reg c322_r2) (.seq (.ite (.t 8) .skip (.exit 0)) (.seq (.block 1 (.seq (.reg c322_r3) (.seq (.draw c322_r4) (.ite (.t 36) (.seq (.reg c322_r5) .ret) .skip)))) (.reg c322_r6))))
def c322_r7 : List Ins := [(iQ 38 (.mv (.t 0))),
(iQ 39 (.len (.t 38))),
⟨some 40, .p (.bin .leq (.t 39) (.c (iV 100))), none⟩,
(iQ 2 (.mv (.t 40)))]
def c322 : XFn := { np := 1, nt := 41, res := [.t 2], body := (.seq (.reg c322_r0) (.seq (.seq (.reg c322_r1) (.block 0 (.loop c322_l0))) (.seq (.reg c322_r7) .ret))) }
def K322 (C : CRel) : Prop := ∀ (a0 : List DPair) (r : Bool), g322 a0 = some r → C 322 ⟨[.lst 2 (a0.map eDPair)], []⟩ ⟨.bool r, [], []⟩
theorem F322 {C : CRel} (H362 : K362 C) (a0 : List DPair) (r : Bool) (h0 : g322 a0 = some r) : FnOK C c322 ⟨[.lst 2 (a0.map eDPair)], []⟩ ⟨.bool r, [], []⟩ := by
 refine fn_ (nl rfl) (seq_ (reg_ (st (mvc_ tv (oe_ (wk_ ⟨[(0, .lst 2 (a0.map eDPair))], [], []⟩ (fgk (by kernel_rfl)) (seq_ (seq_ (reg_ (st (mv_ rfl tv (st (c_ (clenL (e := eDPair) (l0 := a0) rfl rfl tv) (st (mvc_ tv (oe_ (wk_ ⟨[(0, .lst 2 (a0.map eDPair)), (5, .lst 2 (a0.map eDPair)), (6, iV (a0.length : Int)), (7, iV 0)], [], []⟩ (fgk (by kernel_rfl)) (block_ ?_))))))))))))))))))
 obtain ⟨r33, e34, h0⟩ := bnd h0
 refine loop_ (R := (fun S => .inl () = r33 ∧ S = ⟨[(0, .lst 2 (a0.map eDPair))], [], []⟩)) (g322_l0 a0) (fun s S => match s with | p11 => S = ⟨[(0, .lst 2 (a0.map eDPair)), (5, .lst 2 (a0.map eDPair)), (6, iV (a0.length : Int)), (7, iV p11)], [], []⟩) e34 ⟨[(0, .lst 2 (a0.map eDPair)), (5, .lst 2 (a0.map eDPair)), (6, iV (a0.length : Int)), (7, iV 0)], [], []⟩ (fgk (by kernel_rfl)) rfl 0 (fun _ => rfl) ?_ ?_
 ·rintro S _ hfg ⟨rfl, rfl⟩
  refine wk_ ⟨[(0, .lst 2 (a0.map eDPair))], [], []⟩ (fglk hfg (by kernel_rfl)) (seq_ (reg_ (st (mv_ rfl tv (st (c_ (clenL (e := eDPair) (l0 := a0) rfl rfl tv) (st (c_ (cp_ t3 rfl tv) (st (mv_ rfl tv (oe_ (wk_ ⟨[(2, .bool (decide ((a0.length : Int) ≤ 100)))], [], []⟩ (fgk (by kernel_rfl)) ?_))))))))))))
  obtain rfl := Option.some.inj h0
  exact rt_ (ret_ rfl rfl rfl rfl rfl tv)
 ·rintro p11 o1 _ K1 rfl h1 hx1 hK1 hE1 hR1
  refine seq_ (reg_ (st (c_ (cp_ t3 rfl tv) (oe_ (wk_ ⟨[(0, .lst 2 (a0.map eDPair)), (5, .lst 2 (a0.map eDPair)), (6, iV (a0.length : Int)), (7, iV p11), (8, .bool (decide (p11 < (a0.length : Int))))], [], []⟩ (fgk (by kernel_rfl)) (seq_ (ite_ (cb := (decide (p11 < (a0.length : Int)))) rfl (fun c23 => ?_) (fun c23 => ?_))))))))
  ·replace h1 := ip c23 h1
   refine sk_ (wk_ ⟨[(0, .lst 2 (a0.map eDPair)), (5, .lst 2 (a0.map eDPair)), (6, iV (a0.length : Int)), (7, iV p11)], [], []⟩ (fgk (by kernel_rfl)) (seq_ (block_ (seq_ (reg_ (st (mv_ rfl tv ?_)))))))
   obtain ⟨y24, e25, h1⟩ := bnd h1
   refine st (c_ (cidxL (e := eDPair) (y := y24) rfl rfl tv rfl rfl tv e25) (st (c_ (v := .agg (eDPair y24)) (cp_ ⟨tv, tv⟩ rfl (nl rfl)) (st (alloc_ (st (mv_ rfl tv (st (stp_ rfl rfl tv rfl rfl rfl (nl rfl) (oe_ (wk_ ⟨[(0, .lst 2 (a0.map eDPair)), (3, iV p11), (4, .ptr 256 0), (5, .lst 2 (a0.map eDPair)), (6, iV (a0.length : Int)), (7, iV p11)], [(256, [.str y24.key, .str y24.value])], []⟩ (fgk (by kernel_rfl)) (seq_ ?_))))))))))))
   obtain ⟨r26, e27, h1⟩ := bnd h1
   obtain ⟨y28, e29, h1⟩ := bnd h1
   refine draw_ (dtake tv (c_ (cp_ ⟨tv, tv⟩ rfl tv) (⟨tv, (dtake tv (c_ (cp_ ⟨tv, tv⟩ rfl (nl rfl)) (⟨tv, (dalt (call0_ (r := .bool r26) false (H362 y24.key r26 e27) ⟨tv, tv⟩ rfl rfl (fun _ => rfl) (dkw ⟨[(0, .lst 2 (a0.map eDPair)), (3, iV p11), (4, .ptr 256 0), (5, .lst 2 (a0.map eDPair)), (6, iV (a0.length : Int)), (7, iV p11), (14, .bool r26)], [(256, [.str y24.key, .str y24.value])], []⟩ (fgk (by kernel_rfl)) ⟨[], tv, tv, (dtake tv (c_ (cp_ ⟨tv, tv⟩ rfl tv) (⟨tv, (dtake tv (mv_ rfl tv (⟨tv, (dtake tv (pg_ (u := .ptr 256 1) rfl (fun hg => (cp_ ⟨tv, tv⟩ rfl tv)) (⟨tv, (dtake tv (pg_ (u := .str y24.value) rfl (fun hg => (cp_ ⟨(fun _ => hg), tv⟩ rfl (nl rfl))) (⟨tv, (dtake tv (pg_ (u := iV (y24.value.length : Int)) rfl (fun hg => (cp_ ⟨(fun _ => hg), tv⟩ rfl tv)) (⟨tv, (dtake tv (pg_ (u := .bool (decide ((y24.value.length : Int) > 400))) rfl (fun hg => (cp_ ⟨(fun _ => hg), tv, tv⟩ rfl tv)) (⟨tv, (dtake tv (pick_ rfl rfl rfl tv (fun h => eqf h) rfl (⟨tv, (dtake tv (mv_ rfl tv (⟨tv, (dtake tv (pg_ (u := iV p11) rfl (fun hg => (cmv (v := iV p11) rfl tv)) (⟨tv, (dtake tv (pg_ (u := .bool (decide (p11 > 0))) rfl (fun hg => (cp_ ⟨(fun _ => hg), tv, tv⟩ rfl tv)) (⟨tv, (dtake tv (pg_ (u := .bool (decide (p11 > 0))) rfl (fun hg => (cmv (v := .may ((bif (!r26) then true else (decide ((y24.value.length : Int) > 400))) == false) (.bool (decide (p11 > 0)))) rfl (fun _ => hg))) (⟨tv, (dtake tv (pg_ (u := .lst 2 (a0.map eDPair)) rfl (fun hg => (cmv (v := .lst 2 (a0.map eDPair)) rfl tv)) (⟨tv, ?_⟩)))⟩)))⟩)))⟩)))⟩)))⟩)))⟩)))⟩)))⟩)))⟩)))⟩)))⟩)))⟩)) dstop)⟩)))⟩)))
   refine dtake tv (pg_ (u := iV p11) rfl (fun hg => (cmv (v := iV p11) rfl tv)) (⟨tv, (dtake tv (pg_ (u := iV (IntKind.i64.wrap (p11 - 1))) rfl (fun hg => (cp_ ⟨(fun _ => hg), tv, tv⟩ rfl tv)) (⟨tv, (dtake tv (pg_ (u := .iptr [.str y28.key, .str y28.value]) rfl (fun hg => (cidxL (e := eDPair) (y := y28) rfl rfl (fun _ => hg) rfl rfl (fun _ => hg) (ip hg e29))) (⟨tv, (dtake tv (pg_ (u := .iptr [.str y28.key, .str y28.value]) rfl (fun hg => (cp_ ⟨(fun _ => hg), tv⟩ rfl (nl rfl))) (⟨tv, (dtake tv (pg_ (u := .str y28.key) rfl (fun hg => (cp_ ⟨(fun _ => hg), tv⟩ rfl (nl rfl))) (⟨tv, (dtake tv (pg_ (u := .ptr 256 0) rfl (fun hg => (cp_ ⟨tv, tv⟩ rfl tv)) (⟨tv, (dtake tv (pg_ (u := .str y24.key) rfl (fun hg => (cp_ ⟨(fun _ => hg), tv⟩ rfl (nl rfl))) (⟨tv, (dtake tv (pg_ (u := .bool (!(Op.bytesLess y28.key y24.key))) rfl (fun hg => (cp_ ⟨(fun _ => hg), (fun _ => hg), tv⟩ rfl tv)) (⟨tv, (dtake tv (pickg_ (u := .bool (bif (decide (p11 > 0)) then (!(Op.bytesLess y28.key y24.key)) else false)) rfl (fun hg => cpick rfl rfl (fun _ => hg) rfl rfl (fun h => and_ hg (eqt h)) tv rfl) (⟨tv, (dtake tv (pick_ rfl rfl rfl tv (fun h => eqf h) rfl (⟨tv, (dfin ?_)⟩)))⟩)))⟩)))⟩)))⟩)))⟩)))⟩)))⟩)))⟩)))⟩))
   obtain ⟨v30, e31, h1⟩ := bl h1
   refine wk_ ⟨[(0, .lst 2 (a0.map eDPair)), (5, .lst 2 (a0.map eDPair)), (6, iV (a0.length : Int)), (7, iV p11), (36, .bool v30)], [], []⟩ (fgk (by subst e31; kernel_rfl)) (ite_ (cb := v30) rfl (fun c32 => ?_) (fun c32 => ?_))
   ·replace h1 := ip c32 h1
    refine seq_ (reg_ (st (mvc_ tv (oe_ (wk_ ⟨[(2, .bool false)], [], []⟩ (fgk (by kernel_rfl)) ?_)))))
    obtain rfl := Option.some.inj h1
    obtain rfl := hx1 _ rfl
    obtain rfl := Option.some.inj h0
    exact rt_ (hR1 _ (ret_ rfl rfl rfl rfl rfl tv))
   ·replace h1 := inb c32 h1
    refine sk_ (bn_ (wk_ ⟨[(0, .lst 2 (a0.map eDPair)), (5, .lst 2 (a0.map eDPair)), (6, iV (a0.length : Int)), (7, iV p11)], [], []⟩ (fgk (by kernel_rfl)) (reg_ (st (c_ (cp_ t3 rfl tv) (st (mv_ rfl tv (oe_ ?_))))))))
    obtain rfl := Option.some.inj h1
    exact hK1 _ rfl _ ⟨[(0, .lst 2 (a0.map eDPair)), (5, .lst 2 (a0.map eDPair)), (6, iV (a0.length : Int)), (7, iV (IntKind.i64.wrap (p11 + 1)))], [], []⟩ (fgk (by kernel_rfl)) rfl
  ·replace h1 := inb c23 h1
   obtain rfl := Option.some.inj h1
   obtain rfl := hx1 _ rfl
   refine exQ rfl ?_
   exact hE1 _ ⟨[(0, .lst 2 (a0.map eDPair))], [], []⟩ (fgk (by kernel_rfl)) ⟨rfl, rfl⟩

/- internal/stringslite.HasPrefix -/
def c375_r0 : List Ins := [⟨some 4, .p (.mv (.c (.bool false))), none⟩]
def c375_r1 : List Ins := [(iQ 5 (.mv (.t 0))),
(iQ 6 (.lenS (.t 5))),
(iQ 7 (.mv (.t 1))),
(iQ 8 (.lenS (.t 7))),
(iQ 9 (.bin .geq (.t 6) (.t 8))),
(iQ 10 (.mv (.t 9))),
⟨some 11, .p (.mv (.t 0)), some (10, true)⟩,
⟨some 12, .p (.mv (.t 1)), some (10, true)⟩,
⟨some 13, .p (.lenS (.t 12)), some (10, true)⟩,
⟨some 14, .p (.sliceStr (.t 11) none (some (.t 13))), some (10, true)⟩,
⟨some 15, .p (.mv (.t 1)), some (10, true)⟩,
⟨some 16, .p (.bin .eql (.t 14) (.t 15)), some (10, true)⟩,
⟨some 17, .pick (.t 10) (.t 16) (.c (.bool false)), none⟩,
(iQ 4 (.mv (.t 17)))]
def c375 : XFn := { np := 2, nt := 18, res := [.t 4], body := (.seq (.reg c375_r0) (.seq (.reg c375_r1) .ret)) }
def K375 (C : CRel) : Prop := ∀ (a0 : List UInt8) (a1 : List UInt8) (r : Bool), g375 a0 a1 = some r → C 375 ⟨[.str a0, .str a1], []⟩ ⟨.bool r, [], []⟩
theorem F375 {C : CRel}  (a0 : List UInt8) (a1 : List UInt8) (r : Bool) (h0 : g375 a0 a1 = some r) : FnOK C c375 ⟨[.str a0, .str a1], []⟩ ⟨.bool r, [], []⟩ := by
 refine fn_ (nl rfl) (seq_ (reg_ (st (mvc_ tv (oe_ (wk_ ⟨[(0, .str a0), (1, .str a1)], [], []⟩ (fgk (by kernel_rfl)) (seq_ (reg_ (st (mv_ rfl tv (st (c_ (cp_ ⟨tv, tv⟩ rfl tv) (st (mv_ rfl tv (st (c_ (cp_ ⟨tv, tv⟩ rfl tv) (st (c_ (cp_ t3 rfl tv) (st (mv_ rfl tv (st (pg_ (u := .str a0) rfl (fun hg => (cmv (v := .str a0) rfl tv)) (st (pg_ (u := .str a1) rfl (fun hg => (cmv (v := .str a1) rfl tv)) (st (pg_ (u := iV (a1.length : Int)) rfl (fun hg => (cp_ ⟨(fun _ => hg), tv⟩ rfl tv)) ?_))))))))))))))))))))))))))
 obtain ⟨s1, e2, h0⟩ := bnd h0
 refine st (pg_ (u := .str s1) rfl (fun hg => (csliceS (y := s1) rfl rfl (fun _ => hg) ⟨(fun _ => hg), tv⟩ rfl rfl (ip hg e2))) (st (pg_ (u := .str a1) rfl (fun hg => (cmv (v := .str a1) rfl tv)) (st (pg_ (u := .bool (s1 == a1)) rfl (fun hg => (cp_ ⟨(fun _ => hg), (fun _ => hg), tv⟩ rfl tv)) (st (pick_ rfl rfl rfl (fun h => eqt h) tv rfl (st (mv_ rfl tv (oe_ ?_))))))))))
 obtain ⟨v3, e4, h0⟩ := bl h0
 refine wk_ ⟨[(4, .bool v3)], [], []⟩ (fgk (by subst e4; kernel_rfl)) ?_
 obtain rfl := Option.some.inj h0
 exact rt_ (ret_ rfl rfl rfl rfl rfl tv)

/- internal/stringslite.CutPrefix -/
def c372_r0 : List Ins := [⟨some 4, .p (.mv (.c (.str []))), none⟩,
⟨some 5, .p (.mv (.c (.bool false))), none⟩]
def c372_r1 : List Ins := [(iQ 6 (.mv (.t 0))),
(iQ 7 (.mv (.t 1))),
⟨some 8, .call 375 [(.t 6), (.t 7)], none⟩,
(iQ 9 (.un .not (.t 8)))]
def c372_r2 : List Ins := [(iQ 10 (.mv (.t 0))),
(iQ 4 (.mv (.t 10))),
⟨some 5, .p (.mv (.c (.bool false))), none⟩]
def c372_r3 : List Ins := [(iQ 11 (.mv (.t 0))),
(iQ 12 (.mv (.t 1))),
(iQ 13 (.lenS (.t 12))),
⟨some 14, .p (.sliceStr (.t 11) (some (.t 13)) none), none⟩,
(iQ 4 (.mv (.t 14))),
⟨some 5, .p (.mv (.c (.bool true))), none⟩]
def c372 : XFn := { np := 2, nt := 15, res := [.t 4, .t 5], body := (.seq (.reg c372_r0) (.seq (.seq (.reg c372_r1) (.ite (.t 9) (.seq (.reg c372_r2) .ret) .skip)) (.seq (.reg c372_r3) .ret))) }
def K372 (C : CRel) : Prop := ∀ (a0 : List UInt8) (a1 : List UInt8) (r : (List UInt8) × Bool), g372 a0 a1 = some r → C 372 ⟨[.str a0, .str a1], []⟩ ⟨.tup [.str r.1, .bool r.2], [], []⟩
theorem F372 {C : CRel} (H375 : K375 C) (a0 : List UInt8) (a1 : List UInt8) (r : (List UInt8) × Bool) (h0 : g372 a0 a1 = some r) : FnOK C c372 ⟨[.str a0, .str a1], []⟩ ⟨.tup [.str r.1, .bool r.2], [], []⟩ := by
 refine fn_ (nl rfl) (seq_ (reg_ (st (mvc_ tv (st (mvc_ tv (oe_ (wk_ ⟨[(0, .str a0), (1, .str a1)], [], []⟩ (fgk (by kernel_rfl)) (seq_ (seq_ (reg_ (st (mv_ rfl tv (st (mv_ rfl tv ?_)))))))))))))))
 obtain ⟨r1, e2, h0⟩ := bnd h0
 refine st (call0_ (r := .bool r1) false (H375 a0 a1 r1 e2) ⟨tv, tv, tv⟩ rfl rfl (fun _ => rfl) (st (c_ (cp_ ⟨tv, tv⟩ rfl tv) (oe_ (wk_ ⟨[(0, .str a0), (1, .str a1), (9, .bool (!r1))], [], []⟩ (fgk (by kernel_rfl)) (ite_ (cb := (!r1)) rfl (fun c3 => ?_) (fun c3 => ?_)))))))
 ·replace h0 := ip c3 h0
  refine seq_ (reg_ (st (mv_ rfl tv (st (mv_ rfl tv (st (mvc_ tv (oe_ (wk_ ⟨[(4, .str a0), (5, .bool false)], [], []⟩ (fgk (by kernel_rfl)) ?_)))))))))
  obtain rfl := Option.some.inj h0
  exact rt_ (ret_ rfl rfl rfl rfl rfl tv)
 ·replace h0 := inb c3 h0
  refine sk_ (wk_ ⟨[(0, .str a0), (1, .str a1)], [], []⟩ (fgk (by kernel_rfl)) (seq_ (reg_ (st (mv_ rfl tv (st (mv_ rfl tv (st (c_ (cp_ ⟨tv, tv⟩ rfl tv) ?_)))))))))
  obtain ⟨s4, e5, h0⟩ := bnd h0
  refine st (c_ (csliceS (y := s4) rfl rfl tv ⟨tv, tv⟩ rfl rfl e5) (st (mv_ rfl tv (st (mvc_ tv (oe_ (wk_ ⟨[(4, .str s4), (5, .bool true)], [], []⟩ (fgk (by kernel_rfl)) ?_)))))))
  obtain rfl := Option.some.inj h0
  exact rt_ (ret_ rfl rfl rfl rfl rfl tv)

/- strings.CutPrefix -/
def c363_r0 : List Ins := [⟨some 4, .p (.mv (.c (.str []))), none⟩,
⟨some 5, .p (.mv (.c (.bool false))), none⟩]
def c363_r1 : List Ins := [(iQ 6 (.mv (.t 0))),
(iQ 7 (.mv (.t 1))),
⟨some 8, .call 372 [(.t 6), (.t 7)], none⟩,
(iQ 9 (.ext (.t 8) 0)),
(iQ 10 (.ext (.t 8) 1)),
(iQ 4 (.mv (.t 9))),
(iQ 5 (.mv (.t 10)))]
def c363 : XFn := { np := 2, nt := 11, res := [.t 4, .t 5], body := (.seq (.reg c363_r0) (.seq (.reg c363_r1) .ret)) }
def K363 (C : CRel) : Prop := ∀ (a0 : List UInt8) (a1 : List UInt8) (r : (List UInt8) × Bool), g363 a0 a1 = some r → C 363 ⟨[.str a0, .str a1], []⟩ ⟨.tup [.str r.1, .bool r.2], [], []⟩
theorem F363 {C : CRel} (H372 : K372 C) (a0 : List UInt8) (a1 : List UInt8) (r : (List UInt8) × Bool) (h0 : g363 a0 a1 = some r) : FnOK C c363 ⟨[.str a0, .str a1], []⟩ ⟨.tup [.str r.1, .bool r.2], [], []⟩ := by
 refine fn_ (nl rfl) (seq_ (reg_ (st (mvc_ tv (st (mvc_ tv (oe_ (wk_ ⟨[(0, .str a0), (1, .str a1)], [], []⟩ (fgk (by kernel_rfl)) (seq_ (reg_ (st (mv_ rfl tv (st (mv_ rfl tv ?_))))))))))))))
 obtain ⟨r1, e2, h0⟩ := bnd h0
 refine st (call0_ (r := .tup [.str r1.1, .bool r1.2]) false (H372 a0 a1 r1 e2) ⟨tv, tv, tv⟩ rfl rfl (fun _ => rfl) (st (c_ (cp_ ⟨tv, tv⟩ rfl tv) (st (c_ (cp_ ⟨tv, tv⟩ rfl tv) (st (mv_ rfl tv (st (mv_ rfl tv (oe_ (wk_ ⟨[(4, .str r1.1), (5, .bool r1.2)], [], []⟩ (fgk (by kernel_rfl)) ?_)))))))))))
 obtain rfl := Option.some.inj h0
 exact rt_ (ret_ rfl rfl rfl rfl rfl tv)

/- internal/stringslite.IndexByte -/
def c370_r0 : List Ins := [⟨some 4, .p (.mv (.c (iV 0))), none⟩]
def c370_r1 : List Ins := [(iQ 5 (.mv (.t 0))),
(iQ 6 (.mv (.t 1))),
(iQ 7 (.xbyte (.t 5) (.t 6))),
(iQ 4 (.mv (.t 7)))]
def c370 : XFn := { np := 2, nt := 8, res := [.t 4], body := (.seq (.reg c370_r0) (.seq (.reg c370_r1) .ret)) }
def K370 (C : CRel) : Prop := ∀ (a0 : List UInt8) (a1 : UInt8) (r : Int), g370 a0 a1 = some r → C 370 ⟨[.str a0, .int .u8 ((a1).toNat : Int)], []⟩ ⟨iV r, [], []⟩
theorem F370 {C : CRel}  (a0 : List UInt8) (a1 : UInt8) (r : Int) (h0 : g370 a0 a1 = some r) : FnOK C c370 ⟨[.str a0, .int .u8 ((a1).toNat : Int)], []⟩ ⟨iV r, [], []⟩ := by
 refine fn_ (nl rfl) (seq_ (reg_ (st (mvc_ tv (oe_ (wk_ ⟨[(0, .str a0), (1, .int .u8 ((a1).toNat : Int))], [], []⟩ (fgk (by kernel_rfl)) (seq_ (reg_ (st (mv_ rfl tv (st (mv_ rfl tv (st (c_ (cxbyte rfl rfl tv rfl rfl tv) (st (mv_ rfl tv (oe_ (wk_ ⟨[(4, iV (byteAt a0 ((a1).toNat : Int)))], [], []⟩ (fgk (by kernel_rfl)) ?_))))))))))))))))))
 obtain rfl := Option.some.inj h0
 exact rt_ (ret_ rfl rfl rfl rfl rfl tv)

/- strings.IndexByte -/
def c341_r0 : List Ins := [⟨some 4, .p (.mv (.c (iV 0))), none⟩]
def c341_r1 : List Ins := [(iQ 5 (.mv (.t 0))),
(iQ 6 (.mv (.t 1))),
⟨some 7, .call 370 [(.t 5), (.t 6)], none⟩,
(iQ 4 (.mv (.t 7)))]
def c341 : XFn := { np := 2, nt := 8, res := [.t 4], body := (.seq (.reg c341_r0) (.seq (.reg c341_r1) .ret)) }
def K341 (C : CRel) : Prop := ∀ (a0 : List UInt8) (a1 : UInt8) (r : Int), g341 a0 a1 = some r → C 341 ⟨[.str a0, .int .u8 ((a1).toNat : Int)], []⟩ ⟨iV r, [], []⟩
theorem F341 {C : CRel} (H370 : K370 C) (a0 : List UInt8) (a1 : UInt8) (r : Int) (h0 : g341 a0 a1 = some r) : FnOK C c341 ⟨[.str a0, .int .u8 ((a1).toNat : Int)], []⟩ ⟨iV r, [], []⟩ := by
 refine fn_ (nl rfl) (seq_ (reg_ (st (mvc_ tv (oe_ (wk_ ⟨[(0, .str a0), (1, .int .u8 ((a1).toNat : Int))], [], []⟩ (fgk (by kernel_rfl)) (seq_ (reg_ (st (mv_ rfl tv (st (mv_ rfl tv ?_))))))))))))
 obtain ⟨r1, e2, h0⟩ := bnd h0
 refine st (call0_ (r := iV r1) false (H370 a0 a1 r1 e2) ⟨tv, tv, tv⟩ rfl rfl (fun _ => rfl) (st (mv_ rfl tv (oe_ (wk_ ⟨[(4, iV r1)], [], []⟩ (fgk (by kernel_rfl)) ?_)))))
 obtain rfl := Option.some.inj h0
 exact rt_ (ret_ rfl rfl rfl rfl rfl tv)

/- loop.example/g00149/impl.readHex -/
def c364_r0 : List Ins := [⟨some 2, .p (.mv (.c (iV 0))), none⟩,
⟨some 3, .p (.mv (.c (.str []))), none⟩,
⟨some 4, .p (.mv (.c (.bool false))), none⟩]
def c364_r1 : List Ins := [(iQ 9 (.mv (.t 0))),
(iQ 10 (.lenS (.t 9))),
⟨some 11, .p (.bin .lss (.t 10) (.c (iV 16))), none⟩,
(iQ 12 (.mv (.t 11))),
⟨some 13, .p (.mv (.t 0)), some (12, false)⟩,
⟨some 14, .p (.idxStr (.t 13) (.c (iV 0))), some (12, false)⟩,
⟨some 15, .p (.bin .gtr (.t 14) (.c (.int .u8 55))), some (12, false)⟩,
⟨some 16, .pick (.t 12) (.c (.bool true)) (.t 15), none⟩]
def c364_r2 : List Ins := [⟨some 2, .p (.mv (.c (iV 0))), none⟩,
⟨some 3, .p (.mv (.c (.str []))), none⟩,
⟨some 4, .p (.mv (.c (.bool false))), none⟩]
def c364_r3 : List Ins := [⟨some 5, .p (.mv (.c (iV 0))), none⟩]
def c364_r4 : List Ins := [(iQ 17 (.mv (.t 0))),
⟨some 18, .p (.sliceStr (.t 17) none (some (.c (iV 16)))), none⟩,
⟨some 19, .toBytes (.t 18), none⟩,
(iQ 20 (.len (.t 19))),
⟨some 21, .p (.mv (.c (iV 0))), none⟩]
def c364_r5 : List Ins := [(iQ 22 (.bin .lss (.t 21) (.t 20)))]
def c364_r6 : List Ins := [(iQ 23 (.idxA (.t 19) (.t 21) 1)),
(iQ 24 (.load (.t 23) 1 false)),
(iQ 7 (.mv (.t 24)))]
def c364_r7 : List Ins := [(iQ 25 (.mv (.t 7))),
⟨some 26, .call 341 [(.c (.str [48, 49, 50, 51, 52, 53, 54, 55, 56, 57, 97, 98, 99, 100, 101, 102])), (.t 25)], none⟩,
(iQ 8 (.mv (.t 26)))]
def c364_r8 : List Ins := [(iQ 27 (.mv (.t 8))),
⟨some 28, .p (.bin .lss (.t 27) (.c (iV 0))), none⟩]
def c364_r9 : List Ins := [⟨some 2, .p (.mv (.c (iV 0))), none⟩,
⟨some 3, .p (.mv (.c (.str []))), none⟩,
⟨some 4, .p (.mv (.c (.bool false))), none⟩]
def c364_r10 : List Ins := [(iQ 29 (.mv (.t 5))),
⟨some 30, .p (.bin .shl (.t 29) (.c (.int .u64 4))), none⟩,
(iQ 31 (.mv (.t 8))),
(iQ 32 (.bin .or (.t 30) (.t 31))),
(iQ 5 (.mv (.t 32)))]
def c364_r11 : List Ins := [⟨some 33, .p (.bin .add (.t 21) (.c (iV 1))), none⟩,
(iQ 21 (.mv (.t 33)))]
def c364_l0 : IR := (.seq (.reg c364_r5) (.seq (.ite (.t 22) .skip (.exit 0)) (.seq (.block 1 (.seq (.reg c364_r6) (.seq (.reg c364_r7) (.seq (.seq (.reg c364_r8) (.ite (.t 28) (.seq (.reg c364_r9) .ret) .skip)) (.reg c364_r10))))) (.reg c364_r11))))
def c364_r12 : DP := (.take (iQ 34 (.mv (.t 5)))
(.take (iQ 35 (.mv (.t 0)))
(.take ⟨some 36, .p (.sliceStr (.t 35) (some (.c (iV 16))) none), none⟩
(.take (iQ 2 (.mv (.t 34)))
(.take (iQ 3 (.mv (.t 36)))
(.take ⟨some 4, .p (.mv (.c (.bool true))), none⟩
.fin))))))
def c364 : XFn := { np := 1, nt := 37, res := [.t 2, .t 3, .t 4], body := (.seq (.reg c364_r0) (.seq (.seq (.reg c364_r1) (.ite (.t 16) (.seq (.reg c364_r2) .ret) .skip)) (.seq (.reg c364_r3) (.seq (.seq (.reg c364_r4) (.block 0 (.loop c364_l0))) (.seq (.draw c364_r12) .ret))))) }
def K364 (C : CRel) : Prop := ∀ (a0 : List UInt8) (r : Int × (List UInt8) × Bool), g364 a0 = some r → C 364 ⟨[.str a0], []⟩ ⟨.tup [iV r.1, .str r.2.1, .bool r.2.2], [], []⟩
theorem F364 {C : CRel} (H341 : K341 C) (a0 : List UInt8) (r : Int × (List UInt8) × Bool) (h0 : g364 a0 = some r) : FnOK C c364 ⟨[.str a0], []⟩ ⟨.tup [iV r.1, .str r.2.1, .bool r.2.2], [], []⟩ := by
 refine fn_ (nl rfl) (seq_ (reg_ (st (mvc_ tv (st (mvc_ tv (st (mvc_ tv (oe_ (wk_ ⟨[(0, .str a0)], [], []⟩ (fgk (by kernel_rfl)) (seq_ (seq_ (reg_ (st (mv_ rfl tv (st (c_ (cp_ ⟨tv, tv⟩ rfl tv) (st (c_ (cp_ t3 rfl tv) (st (mv_ rfl tv (st (pg_ (u := .str a0) rfl (fun hg => (cmv (v := .str a0) rfl tv)) ?_)))))))))))))))))))))))
 obtain ⟨y1, e2, h0⟩ := bnd h0
 refine st (pg_ (u := .int .u8 ((y1).toNat : Int)) rfl (fun hg => (cidxS (y := y1) rfl rfl (fun _ => hg) rfl rfl tv (ip hg e2))) (st (pg_ (u := .bool (decide (((y1).toNat : Int) > 55))) rfl (fun hg => (cp_ ⟨(fun _ => hg), tv, tv⟩ rfl tv)) (st (pick_ rfl rfl rfl tv (fun h => eqf h) rfl (oe_ ?_))))))
 obtain ⟨v3, e4, h0⟩ := bl h0
 refine wk_ ⟨[(0, .str a0), (16, .bool v3)], [], []⟩ (fgk (by subst e4; kernel_rfl)) (ite_ (cb := v3) rfl (fun c5 => ?_) (fun c5 => ?_))
 ·replace h0 := ip c5 h0
  refine seq_ (reg_ (st (mvc_ tv (st (mvc_ tv (st (mvc_ tv (oe_ (wk_ ⟨[(2, iV 0), (3, .str ([] : List UInt8)), (4, .bool false)], [], []⟩ (fgk (by kernel_rfl)) ?_)))))))))
  obtain rfl := Option.some.inj h0
  exact rt_ (ret_ rfl rfl rfl rfl rfl tv)
 ·replace h0 := inb c5 h0
  refine sk_ (wk_ ⟨[(0, .str a0)], [], []⟩ (fgk (by kernel_rfl)) (seq_ (reg_ (st (mvc_ tv (oe_ (wk_ ⟨[(0, .str a0), (5, iV 0)], [], []⟩ (fgk (by kernel_rfl)) (seq_ (seq_ (reg_ (st (mv_ rfl tv ?_))))))))))))
  obtain ⟨s6, e7, h0⟩ := bnd h0
  refine st (c_ (csliceS (y := s6) rfl rfl tv ⟨tv, tv⟩ rfl rfl e7) (st (toBytes_ rfl (st (c_ (clenL (e := eU8) (l0 := s6) rfl rfl tv) (st (mvc_ tv (oe_ (wk_ ⟨[(0, .str a0), (5, iV 0), (19, .lst 1 (s6.map eU8)), (20, iV (s6.length : Int)), (21, iV 0)], [], []⟩ (fgk (by kernel_rfl)) (block_ ?_))))))))))
  obtain ⟨r31, e32, h0⟩ := bnd h0
  refine loop_ (R := (fun S => ∃ p24 : Int, .inl p24 = r31 ∧ S = ⟨[(0, .str a0), (5, iV p24)], [], []⟩)) (g364_l0 s6) (fun s S => match s with | (p14, p15) => S = ⟨[(0, .str a0), (5, iV p14), (19, .lst 1 (s6.map eU8)), (20, iV (s6.length : Int)), (21, iV p15)], [], []⟩) e32 ⟨[(0, .str a0), (5, iV 0), (19, .lst 1 (s6.map eU8)), (20, iV (s6.length : Int)), (21, iV 0)], [], []⟩ (fgk (by kernel_rfl)) rfl 0 (fun _ => rfl) ?_ ?_
  ·rintro S _ hfg ⟨p24, rfl, rfl⟩
   refine wk_ ⟨[(0, .str a0), (5, iV p24)], [], []⟩ (fglk hfg (by kernel_rfl)) (seq_ ?_)
   obtain ⟨s33, e34, h0⟩ := bnd h0
   refine draw_ (dtake tv (mv_ rfl tv (⟨tv, (dtake tv (mv_ rfl tv (⟨tv, (dtake tv (c_ (csliceS (y := s33) rfl rfl tv ⟨tv, tv⟩ rfl rfl e34) (⟨tv, (dtake tv (mv_ rfl tv (⟨tv, (dtake tv (mv_ rfl tv (⟨tv, (dtake tv (mvc_ tv (⟨tv, (dfin (wk_ ⟨[(2, iV p24), (3, .str s33), (4, .bool true)], [], []⟩ (fgk (by kernel_rfl)) ?_))⟩)))⟩)))⟩)))⟩)))⟩)))⟩)))
   obtain rfl := Option.some.inj h0
   exact rt_ (ret_ rfl rfl rfl rfl rfl tv)
  ·rintro ⟨p14, p15⟩ o1 _ K1 rfl h1 hx1 hK1 hE1 hR1
   refine seq_ (reg_ (st (c_ (cp_ t3 rfl tv) (oe_ (wk_ ⟨[(0, .str a0), (5, iV p14), (19, .lst 1 (s6.map eU8)), (20, iV (s6.length : Int)), (21, iV p15), (22, .bool (decide (p15 < (s6.length : Int))))], [], []⟩ (fgk (by kernel_rfl)) (seq_ (ite_ (cb := (decide (p15 < (s6.length : Int)))) rfl (fun c25 => ?_) (fun c25 => ?_))))))))
   ·replace h1 := ip c25 h1
    refine sk_ (wk_ ⟨[(0, .str a0), (5, iV p14), (19, .lst 1 (s6.map eU8)), (20, iV (s6.length : Int)), (21, iV p15)], [], []⟩ (fgk (by kernel_rfl)) (seq_ (block_ (seq_ (reg_ ?_)))))
    obtain ⟨y26, e27, h1⟩ := bnd h1
    refine st (c_ (cidxL (e := eU8) (y := y26) rfl rfl tv rfl rfl tv e27) (st (c_ (cp_ ⟨tv, tv⟩ rfl (nl rfl)) (st (mv_ rfl tv (oe_ (wk_ ⟨[(0, .str a0), (5, iV p14), (7, .int .u8 ((y26).toNat : Int)), (19, .lst 1 (s6.map eU8)), (20, iV (s6.length : Int)), (21, iV p15)], [], []⟩ (fgk (by kernel_rfl)) (seq_ (reg_ (st (mv_ rfl tv ?_)))))))))))
    obtain ⟨r28, e29, h1⟩ := bnd h1
    refine st (call0_ (r := iV r28) false (H341 ([48, 49, 50, 51, 52, 53, 54, 55, 56, 57, 97, 98, 99, 100, 101, 102] : List UInt8) y26 r28 e29) ⟨tv, tv, tv⟩ rfl rfl (fun _ => rfl) (st (mv_ rfl tv (oe_ (wk_ ⟨[(0, .str a0), (5, iV p14), (8, iV r28), (19, .lst 1 (s6.map eU8)), (20, iV (s6.length : Int)), (21, iV p15)], [], []⟩ (fgk (by kernel_rfl)) (seq_ (seq_ (reg_ (st (mv_ rfl tv (st (c_ (cp_ t3 rfl tv) (oe_ (wk_ ⟨[(0, .str a0), (5, iV p14), (8, iV r28), (19, .lst 1 (s6.map eU8)), (20, iV (s6.length : Int)), (21, iV p15), (28, .bool (decide (r28 < 0)))], [], []⟩ (fgk (by kernel_rfl)) (ite_ (cb := (decide (r28 < 0))) rfl (fun c30 => ?_) (fun c30 => ?_))))))))))))))))
    ·replace h1 := ip c30 h1
     refine seq_ (reg_ (st (mvc_ tv (st (mvc_ tv (st (mvc_ tv (oe_ (wk_ ⟨[(2, iV 0), (3, .str ([] : List UInt8)), (4, .bool false)], [], []⟩ (fgk (by kernel_rfl)) ?_)))))))))
     obtain rfl := Option.some.inj h1
     obtain rfl := hx1 _ rfl
     obtain rfl := Option.some.inj h0
     exact rt_ (hR1 _ (ret_ rfl rfl rfl rfl rfl tv))
    ·replace h1 := inb c30 h1
     refine sk_ (wk_ ⟨[(0, .str a0), (5, iV p14), (8, iV r28), (19, .lst 1 (s6.map eU8)), (20, iV (s6.length : Int)), (21, iV p15)], [], []⟩ (fgk (by kernel_rfl)) (reg_ (st (mv_ rfl tv (st (c_ (cp_ ⟨tv, tv, tv⟩ rfl (by decide)) (st (mv_ rfl tv (st (c_ (cp_ t3 rfl tv) (st (mv_ rfl tv (oe_ (bn_ (wk_ ⟨[(0, .str a0), (5, iV (ior .i64 (ishl .i64 p14 4) r28)), (19, .lst 1 (s6.map eU8)), (20, iV (s6.length : Int)), (21, iV p15)], [], []⟩ (fgk (by kernel_rfl)) (reg_ (st (c_ (cp_ t3 rfl tv) (st (mv_ rfl tv (oe_ ?_)))))))))))))))))))))
     obtain rfl := Option.some.inj h1
     exact hK1 _ rfl _ ⟨[(0, .str a0), (5, iV (ior .i64 (ishl .i64 p14 4) r28)), (19, .lst 1 (s6.map eU8)), (20, iV (s6.length : Int)), (21, iV (IntKind.i64.wrap (p15 + 1)))], [], []⟩ (fgk (by kernel_rfl)) rfl
   ·replace h1 := inb c25 h1
    obtain rfl := Option.some.inj h1
    obtain rfl := hx1 _ rfl
    refine exQ rfl ?_
    exact hE1 _ ⟨[(0, .str a0), (5, iV p14)], [], []⟩ (fgk (by kernel_rfl)) ⟨_, rfl, rfl⟩

/- loop.example/g00149/impl.readTwo -/
def c365_r0 : List Ins := [⟨some 6, .p (.mv (.c (iV 0))), none⟩,
⟨some 7, .p (.mv (.c (iV 0))), none⟩,
⟨some 8, .p (.mv (.c (.bool false))), none⟩,
⟨some 9, .p (.mv (.c (.bool false))), none⟩]
def c365_r1 : List Ins := [(iQ 17 (.mv (.t 0))),
⟨some 18, .call 364 [(.t 17)], none⟩,
(iQ 16 (.mv (.t 18))),
(iQ 19 (.ext (.t 16) 0)),
(iQ 20 (.ext (.t 16) 1)),
(iQ 21 (.ext (.t 16) 2)),
(iQ 10 (.mv (.t 19))),
(iQ 11 (.mv (.t 20))),
(iQ 12 (.mv (.t 21)))]
def c365_r2 : List Ins := [(iQ 23 (.mv (.t 11))),
⟨some 24, .call 364 [(.t 23)], none⟩,
(iQ 22 (.mv (.t 24))),
(iQ 25 (.ext (.t 22) 0)),
(iQ 26 (.ext (.t 22) 1)),
(iQ 27 (.ext (.t 22) 2)),
(iQ 13 (.mv (.t 25))),
(iQ 14 (.mv (.t 26))),
(iQ 15 (.mv (.t 27)))]
def c365_r3 : List Ins := [(iQ 28 (.mv (.t 10))),
(iQ 29 (.mv (.t 13))),
(iQ 30 (.mv (.t 14))),
(iQ 31 (.mv (.t 1))),
(iQ 32 (.bin .eql (.t 30) (.t 31))),
(iQ 33 (.mv (.t 12))),
(iQ 34 (.mv (.t 33))),
⟨some 35, .p (.mv (.t 15)), some (34, true)⟩,
⟨some 36, .pick (.t 34) (.t 35) (.c (.bool false)), none⟩,
(iQ 37 (.mv (.t 36))),
⟨some 38, .p (.mv (.t 14)), some (37, true)⟩,
⟨some 39, .p (.mv (.t 1)), some (37, true)⟩,
⟨some 40, .p (.bin .eql (.t 38) (.t 39)), some (37, true)⟩,
⟨some 41, .p (.mv (.t 40)), some (37, true)⟩,
⟨some 42, .p (.mv (.t 14)), some (41, false)⟩,
⟨some 43, .p (.mv (.t 2)), some (41, false)⟩,
⟨some 44, .p (.bin .eql (.t 42) (.t 43)), some (41, false)⟩,
⟨some 45, .pick (.t 41) (.c (.bool true)) (.t 44), some (37, true)⟩,
⟨some 46, .pick (.t 37) (.t 45) (.c (.bool false)), none⟩,
(iQ 6 (.mv (.t 28))),
(iQ 7 (.mv (.t 29))),
(iQ 8 (.mv (.t 32))),
(iQ 9 (.mv (.t 46)))]
def c365 : XFn := { np := 3, nt := 47, res := [.t 6, .t 7, .t 8, .t 9], body := (.seq (.reg c365_r0) (.seq (.reg c365_r1) (.seq (.reg c365_r2) (.seq (.reg c365_r3) .ret)))) }
def K365 (C : CRel) : Prop := ∀ (a0 : List UInt8) (a1 : List UInt8) (a2 : List UInt8) (r : Int × Int × Bool × Bool), g365 a0 a1 a2 = some r → C 365 ⟨[.str a0, .str a1, .str a2], []⟩ ⟨.tup [iV r.1, iV r.2.1, .bool r.2.2.1, .bool r.2.2.2], [], []⟩
theorem F365 {C : CRel} (H364 : K364 C) (a0 : List UInt8) (a1 : List UInt8) (a2 : List UInt8) (r : Int × Int × Bool × Bool) (h0 : g365 a0 a1 a2 = some r) : FnOK C c365 ⟨[.str a0, .str a1, .str a2], []⟩ ⟨.tup [iV r.1, iV r.2.1, .bool r.2.2.1, .bool r.2.2.2], [], []⟩ := by
 refine fn_ (nl rfl) (seq_ (reg_ (st (mvc_ tv (st (mvc_ tv (st (mvc_ tv (st (mvc_ tv (oe_ (wk_ ⟨[(0, .str a0), (1, .str a1), (2, .str a2)], [], []⟩ (fgk (by kernel_rfl)) (seq_ (reg_ (st (mv_ rfl tv ?_))))))))))))))))
 obtain ⟨r1, e2, h0⟩ := bnd h0
 refine st (call0_ (r := .tup [iV r1.1, .str r1.2.1, .bool r1.2.2]) false (H364 a0 r1 e2) ⟨tv, tv⟩ rfl rfl (fun _ => rfl) (st (mv_ rfl tv (st (c_ (cp_ ⟨tv, tv⟩ rfl tv) (st (c_ (cp_ ⟨tv, tv⟩ rfl tv) (st (c_ (cp_ ⟨tv, tv⟩ rfl tv) (st (mv_ rfl tv (st (mv_ rfl tv (st (mv_ rfl tv (oe_ (wk_ ⟨[(1, .str a1), (2, .str a2), (10, iV r1.1), (11, .str r1.2.1), (12, .bool r1.2.2)], [], []⟩ (fgk (by kernel_rfl)) (seq_ (reg_ (st (mv_ rfl tv ?_)))))))))))))))))))))
 obtain ⟨r3, e4, h0⟩ := bnd h0
 refine st (call0_ (r := .tup [iV r3.1, .str r3.2.1, .bool r3.2.2]) false (H364 r1.2.1 r3 e4) ⟨tv, tv⟩ rfl rfl (fun _ => rfl) (st (mv_ rfl tv (st (c_ (cp_ ⟨tv, tv⟩ rfl tv) (st (c_ (cp_ ⟨tv, tv⟩ rfl tv) (st (c_ (cp_ ⟨tv, tv⟩ rfl tv) (st (mv_ rfl tv (st (mv_ rfl tv (st (mv_ rfl tv (oe_ (wk_ ⟨[(1, .str a1), (2, .str a2), (10, iV r1.1), (12, .bool r1.2.2), (13, iV r3.1), (14, .str r3.2.1), (15, .bool r3.2.2)], [], []⟩ (fgk (by kernel_rfl)) (seq_ (reg_ (st (mv_ rfl tv (st (mv_ rfl tv (st (mv_ rfl tv (st (mv_ rfl tv (st (c_ (cp_ t3 rfl tv) (st (mv_ rfl tv (st (mv_ rfl tv (st (pg_ (u := .bool r3.2.2) rfl (fun hg => (cmv (v := .bool r3.2.2) rfl tv)) (st (pick_ rfl rfl rfl (fun h => eqt h) tv rfl (st (mv_ rfl tv (st (pg_ (u := .str r3.2.1) rfl (fun hg => (cmv (v := .str r3.2.1) rfl tv)) (st (pg_ (u := .str a1) rfl (fun hg => (cmv (v := .str a1) rfl tv)) (st (pg_ (u := .bool (r3.2.1 == a1)) rfl (fun hg => (cp_ ⟨(fun _ => hg), (fun _ => hg), tv⟩ rfl tv)) (st (pg_ (u := .bool (r3.2.1 == a1)) rfl (fun hg => (cmv (v := .may ((bif r1.2.2 then r3.2.2 else false) == true) (.bool (r3.2.1 == a1))) rfl (fun _ => hg))) (st (pg_ (u := .str r3.2.1) rfl (fun hg => (cmv (v := .str r3.2.1) rfl tv)) (sw ⟨[(2, .str a2), (28, iV r1.1), (29, iV r3.1), (32, .bool (r3.2.1 == a1)), (37, .bool (bif r1.2.2 then r3.2.2 else false)), (41, .may ((bif r1.2.2 then r3.2.2 else false) == true) (.bool (r3.2.1 == a1))), (42, .may (((bif r1.2.2 then r3.2.2 else false) == true) && ((r3.2.1 == a1) == false)) (.str r3.2.1))], [], []⟩ (fgk (by kernel_rfl)) (pg_ (u := .str a2) rfl (fun hg => (cmv (v := .str a2) rfl tv)) (st (pg_ (u := .bool (r3.2.1 == a2)) rfl (fun hg => (cp_ ⟨(fun _ => hg), (fun _ => hg), tv⟩ rfl tv)) (st (pickg_ (u := .bool (bif (r3.2.1 == a1) then true else (r3.2.1 == a2))) rfl (fun hg => cpick rfl rfl (fun _ => hg) rfl rfl tv (fun h => and_ hg (eqf h)) rfl) (st (pick_ rfl rfl rfl (fun h => eqt h) tv rfl ?_)))))))))))))))))))))))))))))))))))))))))))))))))))))))))
 refine st (mv_ rfl tv (st (mv_ rfl tv (st (mv_ rfl tv (st (mv_ rfl tv (oe_ ?_))))))))
 obtain ⟨v5, e6, h0⟩ := bl h0
 refine wk_ ⟨[(6, iV r1.1), (7, iV r3.1), (8, .bool (r3.2.1 == a1)), (9, .bool v5)], [], []⟩ (fgk (by subst e6; kernel_rfl)) ?_
 obtain rfl := Option.some.inj h0
 exact rt_ (ret_ rfl rfl rfl rfl rfl tv)
end Go.Ev
