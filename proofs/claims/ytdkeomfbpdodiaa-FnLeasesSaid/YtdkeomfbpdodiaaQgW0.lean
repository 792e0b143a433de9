/- The walks of functions: the code comes to the answers that QgD tells. Written by a program of ours. -/
import Derived.Test.YtdkeomfbpdodiaaQgD
set_option linter.all false
set_option maxHeartbeats 4000000
set_option linter.unusedVariables false
set_option maxRecDepth 100000
namespace Go.Ev
theorem tv : True := True.intro
abbrev iQ (n : Nat) (o : PU) : Ins := ⟨some n, .p o, none⟩
abbrev iV (n : Int) : V := .int .i64 n
theorem nl {a b : Nat} (h : Nat.ble a b = true) : a ≤ b := Nat.le_of_ble_eq_true h
theorem t3 : True ∧ True ∧ True := ⟨trivial, trivial, trivial⟩

/- loop.example/g00149/impl.within -/
def c63_r0 : List Ins := [⟨some 6, .p (.mv (.c (.bool false))), none⟩]
def c63_r1 : List Ins := [(iQ 7 (.mv (.t 1))),
(iQ 8 (.mv (.t 0))),
(iQ 9 (.bin .leq (.t 7) (.t 8))),
(iQ 10 (.mv (.t 9))),
⟨some 11, .p (.mv (.t 0)), some (10, true)⟩,
⟨some 12, .p (.mv (.t 2)), some (10, true)⟩,
⟨some 13, .p (.bin .leq (.t 11) (.t 12)), some (10, true)⟩,
⟨some 14, .pick (.t 10) (.t 13) (.c (.bool false)), none⟩,
(iQ 6 (.mv (.t 14)))]
def c63 : XFn := { np := 3, nt := 15, res := [.t 6], body := (.seq (.reg c63_r0) (.seq (.reg c63_r1) .ret)) }
def K63 (C : CRel) : Prop := ∀ (a0 : Int) (a1 : Int) (a2 : Int) (r : Bool), g63 a0 a1 a2 = some r → C 63 ⟨[iV a0, iV a1, iV a2], []⟩ ⟨.bool r, [], []⟩
theorem F63 {C : CRel}  (a0 : Int) (a1 : Int) (a2 : Int) (r : Bool) (h0 : g63 a0 a1 a2 = some r) : FnOK C c63 ⟨[iV a0, iV a1, iV a2], []⟩ ⟨.bool r, [], []⟩ := by
 refine fn_ (nl rfl) (seq_ (reg_ (st (mvc_ tv (oe_ (wk_ ⟨[(0, iV a0), (1, iV a1), (2, iV a2)], [], []⟩ (fgk (by kernel_rfl)) (seq_ (reg_ (st (mv_ rfl tv (st (mv_ rfl tv (st (c_ (cp_ t3 rfl tv) (st (mv_ rfl tv (st (pg_ (u := iV a0) rfl (fun hg => (cmv (v := iV a0) rfl tv)) (st (pg_ (u := iV a2) rfl (fun hg => (cmv (v := iV a2) rfl tv)) (st (pg_ (u := .bool (decide (a0 ≤ a2))) rfl (fun hg => (cp_ ⟨(fun _ => hg), (fun _ => hg), tv⟩ rfl tv)) (st (pick_ rfl rfl rfl (fun h => eqt h) tv rfl (st (mv_ rfl tv (oe_ (wk_ ⟨[(6, .bool (bif (decide (a1 ≤ a0)) then (decide (a0 ≤ a2)) else false))], [], []⟩ (fgk (by kernel_rfl)) ?_))))))))))))))))))))))))))))
 obtain rfl := Option.some.inj h0
 exact rt_ (ret_ rfl rfl rfl rfl rfl tv)

/- loop.example/g00149/impl.isSerial -/
def c58_r0 : List Ins := [⟨some 2, .p (.mv (.c (.bool false))), none⟩]
def c58_r1 : List Ins := [(iQ 3 (.mv (.t 0))),
⟨some 4, .call 63 [(.t 3), (.c (iV 1)), (.c (iV 1000000))], none⟩,
(iQ 2 (.mv (.t 4)))]
def c58 : XFn := { np := 1, nt := 5, res := [.t 2], body := (.seq (.reg c58_r0) (.seq (.reg c58_r1) .ret)) }
def K58 (C : CRel) : Prop := ∀ (a0 : Int) (r : Bool), g58 a0 = some r → C 58 ⟨[iV a0], []⟩ ⟨.bool r, [], []⟩
theorem F58 {C : CRel} (H63 : K63 C) (a0 : Int) (r : Bool) (h0 : g58 a0 = some r) : FnOK C c58 ⟨[iV a0], []⟩ ⟨.bool r, [], []⟩ := by
 refine fn_ (nl rfl) (seq_ (reg_ (st (mvc_ tv (oe_ (wk_ ⟨[(0, iV a0)], [], []⟩ (fgk (by kernel_rfl)) (seq_ (reg_ (st (mv_ rfl tv ?_))))))))))
 obtain ⟨r1, e2, h0⟩ := bnd h0
 refine st (call0_ (r := .bool r1) false (H63 a0 1 1000000 r1 e2) ⟨tv, tv, tv, tv⟩ rfl rfl (fun _ => rfl) (st (mv_ rfl tv (oe_ (wk_ ⟨[(2, .bool r1)], [], []⟩ (fgk (by kernel_rfl)) ?_)))))
 obtain rfl := Option.some.inj h0
 exact rt_ (ret_ rfl rfl rfl rfl rfl tv)

/- loop.example/g00149/impl.rises -/
def c59_r0 : List Ins := [⟨some 6, .p (.mv (.c (.bool false))), none⟩]
def c59_r1 : List Ins := [(iQ 9 (.mv (.t 0))),
(iQ 10 (.len (.t 9))),
⟨some 11, .p (.mv (.c (iV 0))), none⟩]
def c59_r2 : List Ins := [(iQ 12 (.bin .lss (.t 11) (.t 10)))]
def c59_r3 : List Ins := [(iQ 13 (.mv (.t 11))),
(iQ 14 (.idxA (.t 9) (.t 11) 1)),
(iQ 15 (.load (.t 14) 1 false)),
(iQ 7 (.mv (.t 13))),
(iQ 8 (.mv (.t 15)))]
def c59_r4 : List Ins := [(iQ 16 (.mv (.t 8))),
(iQ 17 (.mv (.t 1))),
(iQ 18 (.mv (.t 2))),
⟨some 19, .call 63 [(.t 16), (.t 17), (.t 18)], none⟩,
(iQ 20 (.un .not (.t 19))),
(iQ 21 (.mv (.t 20))),
⟨some 22, .p (.mv (.t 7)), some (21, false)⟩,
⟨some 23, .p (.bin .gtr (.t 22) (.c (iV 0))), some (21, false)⟩,
⟨some 24, .p (.mv (.t 23)), some (21, false)⟩,
⟨some 25, .p (.mv (.t 0)), some (24, true)⟩,
⟨some 26, .p (.mv (.t 7)), some (24, true)⟩,
⟨some 27, .p (.bin .sub (.t 26) (.c (iV 1))), some (24, true)⟩,
⟨some 28, .p (.idxA (.t 25) (.t 27) 1), some (24, true)⟩,
⟨some 29, .p (.load (.t 28) 1 false), some (24, true)⟩,
⟨some 30, .p (.mv (.t 8)), some (24, true)⟩,
⟨some 31, .p (.bin .geq (.t 29) (.t 30)), some (24, true)⟩,
⟨some 32, .pick (.t 24) (.t 31) (.c (.bool false)), some (21, false)⟩,
⟨some 33, .pick (.t 21) (.c (.bool true)) (.t 32), none⟩]
def c59_r5 : List Ins := [⟨some 6, .p (.mv (.c (.bool false))), none⟩]
def c59_r6 : List Ins := [⟨some 34, .p (.bin .add (.t 11) (.c (iV 1))), none⟩,
(iQ 11 (.mv (.t 34)))]
def c59_l0 : IR := (.seq (.reg c59_r2) (.seq (.ite (.t 12) .skip (.exit 0)) (.seq (.block 1 (.seq (.reg c59_r3) (.seq (.reg c59_r4) (.ite (.t 33) (.seq (.reg c59_r5) .ret) .skip)))) (.reg c59_r6))))
def c59_r7 : List Ins := [⟨some 6, .p (.mv (.c (.bool true))), none⟩]
def c59 : XFn := { np := 3, nt := 35, res := [.t 6], body := (.seq (.reg c59_r0) (.seq (.seq (.reg c59_r1) (.block 0 (.loop c59_l0))) (.seq (.reg c59_r7) .ret))) }
def K59 (C : CRel) : Prop := ∀ (a0 : List Int) (a1 : Int) (a2 : Int) (r : Bool), g59 a0 a1 a2 = some r → C 59 ⟨[.lst 1 (a0.map eI), iV a1, iV a2], []⟩ ⟨.bool r, [], []⟩
theorem F59 {C : CRel} (H63 : K63 C) (a0 : List Int) (a1 : Int) (a2 : Int) (r : Bool) (h0 : g59 a0 a1 a2 = some r) : FnOK C c59 ⟨[.lst 1 (a0.map eI), iV a1, iV a2], []⟩ ⟨.bool r, [], []⟩ := by
 refine fn_ (nl rfl) (seq_ (reg_ (st (mvc_ tv (oe_ (wk_ ⟨[(0, .lst 1 (a0.map eI)), (1, iV a1), (2, iV a2)], [], []⟩ (fgk (by kernel_rfl)) (seq_ (seq_ (reg_ (st (mv_ rfl tv (st (c_ (clenL (e := eI) (l0 := a0) rfl rfl tv) (st (mvc_ tv (oe_ (wk_ ⟨[(0, .lst 1 (a0.map eI)), (1, iV a1), (2, iV a2), (9, .lst 1 (a0.map eI)), (10, iV (a0.length : Int)), (11, iV 0)], [], []⟩ (fgk (by kernel_rfl)) (block_ ?_))))))))))))))))))
 obtain ⟨r33, e34, h0⟩ := bnd h0
 refine loop_ (R := (fun S => .inl () = r33 ∧ S = ⟨[], [], []⟩)) (g59_l0 a0 a1 a2) (fun s S => match s with | p11 => S = ⟨[(0, .lst 1 (a0.map eI)), (1, iV a1), (2, iV a2), (9, .lst 1 (a0.map eI)), (10, iV (a0.length : Int)), (11, iV p11)], [], []⟩) e34 ⟨[(0, .lst 1 (a0.map eI)), (1, iV a1), (2, iV a2), (9, .lst 1 (a0.map eI)), (10, iV (a0.length : Int)), (11, iV 0)], [], []⟩ (fgk (by kernel_rfl)) rfl 0 (fun _ => rfl) ?_ ?_
 ·rintro S _ hfg ⟨rfl, rfl⟩
  refine wk_ ⟨[], [], []⟩ (fglk hfg (by kernel_rfl)) (seq_ (reg_ (st (mvc_ tv (oe_ (wk_ ⟨[(6, .bool true)], [], []⟩ (fgk (by kernel_rfl)) ?_))))))
  obtain rfl := Option.some.inj h0
  exact rt_ (ret_ rfl rfl rfl rfl rfl tv)
 ·rintro p11 o1 _ K1 rfl h1 hx1 hK1 hE1 hR1
  refine seq_ (reg_ (st (c_ (cp_ t3 rfl tv) (oe_ (wk_ ⟨[(0, .lst 1 (a0.map eI)), (1, iV a1), (2, iV a2), (9, .lst 1 (a0.map eI)), (10, iV (a0.length : Int)), (11, iV p11), (12, .bool (decide (p11 < (a0.length : Int))))], [], []⟩ (fgk (by kernel_rfl)) (seq_ (ite_ (cb := (decide (p11 < (a0.length : Int)))) rfl (fun c23 => ?_) (fun c23 => ?_))))))))
  ·replace h1 := ip c23 h1
   refine sk_ (wk_ ⟨[(0, .lst 1 (a0.map eI)), (1, iV a1), (2, iV a2), (9, .lst 1 (a0.map eI)), (10, iV (a0.length : Int)), (11, iV p11)], [], []⟩ (fgk (by kernel_rfl)) (seq_ (block_ (seq_ (reg_ (st (mv_ rfl tv ?_)))))))
   obtain ⟨y24, e25, h1⟩ := bnd h1
   refine st (c_ (cidxL (e := eI) (y := y24) rfl rfl tv rfl rfl tv e25) (st (c_ (cp_ ⟨tv, tv⟩ rfl (nl rfl)) (st (mv_ rfl tv (st (mv_ rfl tv (oe_ (wk_ ⟨[(0, .lst 1 (a0.map eI)), (1, iV a1), (2, iV a2), (7, iV p11), (8, iV y24), (9, .lst 1 (a0.map eI)), (10, iV (a0.length : Int)), (11, iV p11)], [], []⟩ (fgk (by kernel_rfl)) (seq_ (reg_ (st (mv_ rfl tv (st (mv_ rfl tv (st (mv_ rfl tv ?_)))))))))))))))))
   obtain ⟨r26, e27, h1⟩ := bnd h1
   refine st (call0_ (r := .bool r26) false (H63 y24 a1 a2 r26 e27) ⟨tv, tv, tv, tv⟩ rfl rfl (fun _ => rfl) (st (c_ (cp_ ⟨tv, tv⟩ rfl tv) (st (mv_ rfl tv (st (pg_ (u := iV p11) rfl (fun hg => (cmv (v := iV p11) rfl tv)) (st (pg_ (u := .bool (decide (p11 > 0))) rfl (fun hg => (cp_ ⟨(fun _ => hg), tv, tv⟩ rfl tv)) (st (pg_ (u := .bool (decide (p11 > 0))) rfl (fun hg => (cmv (v := .may ((!r26) == false) (.bool (decide (p11 > 0)))) rfl (fun _ => hg))) (st (pg_ (u := .lst 1 (a0.map eI)) rfl (fun hg => (cmv (v := .lst 1 (a0.map eI)) rfl tv)) (st (pg_ (u := iV p11) rfl (fun hg => (cmv (v := iV p11) rfl tv)) (st (pg_ (u := iV (IntKind.i64.wrap (p11 - 1))) rfl (fun hg => (cp_ ⟨(fun _ => hg), tv, tv⟩ rfl tv)) ?_)))))))))))))))))
   obtain ⟨y28, e29, h1⟩ := bnd h1
   refine sw ⟨[(0, .lst 1 (a0.map eI)), (1, iV a1), (2, iV a2), (8, iV y24), (9, .lst 1 (a0.map eI)), (10, iV (a0.length : Int)), (11, iV p11), (21, .bool (!r26)), (24, .may ((!r26) == false) (.bool (decide (p11 > 0)))), (25, .may (((!r26) == false) && ((decide (p11 > 0)) == true)) (.lst 1 (a0.map eI))), (27, .may (((!r26) == false) && ((decide (p11 > 0)) == true)) (iV (IntKind.i64.wrap (p11 - 1))))], [], []⟩ (fgk (by kernel_rfl)) (pg_ (u := .iptr [iV y28]) rfl (fun hg => (cidxL (e := eI) (y := y28) rfl rfl (fun _ => hg) rfl rfl (fun _ => hg) (ip hg e29))) (st (pg_ (u := iV y28) rfl (fun hg => (cp_ ⟨(fun _ => hg), tv⟩ rfl (nl rfl))) (st (pg_ (u := iV y24) rfl (fun hg => (cmv (v := iV y24) rfl tv)) (st (pg_ (u := .bool (decide (y28 ≥ y24))) rfl (fun hg => (cp_ ⟨(fun _ => hg), (fun _ => hg), tv⟩ rfl tv)) (st (pickg_ (u := .bool (bif (decide (p11 > 0)) then (decide (y28 ≥ y24)) else false)) rfl (fun hg => cpick rfl rfl (fun _ => hg) rfl rfl (fun h => and_ hg (eqt h)) tv rfl) (st (pick_ rfl rfl rfl tv (fun h => eqf h) rfl (oe_ ?_))))))))))))
   obtain ⟨v30, e31, h1⟩ := bl h1
   refine wk_ ⟨[(0, .lst 1 (a0.map eI)), (1, iV a1), (2, iV a2), (9, .lst 1 (a0.map eI)), (10, iV (a0.length : Int)), (11, iV p11), (33, .bool v30)], [], []⟩ (fgk (by subst e31; kernel_rfl)) (ite_ (cb := v30) rfl (fun c32 => ?_) (fun c32 => ?_))
   ·replace h1 := ip c32 h1
    refine seq_ (reg_ (st (mvc_ tv (oe_ (wk_ ⟨[(6, .bool false)], [], []⟩ (fgk (by kernel_rfl)) ?_)))))
    obtain rfl := Option.some.inj h1
    obtain rfl := hx1 _ rfl
    obtain rfl := Option.some.inj h0
    exact rt_ (hR1 _ (ret_ rfl rfl rfl rfl rfl tv))
   ·replace h1 := inb c32 h1
    refine sk_ (bn_ (wk_ ⟨[(0, .lst 1 (a0.map eI)), (1, iV a1), (2, iV a2), (9, .lst 1 (a0.map eI)), (10, iV (a0.length : Int)), (11, iV p11)], [], []⟩ (fgk (by kernel_rfl)) (reg_ (st (c_ (cp_ t3 rfl tv) (st (mv_ rfl tv (oe_ ?_))))))))
    obtain rfl := Option.some.inj h1
    exact hK1 _ rfl _ ⟨[(0, .lst 1 (a0.map eI)), (1, iV a1), (2, iV a2), (9, .lst 1 (a0.map eI)), (10, iV (a0.length : Int)), (11, iV (IntKind.i64.wrap (p11 + 1)))], [], []⟩ (fgk (by kernel_rfl)) rfl
  ·replace h1 := inb c23 h1
   obtain rfl := Option.some.inj h1
   obtain rfl := hx1 _ rfl
   refine exQ rfl ?_
   exact hE1 _ ⟨[], [], []⟩ (fgk (by kernel_rfl)) ⟨rfl, rfl⟩

/- (loop.example/g00149/impl.Table).ids -/
def c60_r0 : List Ins := [⟨some 1, .box (.t 0), none⟩,
⟨some 2, .nilS 1, none⟩]
def c60_r1 : List Ins := [⟨some 3, .nilS 1, none⟩]
def c60_r2 : List Ins := [(iQ 6 (.fieldA (.t 1) 2)),
(iQ 7 (.load (.t 6) 1 false)),
(iQ 8 (.len (.t 7))),
⟨some 9, .p (.mv (.c (iV 0))), none⟩]
def c60_r3 : List Ins := [(iQ 10 (.bin .lss (.t 9) (.t 8)))]
def c60_r4 : List Ins := [(iQ 11 (.idxA (.t 7) (.t 9) 4)),
(iQ 12 (.load (.t 11) 4 true)),
⟨some 5, .alloc [(iV 0), (iV 0), (iV 0), (.bool false)], none⟩,
⟨none, .store (.t 5) (.t 12) 4, none⟩]
def c60_r5 : List Ins := [(iQ 13 (.mv (.t 3))),
(iQ 14 (.fieldA (.t 5) 0)),
(iQ 15 (.load (.t 14) 1 false)),
⟨some 16, .mkS 1 [(iV 0)] 1 [(0, (.t 15))], none⟩,
⟨some 17, .app 1 8 (.t 13) (.t 16), none⟩,
(iQ 3 (.mv (.t 17)))]
def c60_r6 : List Ins := [⟨some 18, .p (.bin .add (.t 9) (.c (iV 1))), none⟩,
(iQ 9 (.mv (.t 18)))]
def c60_l0 : IR := (.seq (.reg c60_r3) (.seq (.ite (.t 10) .skip (.exit 0)) (.seq (.block 1 (.seq (.reg c60_r4) (.reg c60_r5))) (.reg c60_r6))))
def c60_r7 : List Ins := [(iQ 19 (.mv (.t 3))),
(iQ 2 (.mv (.t 19)))]
def c60 : XFn := { np := 1, nt := 20, res := [.t 2], body := (.seq (.reg c60_r0) (.seq (.reg c60_r1) (.seq (.seq (.reg c60_r2) (.block 0 (.loop c60_l0))) (.seq (.reg c60_r7) .ret)))) }
def K60 (C : CRel) : Prop := ∀ (a0 : DTable) (r : (List Int)), g60 a0 = some r → C 60 ⟨[.agg (eDTable a0)], []⟩ ⟨.own 0 0 1 (r.map eI), [], []⟩
theorem F60 {C : CRel}  (a0 : DTable) (r : (List Int)) (h0 : g60 a0 = some r) : FnOK C c60 ⟨[.agg (eDTable a0)], []⟩ ⟨.own 0 0 1 (r.map eI), [], []⟩ := by
 refine fn_ (nl rfl) (seq_ (reg_ (st (box_ rfl tv rfl (st (nilS_ (oe_ (wk_ ⟨[(1, .ptr 64 0)], [(64, [iV a0.clock, iV a0.next, .lst 4 (a0.list_.map eDLease)])], []⟩ (fgk (by kernel_rfl)) (seq_ (reg_ (st (nilS_ (oe_ (wk_ ⟨[(1, .ptr 64 0), (3, .own 192 0 1 ([].map eI))], [(64, [iV a0.clock, iV a0.next, .lst 4 (a0.list_.map eDLease)])], []⟩ (fgk (by kernel_rfl)) (seq_ (seq_ (reg_ (st (c_ (cp_ ⟨tv, tv⟩ rfl tv) (st (c_ (cp_ ⟨tv, tv⟩ rfl (nl rfl)) (st (c_ (clenL (e := eDLease) (l0 := a0.list_) rfl rfl tv) (st (mvc_ tv (oe_ (wk_ ⟨[(3, .own 192 0 1 ([].map eI)), (7, .lst 4 (a0.list_.map eDLease)), (8, iV (a0.list_.length : Int)), (9, iV 0)], [], []⟩ (fgk (by kernel_rfl)) (block_ ?_))))))))))))))))))))))))))))
 obtain ⟨r18, e19, h0⟩ := bnd h0
 refine loop_ (R := (fun S => ∃ p13 : List Int, p13 = r18 ∧ S = ⟨[(3, .own 192 0 1 (p13.map eI))], [], []⟩)) (g60_l0 a0) (fun s S => match s with | (p5, p6) => S = ⟨[(3, .own 192 0 1 (p5.map eI)), (7, .lst 4 (a0.list_.map eDLease)), (8, iV (a0.list_.length : Int)), (9, iV p6)], [], []⟩) e19 ⟨[(3, .own 192 0 1 ([].map eI)), (7, .lst 4 (a0.list_.map eDLease)), (8, iV (a0.list_.length : Int)), (9, iV 0)], [], []⟩ (fgk (by kernel_rfl)) rfl 0 (fun _ => rfl) ?_ ?_
 ·rintro S _ hfg ⟨p13, rfl, rfl⟩
  refine wk_ ⟨[(3, .own 192 0 1 (p13.map eI))], [], []⟩ (fglk hfg (by kernel_rfl)) (seq_ (reg_ (st (mv_ rfl tv (st (mv_ rfl tv (oe_ (wk_ ⟨[(2, .own 192 0 1 (p13.map eI))], [], []⟩ (fgk (by kernel_rfl)) ?_))))))))
  obtain rfl := Option.some.inj h0
  exact rt_ (ret_ rfl rfl rfl rfl rfl tv)
 ·rintro ⟨p5, p6⟩ o1 _ K1 rfl h1 hx1 hK1 hE1 hR1
  refine seq_ (reg_ (st (c_ (cp_ t3 rfl tv) (oe_ (wk_ ⟨[(3, .own 192 0 1 (p5.map eI)), (7, .lst 4 (a0.list_.map eDLease)), (8, iV (a0.list_.length : Int)), (9, iV p6), (10, .bool (decide (p6 < (a0.list_.length : Int))))], [], []⟩ (fgk (by kernel_rfl)) (seq_ (ite_ (cb := (decide (p6 < (a0.list_.length : Int)))) rfl (fun c14 => ?_) (fun c14 => ?_))))))))
  ·replace h1 := ip c14 h1
   refine sk_ (wk_ ⟨[(3, .own 192 0 1 (p5.map eI)), (7, .lst 4 (a0.list_.map eDLease)), (8, iV (a0.list_.length : Int)), (9, iV p6)], [], []⟩ (fgk (by kernel_rfl)) (seq_ (block_ (seq_ (reg_ ?_)))))
   obtain ⟨y15, e16, h1⟩ := bnd h1
   refine st (c_ (cidxL (e := eDLease) (y := y15) rfl rfl tv rfl rfl tv e16) (st (c_ (v := .agg (eDLease y15)) (cp_ ⟨tv, tv⟩ rfl (nl rfl)) (st (alloc_ (st (stp_ rfl rfl tv rfl rfl rfl (nl rfl) (oe_ (wk_ ⟨[(3, .own 192 0 1 (p5.map eI)), (5, .ptr 320 0), (7, .lst 4 (a0.list_.map eDLease)), (8, iV (a0.list_.length : Int)), (9, iV p6)], [(320, [iV y15.id, iV y15.until_, iV y15.cap, .bool y15.queued])], []⟩ (fgk (by kernel_rfl)) (reg_ (st (mv_ rfl tv (st (c_ (cp_ ⟨tv, tv⟩ rfl tv) (st (c_ (cp_ ⟨tv, tv⟩ rfl (nl rfl)) (st (mkS_ ⟨tv, tv⟩ ⟨⟨nl rfl, rfl, rfl⟩, tv⟩ ?_))))))))))))))))))
   obtain ⟨c17, h1⟩ := grd h1
   refine st (app_ (e := eI) (l0 := p5) (l1 := ([y15.id] : List Int)) rfl rfl tv rfl (by decide) c17 (st (mv_ rfl tv (oe_ (bn_ (wk_ ⟨[(3, .own 192 0 1 ((p5 ++ ([y15.id] : List Int)).map eI)), (7, .lst 4 (a0.list_.map eDLease)), (8, iV (a0.list_.length : Int)), (9, iV p6)], [], []⟩ (fgk (by kernel_rfl)) (reg_ (st (c_ (cp_ t3 rfl tv) (st (mv_ rfl tv (oe_ ?_))))))))))))
   obtain rfl := Option.some.inj h1
   exact hK1 _ rfl _ ⟨[(3, .own 192 0 1 ((p5 ++ ([y15.id] : List Int)).map eI)), (7, .lst 4 (a0.list_.map eDLease)), (8, iV (a0.list_.length : Int)), (9, iV (IntKind.i64.wrap (p6 + 1)))], [], []⟩ (fgk (by kernel_rfl)) rfl
  ·replace h1 := inb c14 h1
   obtain rfl := Option.some.inj h1
   obtain rfl := hx1 _ rfl
   refine exQ rfl ?_
   exact hE1 _ ⟨[(3, .own 192 0 1 (p5.map eI))], [], []⟩ (fgk (by kernel_rfl)) ⟨_, rfl, rfl⟩

/- slices.IndexFunc[[]loop.example/g00149/impl.Lease,loop.example/g00149/impl.Lease] -/
def c108_r0 : List Ins := [⟨some 4, .p (.mv (.c (iV 0))), none⟩]
def c108_r1 : List Ins := [(iQ 6 (.mv (.t 0))),
(iQ 7 (.len (.t 6))),
⟨some 8, .p (.mv (.c (iV 0))), none⟩]
def c108_r2 : List Ins := [(iQ 9 (.bin .lss (.t 8) (.t 7)))]
def c108_r3 : List Ins := [(iQ 10 (.mv (.t 8))),
(iQ 5 (.mv (.t 10)))]
def c108_r4 : List Ins := [(iQ 11 (.mv (.t 1))),
(iQ 12 (.mv (.t 0))),
(iQ 13 (.mv (.t 5))),
(iQ 14 (.idxA (.t 12) (.t 13) 4)),
(iQ 15 (.load (.t 14) 4 true)),
⟨some 16, .callv (.t 11) [(.t 15)], none⟩]
def c108_r5 : List Ins := [(iQ 17 (.mv (.t 5))),
(iQ 4 (.mv (.t 17)))]
def c108_r6 : List Ins := [⟨some 18, .p (.bin .add (.t 8) (.c (iV 1))), none⟩,
(iQ 8 (.mv (.t 18)))]
def c108_l0 : IR := (.seq (.reg c108_r2) (.seq (.ite (.t 9) .skip (.exit 0)) (.seq (.block 1 (.seq (.reg c108_r3) (.seq (.reg c108_r4) (.ite (.t 16) (.seq (.reg c108_r5) .ret) .skip)))) (.reg c108_r6))))
def c108_r7 : List Ins := [⟨some 4, .p (.mv (.c (iV (-1)))), none⟩]
def c108 : XFn := { np := 2, nt := 19, res := [.t 4], body := (.seq (.reg c108_r0) (.seq (.seq (.reg c108_r1) (.block 0 (.loop c108_l0))) (.seq (.reg c108_r7) .ret))) }
def K108 (C : CRel) : Prop := ∀ (a0 : List DLease) (f1 : Nat) (k1 : List V) (is1 : DLease → Option Bool) (hs1 : Shut k1) (hf1 : ∀ (x0 : DLease) r, is1 x0 = some r → C f1 ⟨.agg (eDLease x0) :: k1, []⟩ ⟨.bool r, [], []⟩) (r : Int), g108 a0 is1 = some r → C 108 ⟨[.lst 4 (a0.map eDLease), .clo f1 k1], []⟩ ⟨iV r, [], []⟩
theorem F108 {C : CRel}  (a0 : List DLease) (f1 : Nat) (k1 : List V) (is1 : DLease → Option Bool) (hs1 : Shut k1) (hf1 : ∀ (x0 : DLease) r, is1 x0 = some r → C f1 ⟨.agg (eDLease x0) :: k1, []⟩ ⟨.bool r, [], []⟩) (r : Int) (h0 : g108 a0 is1 = some r) : FnOK C c108 ⟨[.lst 4 (a0.map eDLease), .clo f1 k1], []⟩ ⟨iV r, [], []⟩ := by
 refine fn_ (nl rfl) (seq_ (reg_ (st (mvc_ tv (oe_ (wk_ ⟨[(0, .lst 4 (a0.map eDLease)), (1, .clo f1 k1)], [], []⟩ (fg ⟨rfl, rfl, tv⟩ tv) (seq_ (seq_ (reg_ (st (mv_ rfl tv (st (c_ (clenL (e := eDLease) (l0 := a0) rfl rfl tv) (st (mvc_ tv (oe_ (wk_ ⟨[(0, .lst 4 (a0.map eDLease)), (1, .clo f1 k1), (7, iV (a0.length : Int)), (8, iV 0)], [], []⟩ (fg ⟨rfl, rfl, rfl, rfl, tv⟩ tv) (block_ ?_))))))))))))))))))
 obtain ⟨r21, e22, h0⟩ := bnd h0
 refine loop_ (R := (fun S => .inl () = r21 ∧ S = ⟨[], [], []⟩)) (g108_l0 a0 is1) (fun s S => match s with | p7 => S = ⟨[(0, .lst 4 (a0.map eDLease)), (1, .clo f1 k1), (7, iV (a0.length : Int)), (8, iV p7)], [], []⟩) e22 ⟨[(0, .lst 4 (a0.map eDLease)), (1, .clo f1 k1), (7, iV (a0.length : Int)), (8, iV 0)], [], []⟩ (fg ⟨rfl, rfl, rfl, rfl, tv⟩ tv) rfl 0 (fun _ => rfl) ?_ ?_
 ·rintro S _ hfg ⟨rfl, rfl⟩
  refine wk_ ⟨[], [], []⟩ (fglk hfg (by kernel_rfl)) (seq_ (reg_ (st (mvc_ tv (oe_ (wk_ ⟨[(4, iV (-1))], [], []⟩ (fgk (by kernel_rfl)) ?_))))))
  obtain rfl := Option.some.inj h0
  exact rt_ (ret_ rfl rfl rfl rfl rfl tv)
 ·rintro p7 o1 _ K1 rfl h1 hx1 hK1 hE1 hR1
  refine seq_ (reg_ (st (c_ (cp_ t3 rfl tv) (oe_ (wk_ ⟨[(0, .lst 4 (a0.map eDLease)), (1, .clo f1 k1), (7, iV (a0.length : Int)), (8, iV p7), (9, .bool (decide (p7 < (a0.length : Int))))], [], []⟩ (fg ⟨rfl, rfl, rfl, rfl, rfl, tv⟩ tv) (seq_ (ite_ (cb := (decide (p7 < (a0.length : Int)))) rfl (fun c15 => ?_) (fun c15 => ?_))))))))
  ·replace h1 := ip c15 h1
   refine sk_ (wk_ ⟨[(0, .lst 4 (a0.map eDLease)), (1, .clo f1 k1), (7, iV (a0.length : Int)), (8, iV p7)], [], []⟩ (fg ⟨rfl, rfl, rfl, rfl, tv⟩ tv) (seq_ (block_ (seq_ (reg_ (st (mv_ rfl tv (st (mv_ rfl tv (oe_ (wk_ ⟨[(0, .lst 4 (a0.map eDLease)), (1, .clo f1 k1), (5, iV p7), (7, iV (a0.length : Int)), (8, iV p7)], [], []⟩ (fg ⟨rfl, rfl, rfl, rfl, rfl, tv⟩ tv) (seq_ (reg_ (st (mv_ rfl tv (st (mv_ rfl tv (st (mv_ rfl tv ?_)))))))))))))))))))
   obtain ⟨y16, e17, h1⟩ := bnd h1
   refine st (c_ (cidxL (e := eDLease) (y := y16) rfl rfl tv rfl rfl tv e17) (st (c_ (v := .agg (eDLease y16)) (cp_ ⟨tv, tv⟩ rfl (nl rfl)) ?_)))
   obtain ⟨r18, e19, h1⟩ := bnd h1
   refine st (callv0_ (r := .bool r18) rfl false (hf1 _ r18 e19) ⟨tv, tv⟩ (and_ rfl hs1.2.2.1) (mapc1 rfl (hs1.2.1 _ _ _ _ _)) (fun _ => rfl) (oe_ (wk_ ⟨[(0, .lst 4 (a0.map eDLease)), (1, .clo f1 k1), (5, iV p7), (7, iV (a0.length : Int)), (8, iV p7), (16, .bool r18)], [], []⟩ (fg ⟨rfl, rfl, rfl, rfl, rfl, rfl, tv⟩ tv) (ite_ (cb := r18) rfl (fun c20 => ?_) (fun c20 => ?_)))))
   ·replace h1 := ip c20 h1
    refine seq_ (reg_ (st (mv_ rfl tv (st (mv_ rfl tv (oe_ (wk_ ⟨[(4, iV p7)], [], []⟩ (fgk (by kernel_rfl)) ?_)))))))
    obtain rfl := Option.some.inj h1
    obtain rfl := hx1 _ rfl
    obtain rfl := Option.some.inj h0
    exact rt_ (hR1 _ (ret_ rfl rfl rfl rfl rfl tv))
   ·replace h1 := inb c20 h1
    refine sk_ (bn_ (wk_ ⟨[(0, .lst 4 (a0.map eDLease)), (1, .clo f1 k1), (7, iV (a0.length : Int)), (8, iV p7)], [], []⟩ (fg ⟨rfl, rfl, rfl, rfl, tv⟩ tv) (reg_ (st (c_ (cp_ t3 rfl tv) (st (mv_ rfl tv (oe_ ?_))))))))
    obtain rfl := Option.some.inj h1
    exact hK1 _ rfl _ ⟨[(0, .lst 4 (a0.map eDLease)), (1, .clo f1 k1), (7, iV (a0.length : Int)), (8, iV (IntKind.i64.wrap (p7 + 1)))], [], []⟩ (fg ⟨rfl, rfl, rfl, rfl, tv⟩ tv) rfl
  ·replace h1 := inb c15 h1
   obtain rfl := Option.some.inj h1
   obtain rfl := hx1 _ rfl
   refine exQ rfl ?_
   exact hE1 _ ⟨[], [], []⟩ (fgk (by kernel_rfl)) ⟨rfl, rfl⟩

/- slices.ContainsFunc[[]loop.example/g00149/impl.Lease,loop.example/g00149/impl.Lease] -/
def c105_r0 : List Ins := [⟨some 4, .p (.mv (.c (.bool false))), none⟩]
def c105_r1 : List Ins := [(iQ 5 (.mv (.t 0))),
(iQ 6 (.mv (.t 1))),
⟨some 7, .call 108 [(.t 5), (.t 6)], none⟩,
⟨some 8, .p (.bin .geq (.t 7) (.c (iV 0))), none⟩,
(iQ 4 (.mv (.t 8)))]
def c105 : XFn := { np := 2, nt := 9, res := [.t 4], body := (.seq (.reg c105_r0) (.seq (.reg c105_r1) .ret)) }
def K105 (C : CRel) : Prop := ∀ (a0 : List DLease) (f1 : Nat) (k1 : List V) (is1 : DLease → Option Bool) (hs1 : Shut k1) (hf1 : ∀ (x0 : DLease) r, is1 x0 = some r → C f1 ⟨.agg (eDLease x0) :: k1, []⟩ ⟨.bool r, [], []⟩) (r : Bool), g105 a0 is1 = some r → C 105 ⟨[.lst 4 (a0.map eDLease), .clo f1 k1], []⟩ ⟨.bool r, [], []⟩
theorem F105 {C : CRel} (H108 : K108 C) (a0 : List DLease) (f1 : Nat) (k1 : List V) (is1 : DLease → Option Bool) (hs1 : Shut k1) (hf1 : ∀ (x0 : DLease) r, is1 x0 = some r → C f1 ⟨.agg (eDLease x0) :: k1, []⟩ ⟨.bool r, [], []⟩) (r : Bool) (h0 : g105 a0 is1 = some r) : FnOK C c105 ⟨[.lst 4 (a0.map eDLease), .clo f1 k1], []⟩ ⟨.bool r, [], []⟩ := by
 refine fn_ (nl rfl) (seq_ (reg_ (st (mvc_ tv (oe_ (wk_ ⟨[(0, .lst 4 (a0.map eDLease)), (1, .clo f1 k1)], [], []⟩ (fg ⟨rfl, rfl, tv⟩ tv) (seq_ (reg_ (st (mv_ rfl tv (st (mv_ rfl tv ?_))))))))))))
 obtain ⟨r1, e2, h0⟩ := bnd h0
 refine st (call0_ (r := iV r1) false (H108 a0 f1 k1 is1 hs1 hf1 r1 e2) ⟨tv, tv, tv⟩ rfl (mapc1 rfl (mapc1 (clo_sh hs1) rfl)) (fun _ => rfl) (st (c_ (cp_ t3 rfl tv) (st (mv_ rfl tv (oe_ (wk_ ⟨[(4, .bool (decide (r1 ≥ 0)))], [], []⟩ (fgk (by kernel_rfl)) ?_)))))))
 obtain rfl := Option.some.inj h0
 exact rt_ (ret_ rfl rfl rfl rfl rfl tv)

/- loop.example/g00149/impl.areAll[loop.example/g00149/impl.Lease]$1 -/
def c106_r0 : List Ins := [⟨some 2, .box (.t 0), none⟩,
⟨some 3, .p (.mv (.c (.bool false))), none⟩]
def c106_r1 : List Ins := [(iQ 4 (.load (.t 1) 1 false)),
(iQ 5 (.load (.t 2) 4 true)),
⟨some 6, .callv (.t 4) [(.t 5)], none⟩,
(iQ 7 (.un .not (.t 6))),
(iQ 3 (.mv (.t 7)))]
def c106 : XFn := { np := 2, nt := 8, res := [.t 3], body := (.seq (.reg c106_r0) (.seq (.reg c106_r1) .ret)) }
def K106 (C : CRel) : Prop := ∀ (a0 : DLease) (f1 : Nat) (k1 : List V) (is1 : DLease → Option Bool) (hs1 : Shut k1) (hf1 : ∀ (x0 : DLease) r, is1 x0 = some r → C f1 ⟨.agg (eDLease x0) :: k1, []⟩ ⟨.bool r, [], []⟩) (r : Bool), g106 a0 is1 = some r → C 106 ⟨[.agg (eDLease a0), .iptr [.clo f1 k1]], []⟩ ⟨.bool r, [], []⟩
theorem F106 {C : CRel}  (a0 : DLease) (f1 : Nat) (k1 : List V) (is1 : DLease → Option Bool) (hs1 : Shut k1) (hf1 : ∀ (x0 : DLease) r, is1 x0 = some r → C f1 ⟨.agg (eDLease x0) :: k1, []⟩ ⟨.bool r, [], []⟩) (r : Bool) (h0 : g106 a0 is1 = some r) : FnOK C c106 ⟨[.agg (eDLease a0), .iptr [.clo f1 k1]], []⟩ ⟨.bool r, [], []⟩ := by
 refine fn_ (nl rfl) (seq_ (reg_ (st (box_ rfl tv rfl (sw ⟨[(1, .iptr [.clo f1 k1]), (2, .ptr 128 0)], [(128, [iV a0.id, iV a0.until_, iV a0.cap, .bool a0.queued])], []⟩ (fg ⟨rfl, rfl, tv⟩ ⟨rfl, tv⟩) (mvc_ tv (oe_ (wk_ ⟨[(1, .iptr [.clo f1 k1]), (2, .ptr 128 0)], [(128, [iV a0.id, iV a0.until_, iV a0.cap, .bool a0.queued])], []⟩ (fg ⟨rfl, rfl, tv⟩ ⟨rfl, tv⟩) (seq_ (reg_ (st (c_ (cp_ ⟨tv, tv⟩ rfl (nl rfl)) (st (c_ (v := .agg (eDLease a0)) (cp_ ⟨tv, tv⟩ rfl (nl rfl)) ?_))))))))))))))
 obtain ⟨r1, e2, h0⟩ := bnd h0
 refine st (callv0_ (r := .bool r1) rfl false (hf1 _ r1 e2) ⟨tv, tv⟩ (and_ rfl hs1.2.2.1) (mapc1 rfl (hs1.2.1 _ _ _ _ _)) (fun _ => rfl) (st (c_ (cp_ ⟨tv, tv⟩ rfl tv) (st (mv_ rfl tv (oe_ (wk_ ⟨[(3, .bool (!r1))], [], []⟩ (fgk (by kernel_rfl)) ?_)))))))
 obtain rfl := Option.some.inj h0
 exact rt_ (ret_ rfl rfl rfl rfl rfl tv)

/- loop.example/g00149/impl.areAll[loop.example/g00149/impl.Lease] -/
def c61_r0 : List Ins := [⟨some 3, .box (.t 1), none⟩,
⟨some 4, .p (.mv (.c (.bool false))), none⟩]
def c61_r1 : List Ins := [(iQ 5 (.mv (.t 0))),
(iQ 6 (.fn 106 [(.t 3)])),
⟨some 7, .call 105 [(.t 5), (.t 6)], none⟩,
(iQ 8 (.un .not (.t 7))),
(iQ 4 (.mv (.t 8)))]
def c61 : XFn := { np := 2, nt := 9, res := [.t 4], body := (.seq (.reg c61_r0) (.seq (.reg c61_r1) .ret)) }
def K61 (C : CRel) : Prop := ∀ (a0 : List DLease) (f1 : Nat) (k1 : List V) (is1 : DLease → Option Bool) (hs1 : Shut k1) (hf1 : ∀ (x0 : DLease) r, is1 x0 = some r → C f1 ⟨.agg (eDLease x0) :: k1, []⟩ ⟨.bool r, [], []⟩) (r : Bool), g61 a0 is1 = some r → C 61 ⟨[.lst 4 (a0.map eDLease), .clo f1 k1], []⟩ ⟨.bool r, [], []⟩
theorem F61 {C : CRel} (H105 : K105 C) (H106 : K106 C) (a0 : List DLease) (f1 : Nat) (k1 : List V) (is1 : DLease → Option Bool) (hs1 : Shut k1) (hf1 : ∀ (x0 : DLease) r, is1 x0 = some r → C f1 ⟨.agg (eDLease x0) :: k1, []⟩ ⟨.bool r, [], []⟩) (r : Bool) (h0 : g61 a0 is1 = some r) : FnOK C c61 ⟨[.lst 4 (a0.map eDLease), .clo f1 k1], []⟩ ⟨.bool r, [], []⟩ := by
 refine fn_ (nl rfl) (seq_ (reg_ (st (box_ (dr_sh hs1) tv rfl (sw ⟨[(0, .lst 4 (a0.map eDLease)), (3, .ptr 192 0)], [(192, [.clo f1 k1])], []⟩ (fg ⟨rfl, rfl, tv⟩ ⟨rfl, tv⟩) (mvc_ tv (oe_ (wk_ ⟨[(0, .lst 4 (a0.map eDLease)), (3, .ptr 192 0)], [(192, [.clo f1 k1])], []⟩ (fg ⟨rfl, rfl, tv⟩ ⟨rfl, tv⟩) (seq_ (reg_ (st (mv_ rfl tv (st (c_ (cp_ ⟨tv, tv⟩ rfl rfl) ?_))))))))))))))
 obtain ⟨r1, e2, h0⟩ := bnd h0
 refine st (call0_ (r := .bool r1) false (H105 a0 106 [.iptr [.clo f1 k1]] (fun z106_0 => g106 z106_0 is1) (⟨fun _ _ _ _ _ => rfl, fun _ _ _ _ _ => rfl, rfl, fun _ _ _ n => by cases n <;> rfl, fun _ => rfl⟩) (fun z106_0 r h => H106 z106_0 f1 k1 is1 hs1 hf1 r h) r1 e2) ⟨tv, tv, tv⟩ rfl (mapc1 rfl (mapc1 (congrArg (fun z => V.clo 106 [.iptr [.clo f1 z]]) (hs1.2.2.2.1 _ _ _ _)) rfl)) (fun _ => rfl) (st (c_ (cp_ ⟨tv, tv⟩ rfl tv) (st (mv_ rfl tv (oe_ (wk_ ⟨[(4, .bool (!r1))], [], []⟩ (fgk (by kernel_rfl)) ?_)))))))
 obtain rfl := Option.some.inj h0
 exact rt_ (ret_ rfl rfl rfl rfl rfl tv)

/- loop.example/g00149/impl.TableOK$1 -/
def c62_r0 : List Ins := [⟨some 2, .box (.t 0), none⟩,
⟨some 3, .p (.mv (.c (.bool false))), none⟩]
def c62_r1 : List Ins := [(iQ 4 (.fieldA (.t 2) 1)),
(iQ 5 (.load (.t 4) 1 false)),
(iQ 6 (.fieldA (.t 2) 2)),
(iQ 7 (.load (.t 6) 1 false)),
⟨some 8, .call 63 [(.t 5), (.c (iV 0)), (.t 7)], none⟩,
(iQ 9 (.mv (.t 8))),
⟨some 10, .p (.fieldA (.t 2) 3), some (9, true)⟩,
⟨some 11, .p (.load (.t 10) 1 false), some (9, true)⟩,
⟨some 12, .p (.mv (.t 11)), some (9, true)⟩,
⟨some 13, .p (.fieldA (.t 2) 1), some (12, false)⟩,
⟨some 14, .p (.load (.t 13) 1 false), some (12, false)⟩,
⟨some 15, .p (.fieldA (.t 1) 0), some (12, false)⟩,
⟨some 16, .p (.load (.t 15) 1 false), some (12, false)⟩,
⟨some 17, .p (.bin .gtr (.t 14) (.t 16)), some (12, false)⟩,
⟨some 18, .pick (.t 12) (.c (.bool true)) (.t 17), some (9, true)⟩,
⟨some 19, .pick (.t 9) (.t 18) (.c (.bool false)), none⟩,
(iQ 3 (.mv (.t 19)))]
def c62 : XFn := { np := 2, nt := 20, res := [.t 3], body := (.seq (.reg c62_r0) (.seq (.reg c62_r1) .ret)) }
def K62 (C : CRel) : Prop := ∀ (a0 : DLease) (a1 : DTable) (r : Bool), g62 a0 a1 = some r → C 62 ⟨[.agg (eDLease a0), .iptr [iV a1.clock, iV a1.next, .lst 4 (a1.list_.map eDLease)]], []⟩ ⟨.bool r, [], []⟩
theorem F62 {C : CRel} (H63 : K63 C) (a0 : DLease) (a1 : DTable) (r : Bool) (h0 : g62 a0 a1 = some r) : FnOK C c62 ⟨[.agg (eDLease a0), .iptr [iV a1.clock, iV a1.next, .lst 4 (a1.list_.map eDLease)]], []⟩ ⟨.bool r, [], []⟩ := by
 refine fn_ (nl rfl) (seq_ (reg_ (st (box_ rfl tv rfl (st (mvc_ tv (oe_ (wk_ ⟨[(1, .iptr [iV a1.clock, iV a1.next, .lst 4 (a1.list_.map eDLease)]), (2, .ptr 128 0)], [(128, [iV a0.id, iV a0.until_, iV a0.cap, .bool a0.queued])], []⟩ (fgk (by kernel_rfl)) (seq_ (reg_ (st (c_ (cp_ ⟨tv, tv⟩ rfl tv) (st (c_ (cp_ ⟨tv, tv⟩ rfl (nl rfl)) (st (c_ (cp_ ⟨tv, tv⟩ rfl tv) (st (c_ (cp_ ⟨tv, tv⟩ rfl (nl rfl)) ?_))))))))))))))))))
 obtain ⟨r1, e2, h0⟩ := bnd h0
 refine st (call0_ (r := .bool r1) false (H63 a0.until_ 0 a0.cap r1 e2) ⟨tv, tv, tv, tv⟩ rfl rfl (fun _ => rfl) (st (mv_ rfl tv (st (pg_ (u := .ptr 128 3) rfl (fun hg => (cp_ ⟨tv, tv⟩ rfl tv)) (st (pg_ (u := .bool a0.queued) rfl (fun hg => (cp_ ⟨(fun _ => hg), tv⟩ rfl (nl rfl))) (st (pg_ (u := .bool a0.queued) rfl (fun hg => (cmv (v := .may (r1 == true) (.bool a0.queued)) rfl (fun _ => hg))) (st (pg_ (u := .ptr 128 1) rfl (fun hg => (cp_ ⟨tv, tv⟩ rfl tv)) (st (pg_ (u := iV a0.until_) rfl (fun hg => (cp_ ⟨(fun _ => hg), tv⟩ rfl (nl rfl))) (st (pg_ (u := .iptr [iV a1.clock, iV a1.next, .lst 4 (a1.list_.map eDLease)]) rfl (fun hg => (cp_ ⟨tv, tv⟩ rfl (nl rfl))) (sw ⟨[(9, .bool r1), (12, .may (r1 == true) (.bool a0.queued)), (14, .may ((r1 == true) && (a0.queued == false)) (iV a0.until_)), (15, .may ((r1 == true) && (a0.queued == false)) (.iptr [iV a1.clock, iV a1.next, .lst 4 (a1.list_.map eDLease)]))], [], []⟩ (fgk (by kernel_rfl)) (pg_ (u := iV a1.clock) rfl (fun hg => (cp_ ⟨(fun _ => hg), tv⟩ rfl (nl rfl))) (st (pg_ (u := .bool (decide (a0.until_ > a1.clock))) rfl (fun hg => (cp_ ⟨(fun _ => hg), (fun _ => hg), tv⟩ rfl tv)) (st (pickg_ (u := .bool (bif a0.queued then true else (decide (a0.until_ > a1.clock)))) rfl (fun hg => cpick rfl rfl (fun _ => hg) rfl rfl tv (fun h => and_ hg (eqf h)) rfl) (st (pick_ rfl rfl rfl (fun h => eqt h) tv rfl (st (mv_ rfl tv (oe_ ?_))))))))))))))))))))))))))
 obtain ⟨v3, e4, h0⟩ := bl h0
 refine wk_ ⟨[(3, .bool v3)], [], []⟩ (fgk (by subst e4; kernel_rfl)) ?_
 obtain rfl := Option.some.inj h0
 exact rt_ (ret_ rfl rfl rfl rfl rfl tv)

/- loop.example/g00149/impl.TableOK -/
def c20_r0 : List Ins := [⟨some 1, .box (.t 0), none⟩,
⟨some 2, .p (.mv (.c (.bool false))), none⟩]
def c20_r1 : DP := (.take (iQ 3 (.fieldA (.t 1) 0))
(.take (iQ 4 (.load (.t 3) 1 false))
(.take ⟨some 5, .p (.bin .geq (.t 4) (.c (iV 0))), none⟩
(.take (iQ 6 (.mv (.t 5)))
(.take ⟨some 7, .p (.fieldA (.t 1) 1), some (6, true)⟩
(.take ⟨some 8, .p (.load (.t 7) 1 false), some (6, true)⟩
(.alt [] ⟨some 9, .call 58 [(.t 8)], some (6, true)⟩
(.take ⟨some 10, .pick (.t 6) (.t 9) (.c (.bool false)), none⟩
(.take (iQ 11 (.mv (.t 10)))
(.take ⟨some 12, .p (.fieldA (.t 1) 2), some (11, true)⟩
(.take ⟨some 13, .p (.load (.t 12) 1 false), some (11, true)⟩
(.take ⟨some 14, .p (.len (.t 13)), some (11, true)⟩
(.take ⟨some 15, .p (.bin .leq (.t 14) (.c (iV 40))), some (11, true)⟩
(.take ⟨some 16, .pick (.t 11) (.t 15) (.c (.bool false)), none⟩
(.take (iQ 17 (.mv (.t 16)))
(.take ⟨some 18, .p (.load (.t 1) 3 true), some (17, true)⟩
(.take ⟨some 20, .p (.fieldA (.t 1) 1), some (17, true)⟩
(.take ⟨some 21, .p (.load (.t 20) 1 false), some (17, true)⟩
(.take ⟨some 22, .p (.bin .sub (.t 21) (.c (iV 1))), some (17, true)⟩
(.alt [⟨some 22, .p (.bin .sub (.t 21) (.c (iV 1))), some (17, true)⟩, ⟨some 21, .p (.load (.t 20) 1 false), some (17, true)⟩, ⟨some 20, .p (.fieldA (.t 1) 1), some (17, true)⟩] ⟨some 19, .call 60 [(.t 18)], some (17, true)⟩
(.alt [] ⟨some 23, .call 59 [(.t 19), (.c (iV 1)), (.t 22)], some (17, true)⟩
(.take ⟨some 24, .pick (.t 17) (.t 23) (.c (.bool false)), none⟩
(.take (iQ 25 (.mv (.t 24)))
(.take ⟨some 26, .p (.fieldA (.t 1) 2), some (25, true)⟩
(.take ⟨some 27, .p (.load (.t 26) 1 false), some (25, true)⟩
(.take ⟨some 28, .p (.fn 62 [(.t 1)]), some (25, true)⟩
(.alt [] ⟨some 29, .call 61 [(.t 27), (.t 28)], some (25, true)⟩
(.take ⟨some 30, .pick (.t 25) (.t 29) (.c (.bool false)), none⟩
(.take (iQ 2 (.mv (.t 30)))
.fin))
.stop))))))
.stop)
.stop)))))))))))))
.stop)))))))
def c20 : XFn := { np := 1, nt := 31, res := [.t 2], body := (.seq (.reg c20_r0) (.seq (.draw c20_r1) .ret)) }
def K20 (C : CRel) : Prop := ∀ (a0 : DTable) (r : Bool), g20 a0 = some r → C 20 ⟨[.agg (eDTable a0)], []⟩ ⟨.bool r, [], []⟩
theorem F20 {C : CRel} (H58 : K58 C) (H59 : K59 C) (H60 : K60 C) (H61 : K61 C) (H62 : K62 C) (a0 : DTable) (r : Bool) (h0 : g20 a0 = some r) : FnOK C c20 ⟨[.agg (eDTable a0)], []⟩ ⟨.bool r, [], []⟩ := by
 refine fn_ (nl rfl) (seq_ (reg_ (st (box_ rfl tv rfl (st (mvc_ tv (oe_ (wk_ ⟨[(1, .ptr 64 0)], [(64, [iV a0.clock, iV a0.next, .lst 4 (a0.list_.map eDLease)])], []⟩ (fgk (by kernel_rfl)) (seq_ ?_)))))))))
 obtain ⟨r1, e2, h0⟩ := bnd h0
 obtain ⟨r3, e4, h0⟩ := bnd h0
 obtain ⟨r5, e6, h0⟩ := bnd h0
 obtain ⟨r7, e8, h0⟩ := bnd h0
 refine draw_ (dtake tv (c_ (cp_ ⟨tv, tv⟩ rfl tv) (⟨tv, (dtake tv (c_ (cp_ ⟨tv, tv⟩ rfl (nl rfl)) (⟨tv, (dtake tv (c_ (cp_ t3 rfl tv) (⟨tv, (dtake tv (mv_ rfl tv (⟨tv, (dtake tv (pg_ (u := .ptr 64 1) rfl (fun hg => (cp_ ⟨tv, tv⟩ rfl tv)) (⟨tv, (dtake tv (pg_ (u := iV a0.next) rfl (fun hg => (cp_ ⟨(fun _ => hg), tv⟩ rfl (nl rfl))) (⟨tv, (dalt (callg_ (r := .bool r1) rfl false (fun hg => H58 a0.next r1 (ip hg e2)) ⟨(fun hg => hg), tv⟩ (fun _ => rfl) (fun _ => rfl) (fun _ => rfl) (fun h => nomatch h) (dkw ⟨[(1, .ptr 64 0), (6, .bool (decide (a0.clock ≥ 0))), (9, .may ((decide (a0.clock ≥ 0)) == true) (.bool r1))], [(64, [iV a0.clock, iV a0.next, .lst 4 (a0.list_.map eDLease)])], []⟩ (fgk (by kernel_rfl)) ⟨[], tv, tv, (dtake tv (pick_ rfl rfl rfl (fun h => eqt h) tv rfl (⟨tv, (dtake tv (mv_ rfl tv (⟨tv, (dtake tv (pg_ (u := .ptr 64 2) rfl (fun hg => (cp_ ⟨tv, tv⟩ rfl tv)) (⟨tv, (dtake tv (pg_ (u := .lst 4 (a0.list_.map eDLease)) rfl (fun hg => (cp_ ⟨(fun _ => hg), tv⟩ rfl (nl rfl))) (⟨tv, (dtake tv (pg_ (u := iV (a0.list_.length : Int)) rfl (fun hg => (clenL (e := eDLease) (l0 := a0.list_) rfl rfl (fun _ => hg))) (⟨tv, (dtake tv (pg_ (u := .bool (decide ((a0.list_.length : Int) ≤ 40))) rfl (fun hg => (cp_ ⟨(fun _ => hg), tv, tv⟩ rfl tv)) (⟨tv, (dtake tv (pick_ rfl rfl rfl (fun h => eqt h) tv rfl (⟨tv, (dtake tv (mv_ rfl tv (⟨tv, ?_⟩)))⟩)))⟩)))⟩)))⟩)))⟩)))⟩)))⟩)))⟩)) dstop)⟩)))⟩)))⟩)))⟩)))⟩)))⟩)))
 refine dtake tv (pg_ (u := .agg (eDTable a0)) rfl (fun hg => (cp_ ⟨tv, tv⟩ rfl (nl rfl))) (⟨tv, (dtake tv (pg_ (u := .ptr 64 1) rfl (fun hg => (cp_ ⟨tv, tv⟩ rfl tv)) (⟨tv, (dtake tv (pg_ (u := iV a0.next) rfl (fun hg => (cp_ ⟨(fun _ => hg), tv⟩ rfl (nl rfl))) (⟨tv, (dtake tv (pg_ (u := iV (IntKind.i64.wrap (a0.next - 1))) rfl (fun hg => (cp_ ⟨(fun _ => hg), tv, tv⟩ rfl tv)) (⟨tv, (dalt (callg_ (r := .own 0 0 1 (r3.map eI)) rfl false (fun hg => H60 a0 r3 (ip hg e4)) ⟨(fun hg => hg), tv⟩ (fun _ => rfl) (fun _ => rfl) (fun _ => (and_ (fl1 (fun _ => rfl)) rfl)) (fun h => nomatch h) (dkw ⟨[(1, .ptr 64 0), (17, .bool (bif (bif (decide (a0.clock ≥ 0)) then r1 else false) then (decide ((a0.list_.length : Int) ≤ 40)) else false)), (19, .may ((bif (bif (decide (a0.clock ≥ 0)) then r1 else false) then (decide ((a0.list_.length : Int) ≤ 40)) else false) == true) (.lst 1 (r3.map eI))), (20, .may ((bif (bif (decide (a0.clock ≥ 0)) then r1 else false) then (decide ((a0.list_.length : Int) ≤ 40)) else false) == true) (.ptr 64 1)), (21, .may ((bif (bif (decide (a0.clock ≥ 0)) then r1 else false) then (decide ((a0.list_.length : Int) ≤ 40)) else false) == true) (iV a0.next)), (22, .may ((bif (bif (decide (a0.clock ≥ 0)) then r1 else false) then (decide ((a0.list_.length : Int) ≤ 40)) else false) == true) (iV (IntKind.i64.wrap (a0.next - 1))))], [(64, [iV a0.clock, iV a0.next, .lst 4 (a0.list_.map eDLease)])], []⟩ (fgk (by kernel_rfl)) ⟨[], ⟨⟨.inl tv, (againg (v := iV (IntKind.i64.wrap (a0.next - 1))) rfl (fun hg => (cp_ ⟨(fun _ => hg), tv, tv⟩ rfl tv)) rfl)⟩, ⟨.inl tv, (againg (v := iV a0.next) rfl (fun hg => (cp_ ⟨(fun _ => hg), tv⟩ rfl (nl rfl))) rfl)⟩, ⟨.inl tv, (againg (v := .ptr 64 1) rfl (fun hg => (cp_ ⟨tv, tv⟩ rfl tv)) rfl)⟩, tv⟩, tv, (dalt (callg_ (r := .bool r5) rfl false (fun hg => H59 r3 1 (IntKind.i64.wrap (a0.next - 1)) r5 (ip hg e6)) ⟨(fun hg => hg), tv, (fun hg => hg), tv⟩ (fun _ => rfl) (fun _ => rfl) (fun _ => rfl) (fun h => nomatch h) (dkw ⟨[(1, .ptr 64 0), (17, .bool (bif (bif (decide (a0.clock ≥ 0)) then r1 else false) then (decide ((a0.list_.length : Int) ≤ 40)) else false)), (23, .may ((bif (bif (decide (a0.clock ≥ 0)) then r1 else false) then (decide ((a0.list_.length : Int) ≤ 40)) else false) == true) (.bool r5))], [(64, [iV a0.clock, iV a0.next, .lst 4 (a0.list_.map eDLease)])], []⟩ (fgk (by kernel_rfl)) ⟨[], tv, tv, (dtake tv (pick_ rfl rfl rfl (fun h => eqt h) tv rfl (⟨tv, (dtake tv (mv_ rfl tv (⟨tv, (dtake tv (pg_ (u := .ptr 64 2) rfl (fun hg => (cp_ ⟨tv, tv⟩ rfl tv)) (⟨tv, (dtake tv (pg_ (u := .lst 4 (a0.list_.map eDLease)) rfl (fun hg => (cp_ ⟨(fun _ => hg), tv⟩ rfl (nl rfl))) (⟨tv, (dtake tv (pg_ (u := .clo 62 [.ptr 64 0]) rfl (fun hg => (cp_ ⟨tv, tv⟩ rfl rfl)) (⟨tv, (dalt (callg_ (r := .bool r7) rfl false (fun hg => H61 a0.list_ 62 [.iptr [iV a0.clock, iV a0.next, .lst 4 (a0.list_.map eDLease)]] (fun z62_0 => g62 z62_0 a0) (⟨fun _ _ _ _ _ => rfl, fun _ _ _ _ _ => rfl, rfl, fun _ _ _ n => by cases n <;> rfl, fun _ => rfl⟩) (fun z62_0 r h => H62 z62_0 a0 r h) r7 (ip hg e8)) ⟨(fun hg => hg), (fun hg => hg), tv⟩ (fun _ => rfl) (fun _ => rfl) (fun _ => rfl) (fun h => nomatch h) (dkw ⟨[(25, .bool (bif (bif (bif (decide (a0.clock ≥ 0)) then r1 else false) then (decide ((a0.list_.length : Int) ≤ 40)) else false) then r5 else false)), (29, .may ((bif (bif (bif (decide (a0.clock ≥ 0)) then r1 else false) then (decide ((a0.list_.length : Int) ≤ 40)) else false) then r5 else false) == true) (.bool r7))], [], []⟩ (fgk (by kernel_rfl)) ⟨[], tv, tv, (dtake tv (pick_ rfl rfl rfl (fun h => eqt h) tv rfl (⟨tv, (dtake tv (mv_ rfl tv (⟨tv, (dfin ?_)⟩)))⟩)))⟩)) dstop)⟩)))⟩)))⟩)))⟩)))⟩)))⟩)) dstop)⟩)) dstop)⟩)))⟩)))⟩)))⟩))
 obtain ⟨v9, e10, h0⟩ := bl h0
 refine wk_ ⟨[(2, .bool v9)], [], []⟩ (fgk (by subst e10; kernel_rfl)) ?_
 obtain rfl := Option.some.inj h0
 exact rt_ (ret_ rfl rfl rfl rfl rfl tv)

/- slices.BinarySearchFunc[[]loop.example/g00149/impl.Lease,loop.example/g00149/impl.Lease,int] -/
def c113_r0 : List Ins := [⟨some 6, .p (.mv (.c (iV 0))), none⟩,
⟨some 7, .p (.mv (.c (.bool false))), none⟩]
def c113_r1 : List Ins := [(iQ 12 (.mv (.t 0))),
(iQ 13 (.len (.t 12))),
(iQ 8 (.mv (.t 13)))]
def c113_r2 : List Ins := [(iQ 14 (.mv (.t 8))),
⟨some 9, .p (.mv (.c (iV 0))), none⟩,
(iQ 10 (.mv (.t 14)))]
def c113_r3 : List Ins := [(iQ 15 (.mv (.t 9))),
(iQ 16 (.mv (.t 10))),
(iQ 17 (.bin .lss (.t 15) (.t 16)))]
def c113_r4 : List Ins := [(iQ 18 (.mv (.t 9))),
(iQ 19 (.mv (.t 10))),
(iQ 20 (.bin .add (.t 18) (.t 19))),
(iQ 21 (.conv .u64 (.t 20))),
⟨some 22, .p (.bin .shr (.t 21) (.c (.int .u64 1))), none⟩,
(iQ 23 (.conv .i64 (.t 22))),
(iQ 11 (.mv (.t 23)))]
def c113_r5 : List Ins := [(iQ 24 (.mv (.t 2))),
(iQ 25 (.mv (.t 0))),
(iQ 26 (.mv (.t 11))),
(iQ 27 (.idxA (.t 25) (.t 26) 4)),
(iQ 28 (.load (.t 27) 4 true)),
(iQ 29 (.mv (.t 1))),
⟨some 30, .callv (.t 24) [(.t 28), (.t 29)], none⟩,
⟨some 31, .p (.bin .lss (.t 30) (.c (iV 0))), none⟩]
def c113_r6 : List Ins := [(iQ 32 (.mv (.t 11))),
⟨some 33, .p (.bin .add (.t 32) (.c (iV 1))), none⟩,
(iQ 9 (.mv (.t 33)))]
def c113_r7 : List Ins := [(iQ 34 (.mv (.t 11))),
(iQ 10 (.mv (.t 34)))]
def c113_l0 : IR := (.seq (.seq (.reg c113_r3) (.ite (.t 17) .skip (.exit 0))) (.block 1 (.seq (.reg c113_r4) (.seq (.reg c113_r5) (.ite (.t 31) (.reg c113_r6) (.reg c113_r7))))))
def c113_r8 : List Ins := [(iQ 35 (.mv (.t 9))),
(iQ 36 (.mv (.t 9))),
(iQ 37 (.mv (.t 8))),
(iQ 38 (.bin .lss (.t 36) (.t 37))),
(iQ 39 (.mv (.t 38))),
⟨some 40, .p (.mv (.t 2)), some (39, true)⟩,
⟨some 41, .p (.mv (.t 0)), some (39, true)⟩,
⟨some 42, .p (.mv (.t 9)), some (39, true)⟩,
⟨some 43, .p (.idxA (.t 41) (.t 42) 4), some (39, true)⟩,
⟨some 44, .p (.load (.t 43) 4 true), some (39, true)⟩,
⟨some 45, .p (.mv (.t 1)), some (39, true)⟩,
⟨some 46, .callv (.t 40) [(.t 44), (.t 45)], some (39, true)⟩,
⟨some 47, .p (.bin .eql (.t 46) (.c (iV 0))), some (39, true)⟩,
⟨some 48, .pick (.t 39) (.t 47) (.c (.bool false)), none⟩,
(iQ 6 (.mv (.t 35))),
(iQ 7 (.mv (.t 48)))]
def c113 : XFn := { np := 3, nt := 49, res := [.t 6, .t 7], body := (.seq (.reg c113_r0) (.seq (.reg c113_r1) (.seq (.reg c113_r2) (.seq (.block 0 (.loop c113_l0)) (.seq (.reg c113_r8) .ret))))) }
def K113 (C : CRel) : Prop := ∀ (a0 : List DLease) (a1 : Int) (f2 : Nat) (k2 : List V) (is2 : DLease → Int → Option Int) (hs2 : Shut k2) (hf2 : ∀ (x0 : DLease) (x1 : Int) r, is2 x0 x1 = some r → C f2 ⟨.agg (eDLease x0) :: iV x1 :: k2, []⟩ ⟨iV r, [], []⟩) (r : Int × Bool), g113 a0 a1 is2 = some r → C 113 ⟨[.lst 4 (a0.map eDLease), iV a1, .clo f2 k2], []⟩ ⟨.tup [iV r.1, .bool r.2], [], []⟩
theorem F113 {C : CRel}  (a0 : List DLease) (a1 : Int) (f2 : Nat) (k2 : List V) (is2 : DLease → Int → Option Int) (hs2 : Shut k2) (hf2 : ∀ (x0 : DLease) (x1 : Int) r, is2 x0 x1 = some r → C f2 ⟨.agg (eDLease x0) :: iV x1 :: k2, []⟩ ⟨iV r, [], []⟩) (r : Int × Bool) (h0 : g113 a0 a1 is2 = some r) : FnOK C c113 ⟨[.lst 4 (a0.map eDLease), iV a1, .clo f2 k2], []⟩ ⟨.tup [iV r.1, .bool r.2], [], []⟩ := by
 refine fn_ (nl rfl) (seq_ (reg_ (st (mvc_ tv (st (mvc_ tv (oe_ (wk_ ⟨[(0, .lst 4 (a0.map eDLease)), (1, iV a1), (2, .clo f2 k2)], [], []⟩ (fg ⟨rfl, rfl, rfl, tv⟩ tv) (seq_ (reg_ (st (mv_ rfl tv (st (c_ (clenL (e := eDLease) (l0 := a0) rfl rfl tv) (st (mv_ rfl tv (oe_ (wk_ ⟨[(0, .lst 4 (a0.map eDLease)), (1, iV a1), (2, .clo f2 k2), (8, iV (a0.length : Int))], [], []⟩ (fg ⟨rfl, rfl, rfl, rfl, tv⟩ tv) (seq_ (reg_ (st (mv_ rfl tv (st (mvc_ tv (st (mv_ rfl tv (oe_ (wk_ ⟨[(0, .lst 4 (a0.map eDLease)), (1, iV a1), (2, .clo f2 k2), (8, iV (a0.length : Int)), (9, iV 0), (10, iV (a0.length : Int))], [], []⟩ (fg ⟨rfl, rfl, rfl, rfl, rfl, rfl, tv⟩ tv) (seq_ (block_ ?_))))))))))))))))))))))))))))))
 obtain ⟨r30, e31, h0⟩ := bnd h0
 refine loop_ (R := (fun S => ∃ p21 : Int, p21 = r30 ∧ S = ⟨[(0, .lst 4 (a0.map eDLease)), (1, iV a1), (2, .clo f2 k2), (8, iV (a0.length : Int)), (9, iV p21)], [], []⟩)) (g113_l0 a0 a1 is2) (fun s S => match s with | (p9, p10) => S = ⟨[(0, .lst 4 (a0.map eDLease)), (1, iV a1), (2, .clo f2 k2), (8, iV (a0.length : Int)), (9, iV p9), (10, iV p10)], [], []⟩) e31 ⟨[(0, .lst 4 (a0.map eDLease)), (1, iV a1), (2, .clo f2 k2), (8, iV (a0.length : Int)), (9, iV 0), (10, iV (a0.length : Int))], [], []⟩ (fg ⟨rfl, rfl, rfl, rfl, rfl, rfl, tv⟩ tv) rfl 0 (fun _ => rfl) ?_ ?_
 ·rintro S _ hfg ⟨p21, rfl, rfl⟩
  refine wk_ ⟨[(0, .lst 4 (a0.map eDLease)), (1, iV a1), (2, .clo f2 k2), (8, iV (a0.length : Int)), (9, iV p21)], [], []⟩ (fgl hfg ⟨rfl, rfl, rfl, rfl, rfl, tv⟩ tv) (seq_ (reg_ (st (mv_ rfl tv (st (mv_ rfl tv (st (mv_ rfl tv (st (c_ (cp_ t3 rfl tv) (st (mv_ rfl tv (st (pg_ (u := .clo f2 k2) rfl (fun hg => (cmv (v := .clo f2 k2) rfl tv)) (st (pg_ (u := .lst 4 (a0.map eDLease)) rfl (fun hg => (cmv (v := .lst 4 (a0.map eDLease)) rfl tv)) (st (pg_ (u := iV p21) rfl (fun hg => (cmv (v := iV p21) rfl tv)) ?_))))))))))))))))))
  obtain ⟨y32, e33, h0⟩ := bnd h0
  refine st (pg_ (u := .iptr [iV y32.id, iV y32.until_, iV y32.cap, .bool y32.queued]) rfl (fun hg => (cidxL (e := eDLease) (y := y32) rfl rfl (fun _ => hg) rfl rfl (fun _ => hg) (ip hg e33))) (st (pg_ (u := .agg (eDLease y32)) rfl (fun hg => (cp_ ⟨(fun _ => hg), tv⟩ rfl (nl rfl))) (st (pg_ (u := iV a1) rfl (fun hg => (cmv (v := iV a1) rfl tv)) ?_)))))
  obtain ⟨r34, e35, h0⟩ := bnd h0
  refine sw ⟨[(35, iV p21), (39, .bool (decide (p21 < (a0.length : Int)))), (40, .may ((decide (p21 < (a0.length : Int))) == true) (.clo f2 k2)), (44, .may ((decide (p21 < (a0.length : Int))) == true) (.agg (eDLease y32))), (45, .may ((decide (p21 < (a0.length : Int))) == true) (iV a1))], [], []⟩ (fg ⟨rfl, rfl, rfl, rfl, rfl, tv⟩ tv) (callvg_ (r := iV r34) rfl rfl rfl (fun hg => hg) false (fun hg => hf2 _ _ r34 (ip hg e35)) ⟨(fun hg => hg), (fun hg => hg), tv⟩ (fun _ => (and_ rfl (and_ rfl hs2.2.2.1))) (fun _ => (mapc1 rfl (mapc1 rfl (hs2.2.1 _ _ _ _ _)))) (fun _ => rfl) (fun h => nomatch h) (st (pg_ (u := .bool (r34 == 0)) rfl (fun hg => (cp_ ⟨(fun _ => hg), tv, tv⟩ rfl tv)) (st (pick_ rfl rfl rfl (fun h => eqt h) tv rfl (st (mv_ rfl tv (st (mv_ rfl tv (oe_ (wk_ ⟨[(6, iV p21), (7, .bool (bif (decide (p21 < (a0.length : Int))) then (r34 == 0) else false))], [], []⟩ (fgk (by kernel_rfl)) ?_)))))))))))
  obtain rfl := Option.some.inj h0
  exact rt_ (ret_ rfl rfl rfl rfl rfl tv)
 ·rintro ⟨p9, p10⟩ o1 _ K1 rfl h1 hx1 hK1 hE1 hR1
  refine seq_ (seq_ (reg_ (st (mv_ rfl tv (st (mv_ rfl tv (st (c_ (cp_ t3 rfl tv) (oe_ (wk_ ⟨[(0, .lst 4 (a0.map eDLease)), (1, iV a1), (2, .clo f2 k2), (8, iV (a0.length : Int)), (9, iV p9), (10, iV p10), (17, .bool (decide (p9 < p10)))], [], []⟩ (fg ⟨rfl, rfl, rfl, rfl, rfl, rfl, rfl, tv⟩ tv) (ite_ (cb := (decide (p9 < p10))) rfl (fun c22 => ?_) (fun c22 => ?_))))))))))))
  ·replace h1 := ip c22 h1
   refine sk_ (wk_ ⟨[(0, .lst 4 (a0.map eDLease)), (1, iV a1), (2, .clo f2 k2), (8, iV (a0.length : Int)), (9, iV p9), (10, iV p10)], [], []⟩ (fg ⟨rfl, rfl, rfl, rfl, rfl, rfl, tv⟩ tv) (block_ (seq_ (reg_ (st (mv_ rfl tv (st (mv_ rfl tv (st (c_ (cp_ t3 rfl tv) (st (c_ (cp_ ⟨tv, tv⟩ rfl tv) (st (c_ (cp_ ⟨tv, tv, tv⟩ rfl (by decide)) (st (c_ (cp_ ⟨tv, tv⟩ rfl tv) (st (mv_ rfl tv (oe_ ?_)))))))))))))))))))
   obtain ⟨v23, e24, h1⟩ := bl h1
   refine wk_ ⟨[(0, .lst 4 (a0.map eDLease)), (1, iV a1), (2, .clo f2 k2), (8, iV (a0.length : Int)), (9, iV p9), (10, iV p10), (11, iV v23)], [], []⟩ (fg ⟨(by subst e24; rfl), (by subst e24; rfl), (by subst e24; rfl), (by subst e24; rfl), (by subst e24; rfl), (by subst e24; rfl), (by subst e24; rfl), tv⟩ tv) (seq_ (reg_ (st (mv_ rfl tv (st (mv_ rfl tv (st (mv_ rfl tv ?_))))))))
   obtain ⟨y25, e26, h1⟩ := bnd h1
   refine st (c_ (cidxL (e := eDLease) (y := y25) rfl rfl tv rfl rfl tv e26) (st (c_ (v := .agg (eDLease y25)) (cp_ ⟨tv, tv⟩ rfl (nl rfl)) (st (mv_ rfl tv ?_)))))
   obtain ⟨r27, e28, h1⟩ := bnd h1
   refine st (callv0_ (r := iV r27) rfl false (hf2 _ _ r27 e28) ⟨tv, tv, tv⟩ (and_ rfl (and_ rfl hs2.2.2.1)) (mapc1 rfl (mapc1 rfl (hs2.2.1 _ _ _ _ _))) (fun _ => rfl) (st (c_ (cp_ t3 rfl tv) (oe_ (wk_ ⟨[(0, .lst 4 (a0.map eDLease)), (1, iV a1), (2, .clo f2 k2), (8, iV (a0.length : Int)), (9, iV p9), (10, iV p10), (11, iV v23), (31, .bool (decide (r27 < 0)))], [], []⟩ (fg ⟨rfl, rfl, rfl, rfl, rfl, rfl, rfl, rfl, tv⟩ tv) (ite_ (cb := (decide (r27 < 0))) rfl (fun c29 => ?_) (fun c29 => ?_)))))))
   ·replace h1 := ip c29 h1
    refine reg_ (st (mv_ rfl tv (st (c_ (cp_ t3 rfl tv) (st (mv_ rfl tv (oe_ (bn_ ?_))))))))
    obtain rfl := Option.some.inj h1
    exact hK1 _ rfl _ ⟨[(0, .lst 4 (a0.map eDLease)), (1, iV a1), (2, .clo f2 k2), (8, iV (a0.length : Int)), (9, iV (IntKind.i64.wrap (v23 + 1))), (10, iV p10)], [], []⟩ (fg ⟨rfl, rfl, rfl, rfl, rfl, rfl, tv⟩ tv) rfl
   ·replace h1 := inb c29 h1
    refine reg_ (st (mv_ rfl tv (st (mv_ rfl tv (oe_ (bn_ ?_))))))
    obtain rfl := Option.some.inj h1
    exact hK1 _ rfl _ ⟨[(0, .lst 4 (a0.map eDLease)), (1, iV a1), (2, .clo f2 k2), (8, iV (a0.length : Int)), (9, iV p9), (10, iV v23)], [], []⟩ (fg ⟨rfl, rfl, rfl, rfl, rfl, rfl, tv⟩ tv) rfl
  ·replace h1 := inb c22 h1
   obtain rfl := Option.some.inj h1
   obtain rfl := hx1 _ rfl
   refine exQ rfl ?_
   exact hE1 _ ⟨[(0, .lst 4 (a0.map eDLease)), (1, iV a1), (2, .clo f2 k2), (8, iV (a0.length : Int)), (9, iV p9)], [], []⟩ (fg ⟨rfl, rfl, rfl, rfl, rfl, tv⟩ tv) ⟨_, rfl, rfl⟩

/- cmp.isNaN[int] -/
def c136_r0 : List Ins := [⟨some 2, .p (.mv (.c (.bool false))), none⟩]
def c136_r1 : List Ins := [(iQ 3 (.mv (.t 0))),
(iQ 4 (.mv (.t 0))),
(iQ 5 (.bin .neq (.t 3) (.t 4))),
(iQ 2 (.mv (.t 5)))]
def c136 : XFn := { np := 1, nt := 6, res := [.t 2], body := (.seq (.reg c136_r0) (.seq (.reg c136_r1) .ret)) }
def K136 (C : CRel) : Prop := ∀ (a0 : Int) (r : Bool), g136 a0 = some r → C 136 ⟨[iV a0], []⟩ ⟨.bool r, [], []⟩
theorem F136 {C : CRel}  (a0 : Int) (r : Bool) (h0 : g136 a0 = some r) : FnOK C c136 ⟨[iV a0], []⟩ ⟨.bool r, [], []⟩ := by
 refine fn_ (nl rfl) (seq_ (reg_ (st (mvc_ tv (oe_ (wk_ ⟨[(0, iV a0)], [], []⟩ (fgk (by kernel_rfl)) (seq_ (reg_ (st (mv_ rfl tv (st (mv_ rfl tv (st (c_ (cp_ t3 rfl tv) (st (mv_ rfl tv (oe_ (wk_ ⟨[(2, .bool (a0 != a0))], [], []⟩ (fgk (by kernel_rfl)) ?_))))))))))))))))))
 obtain rfl := Option.some.inj h0
 exact rt_ (ret_ rfl rfl rfl rfl rfl tv)

/- cmp.Compare[int] -/
def c110_r0 : List Ins := [⟨some 4, .p (.mv (.c (iV 0))), none⟩]
def c110_r1 : List Ins := [(iQ 7 (.mv (.t 0))),
⟨some 8, .call 136 [(.t 7)], none⟩,
(iQ 5 (.mv (.t 8)))]
def c110_r2 : List Ins := [(iQ 9 (.mv (.t 1))),
⟨some 10, .call 136 [(.t 9)], none⟩,
(iQ 6 (.mv (.t 10)))]
def c110_r3 : List Ins := [(iQ 11 (.mv (.t 5)))]
def c110_r4 : List Ins := [(iQ 12 (.mv (.t 6)))]
def c110_r5 : List Ins := [⟨some 4, .p (.mv (.c (iV 0))), none⟩]
def c110_r6 : List Ins := [⟨some 4, .p (.mv (.c (iV (-1)))), none⟩]
def c110_r7 : List Ins := [(iQ 13 (.mv (.t 6)))]
def c110_r8 : List Ins := [⟨some 4, .p (.mv (.c (iV 1))), none⟩]
def c110_r9 : List Ins := [(iQ 14 (.mv (.t 0))),
(iQ 15 (.mv (.t 1))),
(iQ 16 (.bin .lss (.t 14) (.t 15)))]
def c110_r10 : List Ins := [⟨some 4, .p (.mv (.c (iV (-1)))), none⟩]
def c110_r11 : List Ins := [(iQ 17 (.mv (.t 0))),
(iQ 18 (.mv (.t 1))),
(iQ 19 (.bin .gtr (.t 17) (.t 18)))]
def c110_r12 : List Ins := [⟨some 4, .p (.mv (.c (iV 1))), none⟩]
def c110_r13 : List Ins := [⟨some 4, .p (.mv (.c (iV 0))), none⟩]
def c110 : XFn := { np := 2, nt := 20, res := [.t 4], body := (.seq (.reg c110_r0) (.seq (.reg c110_r1) (.seq (.reg c110_r2) (.seq (.seq (.reg c110_r3) (.ite (.t 11) (.seq (.seq (.reg c110_r4) (.ite (.t 12) (.seq (.reg c110_r5) .ret) .skip)) (.seq (.reg c110_r6) .ret)) .skip)) (.seq (.seq (.reg c110_r7) (.ite (.t 13) (.seq (.reg c110_r8) .ret) .skip)) (.seq (.seq (.reg c110_r9) (.ite (.t 16) (.seq (.reg c110_r10) .ret) .skip)) (.seq (.seq (.reg c110_r11) (.ite (.t 19) (.seq (.reg c110_r12) .ret) .skip)) (.seq (.reg c110_r13) .ret)))))))) }
def K110 (C : CRel) : Prop := ∀ (a0 : Int) (a1 : Int) (r : Int), g110 a0 a1 = some r → C 110 ⟨[iV a0, iV a1], []⟩ ⟨iV r, [], []⟩
theorem F110 {C : CRel} (H136 : K136 C) (a0 : Int) (a1 : Int) (r : Int) (h0 : g110 a0 a1 = some r) : FnOK C c110 ⟨[iV a0, iV a1], []⟩ ⟨iV r, [], []⟩ := by
 refine fn_ (nl rfl) (seq_ (reg_ (st (mvc_ tv (oe_ (wk_ ⟨[(0, iV a0), (1, iV a1)], [], []⟩ (fgk (by kernel_rfl)) (seq_ (reg_ (st (mv_ rfl tv ?_))))))))))
 obtain ⟨r1, e2, h0⟩ := bnd h0
 refine st (call0_ (r := .bool r1) false (H136 a0 r1 e2) ⟨tv, tv⟩ rfl rfl (fun _ => rfl) (st (mv_ rfl tv (oe_ (wk_ ⟨[(0, iV a0), (1, iV a1), (5, .bool r1)], [], []⟩ (fgk (by kernel_rfl)) (seq_ (reg_ (st (mv_ rfl tv ?_)))))))))
 obtain ⟨r3, e4, h0⟩ := bnd h0
 refine st (call0_ (r := .bool r3) false (H136 a1 r3 e4) ⟨tv, tv⟩ rfl rfl (fun _ => rfl) (st (mv_ rfl tv (oe_ (wk_ ⟨[(0, iV a0), (1, iV a1), (5, .bool r1), (6, .bool r3)], [], []⟩ (fgk (by kernel_rfl)) (seq_ (seq_ (reg_ (st (mv_ rfl tv (oe_ (wk_ ⟨[(0, iV a0), (1, iV a1), (6, .bool r3), (11, .bool r1)], [], []⟩ (fgk (by kernel_rfl)) (ite_ (cb := r1) rfl (fun c5 => ?_) (fun c5 => ?_))))))))))))))
 ·replace h0 := ip c5 h0
  refine seq_ (seq_ (reg_ (st (mv_ rfl tv (oe_ (wk_ ⟨[(12, .bool r3)], [], []⟩ (fgk (by kernel_rfl)) (ite_ (cb := r3) rfl (fun c6 => ?_) (fun c6 => ?_))))))))
  ·replace h0 := ip c6 h0
   refine seq_ (reg_ (st (mvc_ tv (oe_ (wk_ ⟨[(4, iV 0)], [], []⟩ (fgk (by kernel_rfl)) ?_)))))
   obtain rfl := Option.some.inj h0
   exact rt_ (ret_ rfl rfl rfl rfl rfl tv)
  ·replace h0 := inb c6 h0
   refine sk_ (wk_ ⟨[], [], []⟩ (fgk (by kernel_rfl)) (seq_ (reg_ (st (mvc_ tv (oe_ (wk_ ⟨[(4, iV (-1))], [], []⟩ (fgk (by kernel_rfl)) ?_)))))))
   obtain rfl := Option.some.inj h0
   exact rt_ (ret_ rfl rfl rfl rfl rfl tv)
 ·replace h0 := inb c5 h0
  refine sk_ (wk_ ⟨[(0, iV a0), (1, iV a1), (6, .bool r3)], [], []⟩ (fgk (by kernel_rfl)) (seq_ (seq_ (reg_ (st (mv_ rfl tv (oe_ (wk_ ⟨[(0, iV a0), (1, iV a1), (13, .bool r3)], [], []⟩ (fgk (by kernel_rfl)) (ite_ (cb := r3) rfl (fun c7 => ?_) (fun c7 => ?_))))))))))
  ·replace h0 := ip c7 h0
   refine seq_ (reg_ (st (mvc_ tv (oe_ (wk_ ⟨[(4, iV 1)], [], []⟩ (fgk (by kernel_rfl)) ?_)))))
   obtain rfl := Option.some.inj h0
   exact rt_ (ret_ rfl rfl rfl rfl rfl tv)
  ·replace h0 := inb c7 h0
   refine sk_ (wk_ ⟨[(0, iV a0), (1, iV a1)], [], []⟩ (fgk (by kernel_rfl)) (seq_ (seq_ (reg_ (st (mv_ rfl tv (st (mv_ rfl tv (st (c_ (cp_ t3 rfl tv) (oe_ (wk_ ⟨[(0, iV a0), (1, iV a1), (16, .bool (decide (a0 < a1)))], [], []⟩ (fgk (by kernel_rfl)) (ite_ (cb := (decide (a0 < a1))) rfl (fun c8 => ?_) (fun c8 => ?_))))))))))))))
   ·replace h0 := ip c8 h0
    refine seq_ (reg_ (st (mvc_ tv (oe_ (wk_ ⟨[(4, iV (-1))], [], []⟩ (fgk (by kernel_rfl)) ?_)))))
    obtain rfl := Option.some.inj h0
    exact rt_ (ret_ rfl rfl rfl rfl rfl tv)
   ·replace h0 := inb c8 h0
    refine sk_ (wk_ ⟨[(0, iV a0), (1, iV a1)], [], []⟩ (fgk (by kernel_rfl)) (seq_ (seq_ (reg_ (st (mv_ rfl tv (st (mv_ rfl tv (st (c_ (cp_ t3 rfl tv) (oe_ (wk_ ⟨[(19, .bool (decide (a0 > a1)))], [], []⟩ (fgk (by kernel_rfl)) (ite_ (cb := (decide (a0 > a1))) rfl (fun c9 => ?_) (fun c9 => ?_))))))))))))))
    ·replace h0 := ip c9 h0
     refine seq_ (reg_ (st (mvc_ tv (oe_ (wk_ ⟨[(4, iV 1)], [], []⟩ (fgk (by kernel_rfl)) ?_)))))
     obtain rfl := Option.some.inj h0
     exact rt_ (ret_ rfl rfl rfl rfl rfl tv)
    ·replace h0 := inb c9 h0
     refine sk_ (wk_ ⟨[], [], []⟩ (fgk (by kernel_rfl)) (seq_ (reg_ (st (mvc_ tv (oe_ (wk_ ⟨[(4, iV 0)], [], []⟩ (fgk (by kernel_rfl)) ?_)))))))
     obtain rfl := Option.some.inj h0
     exact rt_ (ret_ rfl rfl rfl rfl rfl tv)

/- (loop.example/g00149/impl.Table).find$1 -/
def c114_r0 : List Ins := [⟨some 2, .box (.t 0), none⟩,
⟨some 4, .p (.mv (.c (iV 0))), none⟩]
def c114_r1 : List Ins := [(iQ 5 (.fieldA (.t 2) 0)),
(iQ 6 (.load (.t 5) 1 false)),
(iQ 7 (.mv (.t 1))),
⟨some 8, .call 110 [(.t 6), (.t 7)], none⟩,
(iQ 4 (.mv (.t 8)))]
def c114 : XFn := { np := 2, nt := 9, res := [.t 4], body := (.seq (.reg c114_r0) (.seq (.reg c114_r1) .ret)) }
def K114 (C : CRel) : Prop := ∀ (a0 : DLease) (a1 : Int) (r : Int), g114 a0 a1 = some r → C 114 ⟨[.agg (eDLease a0), iV a1], []⟩ ⟨iV r, [], []⟩
theorem F114 {C : CRel} (H110 : K110 C) (a0 : DLease) (a1 : Int) (r : Int) (h0 : g114 a0 a1 = some r) : FnOK C c114 ⟨[.agg (eDLease a0), iV a1], []⟩ ⟨iV r, [], []⟩ := by
 refine fn_ (nl rfl) (seq_ (reg_ (st (box_ rfl tv rfl (st (mvc_ tv (oe_ (wk_ ⟨[(1, iV a1), (2, .ptr 128 0)], [(128, [iV a0.id, iV a0.until_, iV a0.cap, .bool a0.queued])], []⟩ (fgk (by kernel_rfl)) (seq_ (reg_ (st (c_ (cp_ ⟨tv, tv⟩ rfl tv) (st (c_ (cp_ ⟨tv, tv⟩ rfl (nl rfl)) (st (mv_ rfl tv ?_))))))))))))))))
 obtain ⟨r1, e2, h0⟩ := bnd h0
 refine st (call0_ (r := iV r1) false (H110 a0.id a1 r1 e2) ⟨tv, tv, tv⟩ rfl rfl (fun _ => rfl) (st (mv_ rfl tv (oe_ (wk_ ⟨[(4, iV r1)], [], []⟩ (fgk (by kernel_rfl)) ?_)))))
 obtain rfl := Option.some.inj h0
 exact rt_ (ret_ rfl rfl rfl rfl rfl tv)

/- (loop.example/g00149/impl.Table).find -/
def c77_r0 : List Ins := [⟨some 2, .box (.t 0), none⟩,
⟨some 4, .p (.mv (.c (iV 0))), none⟩,
⟨some 5, .p (.mv (.c (.bool false))), none⟩]
def c77_r1 : List Ins := [(iQ 6 (.fieldA (.t 2) 2)),
(iQ 7 (.load (.t 6) 1 false)),
(iQ 8 (.mv (.t 1))),
⟨some 9, .call 113 [(.t 7), (.t 8), (.c (.clo 114 []))], none⟩,
(iQ 10 (.ext (.t 9) 0)),
(iQ 11 (.ext (.t 9) 1)),
(iQ 4 (.mv (.t 10))),
(iQ 5 (.mv (.t 11)))]
def c77 : XFn := { np := 2, nt := 12, res := [.t 4, .t 5], body := (.seq (.reg c77_r0) (.seq (.reg c77_r1) .ret)) }
def K77 (C : CRel) : Prop := ∀ (a0 : DTable) (a1 : Int) (r : Int × Bool), g77 a0 a1 = some r → C 77 ⟨[.agg (eDTable a0), iV a1], []⟩ ⟨.tup [iV r.1, .bool r.2], [], []⟩
theorem F77 {C : CRel} (H113 : K113 C) (H114 : K114 C) (a0 : DTable) (a1 : Int) (r : Int × Bool) (h0 : g77 a0 a1 = some r) : FnOK C c77 ⟨[.agg (eDTable a0), iV a1], []⟩ ⟨.tup [iV r.1, .bool r.2], [], []⟩ := by
 refine fn_ (nl rfl) (seq_ (reg_ (st (box_ rfl tv rfl (st (mvc_ tv (st (mvc_ tv (oe_ (wk_ ⟨[(1, iV a1), (2, .ptr 128 0)], [(128, [iV a0.clock, iV a0.next, .lst 4 (a0.list_.map eDLease)])], []⟩ (fgk (by kernel_rfl)) (seq_ (reg_ (st (c_ (cp_ ⟨tv, tv⟩ rfl tv) (st (c_ (cp_ ⟨tv, tv⟩ rfl (nl rfl)) (st (mv_ rfl tv ?_))))))))))))))))))
 obtain ⟨r1, e2, h0⟩ := bnd h0
 refine st (call0_ (r := .tup [iV r1.1, .bool r1.2]) false (H113 a0.list_ a1 114 [] (fun z114_0 z114_1 => g114 z114_0 z114_1) (⟨fun _ _ _ _ _ => rfl, fun _ _ _ _ _ => rfl, rfl, fun _ _ _ n => by cases n <;> rfl, fun _ => rfl⟩) (fun z114_0 z114_1 r h => H114 z114_0 z114_1 r h) r1 e2) ⟨tv, tv, tv, tv⟩ rfl rfl (fun _ => rfl) (st (c_ (cp_ ⟨tv, tv⟩ rfl tv) (st (c_ (cp_ ⟨tv, tv⟩ rfl tv) (st (mv_ rfl tv (st (mv_ rfl tv (oe_ (wk_ ⟨[(4, iV r1.1), (5, .bool r1.2)], [], []⟩ (fgk (by kernel_rfl)) ?_)))))))))))
 obtain rfl := Option.some.inj h0
 exact rt_ (ret_ rfl rfl rfl rfl rfl tv)

/- slices.Clone[[]loop.example/g00149/impl.Lease,loop.example/g00149/impl.Lease] -/
def c66_r0 : List Ins := [⟨some 2, .nilS 4, none⟩]
def c66_r1 : List Ins := [(iQ 3 (.mv (.t 0))),
⟨some 4, .isnil (.t 3) false, none⟩]
def c66_r2 : List Ins := [⟨some 2, .nilS 4, none⟩]
def c66_r3 : List Ins := [⟨some 5, .mkS 4 [(iV 0), (iV 0), (iV 0), (.bool false)] 0 [], none⟩,
(iQ 6 (.mv (.t 0))),
⟨some 7, .app 4 32 (.t 5) (.t 6), none⟩,
(iQ 2 (.mv (.t 7)))]
def c66 : XFn := { np := 1, nt := 8, res := [.t 2], body := (.seq (.reg c66_r0) (.seq (.seq (.reg c66_r1) (.ite (.t 4) (.seq (.reg c66_r2) .ret) .skip)) (.seq (.reg c66_r3) .ret))) }
def K66 (C : CRel) : Prop := ∀ (a0 : List DLease) (r : List DLease), g66 a0 = some r → C 66 ⟨[.lst 4 (a0.map eDLease)], []⟩ ⟨.own 0 0 4 (r.map eDLease), [], []⟩
theorem F66 {C : CRel} (a0 : List DLease) (r : List DLease) (h0 : g66 a0 = some r) : FnOK C c66 ⟨[.lst 4 (a0.map eDLease)], []⟩ ⟨.own 0 0 4 (r.map eDLease), [], []⟩ := by
 refine fn_ (nl rfl) ?_
 obtain ⟨hc, h0⟩ := grd h0
 obtain rfl := Option.some.inj h0
 refine seq_ (reg_ (st (nilS_ (oe_ (wk_ ⟨[(0, .lst 4 (a0.map eDLease))], [], []⟩ (fg ⟨rfl, tv⟩ tv) (seq_ (seq_ (reg_ (st (mv_ rfl tv (st (isnilL (e := eDLease) (l0 := a0) rfl fun b hb => (oe_ (w0_ (ite_ (cb := b) rfl (fun h => ?_) (fun h => ?_))))))))))))))))
 ·obtain rfl := hb h
  refine seq_ (reg_ (st (nilS_ (oe_ (w0_ ?_)))))
  refine rt_ (ret_ rfl rfl rfl rfl rfl tv)
 ·refine sk_ ?_
  refine wk_ ⟨[(0, .lst 4 (a0.map eDLease))], [], []⟩ (fg ⟨rfl, tv⟩ tv) (seq_ (reg_ (st (mkS_ tv tv (st (mv_ rfl tv (st (app_ (e := eDLease) (l0 := ([] : List DLease)) (l1 := a0) rfl rfl tv rfl (by decide) ?_ ?_))))))))
  rotate_left
  refine st (mv_ rfl tv (oe_ (w0_ ?_)))
  refine rt_ (ret_ rfl rfl rfl rfl rfl tv)
  have := Nat.mul_le_mul_right 32 hc
  exact Nat.le_trans this (by decide)

/- (loop.example/g00149/impl.Table).own -/
def c112_r0 : List Ins := [⟨some 1, .box (.t 0), none⟩,
⟨some 2, .alloc [(iV 0), (iV 0), (.own 131 0 4 [])], none⟩]
def c112_r1 : List Ins := [(iQ 3 (.fieldA (.t 1) 2)),
(iQ 4 (.load (.t 3) 1 false)),
⟨some 5, .call 66 [(.t 4)], none⟩,
(iQ 6 (.fieldA (.t 1) 2)),
⟨none, .store (.t 6) (.t 5) 1, none⟩]
def c112_r2 : List Ins := [(iQ 7 (.load (.t 1) 3 true)),
⟨none, .store (.t 2) (.t 7) 3, none⟩]
def c112 : XFn := { np := 1, nt := 8, res := [.cell 2 3 true], body := (.seq (.reg c112_r0) (.seq (.reg c112_r1) (.seq (.reg c112_r2) .ret))) }
def K112 (C : CRel) : Prop := ∀ (a0 : DTable) (r : DTable), g112 a0 = some r → C 112 ⟨[.agg (eDTable a0)], []⟩ ⟨.agg [iV r.clock, iV r.next, .own 0 0 4 (r.list_.map eDLease)], [], []⟩
theorem F112 {C : CRel} (H66 : K66 C) (a0 : DTable) (r : DTable) (h0 : g112 a0 = some r) : FnOK C c112 ⟨[.agg (eDTable a0)], []⟩ ⟨.agg [iV r.clock, iV r.next, .own 0 0 4 (r.list_.map eDLease)], [], []⟩ := by
 refine fn_ (nl rfl) (seq_ (reg_ (st (box_ rfl tv rfl (st (alloc_ (oe_ (wk_ ⟨[(1, .ptr 64 0), (2, .ptr 128 0)], [(64, [iV a0.clock, iV a0.next, .lst 4 (a0.list_.map eDLease)]), (128, [iV 0, iV 0, .own 131 0 4 (([] : List DLease).map eDLease)])], []⟩ (fgk (by kernel_rfl)) (seq_ (reg_ (st (c_ (cp_ ⟨tv, tv⟩ rfl tv) (st (c_ (cp_ ⟨tv, tv⟩ rfl (nl rfl)) ?_))))))))))))))
 obtain ⟨r1, e2, h0⟩ := bnd h0
 refine st (call0_ (r := .own 0 0 4 (r1.map eDLease)) false (H66 a0.list_ r1 e2) ⟨tv, tv⟩ rfl rfl (fun _ => (and_ (fl1 (fun _ => rfl)) rfl)) (st (c_ (cp_ ⟨tv, tv⟩ rfl tv) (st (stp_ rfl rfl tv rfl rfl rfl (nl rfl) (oe_ (wk_ ⟨[(1, .ptr 64 0), (2, .ptr 128 0)], [(64, [iV a0.clock, iV a0.next, .own 320 0 4 (r1.map eDLease)]), (128, [iV 0, iV 0, .own 131 0 4 (([] : List DLease).map eDLease)])], []⟩ (fgk (by kernel_rfl)) (seq_ (reg_ (st (c_ (v := .agg [iV a0.clock, iV a0.next, .own 320 0 4 (r1.map eDLease)]) (cp_ ⟨tv, tv⟩ rfl (nl rfl)) (st (stp_ rfl rfl tv rfl rfl rfl (nl rfl) (oe_ (wk_ ⟨[(2, .ptr 128 0)], [(128, [iV a0.clock, iV a0.next, .own 320 0 4 (r1.map eDLease)])], []⟩ (fgk (by kernel_rfl)) ?_)))))))))))))))
 obtain rfl := Option.some.inj h0
 exact rt_ (ret_ rfl rfl rfl rfl rfl tv)

/- slices.Delete[[]loop.example/g00149/impl.Lease,loop.example/g00149/impl.Lease] -/
def c115_r0 : List Ins := [⟨some 6, .nilS 4, none⟩]
def c115_r1 : List Ins := [(iQ 8 (.mv (.t 0))),
(iQ 9 (.mv (.t 1))),
(iQ 10 (.mv (.t 2))),
(iQ 11 (.mv (.t 0))),
(iQ 12 (.len (.t 11))),
⟨some 13, .chk3 (.t 8) (.t 9) (.t 10) (.t 12), none⟩]
def c115_r2 : List Ins := [(iQ 14 (.mv (.t 1))),
(iQ 15 (.mv (.t 2))),
(iQ 16 (.bin .eql (.t 14) (.t 15)))]
def c115_r3 : List Ins := [(iQ 17 (.mv (.t 0))),
(iQ 6 (.mv (.t 17)))]
def c115_r4 : List Ins := [(iQ 18 (.mv (.t 0))),
(iQ 19 (.len (.t 18))),
(iQ 7 (.mv (.t 19)))]
def c115_r5 : DP := (.take (iQ 20 (.mv (.t 0)))
(.take (iQ 21 (.mv (.t 1)))
(.take ⟨some 22, .p (.slice (.t 20) none (some (.t 21)) 4), none⟩
(.take (iQ 23 (.mv (.t 0)))
(.take (iQ 24 (.mv (.t 2)))
(.take ⟨some 25, .p (.slice (.t 23) (some (.t 24)) none 4), none⟩
(.alt [] ⟨some 26, .app 4 32 (.t 22) (.t 25), none⟩
(.alt [] (iQ 0 (.mv (.t 26)))
.fin
.stop)
.stop)))))))
def c115_r6 : List Ins := [(iQ 27 (.mv (.t 0))),
(iQ 28 (.mv (.t 0))),
(iQ 29 (.len (.t 28))),
(iQ 30 (.mv (.t 7))),
⟨some 31, .p (.slice (.t 27) (some (.t 29)) (some (.t 30)) 4), none⟩,
⟨none, .clear 4 [(iV 0), (iV 0), (iV 0), (.bool false)] (.t 31), none⟩]
def c115_r7 : List Ins := [(iQ 32 (.mv (.t 0))),
(iQ 6 (.mv (.t 32)))]
def c115 : XFn := { np := 3, nt := 33, res := [.t 6], body := (.seq (.reg c115_r0) (.seq (.reg c115_r1) (.seq (.seq (.reg c115_r2) (.ite (.t 16) (.seq (.reg c115_r3) .ret) .skip)) (.seq (.reg c115_r4) (.seq (.draw c115_r5) (.seq (.reg c115_r6) (.seq (.reg c115_r7) .ret))))))) }
def K115 (C : CRel) : Prop := ∀ (a0 : List DLease) (a1 : Int) (a2 : Int) (r : List DLease), g115 a0 a1 a2 = some r → C 115 ⟨[.own 1024000 0 4 (a0.map eDLease), iV a1, iV a2], []⟩ ⟨.own 0 0 4 (r.map eDLease), [], []⟩
theorem F115 {C : CRel} (a0 : List DLease) (a1 : Int) (a2 : Int) (r : List DLease) (h0 : g115 a0 a1 a2 = some r) : FnOK C c115 ⟨[.own 1024000 0 4 (a0.map eDLease), iV a1, iV a2], []⟩ ⟨.own 0 0 4 (r.map eDLease), [], []⟩ := by
 refine fn_ (nl rfl) ?_
 obtain ⟨⟨hb, hl⟩, h0⟩ := grd h0
 obtain rfl := Option.some.inj h0
 obtain ⟨i, rfl⟩ := Int.eq_ofNat_of_zero_le hb.1
 obtain ⟨j, rfl⟩ := Int.eq_ofNat_of_zero_le (Int.le_trans hb.1 hb.2.1)
 have hij : i ≤ j := by omega
 have hj : j ≤ a0.length := by omega
 rw [show ((i : Nat) : Int).toNat = i from rfl, show ((j : Nat) : Int).toNat = j from rfl]
 refine seq_ (reg_ (st (nilS_ (oe_ (wk_ ⟨[(0, .own 1024000 0 4 (a0.map eDLease)), (1, iV i), (2, iV j)], [], []⟩ (fg ⟨rfl, rfl, rfl, tv⟩ tv) (seq_ (reg_ (st (mv_ rfl tv (st (mv_ rfl tv (st (mv_ rfl tv (st (mv_ rfl tv (st (c_ (clenO (e := eDLease) (l0 := a0) rfl rfl tv) (st (chk3O (e := eDLease) (l0 := a0) rfl rfl rfl rfl ⟨by omega, by omega, by omega, Int.le_refl _⟩ (oe_ (wk_ ⟨[(0, .own 1024000 0 4 (a0.map eDLease)), (1, iV i), (2, iV j)], [], []⟩ (fg ⟨rfl, rfl, rfl, tv⟩ tv) (seq_ (seq_ (reg_ (st (mv_ rfl tv (st (mv_ rfl tv (st (c_ (cp_ t3 rfl tv) (oe_ (w0_ (ite_ (cb := (i : Int) == (j : Int)) rfl (fun h => ?_) (fun h => ?_))))))))))))))))))))))))))))))))))
 ·have e1 : i = j := by have := eq_of_beq h; omega
  subst e1
  rw [List.take_append_drop]
  refine seq_ (reg_ (st (mv_ rfl tv (st (mv_ rfl tv (oe_ (w0_ ?_)))))))
  exact rt_ (ret_ rfl rfl rfl rfl rfl tv)
 ·have hne : i ≠ j := fun e1 => by subst e1; simp at h
  have hemp : a0.map eDLease ≠ [] := fun e1 => by
   have := congrArg List.length e1
   simp at this
   subst this
   simp at hj
   omega
  refine sk_ (wk_ ⟨[(0, .own 1024000 0 4 (a0.map eDLease)), (1, iV i), (2, iV j)], [], []⟩ (fg ⟨rfl, rfl, rfl, tv⟩ tv) (seq_ (reg_ (st (mv_ rfl tv (st (c_ (clenO (e := eDLease) (l0 := a0) rfl rfl tv) (st (mv_ rfl tv (oe_ (wk_ ⟨[(0, .own 1024000 0 4 (a0.map eDLease)), (1, iV i), (2, iV j), (7, iV (a0.length : Int))], [], [(0, (a0.length : Int))]⟩ (fgc ⟨rfl, rfl, rfl, rfl, tv⟩ tv ⟨.inr (.inl ⟨_, _, _, _, rfl, hemp, by simp⟩), tv⟩) (seq_ (draw_ (dtake tv (mv_ rfl tv (⟨tv, (dtake tv (mv_ rfl tv (⟨tv, (dtake tv (c_ (csliceO (e := eDLease) (y := a0.take i) rfl rfl tv ⟨tv, tv⟩ rfl rfl (by rw [show (none : Option Int).getD 0 = ((0 : Nat) : Int) from rfl]; exact slcN a0 0 i (by omega) (by omega))) (⟨tv, (dtake tv (mv_ rfl tv (⟨tv, (dtake tv (mv_ rfl tv (⟨tv, (dtake tv (c_ (csliceO (e := eDLease) (y := a0.drop j) rfl rfl tv ⟨tv, tv⟩ rfl rfl (slcD a0 j hj)) (⟨tv, (dalt (appc_ (e := eDLease) (l0 := a0.take i) (l1 := a0.drop j) (t := 1024000) (sz := 4) (vy := .own 1024000 (0 + j) 4 ((a0.drop j).map eDLease)) (c := (a0.length : Int) - 0) rfl rfl tv rfl (show (1024000 : Nat) < 1048576 by decide) ?_ rfl ?_ ?_) dstop)⟩)))⟩)))⟩)))⟩)))⟩)))⟩))))))))))))))))
  ·have : (a0.take i).length + (a0.drop j).length ≤ a0.length := by simp; omega
   exact Nat.le_trans (Nat.mul_le_mul_right 32 this) (Nat.le_trans (Nat.mul_le_mul_right 32 hl) (by decide))
  ·simp; omega
  refine dk0 ⟨[], tv, tv, (dalt (mv_ rfl tv (dk0 ⟨[], tv, tv, (dfin ?_)⟩)) dstop)⟩
  generalize hR : a0.take i ++ a0.drop j = R
  have hRl : R.length ≤ a0.length := by rw [← hR]; simp; omega
  refine wk_ ⟨[(0, .own 1024000 0 4 (R.map eDLease)), (7, iV (a0.length : Int))], [], [(0, (a0.length : Int) - 0)]⟩ (fgc ⟨rfl, rfl, tv⟩ tv ⟨.inl ⟨_, rfl, Int.le_refl _⟩, tv⟩) (seq_ (reg_ (st (mv_ rfl tv (st (mv_ rfl tv (st (c_ (clenO (e := eDLease) (l0 := R) rfl rfl tv) (st (mv_ rfl tv (st (c_ (sliceRoom (e := eDLease) (R := R) (t := 1024000) (sz := 4) (L := R.length) (H := a0.length) (c := (a0.length : Int) - 0) rfl rfl rfl rfl hRl (show (0 : Nat) < 4 by decide) rfl (Int.le_of_eq (Int.sub_zero _).symm)) (st (clearAt_ rfl (oe_ (wk_ ⟨[(0, .own 1024000 0 4 (R.map eDLease))], [], []⟩ (fg ⟨past1 (Nat.le_refl _), tv⟩ tv) (seq_ (reg_ (st (mv_ rfl tv (st (mv_ rfl tv (oe_ (w0_ ?_))))))))))))))))))))))))
  exact rt_ (ret_ rfl rfl rfl rfl rfl tv)

/- (loop.example/g00149/impl.Table).without -/
def c78_r0 : List Ins := [⟨some 2, .box (.t 0), none⟩,
⟨some 4, .alloc [(iV 0), (iV 0), (.own 259 0 4 [])], none⟩]
def c78_r1 : List Ins := [(iQ 6 (.load (.t 2) 3 true)),
⟨some 7, .call 112 [(.t 6)], none⟩,
⟨some 5, .alloc [(iV 0), (iV 0), (.own 323 0 4 [])], none⟩,
⟨none, .store (.t 5) (.t 7) 3, none⟩]
def c78_r2 : List Ins := [(iQ 8 (.fieldA (.t 5) 2)),
(iQ 9 (.load (.t 8) 1 false)),
(iQ 10 (.mv (.t 1))),
(iQ 11 (.mv (.t 1))),
⟨some 12, .p (.bin .add (.t 11) (.c (iV 1))), none⟩,
⟨some 13, .call 115 [(.t 9), (.t 10), (.t 12)], none⟩,
(iQ 14 (.fieldA (.t 5) 2)),
⟨none, .store (.t 14) (.t 13) 1, none⟩]
def c78_r3 : List Ins := [(iQ 15 (.load (.t 5) 3 true)),
⟨none, .store (.t 4) (.t 15) 3, none⟩]
def c78 : XFn := { np := 2, nt := 16, res := [.cell 4 3 true], body := (.seq (.reg c78_r0) (.seq (.reg c78_r1) (.seq (.reg c78_r2) (.seq (.reg c78_r3) .ret)))) }
def K78 (C : CRel) : Prop := ∀ (a0 : DTable) (a1 : Int) (r : DTable), g78 a0 a1 = some r → C 78 ⟨[.agg (eDTable a0), iV a1], []⟩ ⟨.agg [iV r.clock, iV r.next, .own 0 0 4 (r.list_.map eDLease)], [], []⟩
theorem F78 {C : CRel} (H112 : K112 C) (H115 : K115 C) (a0 : DTable) (a1 : Int) (r : DTable) (h0 : g78 a0 a1 = some r) : FnOK C c78 ⟨[.agg (eDTable a0), iV a1], []⟩ ⟨.agg [iV r.clock, iV r.next, .own 0 0 4 (r.list_.map eDLease)], [], []⟩ := by
 refine fn_ (nl rfl) (seq_ (reg_ (st (box_ rfl tv rfl (st (alloc_ (oe_ (wk_ ⟨[(1, iV a1), (2, .ptr 128 0), (4, .ptr 256 0)], [(128, [iV a0.clock, iV a0.next, .lst 4 (a0.list_.map eDLease)]), (256, [iV 0, iV 0, .own 259 0 4 (([] : List DLease).map eDLease)])], []⟩ (fgk (by kernel_rfl)) (seq_ (reg_ (st (c_ (v := .agg (eDTable a0)) (cp_ ⟨tv, tv⟩ rfl (nl rfl)) ?_))))))))))))
 obtain ⟨r1, e2, h0⟩ := bnd h0
 refine st (call0_ (r := .agg [iV r1.clock, iV r1.next, .own 0 0 4 (r1.list_.map eDLease)]) false (H112 a0 r1 e2) ⟨tv, tv⟩ rfl rfl (fun _ => (and_ rfl (and_ rfl (and_ (fl1 (fun _ => rfl)) rfl)))) (st (alloc_ (st (stp_ rfl rfl tv rfl rfl rfl (nl rfl) (oe_ (wk_ ⟨[(1, iV a1), (4, .ptr 256 0), (5, .ptr 320 0)], [(256, [iV 0, iV 0, .own 259 0 4 (([] : List DLease).map eDLease)]), (320, [iV r1.clock, iV r1.next, .own 448 0 4 (r1.list_.map eDLease)])], []⟩ (fgk (by kernel_rfl)) (seq_ (reg_ (st (c_ (cp_ ⟨tv, tv⟩ rfl tv) (st (c_ (cp_ ⟨tv, tv⟩ rfl (nl rfl)) (st (mv_ rfl tv (st (mv_ rfl tv (st (c_ (cp_ t3 rfl tv) ?_)))))))))))))))))))
 obtain ⟨r3, e4, h0⟩ := bnd h0
 refine st (call1_ [] [] [448] false (H115 r1.list_ a1 (IntKind.i64.wrap (a1 + 1)) r3 e4) ⟨tv, tv, tv, tv⟩ (by kernel_rfl) (by kernel_rfl) (by kernel_rfl) (by kernel_rfl) (fun _ => and_ (and_ (fl1 (fun _ => rfl)) rfl) rfl) (sw ⟨[(4, .ptr 256 0), (5, .ptr 320 0), (13, .own 832 0 4 (r3.map eDLease))], [(256, [iV 0, iV 0, .own 259 0 4 (([] : List DLease).map eDLease)]), (320, [iV r1.clock, iV r1.next, .undef])], []⟩ (fgk (by kernel_rfl)) (c_ (cp_ ⟨tv, tv⟩ rfl tv) (st (stp_ rfl rfl tv rfl rfl rfl (nl rfl) (oe_ (wk_ ⟨[(4, .ptr 256 0), (5, .ptr 320 0)], [(256, [iV 0, iV 0, .own 259 0 4 (([] : List DLease).map eDLease)]), (320, [iV r1.clock, iV r1.next, .own 832 0 4 (r3.map eDLease)])], []⟩ (fgk (by kernel_rfl)) (seq_ (reg_ (st (c_ (v := .agg [iV r1.clock, iV r1.next, .own 832 0 4 (r3.map eDLease)]) (cp_ ⟨tv, tv⟩ rfl (nl rfl)) (st (stp_ rfl rfl tv rfl rfl rfl (nl rfl) (oe_ (wk_ ⟨[(4, .ptr 256 0)], [(256, [iV r1.clock, iV r1.next, .own 832 0 4 (r3.map eDLease)])], []⟩ (fgk (by kernel_rfl)) ?_)))))))))))))))
 obtain rfl := Option.some.inj h0
 exact rt_ (ret_ rfl rfl rfl rfl rfl tv)

/- loop.example/g00149/impl.Done -/
def c31_r0 : List Ins := [⟨some 2, .box (.t 0), none⟩,
⟨some 4, .alloc [(iV 0), (iV 0), (.own 259 0 4 [])], none⟩,
⟨some 5, .p (.mv (.c (iV 0))), none⟩]
def c31_r1 : List Ins := [(iQ 8 (.load (.t 2) 3 true)),
⟨some 9, .call 20 [(.t 8)], none⟩,
(iQ 10 (.un .not (.t 9)))]
def c31_r2 : List Ins := [(iQ 11 (.build [(iV 0), (iV 0), (.own 707 0 4 [])] [])),
⟨none, .store (.t 4) (.t 11) 3, none⟩,
⟨some 5, .p (.mv (.c (iV 1))), none⟩]
def c31_r3 : List Ins := [(iQ 13 (.load (.t 2) 3 true)),
(iQ 14 (.mv (.t 1))),
⟨some 15, .call 77 [(.t 13), (.t 14)], none⟩,
(iQ 12 (.mv (.t 15))),
(iQ 16 (.ext (.t 12) 0)),
(iQ 17 (.ext (.t 12) 1)),
(iQ 6 (.mv (.t 16))),
(iQ 7 (.mv (.t 17)))]
def c31_r4 : List Ins := [(iQ 19 (.mv (.t 7))),
(iQ 20 (.un .not (.t 19))),
(iQ 18 (.mv (.t 20)))]
def c31_r5 : List Ins := [(iQ 21 (.build [(iV 0), (iV 0), (.own 1347 0 4 [])] [])),
⟨none, .store (.t 4) (.t 21) 3, none⟩,
⟨some 5, .p (.mv (.c (iV 5))), none⟩]
def c31_r6 : List Ins := [(iQ 23 (.fieldA (.t 2) 2)),
(iQ 24 (.load (.t 23) 1 false)),
(iQ 25 (.mv (.t 6))),
(iQ 26 (.idxA (.t 24) (.t 25) 4)),
(iQ 27 (.fieldA (.t 26) 3)),
(iQ 28 (.load (.t 27) 1 false)),
(iQ 29 (.un .not (.t 28))),
(iQ 22 (.mv (.t 29)))]
def c31_r7 : List Ins := [(iQ 30 (.build [(iV 0), (iV 0), (.own 1923 0 4 [])] [])),
⟨none, .store (.t 4) (.t 30) 3, none⟩,
⟨some 5, .p (.mv (.c (iV 13))), none⟩]
def c31_r8 : List Ins := [(iQ 31 (.load (.t 2) 3 true)),
(iQ 32 (.mv (.t 6))),
⟨some 33, .call 78 [(.t 31), (.t 32)], none⟩,
⟨none, .store (.t 4) (.t 33) 3, none⟩,
⟨some 5, .p (.mv (.c (iV 0))), none⟩]
def c31 : XFn := { np := 2, nt := 34, res := [.cell 4 3 true, .t 5], body := (.seq (.reg c31_r0) (.seq (.seq (.reg c31_r1) (.ite (.t 10) (.seq (.reg c31_r2) .ret) .skip)) (.seq (.reg c31_r3) (.seq (.block 0 (.seq (.reg c31_r4) (.ite (.t 18) (.seq (.reg c31_r5) .ret) (.seq (.reg c31_r6) (.ite (.t 22) (.seq (.reg c31_r7) .ret) .skip))))) (.seq (.reg c31_r8) .ret))))) }
def K31 (C : CRel) : Prop := ∀ (a0 : DTable) (a1 : Int) (r : DTable × Int), g31 a0 a1 = some r → C 31 ⟨[.agg (eDTable a0), iV a1], []⟩ ⟨.tup [.agg [iV r.1.clock, iV r.1.next, .own 0 0 4 (r.1.list_.map eDLease)], iV r.2], [], []⟩
theorem F31 {C : CRel} (H20 : K20 C) (H77 : K77 C) (H78 : K78 C) (a0 : DTable) (a1 : Int) (r : DTable × Int) (h0 : g31 a0 a1 = some r) : FnOK C c31 ⟨[.agg (eDTable a0), iV a1], []⟩ ⟨.tup [.agg [iV r.1.clock, iV r.1.next, .own 0 0 4 (r.1.list_.map eDLease)], iV r.2], [], []⟩ := by
 refine fn_ (nl rfl) (seq_ (reg_ (st (box_ rfl tv rfl (st (alloc_ (st (mvc_ tv (oe_ (wk_ ⟨[(1, iV a1), (2, .ptr 128 0), (4, .ptr 256 0)], [(128, [iV a0.clock, iV a0.next, .lst 4 (a0.list_.map eDLease)]), (256, [iV 0, iV 0, .own 259 0 4 (([] : List DLease).map eDLease)])], []⟩ (fgk (by kernel_rfl)) (seq_ (seq_ (reg_ (st (c_ (v := .agg (eDTable a0)) (cp_ ⟨tv, tv⟩ rfl (nl rfl)) ?_)))))))))))))))
 obtain ⟨r1, e2, h0⟩ := bnd h0
 refine st (call0_ (r := .bool r1) false (H20 a0 r1 e2) ⟨tv, tv⟩ rfl rfl (fun _ => rfl) (st (c_ (cp_ ⟨tv, tv⟩ rfl tv) (oe_ (wk_ ⟨[(1, iV a1), (2, .ptr 128 0), (4, .ptr 256 0), (10, .bool (!r1))], [(128, [iV a0.clock, iV a0.next, .lst 4 (a0.list_.map eDLease)]), (256, [iV 0, iV 0, .own 259 0 4 (([] : List DLease).map eDLease)])], []⟩ (fgk (by kernel_rfl)) (ite_ (cb := (!r1)) rfl (fun c3 => ?_) (fun c3 => ?_)))))))
 ·replace h0 := ip c3 h0
  refine seq_ (reg_ (st (c_ (v := .agg [iV 0, iV 0, .own 707 0 4 (([] : List DLease).map eDLease)]) (cp_ tv rfl tv) (st (stp_ rfl rfl tv rfl rfl rfl (nl rfl) (st (mvc_ tv (oe_ (wk_ ⟨[(4, .ptr 256 0), (5, iV 1)], [(256, [iV 0, iV 0, .own 707 0 4 (([] : List DLease).map eDLease)])], []⟩ (fgk (by kernel_rfl)) ?_)))))))))
  obtain rfl := Option.some.inj h0
  exact rt_ (ret_ rfl rfl rfl rfl rfl tv)
 ·replace h0 := inb c3 h0
  refine sk_ (wk_ ⟨[(1, iV a1), (2, .ptr 128 0), (4, .ptr 256 0)], [(128, [iV a0.clock, iV a0.next, .lst 4 (a0.list_.map eDLease)]), (256, [iV 0, iV 0, .own 259 0 4 (([] : List DLease).map eDLease)])], []⟩ (fgk (by kernel_rfl)) (seq_ (reg_ (st (c_ (v := .agg (eDTable a0)) (cp_ ⟨tv, tv⟩ rfl (nl rfl)) (st (mv_ rfl tv ?_)))))))
  obtain ⟨r4, e5, h0⟩ := bnd h0
  refine st (call0_ (r := .tup [iV r4.1, .bool r4.2]) false (H77 a0 a1 r4 e5) ⟨tv, tv, tv⟩ rfl rfl (fun _ => rfl) (st (mv_ rfl tv (st (c_ (cp_ ⟨tv, tv⟩ rfl tv) (st (c_ (cp_ ⟨tv, tv⟩ rfl tv) (st (mv_ rfl tv (st (mv_ rfl tv (oe_ (wk_ ⟨[(2, .ptr 128 0), (4, .ptr 256 0), (6, iV r4.1), (7, .bool r4.2)], [(128, [iV a0.clock, iV a0.next, .lst 4 (a0.list_.map eDLease)]), (256, [iV 0, iV 0, .own 259 0 4 (([] : List DLease).map eDLease)])], []⟩ (fgk (by kernel_rfl)) (seq_ (block_ (seq_ (reg_ (st (mv_ rfl tv (st (c_ (cp_ ⟨tv, tv⟩ rfl tv) (st (mv_ rfl tv (oe_ (wk_ ⟨[(2, .ptr 128 0), (4, .ptr 256 0), (6, iV r4.1), (18, .bool (!r4.2))], [(128, [iV a0.clock, iV a0.next, .lst 4 (a0.list_.map eDLease)]), (256, [iV 0, iV 0, .own 259 0 4 (([] : List DLease).map eDLease)])], []⟩ (fgk (by kernel_rfl)) (ite_ (cb := (!r4.2)) rfl (fun c6 => ?_) (fun c6 => ?_)))))))))))))))))))))))))))
  ·replace h0 := ip c6 h0
   refine seq_ (reg_ (st (c_ (v := .agg [iV 0, iV 0, .own 1347 0 4 (([] : List DLease).map eDLease)]) (cp_ tv rfl tv) (st (stp_ rfl rfl tv rfl rfl rfl (nl rfl) (st (mvc_ tv (oe_ (wk_ ⟨[(4, .ptr 256 0), (5, iV 5)], [(256, [iV 0, iV 0, .own 1347 0 4 (([] : List DLease).map eDLease)])], []⟩ (fgk (by kernel_rfl)) ?_)))))))))
   obtain rfl := Option.some.inj h0
   exact rt_ (ret_ rfl rfl rfl rfl rfl tv)
  ·replace h0 := inb c6 h0
   refine seq_ (reg_ (st (c_ (cp_ ⟨tv, tv⟩ rfl tv) (st (c_ (cp_ ⟨tv, tv⟩ rfl (nl rfl)) (st (mv_ rfl tv ?_)))))))
   obtain ⟨y7, e8, h0⟩ := bnd h0
   refine st (c_ (cidxL (e := eDLease) (y := y7) rfl rfl tv rfl rfl tv e8) (st (c_ (cp_ ⟨tv, tv⟩ rfl (nl rfl)) (st (c_ (cp_ ⟨tv, tv⟩ rfl (nl rfl)) (st (c_ (cp_ ⟨tv, tv⟩ rfl tv) (st (mv_ rfl tv (oe_ (wk_ ⟨[(2, .ptr 128 0), (4, .ptr 256 0), (6, iV r4.1), (22, .bool (!y7.queued))], [(128, [iV a0.clock, iV a0.next, .lst 4 (a0.list_.map eDLease)]), (256, [iV 0, iV 0, .own 259 0 4 (([] : List DLease).map eDLease)])], []⟩ (fgk (by kernel_rfl)) (ite_ (cb := (!y7.queued)) rfl (fun c9 => ?_) (fun c9 => ?_)))))))))))))
   ·replace h0 := ip c9 h0
    refine seq_ (reg_ (st (c_ (v := .agg [iV 0, iV 0, .own 1923 0 4 (([] : List DLease).map eDLease)]) (cp_ tv rfl tv) (st (stp_ rfl rfl tv rfl rfl rfl (nl rfl) (st (mvc_ tv (oe_ (wk_ ⟨[(4, .ptr 256 0), (5, iV 13)], [(256, [iV 0, iV 0, .own 1923 0 4 (([] : List DLease).map eDLease)])], []⟩ (fgk (by kernel_rfl)) ?_)))))))))
    obtain rfl := Option.some.inj h0
    exact rt_ (ret_ rfl rfl rfl rfl rfl tv)
   ·replace h0 := inb c9 h0
    refine sk_ (bn_ (wk_ ⟨[(2, .ptr 128 0), (4, .ptr 256 0), (6, iV r4.1)], [(128, [iV a0.clock, iV a0.next, .lst 4 (a0.list_.map eDLease)]), (256, [iV 0, iV 0, .own 259 0 4 (([] : List DLease).map eDLease)])], []⟩ (fgk (by kernel_rfl)) (seq_ (reg_ (st (c_ (v := .agg (eDTable a0)) (cp_ ⟨tv, tv⟩ rfl (nl rfl)) (st (mv_ rfl tv ?_))))))))
    obtain ⟨r10, e11, h0⟩ := bnd h0
    refine st (call0_ (r := .agg [iV r10.clock, iV r10.next, .own 0 0 4 (r10.list_.map eDLease)]) false (H78 a0 r4.1 r10 e11) ⟨tv, tv, tv⟩ rfl rfl (fun _ => (and_ rfl (and_ rfl (and_ (fl1 (fun _ => rfl)) rfl)))) (st (stp_ rfl rfl tv rfl rfl rfl (nl rfl) (st (mvc_ tv (oe_ (wk_ ⟨[(4, .ptr 256 0), (5, iV 0)], [(256, [iV r10.clock, iV r10.next, .own 2112 0 4 (r10.list_.map eDLease)])], []⟩ (fgk (by kernel_rfl)) ?_)))))))
    obtain rfl := Option.some.inj h0
    exact rt_ (ret_ rfl rfl rfl rfl rfl tv)

/- loop.example/g00149/impl.later -/
def c54_r0 : List Ins := [⟨some 4, .p (.mv (.c (iV 0))), none⟩]
def c54_r1 : List Ins := [(iQ 5 (.mv (.t 0))),
(iQ 6 (.mv (.t 1))),
⟨some 7, .p (.bin .sub (.c (iV 9223372036854775807)) (.t 6)), none⟩,
(iQ 8 (.bin .gtr (.t 5) (.t 7)))]
def c54_r2 : List Ins := [⟨some 4, .p (.mv (.c (iV 9223372036854775807))), none⟩]
def c54_r3 : List Ins := [(iQ 9 (.mv (.t 0))),
(iQ 10 (.mv (.t 1))),
(iQ 11 (.bin .add (.t 9) (.t 10))),
(iQ 4 (.mv (.t 11)))]
def c54 : XFn := { np := 2, nt := 12, res := [.t 4], body := (.seq (.reg c54_r0) (.seq (.seq (.reg c54_r1) (.ite (.t 8) (.seq (.reg c54_r2) .ret) .skip)) (.seq (.reg c54_r3) .ret))) }
def K54 (C : CRel) : Prop := ∀ (a0 : Int) (a1 : Int) (r : Int), g54 a0 a1 = some r → C 54 ⟨[iV a0, iV a1], []⟩ ⟨iV r, [], []⟩
theorem F54 {C : CRel}  (a0 : Int) (a1 : Int) (r : Int) (h0 : g54 a0 a1 = some r) : FnOK C c54 ⟨[iV a0, iV a1], []⟩ ⟨iV r, [], []⟩ := by
 refine fn_ (nl rfl) (seq_ (reg_ (st (mvc_ tv (oe_ (wk_ ⟨[(0, iV a0), (1, iV a1)], [], []⟩ (fgk (by kernel_rfl)) (seq_ (seq_ (reg_ (st (mv_ rfl tv (st (mv_ rfl tv (st (c_ (cp_ t3 rfl tv) (st (c_ (cp_ t3 rfl tv) (oe_ (wk_ ⟨[(0, iV a0), (1, iV a1), (8, .bool (decide (a0 > (IntKind.i64.wrap (9223372036854775807 - a1)))))], [], []⟩ (fgk (by kernel_rfl)) (ite_ (cb := (decide (a0 > (IntKind.i64.wrap (9223372036854775807 - a1))))) rfl (fun c1 => ?_) (fun c1 => ?_)))))))))))))))))))))
 ·replace h0 := ip c1 h0
  refine seq_ (reg_ (st (mvc_ tv (oe_ (wk_ ⟨[(4, iV 9223372036854775807)], [], []⟩ (fgk (by kernel_rfl)) ?_)))))
  obtain rfl := Option.some.inj h0
  exact rt_ (ret_ rfl rfl rfl rfl rfl tv)
 ·replace h0 := inb c1 h0
  refine sk_ (wk_ ⟨[(0, iV a0), (1, iV a1)], [], []⟩ (fgk (by kernel_rfl)) (seq_ (reg_ (st (mv_ rfl tv (st (mv_ rfl tv (st (c_ (cp_ t3 rfl tv) (st (mv_ rfl tv (oe_ (wk_ ⟨[(4, iV (IntKind.i64.wrap (a0 + a1)))], [], []⟩ (fgk (by kernel_rfl)) ?_)))))))))))))
  obtain rfl := Option.some.inj h0
  exact rt_ (ret_ rfl rfl rfl rfl rfl tv)

/- (loop.example/g00149/impl.Table).renew -/
def c80_r0 : List Ins := [⟨some 3, .box (.t 0), none⟩,
⟨some 6, .alloc [(iV 0), (iV 0), (.own 387 0 4 [])], none⟩,
⟨some 7, .p (.mv (.c (iV 0))), none⟩]
def c80_r1 : List Ins := [(iQ 12 (.load (.t 3) 3 true)),
(iQ 13 (.mv (.t 1))),
⟨some 14, .call 77 [(.t 12), (.t 13)], none⟩,
(iQ 11 (.mv (.t 14))),
(iQ 15 (.ext (.t 11) 0)),
(iQ 16 (.ext (.t 11) 1)),
(iQ 8 (.mv (.t 15))),
(iQ 9 (.mv (.t 16)))]
def c80_r2 : List Ins := [(iQ 18 (.mv (.t 2))),
⟨some 19, .p (.bin .lss (.t 18) (.c (iV 1))), none⟩,
(iQ 17 (.mv (.t 19)))]
def c80_r3 : List Ins := [(iQ 20 (.build [(iV 0), (iV 0), (.own 1283 0 4 [])] [])),
⟨none, .store (.t 6) (.t 20) 3, none⟩,
⟨some 7, .p (.mv (.c (iV 4))), none⟩]
def c80_r4 : List Ins := [(iQ 22 (.mv (.t 9))),
(iQ 23 (.un .not (.t 22))),
(iQ 21 (.mv (.t 23)))]
def c80_r5 : List Ins := [(iQ 24 (.build [(iV 0), (iV 0), (.own 1539 0 4 [])] [])),
⟨none, .store (.t 6) (.t 24) 3, none⟩,
⟨some 7, .p (.mv (.c (iV 5))), none⟩]
def c80_r6 : List Ins := [(iQ 26 (.fieldA (.t 3) 2)),
(iQ 27 (.load (.t 26) 1 false)),
(iQ 28 (.mv (.t 8))),
(iQ 29 (.idxA (.t 27) (.t 28) 4)),
(iQ 30 (.fieldA (.t 29) 3)),
(iQ 31 (.load (.t 30) 1 false)),
(iQ 25 (.mv (.t 31)))]
def c80_r7 : List Ins := [(iQ 32 (.build [(iV 0), (iV 0), (.own 2051 0 4 [])] [])),
⟨none, .store (.t 6) (.t 32) 3, none⟩,
⟨some 7, .p (.mv (.c (iV 13))), none⟩]
def c80_r8 : List Ins := [(iQ 33 (.load (.t 3) 3 true)),
⟨some 34, .call 112 [(.t 33)], none⟩,
⟨some 10, .alloc [(iV 0), (iV 0), (.own 643 0 4 [])], none⟩,
⟨none, .store (.t 10) (.t 34) 3, none⟩]
def c80_r9 : DP := (.take (iQ 35 (.fieldA (.t 10) 2))
(.take (iQ 36 (.load (.t 35) 1 false))
(.take (iQ 37 (.mv (.t 8)))
(.take (iQ 38 (.fieldA (.t 3) 0))
(.take (iQ 39 (.load (.t 38) 1 false))
(.take (iQ 40 (.mv (.t 2)))
(.take (iQ 42 (.fieldA (.t 10) 2))
(.take (iQ 43 (.load (.t 42) 1 false))
(.take (iQ 44 (.mv (.t 8)))
(.take (iQ 45 (.idxA (.t 43) (.t 44) 4))
(.take (iQ 46 (.fieldA (.t 45) 2))
(.take (iQ 47 (.load (.t 46) 1 false))
(.alt [(iQ 47 (.load (.t 46) 1 false)), (iQ 46 (.fieldA (.t 45) 2)), (iQ 45 (.idxA (.t 43) (.t 44) 4)), (iQ 44 (.mv (.t 8))), (iQ 43 (.load (.t 42) 1 false)), (iQ 42 (.fieldA (.t 10) 2)), (iQ 37 (.mv (.t 8))), (iQ 36 (.load (.t 35) 1 false)), (iQ 35 (.fieldA (.t 10) 2))] ⟨some 41, .call 54 [(.t 39), (.t 40)], none⟩
(.take (iQ 48 (.mn (.t 41) (.t 47)))
(.take (iQ 49 (.idxA (.t 36) (.t 37) 4))
(.take (iQ 50 (.fieldA (.t 49) 1))
(.alt [] ⟨none, .store (.t 50) (.t 48) 1, none⟩
.fin
.stop))))
.stop)))))))))))))
def c80_r10 : List Ins := [(iQ 51 (.load (.t 10) 3 true)),
⟨none, .store (.t 6) (.t 51) 3, none⟩,
⟨some 7, .p (.mv (.c (iV 0))), none⟩]
def c80 : XFn := { np := 3, nt := 52, res := [.cell 6 3 true, .t 7], body := (.seq (.reg c80_r0) (.seq (.reg c80_r1) (.seq (.block 0 (.seq (.reg c80_r2) (.ite (.t 17) (.seq (.reg c80_r3) .ret) (.seq (.reg c80_r4) (.ite (.t 21) (.seq (.reg c80_r5) .ret) (.seq (.reg c80_r6) (.ite (.t 25) (.seq (.reg c80_r7) .ret) .skip))))))) (.seq (.reg c80_r8) (.seq (.draw c80_r9) (.seq (.reg c80_r10) .ret)))))) }
def K80 (C : CRel) : Prop := ∀ (a0 : DTable) (a1 : Int) (a2 : Int) (r : DTable × Int), g80 a0 a1 a2 = some r → C 80 ⟨[.agg (eDTable a0), iV a1, iV a2], []⟩ ⟨.tup [.agg [iV r.1.clock, iV r.1.next, .own 0 0 4 (r.1.list_.map eDLease)], iV r.2], [], []⟩
theorem F80 {C : CRel} (H54 : K54 C) (H77 : K77 C) (H112 : K112 C) (a0 : DTable) (a1 : Int) (a2 : Int) (r : DTable × Int) (h0 : g80 a0 a1 a2 = some r) : FnOK C c80 ⟨[.agg (eDTable a0), iV a1, iV a2], []⟩ ⟨.tup [.agg [iV r.1.clock, iV r.1.next, .own 0 0 4 (r.1.list_.map eDLease)], iV r.2], [], []⟩ := by
 refine fn_ (nl rfl) (seq_ (reg_ (st (box_ rfl tv rfl (st (alloc_ (st (mvc_ tv (oe_ (wk_ ⟨[(1, iV a1), (2, iV a2), (3, .ptr 192 0), (6, .ptr 384 0)], [(192, [iV a0.clock, iV a0.next, .lst 4 (a0.list_.map eDLease)]), (384, [iV 0, iV 0, .own 387 0 4 (([] : List DLease).map eDLease)])], []⟩ (fgk (by kernel_rfl)) (seq_ (reg_ (st (c_ (v := .agg (eDTable a0)) (cp_ ⟨tv, tv⟩ rfl (nl rfl)) (st (mv_ rfl tv ?_))))))))))))))))
 obtain ⟨r1, e2, h0⟩ := bnd h0
 refine st (call0_ (r := .tup [iV r1.1, .bool r1.2]) false (H77 a0 a1 r1 e2) ⟨tv, tv, tv⟩ rfl rfl (fun _ => rfl) (st (mv_ rfl tv (st (c_ (cp_ ⟨tv, tv⟩ rfl tv) (st (c_ (cp_ ⟨tv, tv⟩ rfl tv) (st (mv_ rfl tv (st (mv_ rfl tv (oe_ (wk_ ⟨[(2, iV a2), (3, .ptr 192 0), (6, .ptr 384 0), (8, iV r1.1), (9, .bool r1.2)], [(192, [iV a0.clock, iV a0.next, .lst 4 (a0.list_.map eDLease)]), (384, [iV 0, iV 0, .own 387 0 4 (([] : List DLease).map eDLease)])], []⟩ (fgk (by kernel_rfl)) (seq_ (block_ (seq_ (reg_ (st (mv_ rfl tv (st (c_ (cp_ t3 rfl tv) (st (mv_ rfl tv (oe_ (wk_ ⟨[(2, iV a2), (3, .ptr 192 0), (6, .ptr 384 0), (8, iV r1.1), (9, .bool r1.2), (17, .bool (decide (a2 < 1)))], [(192, [iV a0.clock, iV a0.next, .lst 4 (a0.list_.map eDLease)]), (384, [iV 0, iV 0, .own 387 0 4 (([] : List DLease).map eDLease)])], []⟩ (fgk (by kernel_rfl)) (ite_ (cb := (decide (a2 < 1))) rfl (fun c3 => ?_) (fun c3 => ?_)))))))))))))))))))))))))))
 ·replace h0 := ip c3 h0
  refine seq_ (reg_ (st (c_ (v := .agg [iV 0, iV 0, .own 1283 0 4 (([] : List DLease).map eDLease)]) (cp_ tv rfl tv) (st (stp_ rfl rfl tv rfl rfl rfl (nl rfl) (st (mvc_ tv (oe_ (wk_ ⟨[(6, .ptr 384 0), (7, iV 4)], [(384, [iV 0, iV 0, .own 1283 0 4 (([] : List DLease).map eDLease)])], []⟩ (fgk (by kernel_rfl)) ?_)))))))))
  obtain rfl := Option.some.inj h0
  exact rt_ (ret_ rfl rfl rfl rfl rfl tv)
 ·replace h0 := inb c3 h0
  refine seq_ (reg_ (st (mv_ rfl tv (st (c_ (cp_ ⟨tv, tv⟩ rfl tv) (st (mv_ rfl tv (oe_ (wk_ ⟨[(2, iV a2), (3, .ptr 192 0), (6, .ptr 384 0), (8, iV r1.1), (21, .bool (!r1.2))], [(192, [iV a0.clock, iV a0.next, .lst 4 (a0.list_.map eDLease)]), (384, [iV 0, iV 0, .own 387 0 4 (([] : List DLease).map eDLease)])], []⟩ (fgk (by kernel_rfl)) (ite_ (cb := (!r1.2)) rfl (fun c4 => ?_) (fun c4 => ?_)))))))))))
  ·replace h0 := ip c4 h0
   refine seq_ (reg_ (st (c_ (v := .agg [iV 0, iV 0, .own 1539 0 4 (([] : List DLease).map eDLease)]) (cp_ tv rfl tv) (st (stp_ rfl rfl tv rfl rfl rfl (nl rfl) (st (mvc_ tv (oe_ (wk_ ⟨[(6, .ptr 384 0), (7, iV 5)], [(384, [iV 0, iV 0, .own 1539 0 4 (([] : List DLease).map eDLease)])], []⟩ (fgk (by kernel_rfl)) ?_)))))))))
   obtain rfl := Option.some.inj h0
   exact rt_ (ret_ rfl rfl rfl rfl rfl tv)
  ·replace h0 := inb c4 h0
   refine seq_ (reg_ (st (c_ (cp_ ⟨tv, tv⟩ rfl tv) (st (c_ (cp_ ⟨tv, tv⟩ rfl (nl rfl)) (st (mv_ rfl tv ?_)))))))
   obtain ⟨y5, e6, h0⟩ := bnd h0
   refine st (c_ (cidxL (e := eDLease) (y := y5) rfl rfl tv rfl rfl tv e6) (st (c_ (cp_ ⟨tv, tv⟩ rfl (nl rfl)) (st (c_ (cp_ ⟨tv, tv⟩ rfl (nl rfl)) (st (mv_ rfl tv (oe_ (wk_ ⟨[(2, iV a2), (3, .ptr 192 0), (6, .ptr 384 0), (8, iV r1.1), (25, .bool y5.queued)], [(192, [iV a0.clock, iV a0.next, .lst 4 (a0.list_.map eDLease)]), (384, [iV 0, iV 0, .own 387 0 4 (([] : List DLease).map eDLease)])], []⟩ (fgk (by kernel_rfl)) (ite_ (cb := y5.queued) rfl (fun c7 => ?_) (fun c7 => ?_)))))))))))
   ·replace h0 := ip c7 h0
    refine seq_ (reg_ (st (c_ (v := .agg [iV 0, iV 0, .own 2051 0 4 (([] : List DLease).map eDLease)]) (cp_ tv rfl tv) (st (stp_ rfl rfl tv rfl rfl rfl (nl rfl) (st (mvc_ tv (oe_ (wk_ ⟨[(6, .ptr 384 0), (7, iV 13)], [(384, [iV 0, iV 0, .own 2051 0 4 (([] : List DLease).map eDLease)])], []⟩ (fgk (by kernel_rfl)) ?_)))))))))
    obtain rfl := Option.some.inj h0
    exact rt_ (ret_ rfl rfl rfl rfl rfl tv)
   ·replace h0 := inb c7 h0
    refine sk_ (bn_ (wk_ ⟨[(2, iV a2), (3, .ptr 192 0), (6, .ptr 384 0), (8, iV r1.1)], [(192, [iV a0.clock, iV a0.next, .lst 4 (a0.list_.map eDLease)]), (384, [iV 0, iV 0, .own 387 0 4 (([] : List DLease).map eDLease)])], []⟩ (fgk (by kernel_rfl)) (seq_ (reg_ (st (c_ (v := .agg (eDTable a0)) (cp_ ⟨tv, tv⟩ rfl (nl rfl)) ?_))))))
    obtain ⟨r8, e9, h0⟩ := bnd h0
    refine st (call0_ (r := .agg [iV r8.clock, iV r8.next, .own 0 0 4 (r8.list_.map eDLease)]) false (H112 a0 r8 e9) ⟨tv, tv⟩ rfl rfl (fun _ => (and_ rfl (and_ rfl (and_ (fl1 (fun _ => rfl)) rfl)))) (st (alloc_ (st (stp_ rfl rfl tv rfl rfl rfl (nl rfl) (oe_ (wk_ ⟨[(2, iV a2), (3, .ptr 192 0), (6, .ptr 384 0), (8, iV r1.1), (10, .ptr 640 0)], [(192, [iV a0.clock, iV a0.next, .lst 4 (a0.list_.map eDLease)]), (384, [iV 0, iV 0, .own 387 0 4 (([] : List DLease).map eDLease)]), (640, [iV r8.clock, iV r8.next, .own 2176 0 4 (r8.list_.map eDLease)])], []⟩ (fgk (by kernel_rfl)) (seq_ ?_))))))))
    obtain ⟨y10, e11, h0⟩ := bnd h0
    obtain ⟨y12, e13, h0⟩ := bnd h0
    obtain ⟨r14, e15, h0⟩ := bnd h0
    refine draw_ (dtake tv (c_ (cp_ ⟨tv, tv⟩ rfl tv) (⟨tv, (dtake tv (c_ (cp_ ⟨tv, tv⟩ rfl (nl rfl)) (⟨tv, (dtake tv (mv_ rfl tv (⟨tv, (dtake tv (c_ (cp_ ⟨tv, tv⟩ rfl tv) (⟨tv, (dtake tv (c_ (cp_ ⟨tv, tv⟩ rfl (nl rfl)) (⟨tv, (dtake tv (mv_ rfl tv (⟨tv, (dtake tv (c_ (cp_ ⟨tv, tv⟩ rfl tv) (⟨tv, (dtake tv (c_ (cp_ ⟨tv, tv⟩ rfl (nl rfl)) (⟨tv, (dtake tv (mv_ rfl tv (⟨tv, (dtake tv (c_ (cidxO (e := eDLease) (y := y10) rfl rfl tv rfl rfl tv e11) (⟨tv, (dtake tv (c_ (cp_ ⟨tv, tv⟩ rfl tv) (⟨tv, (dtakeO (c_ (cloadO (e := eDLease) (y := y12) (v := iV y12.cap) rfl rfl tv rfl rfl e13 rfl (nl rfl) rfl) (⟨⟨(again1 (cloadO (e := eDLease) (y := y12) (v := iV y12.cap) rfl rfl tv rfl rfl e13 rfl (nl rfl) rfl) rfl), tv⟩, (dalt (call0_ (r := iV r14) false (H54 a0.clock a2 r14 e15) ⟨tv, tv, tv⟩ rfl rfl (fun _ => rfl) (dkw ⟨[(6, .ptr 384 0), (8, iV r1.1), (10, .ptr 640 0), (35, .ptr 640 2), (36, .own 2176 0 4 (r8.list_.map eDLease)), (37, iV r1.1), (41, iV r14), (42, .ptr 640 2), (43, .own 2176 0 4 (r8.list_.map eDLease)), (44, iV r1.1), (45, .optr 2176 4 (0 + r1.1.toNat) 0), (46, .optr 2176 4 (0 + r1.1.toNat) 2), (47, iV y12.cap)], [(384, [iV 0, iV 0, .own 387 0 4 (([] : List DLease).map eDLease)]), (640, [iV r8.clock, iV r8.next, .own 2176 0 4 (r8.list_.map eDLease)])], []⟩ (fgk (by kernel_rfl)) ⟨[(iQ 47 (.load (.t 46) 1 false))], ⟨⟨.inr (.head _), (again1 (cloadO (e := eDLease) (y := y12) (v := iV y12.cap) rfl rfl tv rfl rfl e13 rfl (nl rfl) rfl) rfl)⟩, ⟨.inl tv, (again1 (cp_ ⟨tv, tv⟩ rfl tv) rfl)⟩, ⟨.inl tv, (again1 (cidxO (e := eDLease) (y := y10) rfl rfl tv rfl rfl tv e11) rfl)⟩, ⟨.inl tv, (again1 (cmv (v := iV r1.1) rfl tv) rfl)⟩, ⟨.inl tv, (again1 (cp_ ⟨tv, tv⟩ rfl (nl rfl)) rfl)⟩, ⟨.inl tv, (again1 (cp_ ⟨tv, tv⟩ rfl tv) rfl)⟩, ⟨.inl tv, (again1 (cmv (v := iV r1.1) rfl tv) rfl)⟩, ⟨.inl tv, (again1 (cp_ ⟨tv, tv⟩ rfl (nl rfl)) rfl)⟩, ⟨.inl tv, (again1 (cp_ ⟨tv, tv⟩ rfl tv) rfl)⟩, tv⟩, ⟨(again1 (cloadO (e := eDLease) (y := y12) (v := iV y12.cap) rfl rfl tv rfl rfl e13 rfl (nl rfl) rfl) rfl), tv⟩, (dtake tv (c_ (cp_ ⟨tv, tv, tv⟩ rfl rfl) (⟨⟨(again1 (cloadO (e := eDLease) (y := y12) (v := iV y12.cap) rfl rfl tv rfl rfl e13 rfl (nl rfl) rfl) rfl), tv⟩, (dtake tv (c_ (cidxO (e := eDLease) (y := y10) rfl rfl tv rfl rfl tv e11) (⟨⟨(again1 (cloadO (e := eDLease) (y := y12) (v := iV y12.cap) rfl rfl tv rfl rfl e13 rfl (nl rfl) rfl) rfl), tv⟩, ?_⟩)))⟩)))⟩)) dstop)⟩)))⟩)))⟩)))⟩)))⟩)))⟩)))⟩)))⟩)))⟩)))⟩)))⟩)))⟩)))
    refine dtake tv (c_ (cp_ ⟨tv, tv⟩ rfl tv) (⟨⟨(again1 (cloadO (e := eDLease) (y := y12) (v := iV y12.cap) rfl rfl tv rfl rfl e13 rfl (nl rfl) rfl) rfl), tv⟩, (dalt (sto_ (y' := (DLease.mk y12.id (if y12.cap < r14 then y12.cap else r14) y12.cap y12.queued)) rfl rfl tv rfl rfl rfl rfl e13 (nl rfl) rfl rfl rfl rfl (dk0 ⟨[], tv, tv, (dfin (wk_ ⟨[(6, .ptr 384 0), (10, .ptr 640 0)], [(384, [iV 0, iV 0, .own 387 0 4 (([] : List DLease).map eDLease)]), (640, [iV r8.clock, iV r8.next, .own 2176 0 4 ((r8.list_.set r1.1.toNat (DLease.mk y12.id (if y12.cap < r14 then y12.cap else r14) y12.cap y12.queued)).map eDLease)])], []⟩ (fg ⟨rfl, rfl, tv⟩ ⟨rfl, (congrArg (fun z => some (([iV r8.clock, iV r8.next, .own 2176 0 4 z] : List V))) overlay_map), tv⟩) (seq_ (reg_ (st (c_ (v := .agg [iV r8.clock, iV r8.next, .own 2176 0 4 ((r8.list_.set r1.1.toNat (DLease.mk y12.id (if y12.cap < r14 then y12.cap else r14) y12.cap y12.queued)).map eDLease)]) (cp_ ⟨tv, tv⟩ rfl (nl rfl)) (st (stp_ rfl rfl tv rfl rfl rfl (nl rfl) (st (mvc_ tv (oe_ ?_)))))))))))⟩)) dstop)⟩))
    obtain ⟨v16, e17, h0⟩ := bl h0
    refine wk_ ⟨[(6, .ptr 384 0), (7, iV 0)], [(384, [iV r8.clock, iV r8.next, .own 2176 0 4 (v16.map eDLease)])], []⟩ (fgk (by subst e17; kernel_rfl)) ?_
    obtain rfl := Option.some.inj h0
    exact rt_ (ret_ rfl rfl rfl rfl rfl tv)

/- loop.example/g00149/impl.Renew -/
def c33_r0 : List Ins := [⟨some 3, .box (.t 0), none⟩,
⟨some 6, .alloc [(iV 0), (iV 0), (.own 387 0 4 [])], none⟩,
⟨some 7, .p (.mv (.c (iV 0))), none⟩]
def c33_r1 : List Ins := [(iQ 8 (.load (.t 3) 3 true)),
⟨some 9, .call 20 [(.t 8)], none⟩,
(iQ 10 (.un .not (.t 9)))]
def c33_r2 : List Ins := [(iQ 11 (.build [(iV 0), (iV 0), (.own 707 0 4 [])] [])),
⟨none, .store (.t 6) (.t 11) 3, none⟩,
⟨some 7, .p (.mv (.c (iV 1))), none⟩]
def c33_r3 : List Ins := [(iQ 12 (.load (.t 3) 3 true)),
(iQ 13 (.mv (.t 1))),
(iQ 14 (.mv (.t 2))),
⟨some 15, .call 80 [(.t 12), (.t 13), (.t 14)], none⟩,
(iQ 16 (.ext (.t 15) 0)),
(iQ 17 (.ext (.t 15) 1)),
⟨none, .store (.t 6) (.t 16) 3, none⟩,
(iQ 7 (.mv (.t 17)))]
def c33 : XFn := { np := 3, nt := 18, res := [.cell 6 3 true, .t 7], body := (.seq (.reg c33_r0) (.seq (.seq (.reg c33_r1) (.ite (.t 10) (.seq (.reg c33_r2) .ret) .skip)) (.seq (.reg c33_r3) .ret))) }
def K33 (C : CRel) : Prop := ∀ (a0 : DTable) (a1 : Int) (a2 : Int) (r : DTable × Int), g33 a0 a1 a2 = some r → C 33 ⟨[.agg (eDTable a0), iV a1, iV a2], []⟩ ⟨.tup [.agg [iV r.1.clock, iV r.1.next, .own 0 0 4 (r.1.list_.map eDLease)], iV r.2], [], []⟩
theorem F33 {C : CRel} (H20 : K20 C) (H80 : K80 C) (a0 : DTable) (a1 : Int) (a2 : Int) (r : DTable × Int) (h0 : g33 a0 a1 a2 = some r) : FnOK C c33 ⟨[.agg (eDTable a0), iV a1, iV a2], []⟩ ⟨.tup [.agg [iV r.1.clock, iV r.1.next, .own 0 0 4 (r.1.list_.map eDLease)], iV r.2], [], []⟩ := by
 refine fn_ (nl rfl) (seq_ (reg_ (st (box_ rfl tv rfl (st (alloc_ (st (mvc_ tv (oe_ (wk_ ⟨[(1, iV a1), (2, iV a2), (3, .ptr 192 0), (6, .ptr 384 0)], [(192, [iV a0.clock, iV a0.next, .lst 4 (a0.list_.map eDLease)]), (384, [iV 0, iV 0, .own 387 0 4 (([] : List DLease).map eDLease)])], []⟩ (fgk (by kernel_rfl)) (seq_ (seq_ (reg_ (st (c_ (v := .agg (eDTable a0)) (cp_ ⟨tv, tv⟩ rfl (nl rfl)) ?_)))))))))))))))
 obtain ⟨r1, e2, h0⟩ := bnd h0
 refine st (call0_ (r := .bool r1) false (H20 a0 r1 e2) ⟨tv, tv⟩ rfl rfl (fun _ => rfl) (st (c_ (cp_ ⟨tv, tv⟩ rfl tv) (oe_ (wk_ ⟨[(1, iV a1), (2, iV a2), (3, .ptr 192 0), (6, .ptr 384 0), (10, .bool (!r1))], [(192, [iV a0.clock, iV a0.next, .lst 4 (a0.list_.map eDLease)]), (384, [iV 0, iV 0, .own 387 0 4 (([] : List DLease).map eDLease)])], []⟩ (fgk (by kernel_rfl)) (ite_ (cb := (!r1)) rfl (fun c3 => ?_) (fun c3 => ?_)))))))
 ·replace h0 := ip c3 h0
  refine seq_ (reg_ (st (c_ (v := .agg [iV 0, iV 0, .own 707 0 4 (([] : List DLease).map eDLease)]) (cp_ tv rfl tv) (st (stp_ rfl rfl tv rfl rfl rfl (nl rfl) (st (mvc_ tv (oe_ (wk_ ⟨[(6, .ptr 384 0), (7, iV 1)], [(384, [iV 0, iV 0, .own 707 0 4 (([] : List DLease).map eDLease)])], []⟩ (fgk (by kernel_rfl)) ?_)))))))))
  obtain rfl := Option.some.inj h0
  exact rt_ (ret_ rfl rfl rfl rfl rfl tv)
 ·replace h0 := inb c3 h0
  refine sk_ (wk_ ⟨[(1, iV a1), (2, iV a2), (3, .ptr 192 0), (6, .ptr 384 0)], [(192, [iV a0.clock, iV a0.next, .lst 4 (a0.list_.map eDLease)]), (384, [iV 0, iV 0, .own 387 0 4 (([] : List DLease).map eDLease)])], []⟩ (fgk (by kernel_rfl)) (seq_ (reg_ (st (c_ (v := .agg (eDTable a0)) (cp_ ⟨tv, tv⟩ rfl (nl rfl)) (st (mv_ rfl tv (st (mv_ rfl tv ?_)))))))))
  obtain ⟨r4, e5, h0⟩ := bnd h0
  refine st (call0_ (r := .tup [.agg [iV r4.1.clock, iV r4.1.next, .own 0 0 4 (r4.1.list_.map eDLease)], iV r4.2]) false (H80 a0 a1 a2 r4 e5) ⟨tv, tv, tv, tv⟩ rfl rfl (fun _ => (and_ rfl (and_ rfl (and_ (fl1 (fun _ => rfl)) (and_ rfl rfl))))) (st (c_ (cp_ ⟨tv, tv⟩ rfl tv) (st (c_ (cp_ ⟨tv, tv⟩ rfl tv) (st (stp_ rfl rfl tv rfl rfl rfl (nl rfl) (st (mv_ rfl tv (oe_ (wk_ ⟨[(6, .ptr 384 0), (7, iV r4.2)], [(384, [iV r4.1.clock, iV r4.1.next, .own 960 0 4 (r4.1.list_.map eDLease)])], []⟩ (fgk (by kernel_rfl)) ?_)))))))))))
  obtain rfl := Option.some.inj h0
  exact rt_ (ret_ rfl rfl rfl rfl rfl tv)

/- loop.example/g00149/spec.l01In -/
def c56_r0 : List Ins := [⟨some 6, .p (.mv (.c (.bool false))), none⟩]
def c56_r1 : List Ins := [(iQ 7 (.mv (.t 0))),
(iQ 8 (.mv (.t 1))),
(iQ 9 (.bin .geq (.t 7) (.t 8))),
(iQ 10 (.mv (.t 9))),
⟨some 11, .p (.mv (.t 0)), some (10, true)⟩,
⟨some 12, .p (.mv (.t 2)), some (10, true)⟩,
⟨some 13, .p (.bin .leq (.t 11) (.t 12)), some (10, true)⟩,
⟨some 14, .pick (.t 10) (.t 13) (.c (.bool false)), none⟩,
(iQ 6 (.mv (.t 14)))]
def c56 : XFn := { np := 3, nt := 15, res := [.t 6], body := (.seq (.reg c56_r0) (.seq (.reg c56_r1) .ret)) }
def K56 (C : CRel) : Prop := ∀ (a0 : Int) (a1 : Int) (a2 : Int) (r : Bool), g56 a0 a1 a2 = some r → C 56 ⟨[iV a0, iV a1, iV a2], []⟩ ⟨.bool r, [], []⟩
theorem F56 {C : CRel}  (a0 : Int) (a1 : Int) (a2 : Int) (r : Bool) (h0 : g56 a0 a1 a2 = some r) : FnOK C c56 ⟨[iV a0, iV a1, iV a2], []⟩ ⟨.bool r, [], []⟩ := by
 refine fn_ (nl rfl) (seq_ (reg_ (st (mvc_ tv (oe_ (wk_ ⟨[(0, iV a0), (1, iV a1), (2, iV a2)], [], []⟩ (fgk (by kernel_rfl)) (seq_ (reg_ (st (mv_ rfl tv (st (mv_ rfl tv (st (c_ (cp_ t3 rfl tv) (st (mv_ rfl tv (st (pg_ (u := iV a0) rfl (fun hg => (cmv (v := iV a0) rfl tv)) (st (pg_ (u := iV a2) rfl (fun hg => (cmv (v := iV a2) rfl tv)) (st (pg_ (u := .bool (decide (a0 ≤ a2))) rfl (fun hg => (cp_ ⟨(fun _ => hg), (fun _ => hg), tv⟩ rfl tv)) (st (pick_ rfl rfl rfl (fun h => eqt h) tv rfl (st (mv_ rfl tv (oe_ (wk_ ⟨[(6, .bool (bif (decide (a0 ≥ a1)) then (decide (a0 ≤ a2)) else false))], [], []⟩ (fgk (by kernel_rfl)) ?_))))))))))))))))))))))))))))
 obtain rfl := Option.some.inj h0
 exact rt_ (ret_ rfl rfl rfl rfl rfl tv)

/- loop.example/g00149/spec.TableOK -/
def c18_r0 : List Ins := [⟨some 1, .box (.t 0), none⟩,
⟨some 2, .p (.mv (.c (.bool false))), none⟩]
def c18_r1 : List Ins := [(iQ 5 (.fieldA (.t 1) 0)),
(iQ 6 (.load (.t 5) 1 false)),
⟨some 7, .p (.bin .lss (.t 6) (.c (iV 0))), none⟩,
(iQ 8 (.mv (.t 7))),
⟨some 9, .p (.fieldA (.t 1) 1), some (8, false)⟩,
⟨some 10, .p (.load (.t 9) 1 false), some (8, false)⟩,
⟨some 11, .call 56 [(.t 10), (.c (iV 1)), (.c (iV 1000000))], some (8, false)⟩,
⟨some 12, .p (.un .not (.t 11)), some (8, false)⟩,
⟨some 13, .pick (.t 8) (.c (.bool true)) (.t 12), none⟩,
(iQ 14 (.mv (.t 13))),
⟨some 15, .p (.fieldA (.t 1) 2), some (14, false)⟩,
⟨some 16, .p (.load (.t 15) 1 false), some (14, false)⟩,
⟨some 17, .p (.len (.t 16)), some (14, false)⟩,
⟨some 18, .p (.bin .gtr (.t 17) (.c (iV 40))), some (14, false)⟩,
⟨some 19, .pick (.t 14) (.c (.bool true)) (.t 18), none⟩]
def c18_r2 : List Ins := [⟨some 2, .p (.mv (.c (.bool false))), none⟩]
def c18_r3 : List Ins := [⟨some 3, .p (.mv (.c (iV 0))), none⟩]
def c18_r4 : List Ins := [(iQ 20 (.mv (.t 3))),
(iQ 21 (.fieldA (.t 1) 2)),
(iQ 22 (.load (.t 21) 1 false)),
(iQ 23 (.len (.t 22))),
(iQ 24 (.bin .lss (.t 20) (.t 23)))]
def c18_r5 : List Ins := [(iQ 27 (.fieldA (.t 1) 2)),
(iQ 28 (.load (.t 27) 1 false)),
(iQ 29 (.mv (.t 3))),
(iQ 30 (.idxA (.t 28) (.t 29) 4)),
(iQ 31 (.load (.t 30) 4 true)),
⟨some 4, .alloc [(iV 0), (iV 0), (iV 0), (.bool false)], none⟩,
⟨none, .store (.t 4) (.t 31) 4, none⟩]
def c18_r6 : DP := (.take (iQ 32 (.fieldA (.t 4) 0))
(.take (iQ 33 (.load (.t 32) 1 false))
(.take (iQ 34 (.fieldA (.t 1) 1))
(.take (iQ 35 (.load (.t 34) 1 false))
(.take ⟨some 36, .p (.bin .sub (.t 35) (.c (iV 1))), none⟩
(.alt [] ⟨some 37, .call 56 [(.t 33), (.c (iV 1)), (.t 36)], none⟩
(.take (iQ 38 (.un .not (.t 37)))
(.take (iQ 39 (.mv (.t 38)))
(.take ⟨some 40, .p (.mv (.t 3)), some (39, false)⟩
(.take ⟨some 41, .p (.bin .gtr (.t 40) (.c (iV 0))), some (39, false)⟩
(.take ⟨some 42, .p (.mv (.t 41)), some (39, false)⟩
(.take ⟨some 43, .p (.fieldA (.t 1) 2), some (42, true)⟩
(.take ⟨some 44, .p (.load (.t 43) 1 false), some (42, true)⟩
(.take ⟨some 45, .p (.mv (.t 3)), some (42, true)⟩
(.take ⟨some 46, .p (.bin .sub (.t 45) (.c (iV 1))), some (42, true)⟩
(.take ⟨some 47, .p (.idxA (.t 44) (.t 46) 4), some (42, true)⟩
(.take ⟨some 48, .p (.fieldA (.t 47) 0), some (42, true)⟩
(.take ⟨some 49, .p (.load (.t 48) 1 false), some (42, true)⟩
(.take ⟨some 50, .p (.fieldA (.t 4) 0), some (42, true)⟩
(.take ⟨some 51, .p (.load (.t 50) 1 false), some (42, true)⟩
(.take ⟨some 52, .p (.bin .geq (.t 49) (.t 51)), some (42, true)⟩
(.take ⟨some 53, .pick (.t 42) (.t 52) (.c (.bool false)), some (39, false)⟩
(.take ⟨some 54, .pick (.t 39) (.c (.bool true)) (.t 53), none⟩
(.take (iQ 55 (.mv (.t 54)))
(.take ⟨some 56, .p (.fieldA (.t 4) 1), some (55, false)⟩
(.take ⟨some 57, .p (.load (.t 56) 1 false), some (55, false)⟩
(.take ⟨some 58, .p (.bin .lss (.t 57) (.c (iV 0))), some (55, false)⟩
(.take ⟨some 59, .pick (.t 55) (.c (.bool true)) (.t 58), none⟩
(.take (iQ 60 (.mv (.t 59)))
(.take ⟨some 61, .p (.fieldA (.t 4) 1), some (60, false)⟩
(.take ⟨some 62, .p (.load (.t 61) 1 false), some (60, false)⟩
(.take ⟨some 63, .p (.fieldA (.t 4) 2), some (60, false)⟩
(.take ⟨some 64, .p (.load (.t 63) 1 false), some (60, false)⟩
(.take ⟨some 65, .p (.bin .gtr (.t 62) (.t 64)), some (60, false)⟩
(.take ⟨some 66, .pick (.t 60) (.c (.bool true)) (.t 65), none⟩
(.take (iQ 67 (.mv (.t 66)))
(.take ⟨some 68, .p (.fieldA (.t 4) 3), some (67, false)⟩
(.take ⟨some 69, .p (.load (.t 68) 1 false), some (67, false)⟩
(.take ⟨some 70, .p (.un .not (.t 69)), some (67, false)⟩
(.take ⟨some 71, .p (.mv (.t 70)), some (67, false)⟩
(.take ⟨some 72, .p (.fieldA (.t 4) 1), some (71, true)⟩
(.take ⟨some 73, .p (.load (.t 72) 1 false), some (71, true)⟩
(.take ⟨some 74, .p (.fieldA (.t 1) 0), some (71, true)⟩
(.take ⟨some 75, .p (.load (.t 74) 1 false), some (71, true)⟩
(.take ⟨some 76, .p (.bin .leq (.t 73) (.t 75)), some (71, true)⟩
(.take ⟨some 77, .pick (.t 71) (.t 76) (.c (.bool false)), some (67, false)⟩
(.take ⟨some 78, .pick (.t 67) (.c (.bool true)) (.t 77), none⟩
.fin)))))))))))))))))))))))))))))))))))))))))
.stop))))))
def c18_r7 : List Ins := [⟨some 2, .p (.mv (.c (.bool false))), none⟩]
def c18_r8 : List Ins := [(iQ 25 (.mv (.t 3))),
⟨some 26, .p (.bin .add (.t 25) (.c (iV 1))), none⟩,
(iQ 3 (.mv (.t 26)))]
def c18_l0 : IR := (.seq (.seq (.reg c18_r4) (.ite (.t 24) .skip (.exit 0))) (.seq (.block 1 (.seq (.reg c18_r5) (.seq (.draw c18_r6) (.ite (.t 78) (.seq (.reg c18_r7) .ret) .skip)))) (.reg c18_r8)))
def c18_r9 : List Ins := [⟨some 2, .p (.mv (.c (.bool true))), none⟩]
def c18 : XFn := { np := 1, nt := 79, res := [.t 2], body := (.seq (.reg c18_r0) (.seq (.seq (.reg c18_r1) (.ite (.t 19) (.seq (.reg c18_r2) .ret) .skip)) (.seq (.seq (.reg c18_r3) (.block 0 (.loop c18_l0))) (.seq (.reg c18_r9) .ret)))) }
def K18 (C : CRel) : Prop := ∀ (a0 : DTable) (r : Bool), g18 a0 = some r → C 18 ⟨[.agg (eDTable a0)], []⟩ ⟨.bool r, [], []⟩
theorem F18 {C : CRel} (H56 : K56 C) (a0 : DTable) (r : Bool) (h0 : g18 a0 = some r) : FnOK C c18 ⟨[.agg (eDTable a0)], []⟩ ⟨.bool r, [], []⟩ := by
 refine fn_ (nl rfl) (seq_ (reg_ (st (box_ rfl tv rfl (st (mvc_ tv (oe_ (wk_ ⟨[(1, .ptr 64 0)], [(64, [iV a0.clock, iV a0.next, .lst 4 (a0.list_.map eDLease)])], []⟩ (fgk (by kernel_rfl)) (seq_ (seq_ (reg_ (st (c_ (cp_ ⟨tv, tv⟩ rfl tv) (st (c_ (cp_ ⟨tv, tv⟩ rfl (nl rfl)) (st (c_ (cp_ t3 rfl tv) (st (mv_ rfl tv (st (pg_ (u := .ptr 64 1) rfl (fun hg => (cp_ ⟨tv, tv⟩ rfl tv)) (st (pg_ (u := iV a0.next) rfl (fun hg => (cp_ ⟨(fun _ => hg), tv⟩ rfl (nl rfl))) ?_)))))))))))))))))))))))
 obtain ⟨r1, e2, h0⟩ := bnd h0
 refine st (callg_ (r := .bool r1) rfl false (fun hg => H56 a0.next 1 1000000 r1 (ip hg e2)) ⟨(fun hg => hg), tv, tv, tv⟩ (fun _ => rfl) (fun _ => rfl) (fun _ => rfl) (fun h => nomatch h) (st (pg_ (u := .bool (!r1)) rfl (fun hg => (cp_ ⟨(fun _ => hg), tv⟩ rfl tv)) (st (pick_ rfl rfl rfl tv (fun h => eqf h) rfl (st (mv_ rfl tv (st (pg_ (u := .ptr 64 2) rfl (fun hg => (cp_ ⟨tv, tv⟩ rfl tv)) (st (pg_ (u := .lst 4 (a0.list_.map eDLease)) rfl (fun hg => (cp_ ⟨(fun _ => hg), tv⟩ rfl (nl rfl))) (sw ⟨[(1, .ptr 64 0), (14, .bool (bif (decide (a0.clock < 0)) then true else (!r1))), (16, .may ((bif (decide (a0.clock < 0)) then true else (!r1)) == false) (.lst 4 (a0.list_.map eDLease)))], [(64, [iV a0.clock, iV a0.next, .lst 4 (a0.list_.map eDLease)])], []⟩ (fgk (by kernel_rfl)) (pg_ (u := iV (a0.list_.length : Int)) rfl (fun hg => (clenL (e := eDLease) (l0 := a0.list_) rfl rfl (fun _ => hg))) (st (pg_ (u := .bool (decide ((a0.list_.length : Int) > 40))) rfl (fun hg => (cp_ ⟨(fun _ => hg), tv, tv⟩ rfl tv)) (st (pick_ rfl rfl rfl tv (fun h => eqf h) rfl (oe_ ?_))))))))))))))))))
 obtain ⟨v3, e4, h0⟩ := bl h0
 refine wk_ ⟨[(1, .ptr 64 0), (19, .bool v3)], [(64, [iV a0.clock, iV a0.next, .lst 4 (a0.list_.map eDLease)])], []⟩ (fgk (by subst e4; kernel_rfl)) (ite_ (cb := v3) rfl (fun c5 => ?_) (fun c5 => ?_))
 ·replace h0 := ip c5 h0
  refine seq_ (reg_ (st (mvc_ tv (oe_ (wk_ ⟨[(2, .bool false)], [], []⟩ (fgk (by kernel_rfl)) ?_)))))
  obtain rfl := Option.some.inj h0
  exact rt_ (ret_ rfl rfl rfl rfl rfl tv)
 ·replace h0 := inb c5 h0
  refine sk_ (wk_ ⟨[(1, .ptr 64 0)], [(64, [iV a0.clock, iV a0.next, .lst 4 (a0.list_.map eDLease)])], []⟩ (fgk (by kernel_rfl)) (seq_ (seq_ (reg_ (st (mvc_ tv (oe_ (wk_ ⟨[(1, .ptr 64 0), (3, iV 0)], [(64, [iV a0.clock, iV a0.next, .lst 4 (a0.list_.map eDLease)])], []⟩ (fgk (by kernel_rfl)) (block_ ?_)))))))))
  obtain ⟨r38, e39, h0⟩ := bnd h0
  refine loop_ (R := (fun S => .inl () = r38 ∧ S = ⟨[], [], []⟩)) (g18_l0 a0) (fun s S => match s with | p16 => S = ⟨[(1, .ptr 64 0), (3, iV p16)], [(64, [iV a0.clock, iV a0.next, .lst 4 (a0.list_.map eDLease)])], []⟩) e39 ⟨[(1, .ptr 64 0), (3, iV 0)], [(64, [iV a0.clock, iV a0.next, .lst 4 (a0.list_.map eDLease)])], []⟩ (fgk (by kernel_rfl)) rfl 0 (fun _ => rfl) ?_ ?_
  ·rintro S _ hfg ⟨rfl, rfl⟩
   refine wk_ ⟨[], [], []⟩ (fglk hfg (by kernel_rfl)) (seq_ (reg_ (st (mvc_ tv (oe_ (wk_ ⟨[(2, .bool true)], [], []⟩ (fgk (by kernel_rfl)) ?_))))))
   obtain rfl := Option.some.inj h0
   exact rt_ (ret_ rfl rfl rfl rfl rfl tv)
  ·rintro p16 o1 _ K1 rfl h1 hx1 hK1 hE1 hR1
   refine seq_ (seq_ (reg_ (st (mv_ rfl tv (st (c_ (cp_ ⟨tv, tv⟩ rfl tv) (st (c_ (cp_ ⟨tv, tv⟩ rfl (nl rfl)) (st (c_ (clenL (e := eDLease) (l0 := a0.list_) rfl rfl tv) (st (c_ (cp_ t3 rfl tv) (oe_ (wk_ ⟨[(1, .ptr 64 0), (3, iV p16), (24, .bool (decide (p16 < (a0.list_.length : Int))))], [(64, [iV a0.clock, iV a0.next, .lst 4 (a0.list_.map eDLease)])], []⟩ (fgk (by kernel_rfl)) (ite_ (cb := (decide (p16 < (a0.list_.length : Int)))) rfl (fun c28 => ?_) (fun c28 => ?_))))))))))))))))
   ·replace h1 := ip c28 h1
    refine sk_ (wk_ ⟨[(1, .ptr 64 0), (3, iV p16)], [(64, [iV a0.clock, iV a0.next, .lst 4 (a0.list_.map eDLease)])], []⟩ (fgk (by kernel_rfl)) (seq_ (block_ (seq_ (reg_ (st (c_ (cp_ ⟨tv, tv⟩ rfl tv) (st (c_ (cp_ ⟨tv, tv⟩ rfl (nl rfl)) (st (mv_ rfl tv ?_)))))))))))
    obtain ⟨y29, e30, h1⟩ := bnd h1
    refine st (c_ (cidxL (e := eDLease) (y := y29) rfl rfl tv rfl rfl tv e30) (st (c_ (v := .agg (eDLease y29)) (cp_ ⟨tv, tv⟩ rfl (nl rfl)) (st (alloc_ (st (stp_ rfl rfl tv rfl rfl rfl (nl rfl) (oe_ (wk_ ⟨[(1, .ptr 64 0), (3, iV p16), (4, .ptr 256 0)], [(64, [iV a0.clock, iV a0.next, .lst 4 (a0.list_.map eDLease)]), (256, [iV y29.id, iV y29.until_, iV y29.cap, .bool y29.queued])], []⟩ (fgk (by kernel_rfl)) (seq_ ?_))))))))))
    obtain ⟨r31, e32, h1⟩ := bnd h1
    obtain ⟨y33, e34, h1⟩ := bnd h1
    refine draw_ (dtake tv (c_ (cp_ ⟨tv, tv⟩ rfl tv) (⟨tv, (dtake tv (c_ (cp_ ⟨tv, tv⟩ rfl (nl rfl)) (⟨tv, (dtake tv (c_ (cp_ ⟨tv, tv⟩ rfl tv) (⟨tv, (dtake tv (c_ (cp_ ⟨tv, tv⟩ rfl (nl rfl)) (⟨tv, (dtake tv (c_ (cp_ t3 rfl tv) (⟨tv, (dalt (call0_ (r := .bool r31) false (H56 y29.id 1 (IntKind.i64.wrap (a0.next - 1)) r31 e32) ⟨tv, tv, tv, tv⟩ rfl rfl (fun _ => rfl) (dkw ⟨[(1, .ptr 64 0), (3, iV p16), (4, .ptr 256 0), (37, .bool r31)], [(64, [iV a0.clock, iV a0.next, .lst 4 (a0.list_.map eDLease)]), (256, [iV y29.id, iV y29.until_, iV y29.cap, .bool y29.queued])], []⟩ (fgk (by kernel_rfl)) ⟨[], tv, tv, (dtake tv (c_ (cp_ ⟨tv, tv⟩ rfl tv) (⟨tv, (dtake tv (mv_ rfl tv (⟨tv, (dtake tv (pg_ (u := iV p16) rfl (fun hg => (cmv (v := iV p16) rfl tv)) (⟨tv, (dtake tv (pg_ (u := .bool (decide (p16 > 0))) rfl (fun hg => (cp_ ⟨(fun _ => hg), tv, tv⟩ rfl tv)) (⟨tv, (dtake tv (pg_ (u := .bool (decide (p16 > 0))) rfl (fun hg => (cmv (v := .may ((!r31) == false) (.bool (decide (p16 > 0)))) rfl (fun _ => hg))) (⟨tv, (dtake tv (pg_ (u := .ptr 64 2) rfl (fun hg => (cp_ ⟨tv, tv⟩ rfl tv)) (⟨tv, (dtake tv (pg_ (u := .lst 4 (a0.list_.map eDLease)) rfl (fun hg => (cp_ ⟨(fun _ => hg), tv⟩ rfl (nl rfl))) (⟨tv, (dtake tv (pg_ (u := iV p16) rfl (fun hg => (cmv (v := iV p16) rfl tv)) (⟨tv, (dtake tv (pg_ (u := iV (IntKind.i64.wrap (p16 - 1))) rfl (fun hg => (cp_ ⟨(fun _ => hg), tv, tv⟩ rfl tv)) (⟨tv, ?_⟩)))⟩)))⟩)))⟩)))⟩)))⟩)))⟩)))⟩)))⟩)))⟩)) dstop)⟩)))⟩)))⟩)))⟩)))⟩)))
    refine dtake tv (pg_ (u := .iptr [iV y33.id, iV y33.until_, iV y33.cap, .bool y33.queued]) rfl (fun hg => (cidxL (e := eDLease) (y := y33) rfl rfl (fun _ => hg) rfl rfl (fun _ => hg) (ip hg e34))) (⟨tv, (dtake tv (pg_ (u := .iptr [iV y33.id, iV y33.until_, iV y33.cap, .bool y33.queued]) rfl (fun hg => (cp_ ⟨(fun _ => hg), tv⟩ rfl (nl rfl))) (⟨tv, (dtake tv (pg_ (u := iV y33.id) rfl (fun hg => (cp_ ⟨(fun _ => hg), tv⟩ rfl (nl rfl))) (⟨tv, (dtake tv (pg_ (u := .ptr 256 0) rfl (fun hg => (cp_ ⟨tv, tv⟩ rfl tv)) (⟨tv, (dtake tv (pg_ (u := iV y29.id) rfl (fun hg => (cp_ ⟨(fun _ => hg), tv⟩ rfl (nl rfl))) (⟨tv, (dtake tv (pg_ (u := .bool (decide (y33.id ≥ y29.id))) rfl (fun hg => (cp_ ⟨(fun _ => hg), (fun _ => hg), tv⟩ rfl tv)) (⟨tv, (dtake tv (pickg_ (u := .bool (bif (decide (p16 > 0)) then (decide (y33.id ≥ y29.id)) else false)) rfl (fun hg => cpick rfl rfl (fun _ => hg) rfl rfl (fun h => and_ hg (eqt h)) tv rfl) (⟨tv, (dtake tv (pick_ rfl rfl rfl tv (fun h => eqf h) rfl (⟨tv, (dtake tv (mv_ rfl tv (⟨tv, (dtake tv (pg_ (u := .ptr 256 1) rfl (fun hg => (cp_ ⟨tv, tv⟩ rfl tv)) (⟨tv, (dtake tv (pg_ (u := iV y29.until_) rfl (fun hg => (cp_ ⟨(fun _ => hg), tv⟩ rfl (nl rfl))) (⟨tv, (dtake tv (pg_ (u := .bool (decide (y29.until_ < 0))) rfl (fun hg => (cp_ ⟨(fun _ => hg), tv, tv⟩ rfl tv)) (⟨tv, (dtake tv (pick_ rfl rfl rfl tv (fun h => eqf h) rfl (⟨tv, (dtake tv (mv_ rfl tv (⟨tv, (dtake tv (pg_ (u := .ptr 256 1) rfl (fun hg => (cp_ ⟨tv, tv⟩ rfl tv)) (⟨tv, (dtake tv (pg_ (u := iV y29.until_) rfl (fun hg => (cp_ ⟨(fun _ => hg), tv⟩ rfl (nl rfl))) ?_))⟩)))⟩)))⟩)))⟩)))⟩)))⟩)))⟩)))⟩)))⟩)))⟩)))⟩)))⟩)))⟩)))⟩)))⟩))
    refine ⟨tv, (dtake tv (pg_ (u := .ptr 256 2) rfl (fun hg => (cp_ ⟨tv, tv⟩ rfl tv)) (⟨tv, (dtake tv (pg_ (u := iV y29.cap) rfl (fun hg => (cp_ ⟨(fun _ => hg), tv⟩ rfl (nl rfl))) (⟨tv, (dtake tv (pg_ (u := .bool (decide (y29.until_ > y29.cap))) rfl (fun hg => (cp_ ⟨(fun _ => hg), (fun _ => hg), tv⟩ rfl tv)) (⟨tv, (dtake tv (pick_ rfl rfl rfl tv (fun h => eqf h) rfl (⟨tv, (dtake tv (mv_ rfl tv (⟨tv, (dtake tv (pg_ (u := .ptr 256 3) rfl (fun hg => (cp_ ⟨tv, tv⟩ rfl tv)) (⟨tv, (dtake tv (pg_ (u := .bool y29.queued) rfl (fun hg => (cp_ ⟨(fun _ => hg), tv⟩ rfl (nl rfl))) (⟨tv, (dtake tv (pg_ (u := .bool (!y29.queued)) rfl (fun hg => (cp_ ⟨(fun _ => hg), tv⟩ rfl tv)) (⟨tv, (dtake tv (pg_ (u := .bool (!y29.queued)) rfl (fun hg => (cmv (v := .may ((bif (bif (bif (!r31) then true else (bif (decide (p16 > 0)) then (decide (y33.id ≥ y29.id)) else false)) then true else (decide (y29.until_ < 0))) then true else (decide (y29.until_ > y29.cap))) == false) (.bool (!y29.queued))) rfl (fun _ => hg))) (⟨tv, (dtake tv (pg_ (u := .ptr 256 1) rfl (fun hg => (cp_ ⟨tv, tv⟩ rfl tv)) (⟨tv, (dtake tv (pg_ (u := iV y29.until_) rfl (fun hg => (cp_ ⟨(fun _ => hg), tv⟩ rfl (nl rfl))) (⟨tv, (dtake tv (pg_ (u := .ptr 64 0) rfl (fun hg => (cp_ ⟨tv, tv⟩ rfl tv)) (⟨tv, (dtake tv (pg_ (u := iV a0.clock) rfl (fun hg => (cp_ ⟨(fun _ => hg), tv⟩ rfl (nl rfl))) (⟨tv, (dtake tv (pg_ (u := .bool (decide (y29.until_ ≤ a0.clock))) rfl (fun hg => (cp_ ⟨(fun _ => hg), (fun _ => hg), tv⟩ rfl tv)) (⟨tv, (dtake tv (pickg_ (u := .bool (bif (!y29.queued) then (decide (y29.until_ ≤ a0.clock)) else false)) rfl (fun hg => cpick rfl rfl (fun _ => hg) rfl rfl (fun h => and_ hg (eqt h)) tv rfl) (⟨tv, ?_⟩)))⟩)))⟩)))⟩)))⟩)))⟩)))⟩)))⟩)))⟩)))⟩)))⟩)))⟩)))⟩)))⟩)))⟩)))⟩
    refine dtake tv (pick_ rfl rfl rfl tv (fun h => eqf h) rfl (⟨tv, (dfin ?_)⟩))
    obtain ⟨v35, e36, h1⟩ := bl h1
    refine wk_ ⟨[(1, .ptr 64 0), (3, iV p16), (78, .bool v35)], [(64, [iV a0.clock, iV a0.next, .lst 4 (a0.list_.map eDLease)])], []⟩ (fgk (by subst e36; kernel_rfl)) (ite_ (cb := v35) rfl (fun c37 => ?_) (fun c37 => ?_))
    ·replace h1 := ip c37 h1
     refine seq_ (reg_ (st (mvc_ tv (oe_ (wk_ ⟨[(2, .bool false)], [], []⟩ (fgk (by kernel_rfl)) ?_)))))
     obtain rfl := Option.some.inj h1
     obtain rfl := hx1 _ rfl
     obtain rfl := Option.some.inj h0
     exact rt_ (hR1 _ (ret_ rfl rfl rfl rfl rfl tv))
    ·replace h1 := inb c37 h1
     refine sk_ (bn_ (wk_ ⟨[(1, .ptr 64 0), (3, iV p16)], [(64, [iV a0.clock, iV a0.next, .lst 4 (a0.list_.map eDLease)])], []⟩ (fgk (by kernel_rfl)) (reg_ (st (mv_ rfl tv (st (c_ (cp_ t3 rfl tv) (st (mv_ rfl tv (oe_ ?_))))))))))
     obtain rfl := Option.some.inj h1
     exact hK1 _ rfl _ ⟨[(1, .ptr 64 0), (3, iV (IntKind.i64.wrap (p16 + 1)))], [(64, [iV a0.clock, iV a0.next, .lst 4 (a0.list_.map eDLease)])], []⟩ (fgk (by kernel_rfl)) rfl
   ·replace h1 := inb c28 h1
    obtain rfl := Option.some.inj h1
    obtain rfl := hx1 _ rfl
    refine exQ rfl ?_
    exact hE1 _ ⟨[], [], []⟩ (fgk (by kernel_rfl)) ⟨rfl, rfl⟩

/- loop.example/g00149/spec.l08Copy -/
def c111_r0 : List Ins := [⟨some 1, .box (.t 0), none⟩,
⟨some 2, .alloc [(iV 0), (iV 0), (.own 131 0 4 [])], none⟩]
def c111_r1 : List Ins := [⟨some 3, .mkS 4 [(iV 0), (iV 0), (iV 0), (.bool false)] 0 [], none⟩,
(iQ 4 (.fieldA (.t 1) 2)),
(iQ 5 (.load (.t 4) 1 false)),
⟨some 6, .app 4 32 (.t 3) (.t 5), none⟩,
(iQ 7 (.fieldA (.t 1) 2)),
⟨none, .store (.t 7) (.t 6) 1, none⟩]
def c111_r2 : List Ins := [(iQ 8 (.load (.t 1) 3 true)),
⟨none, .store (.t 2) (.t 8) 3, none⟩]
def c111 : XFn := { np := 1, nt := 9, res := [.cell 2 3 true], body := (.seq (.reg c111_r0) (.seq (.reg c111_r1) (.seq (.reg c111_r2) .ret))) }
def K111 (C : CRel) : Prop := ∀ (a0 : DTable) (r : DTable), g111 a0 = some r → C 111 ⟨[.agg (eDTable a0)], []⟩ ⟨.agg [iV r.clock, iV r.next, .own 0 0 4 (r.list_.map eDLease)], [], []⟩
theorem F111 {C : CRel}  (a0 : DTable) (r : DTable) (h0 : g111 a0 = some r) : FnOK C c111 ⟨[.agg (eDTable a0)], []⟩ ⟨.agg [iV r.clock, iV r.next, .own 0 0 4 (r.list_.map eDLease)], [], []⟩ := by
 refine fn_ (nl rfl) (seq_ (reg_ (st (box_ rfl tv rfl (st (alloc_ (oe_ (wk_ ⟨[(1, .ptr 64 0), (2, .ptr 128 0)], [(64, [iV a0.clock, iV a0.next, .lst 4 (a0.list_.map eDLease)]), (128, [iV 0, iV 0, .own 131 0 4 (([] : List DLease).map eDLease)])], []⟩ (fgk (by kernel_rfl)) (seq_ (reg_ (st (mkS_ tv tv (st (c_ (cp_ ⟨tv, tv⟩ rfl tv) (st (c_ (cp_ ⟨tv, tv⟩ rfl (nl rfl)) ?_))))))))))))))))
 obtain ⟨c1, h0⟩ := grd h0
 refine st (app_ (e := eDLease) (l0 := ([] : List DLease)) (l1 := a0.list_) rfl rfl tv rfl (by decide) c1 (st (c_ (cp_ ⟨tv, tv⟩ rfl tv) (st (stp_ rfl rfl tv rfl rfl rfl (nl rfl) (oe_ (wk_ ⟨[(1, .ptr 64 0), (2, .ptr 128 0)], [(64, [iV a0.clock, iV a0.next, .own 192 0 4 ((([] : List DLease) ++ a0.list_).map eDLease)]), (128, [iV 0, iV 0, .own 131 0 4 (([] : List DLease).map eDLease)])], []⟩ (fgk (by kernel_rfl)) (seq_ (reg_ (st (c_ (v := .agg [iV a0.clock, iV a0.next, .own 192 0 4 ((([] : List DLease) ++ a0.list_).map eDLease)]) (cp_ ⟨tv, tv⟩ rfl (nl rfl)) (st (stp_ rfl rfl tv rfl rfl rfl (nl rfl) (oe_ (wk_ ⟨[(2, .ptr 128 0)], [(128, [iV a0.clock, iV a0.next, .own 192 0 4 ((([] : List DLease) ++ a0.list_).map eDLease)])], []⟩ (fgk (by kernel_rfl)) ?_)))))))))))))))
 obtain rfl := Option.some.inj h0
 exact rt_ (ret_ rfl rfl rfl rfl rfl tv)

/- loop.example/g00149/spec.l08Tick -/
def c81_r0 : List Ins := [⟨some 2, .box (.t 0), none⟩,
⟨some 4, .alloc [(iV 0), (iV 0), (.own 259 0 4 [])], none⟩,
⟨some 5, .nilS 1, none⟩]
def c81_r1 : List Ins := [(iQ 11 (.load (.t 2) 3 true)),
⟨some 12, .call 111 [(.t 11)], none⟩,
⟨some 6, .alloc [(iV 0), (iV 0), (.own 387 0 4 [])], none⟩,
⟨none, .store (.t 6) (.t 12) 3, none⟩]
def c81_r2 : List Ins := [(iQ 13 (.fieldA (.t 2) 0)),
(iQ 14 (.load (.t 13) 1 false)),
(iQ 15 (.mv (.t 1))),
(iQ 16 (.mx (.t 14) (.t 15))),
(iQ 17 (.fieldA (.t 6) 0)),
⟨none, .store (.t 17) (.t 16) 1, none⟩]
def c81_r3 : List Ins := [⟨some 18, .mkS 1 [(iV 0)] 0 [], none⟩,
(iQ 7 (.mv (.t 18)))]
def c81_r4 : List Ins := [⟨some 8, .p (.mv (.c (iV (-1)))), none⟩]
def c81_r5 : List Ins := [⟨some 9, .p (.mv (.c (iV 0))), none⟩]
def c81_r6 : List Ins := [(iQ 19 (.mv (.t 9))),
(iQ 20 (.fieldA (.t 6) 2)),
(iQ 21 (.load (.t 20) 1 false)),
(iQ 22 (.len (.t 21))),
(iQ 23 (.bin .lss (.t 19) (.t 22)))]
def c81_r7 : List Ins := [(iQ 26 (.fieldA (.t 6) 2)),
(iQ 27 (.load (.t 26) 1 false)),
(iQ 28 (.mv (.t 9))),
(iQ 29 (.idxA (.t 27) (.t 28) 4)),
(iQ 30 (.load (.t 29) 4 true)),
⟨some 10, .alloc [(iV 0), (iV 0), (iV 0), (.bool false)], none⟩,
⟨none, .store (.t 10) (.t 30) 4, none⟩]
def c81_r8 : DP := (.take (iQ 31 (.fieldA (.t 10) 3))
(.take (iQ 32 (.load (.t 31) 1 false))
(.take (iQ 33 (.un .not (.t 32)))
(.take (iQ 34 (.mv (.t 33)))
(.take ⟨some 35, .p (.fieldA (.t 10) 1), some (34, true)⟩
(.take ⟨some 36, .p (.load (.t 35) 1 false), some (34, true)⟩
(.take ⟨some 37, .p (.fieldA (.t 6) 0), some (34, true)⟩
(.take ⟨some 38, .p (.load (.t 37) 1 false), some (34, true)⟩
(.take ⟨some 39, .p (.bin .leq (.t 36) (.t 38)), some (34, true)⟩
(.take ⟨some 40, .pick (.t 34) (.t 39) (.c (.bool false)), none⟩
(.take (iQ 41 (.mv (.t 40)))
(.take ⟨some 42, .p (.mv (.t 8)), some (41, true)⟩
(.take ⟨some 43, .p (.bin .lss (.t 42) (.c (iV 0))), some (41, true)⟩
(.take ⟨some 44, .p (.mv (.t 43)), some (41, true)⟩
(.take ⟨some 45, .p (.fieldA (.t 10) 1), some (44, false)⟩
(.take ⟨some 46, .p (.load (.t 45) 1 false), some (44, false)⟩
(.take ⟨some 47, .p (.fieldA (.t 6) 2), some (44, false)⟩
(.take ⟨some 48, .p (.load (.t 47) 1 false), some (44, false)⟩
(.take ⟨some 49, .p (.mv (.t 8)), some (44, false)⟩
(.take ⟨some 50, .p (.idxA (.t 48) (.t 49) 4), some (44, false)⟩
(.take ⟨some 51, .p (.fieldA (.t 50) 1), some (44, false)⟩
(.take ⟨some 52, .p (.load (.t 51) 1 false), some (44, false)⟩
(.take ⟨some 53, .p (.bin .lss (.t 46) (.t 52)), some (44, false)⟩
(.take ⟨some 54, .pick (.t 44) (.c (.bool true)) (.t 53), some (41, true)⟩
(.take ⟨some 55, .pick (.t 41) (.t 54) (.c (.bool false)), none⟩
.fin)))))))))))))))))))))))))
def c81_r9 : List Ins := [(iQ 56 (.mv (.t 9))),
(iQ 8 (.mv (.t 56)))]
def c81_r10 : List Ins := [(iQ 24 (.mv (.t 9))),
⟨some 25, .p (.bin .add (.t 24) (.c (iV 1))), none⟩,
(iQ 9 (.mv (.t 25)))]
def c81_l0 : IR := (.seq (.seq (.reg c81_r6) (.ite (.t 23) .skip (.exit 2))) (.seq (.block 3 (.seq (.reg c81_r7) (.seq (.draw c81_r8) (.ite (.t 55) (.reg c81_r9) .skip)))) (.reg c81_r10)))
def c81_r11 : List Ins := [(iQ 57 (.mv (.t 8))),
⟨some 58, .p (.bin .lss (.t 57) (.c (iV 0))), none⟩]
def c81_r12 : List Ins := [(iQ 59 (.load (.t 6) 3 true)),
(iQ 60 (.mv (.t 7))),
⟨none, .store (.t 4) (.t 59) 3, none⟩,
(iQ 5 (.mv (.t 60)))]
def c81_r13 : List Ins := [(iQ 61 (.fieldA (.t 6) 2)),
(iQ 62 (.load (.t 61) 1 false)),
(iQ 63 (.mv (.t 8))),
(iQ 64 (.idxA (.t 62) (.t 63) 4)),
(iQ 65 (.fieldA (.t 64) 3)),
⟨none, .store (.t 65) (.c (.bool true)) 1, none⟩]
def c81_r14 : List Ins := [(iQ 66 (.mv (.t 7))),
(iQ 67 (.fieldA (.t 6) 2)),
(iQ 68 (.load (.t 67) 1 false)),
(iQ 69 (.mv (.t 8))),
(iQ 70 (.idxA (.t 68) (.t 69) 4)),
(iQ 71 (.fieldA (.t 70) 0)),
(iQ 72 (.load (.t 71) 1 false)),
⟨some 73, .mkS 1 [(iV 0)] 1 [(0, (.t 72))], none⟩,
⟨some 74, .app 1 8 (.t 66) (.t 73), none⟩,
(iQ 7 (.mv (.t 74)))]
def c81_l1 : IR := (.block 1 (.seq (.reg c81_r4) (.seq (.seq (.reg c81_r5) (.block 2 (.loop c81_l0))) (.seq (.seq (.reg c81_r11) (.ite (.t 58) (.seq (.reg c81_r12) .ret) .skip)) (.seq (.reg c81_r13) (.reg c81_r14))))))
def c81 : XFn := { np := 2, nt := 75, res := [.cell 4 3 true, .t 5], body := (.seq (.reg c81_r0) (.seq (.reg c81_r1) (.seq (.reg c81_r2) (.seq (.reg c81_r3) (.block 0 (.loop c81_l1)))))) }
def K81 (C : CRel) : Prop := ∀ (a0 : DTable) (a1 : Int) (r : DTable × (List Int)), g81 a0 a1 = some r → C 81 ⟨[.agg (eDTable a0), iV a1], []⟩ ⟨.tup [.agg [iV r.1.clock, iV r.1.next, .own 0 0 4 (r.1.list_.map eDLease)], .own 1 0 1 (r.2.map eI)], [], []⟩
theorem F81 {C : CRel} (H111 : K111 C) (a0 : DTable) (a1 : Int) (r : DTable × (List Int)) (h0 : g81 a0 a1 = some r) : FnOK C c81 ⟨[.agg (eDTable a0), iV a1], []⟩ ⟨.tup [.agg [iV r.1.clock, iV r.1.next, .own 0 0 4 (r.1.list_.map eDLease)], .own 1 0 1 (r.2.map eI)], [], []⟩ := by
 refine fn_ (nl rfl) (seq_ (reg_ (st (box_ rfl tv rfl (st (alloc_ (st (nilS_ (oe_ (wk_ ⟨[(1, iV a1), (2, .ptr 128 0), (4, .ptr 256 0)], [(128, [iV a0.clock, iV a0.next, .lst 4 (a0.list_.map eDLease)]), (256, [iV 0, iV 0, .own 259 0 4 (([] : List DLease).map eDLease)])], []⟩ (fgk (by kernel_rfl)) (seq_ (reg_ (st (c_ (v := .agg (eDTable a0)) (cp_ ⟨tv, tv⟩ rfl (nl rfl)) ?_))))))))))))))
 obtain ⟨r1, e2, h0⟩ := bnd h0
 refine st (call0_ (r := .agg [iV r1.clock, iV r1.next, .own 0 0 4 (r1.list_.map eDLease)]) false (H111 a0 r1 e2) ⟨tv, tv⟩ rfl rfl (fun _ => (and_ rfl (and_ rfl (and_ (fl1 (fun _ => rfl)) rfl)))) (st (alloc_ (st (stp_ rfl rfl tv rfl rfl rfl (nl rfl) (oe_ (wk_ ⟨[(1, iV a1), (2, .ptr 128 0), (4, .ptr 256 0), (6, .ptr 384 0)], [(128, [iV a0.clock, iV a0.next, .lst 4 (a0.list_.map eDLease)]), (256, [iV 0, iV 0, .own 259 0 4 (([] : List DLease).map eDLease)]), (384, [iV r1.clock, iV r1.next, .own 768 0 4 (r1.list_.map eDLease)])], []⟩ (fgk (by kernel_rfl)) (seq_ (reg_ (st (c_ (cp_ ⟨tv, tv⟩ rfl tv) (st (c_ (cp_ ⟨tv, tv⟩ rfl (nl rfl)) (st (mv_ rfl tv (st (c_ (cp_ ⟨tv, tv, tv⟩ rfl rfl) (st (c_ (cp_ ⟨tv, tv⟩ rfl tv) (st (stp_ rfl rfl tv rfl rfl rfl (nl rfl) (oe_ (wk_ ⟨[(4, .ptr 256 0), (6, .ptr 384 0)], [(256, [iV 0, iV 0, .own 259 0 4 (([] : List DLease).map eDLease)]), (384, [iV (if a1 > a0.clock then a1 else a0.clock), iV r1.next, .own 768 0 4 (r1.list_.map eDLease)])], []⟩ (fgk (by kernel_rfl)) (seq_ (reg_ (st (mkS_ tv tv (st (mv_ rfl tv (oe_ (wk_ ⟨[(4, .ptr 256 0), (6, .ptr 384 0), (7, .own 1152 0 1 (([] : List Int).map eI))], [(256, [iV 0, iV 0, .own 259 0 4 (([] : List DLease).map eDLease)]), (384, [iV (if a1 > a0.clock then a1 else a0.clock), iV r1.next, .own 768 0 4 (r1.list_.map eDLease)])], []⟩ (fgk (by kernel_rfl)) (block_ ?_))))))))))))))))))))))))))))))))
 obtain ⟨r157, e158, h0⟩ := bnd h0
 refine loop_ (R := (fun _ => False)) (g81_l0 a0 a1 r1) (fun s S => match s with | (p44, p45) => S = ⟨[(4, .ptr 256 0), (6, .ptr 384 0), (7, .own 1152 0 1 (p44.map eI))], [(256, [iV 0, iV 0, .own 259 0 4 (([] : List DLease).map eDLease)]), (384, [iV (if a1 > a0.clock then a1 else a0.clock), iV r1.next, .own 768 0 4 (p45.map eDLease)])], []⟩) e158 ⟨[(4, .ptr 256 0), (6, .ptr 384 0), (7, .own 1152 0 1 (([] : List Int).map eI))], [(256, [iV 0, iV 0, .own 259 0 4 (([] : List DLease).map eDLease)]), (384, [iV (if a1 > a0.clock then a1 else a0.clock), iV r1.next, .own 768 0 4 (r1.list_.map eDLease)])], []⟩ (fgk (by kernel_rfl)) rfl 0 (fun h => h.elim fun _ h => h.elim) ?_ ?_
 ·exact fun _ _ _ h => h.elim
 ·rintro ⟨p44, p45⟩ o1 _ K1 rfl h1 hx1 hK1 hE1 hR1
  refine block_ (seq_ (reg_ (st (mvc_ tv (oe_ (wk_ ⟨[(4, .ptr 256 0), (6, .ptr 384 0), (7, .own 1152 0 1 (p44.map eI)), (8, iV (-1))], [(256, [iV 0, iV 0, .own 259 0 4 (([] : List DLease).map eDLease)]), (384, [iV (if a1 > a0.clock then a1 else a0.clock), iV r1.next, .own 768 0 4 (p45.map eDLease)])], []⟩ (fgk (by kernel_rfl)) (seq_ (seq_ (reg_ (st (mvc_ tv (oe_ (wk_ ⟨[(4, .ptr 256 0), (6, .ptr 384 0), (7, .own 1152 0 1 (p44.map eI)), (8, iV (-1)), (9, iV 0)], [(256, [iV 0, iV 0, .own 259 0 4 (([] : List DLease).map eDLease)]), (384, [iV (if a1 > a0.clock then a1 else a0.clock), iV r1.next, .own 768 0 4 (p45.map eDLease)])], []⟩ (fgk (by kernel_rfl)) (block_ ?_))))))))))))))
  obtain ⟨r145, e146, h1⟩ := bnd h1
  refine loop_ (R := (fun S => ∃ p119 : Int, p119 = r145 ∧ S = ⟨[(4, .ptr 256 0), (6, .ptr 384 0), (7, .own 1152 0 1 (p44.map eI)), (8, iV p119)], [(256, [iV 0, iV 0, .own 259 0 4 (([] : List DLease).map eDLease)]), (384, [iV (if a1 > a0.clock then a1 else a0.clock), iV r1.next, .own 768 0 4 (p45.map eDLease)])], []⟩)) (g81_l1 a0 a1 p45) (fun s S => match s with | (p102, p103) => S = ⟨[(4, .ptr 256 0), (6, .ptr 384 0), (7, .own 1152 0 1 (p44.map eI)), (8, iV p102), (9, iV p103)], [(256, [iV 0, iV 0, .own 259 0 4 (([] : List DLease).map eDLease)]), (384, [iV (if a1 > a0.clock then a1 else a0.clock), iV r1.next, .own 768 0 4 (p45.map eDLease)])], []⟩) e146 ⟨[(4, .ptr 256 0), (6, .ptr 384 0), (7, .own 1152 0 1 (p44.map eI)), (8, iV (-1)), (9, iV 0)], [(256, [iV 0, iV 0, .own 259 0 4 (([] : List DLease).map eDLease)]), (384, [iV (if a1 > a0.clock then a1 else a0.clock), iV r1.next, .own 768 0 4 (p45.map eDLease)])], []⟩ (fgk (by kernel_rfl)) rfl 2 (fun _ => rfl) ?_ ?_
  ·rintro S _ hfg ⟨p119, rfl, rfl⟩
   refine wk_ ⟨[(4, .ptr 256 0), (6, .ptr 384 0), (7, .own 1152 0 1 (p44.map eI)), (8, iV p119)], [(256, [iV 0, iV 0, .own 259 0 4 (([] : List DLease).map eDLease)]), (384, [iV (if a1 > a0.clock then a1 else a0.clock), iV r1.next, .own 768 0 4 (p45.map eDLease)])], []⟩ (fglk hfg (by kernel_rfl)) (seq_ (seq_ (reg_ (st (mv_ rfl tv (st (c_ (cp_ t3 rfl tv) (oe_ (wk_ ⟨[(4, .ptr 256 0), (6, .ptr 384 0), (7, .own 1152 0 1 (p44.map eI)), (8, iV p119), (58, .bool (decide (p119 < 0)))], [(256, [iV 0, iV 0, .own 259 0 4 (([] : List DLease).map eDLease)]), (384, [iV (if a1 > a0.clock then a1 else a0.clock), iV r1.next, .own 768 0 4 (p45.map eDLease)])], []⟩ (fgk (by kernel_rfl)) (ite_ (cb := (decide (p119 < 0))) rfl (fun c147 => ?_) (fun c147 => ?_)))))))))))
   ·replace h1 := ip c147 h1
    refine seq_ (reg_ (st (c_ (v := .agg [iV (if a1 > a0.clock then a1 else a0.clock), iV r1.next, .own 768 0 4 (p45.map eDLease)]) (cp_ ⟨tv, tv⟩ rfl (nl rfl)) (st (mv_ rfl tv (st (stp_ rfl rfl tv rfl rfl rfl (nl rfl) (st (mv_ rfl tv (oe_ (wk_ ⟨[(4, .ptr 256 0), (5, .own 1152 0 1 (p44.map eI))], [(256, [iV (if a1 > a0.clock then a1 else a0.clock), iV r1.next, .own 768 0 4 (p45.map eDLease)])], []⟩ (fgk (by kernel_rfl)) ?_)))))))))))
    obtain rfl := Option.some.inj h1
    obtain rfl := hx1 _ rfl
    obtain rfl := Option.some.inj h0
    exact rt_ (hR1 _ (ret_ rfl rfl rfl rfl rfl tv))
   ·replace h1 := inb c147 h1
    refine sk_ (wk_ ⟨[(4, .ptr 256 0), (6, .ptr 384 0), (7, .own 1152 0 1 (p44.map eI)), (8, iV p119)], [(256, [iV 0, iV 0, .own 259 0 4 (([] : List DLease).map eDLease)]), (384, [iV (if a1 > a0.clock then a1 else a0.clock), iV r1.next, .own 768 0 4 (p45.map eDLease)])], []⟩ (fgk (by kernel_rfl)) (seq_ (reg_ (st (c_ (cp_ ⟨tv, tv⟩ rfl tv) (st (c_ (cp_ ⟨tv, tv⟩ rfl (nl rfl)) (st (mv_ rfl tv ?_)))))))))
    obtain ⟨y148, e149, h1⟩ := bnd h1
    refine st (c_ (cidxO (e := eDLease) (y := y148) rfl rfl tv rfl rfl tv e149) (st (c_ (cp_ ⟨tv, tv⟩ rfl tv) ?_)))
    obtain ⟨y150, e151, h1⟩ := bnd h1
    refine st (sto_ (y' := (DLease.mk y150.id y150.until_ y150.cap true)) rfl rfl tv rfl rfl rfl rfl e151 (nl rfl) rfl rfl rfl rfl (oe_ (wk_ ⟨[(4, .ptr 256 0), (6, .ptr 384 0), (7, .own 1152 0 1 (p44.map eI)), (8, iV p119)], [(256, [iV 0, iV 0, .own 259 0 4 (([] : List DLease).map eDLease)]), (384, [iV (if a1 > a0.clock then a1 else a0.clock), iV r1.next, .own 768 0 4 ((p45.set p119.toNat (DLease.mk y150.id y150.until_ y150.cap true)).map eDLease)])], []⟩ (fg ⟨rfl, rfl, rfl, rfl, tv⟩ ⟨rfl, (congrArg (fun z => some (([iV (if a1 > a0.clock then a1 else a0.clock), iV r1.next, .own 768 0 4 z] : List V))) overlay_map), tv⟩) (reg_ (st (mv_ rfl tv (st (c_ (cp_ ⟨tv, tv⟩ rfl tv) (st (c_ (cp_ ⟨tv, tv⟩ rfl (nl rfl)) (st (mv_ rfl tv ?_))))))))))))
    obtain ⟨y152, e153, h1⟩ := bnd h1
    refine st (c_ (cidxO (e := eDLease) (y := y152) rfl rfl tv rfl rfl tv e153) (st (c_ (cp_ ⟨tv, tv⟩ rfl tv) ?_)))
    obtain ⟨y154, e155, h1⟩ := bnd h1
    refine st (c_ (cloadO (e := eDLease) (y := y154) (v := iV y154.id) rfl rfl tv rfl rfl e155 rfl (nl rfl) rfl) (st (mkS_ ⟨tv, tv⟩ ⟨⟨nl rfl, rfl, rfl⟩, tv⟩ ?_)))
    obtain ⟨c156, h1⟩ := grd h1
    refine st (app_ (e := eI) (l0 := p44) (l1 := ([y154.id] : List Int)) rfl rfl tv rfl (by decide) c156 (st (mv_ rfl tv (oe_ (bn_ ?_)))))
    obtain rfl := Option.some.inj h1
    exact hK1 _ rfl _ ⟨[(4, .ptr 256 0), (6, .ptr 384 0), (7, .own 1152 0 1 ((p44 ++ ([y154.id] : List Int)).map eI))], [(256, [iV 0, iV 0, .own 259 0 4 (([] : List DLease).map eDLease)]), (384, [iV (if a1 > a0.clock then a1 else a0.clock), iV r1.next, .own 768 0 4 ((p45.set p119.toNat (DLease.mk y150.id y150.until_ y150.cap true)).map eDLease)])], []⟩ (fgk (by kernel_rfl)) rfl
  ·rintro ⟨p102, p103⟩ o2 _ K2 rfl h2 hx2 hK2 hE2 hR2
   refine seq_ (seq_ (reg_ (st (mv_ rfl tv (st (c_ (cp_ ⟨tv, tv⟩ rfl tv) (st (c_ (cp_ ⟨tv, tv⟩ rfl (nl rfl)) (st (c_ (clenO (e := eDLease) (l0 := p45) rfl rfl tv) (st (c_ (cp_ t3 rfl tv) (oe_ (wk_ ⟨[(4, .ptr 256 0), (6, .ptr 384 0), (7, .own 1152 0 1 (p44.map eI)), (8, iV p102), (9, iV p103), (23, .bool (decide (p103 < (p45.length : Int))))], [(256, [iV 0, iV 0, .own 259 0 4 (([] : List DLease).map eDLease)]), (384, [iV (if a1 > a0.clock then a1 else a0.clock), iV r1.next, .own 768 0 4 (p45.map eDLease)])], []⟩ (fgk (by kernel_rfl)) (ite_ (cb := (decide (p103 < (p45.length : Int)))) rfl (fun c120 => ?_) (fun c120 => ?_))))))))))))))))
   ·replace h2 := ip c120 h2
    refine sk_ (wk_ ⟨[(4, .ptr 256 0), (6, .ptr 384 0), (7, .own 1152 0 1 (p44.map eI)), (8, iV p102), (9, iV p103)], [(256, [iV 0, iV 0, .own 259 0 4 (([] : List DLease).map eDLease)]), (384, [iV (if a1 > a0.clock then a1 else a0.clock), iV r1.next, .own 768 0 4 (p45.map eDLease)])], []⟩ (fgk (by kernel_rfl)) (seq_ (blockJ (fun S => ∃ p132 : Int, S = ⟨[(4, .ptr 256 0), (6, .ptr 384 0), (7, .own 1152 0 1 (p44.map eI)), (8, iV p132), (9, iV p103)], [(256, [iV 0, iV 0, .own 259 0 4 (([] : List DLease).map eDLease)]), (384, [iV (if a1 > a0.clock then a1 else a0.clock), iV r1.next, .own 768 0 4 (p45.map eDLease)])], []⟩ ∧ g81_j0 p103 p132 = some o2) ?_ (fun J133 => ?_))))
    ·rintro _ ⟨p132, rfl, h2⟩
     refine wk_ ⟨[(4, .ptr 256 0), (6, .ptr 384 0), (7, .own 1152 0 1 (p44.map eI)), (8, iV p132), (9, iV p103)], [(256, [iV 0, iV 0, .own 259 0 4 (([] : List DLease).map eDLease)]), (384, [iV (if a1 > a0.clock then a1 else a0.clock), iV r1.next, .own 768 0 4 (p45.map eDLease)])], []⟩ (fgk (by kernel_rfl)) (reg_ (st (mv_ rfl tv (st (c_ (cp_ t3 rfl tv) (st (mv_ rfl tv (oe_ ?_))))))))
     obtain rfl := Option.some.inj h2
     exact hK2 _ rfl _ ⟨[(4, .ptr 256 0), (6, .ptr 384 0), (7, .own 1152 0 1 (p44.map eI)), (8, iV p132), (9, iV (IntKind.i64.wrap (p103 + 1)))], [(256, [iV 0, iV 0, .own 259 0 4 (([] : List DLease).map eDLease)]), (384, [iV (if a1 > a0.clock then a1 else a0.clock), iV r1.next, .own 768 0 4 (p45.map eDLease)])], []⟩ (fgk (by kernel_rfl)) rfl
    ·refine seq_ ?_
     refine reg_ (st (c_ (cp_ ⟨tv, tv⟩ rfl tv) (st (c_ (cp_ ⟨tv, tv⟩ rfl (nl rfl)) (st (mv_ rfl tv ?_))))))
     obtain ⟨y134, e135, h2⟩ := bnd h2
     refine st (c_ (cidxO (e := eDLease) (y := y134) rfl rfl tv rfl rfl tv e135) ?_)
     obtain ⟨y136, e137, h2⟩ := bnd h2
     refine st (c_ (v := .agg (eDLease y136)) (cloadO (e := eDLease) (y := y136) (v := .agg (eDLease y136)) rfl rfl tv rfl rfl e137 rfl (nl rfl) rfl) (st (alloc_ (st (stp_ rfl rfl tv rfl rfl rfl (nl rfl) (oe_ (wk_ ⟨[(4, .ptr 256 0), (6, .ptr 384 0), (7, .own 1152 0 1 (p44.map eI)), (8, iV p102), (9, iV p103), (10, .ptr 640 0)], [(256, [iV 0, iV 0, .own 259 0 4 (([] : List DLease).map eDLease)]), (384, [iV (if a1 > a0.clock then a1 else a0.clock), iV r1.next, .own 768 0 4 (p45.map eDLease)]), (640, [iV y136.id, iV y136.until_, iV y136.cap, .bool y136.queued])], []⟩ (fgk (by kernel_rfl)) (seq_ ?_))))))))
     obtain ⟨y138, e139, h2⟩ := bnd h2
     obtain ⟨y140, e141, h2⟩ := bnd h2
     refine draw_ (dtake tv (c_ (cp_ ⟨tv, tv⟩ rfl tv) (⟨tv, (dtake tv (c_ (cp_ ⟨tv, tv⟩ rfl (nl rfl)) (⟨tv, (dtake tv (c_ (cp_ ⟨tv, tv⟩ rfl tv) (⟨tv, (dtake tv (mv_ rfl tv (⟨tv, (dtake tv (pg_ (u := .ptr 640 1) rfl (fun hg => (cp_ ⟨tv, tv⟩ rfl tv)) (⟨tv, (dtake tv (pg_ (u := iV y136.until_) rfl (fun hg => (cp_ ⟨(fun _ => hg), tv⟩ rfl (nl rfl))) (⟨tv, (dtake tv (pg_ (u := .ptr 384 0) rfl (fun hg => (cp_ ⟨tv, tv⟩ rfl tv)) (⟨tv, (dtake tv (pg_ (u := iV (if a1 > a0.clock then a1 else a0.clock)) rfl (fun hg => (cp_ ⟨(fun _ => hg), tv⟩ rfl (nl rfl))) (⟨tv, (dtake tv (pg_ (u := .bool (decide (y136.until_ ≤ (if a1 > a0.clock then a1 else a0.clock)))) rfl (fun hg => (cp_ ⟨(fun _ => hg), (fun _ => hg), tv⟩ rfl tv)) (⟨tv, (dtake tv (pick_ rfl rfl rfl (fun h => eqt h) tv rfl (⟨tv, (dtake tv (mv_ rfl tv (⟨tv, (dtake tv (pg_ (u := iV p102) rfl (fun hg => (cmv (v := iV p102) rfl tv)) (⟨tv, (dtake tv (pg_ (u := .bool (decide (p102 < 0))) rfl (fun hg => (cp_ ⟨(fun _ => hg), tv, tv⟩ rfl tv)) (⟨tv, (dtake tv (pg_ (u := .bool (decide (p102 < 0))) rfl (fun hg => (cmv (v := .may ((bif (!y136.queued) then (decide (y136.until_ ≤ (if a1 > a0.clock then a1 else a0.clock))) else false) == true) (.bool (decide (p102 < 0)))) rfl (fun _ => hg))) (⟨tv, (dtake tv (pg_ (u := .ptr 640 1) rfl (fun hg => (cp_ ⟨tv, tv⟩ rfl tv)) (⟨tv, ?_⟩)))⟩)))⟩)))⟩)))⟩)))⟩)))⟩)))⟩)))⟩)))⟩)))⟩)))⟩)))⟩)))⟩)))⟩)))
     refine dtake tv (pg_ (u := iV y136.until_) rfl (fun hg => (cp_ ⟨(fun _ => hg), tv⟩ rfl (nl rfl))) (⟨tv, (dtake tv (pg_ (u := .ptr 384 2) rfl (fun hg => (cp_ ⟨tv, tv⟩ rfl tv)) (⟨tv, (dtake tv (pg_ (u := .own 768 0 4 (p45.map eDLease)) rfl (fun hg => (cp_ ⟨(fun _ => hg), tv⟩ rfl (nl rfl))) (⟨tv, (dtake tv (pg_ (u := iV p102) rfl (fun hg => (cmv (v := iV p102) rfl tv)) (⟨tv, (dtake tv (pg_ (u := .optr 768 4 (0 + p102.toNat) 0) rfl (fun hg => (cidxO (e := eDLease) (y := y138) rfl rfl (fun _ => hg) rfl rfl (fun _ => hg) (ip hg e139))) (⟨tv, (dtake tv (pg_ (u := .optr 768 4 (0 + p102.toNat) 1) rfl (fun hg => (cp_ ⟨(fun _ => hg), tv⟩ rfl tv)) (⟨tv, (dtakeO (pg_ (u := iV y140.until_) rfl (fun hg => (cloadO (e := eDLease) (y := y140) (v := iV y140.until_) rfl rfl (fun _ => hg) rfl rfl (ip hg e141) rfl (nl rfl) rfl)) (⟨⟨(againg (v := iV y140.until_) rfl (fun hg => (cloadO (e := eDLease) (y := y140) (v := iV y140.until_) rfl rfl (fun _ => hg) rfl rfl (ip hg e141) rfl (nl rfl) rfl)) rfl), tv⟩, (dtake tv (pg_ (u := .bool (decide (y136.until_ < y140.until_))) rfl (fun hg => (cp_ ⟨(fun _ => hg), (fun _ => hg), tv⟩ rfl tv)) (⟨⟨(againg (v := iV y140.until_) rfl (fun hg => (cloadO (e := eDLease) (y := y140) (v := iV y140.until_) rfl rfl (fun _ => hg) rfl rfl (ip hg e141) rfl (nl rfl) rfl)) rfl), tv⟩, (dtake tv (pickg_ (u := .bool (bif (decide (p102 < 0)) then true else (decide (y136.until_ < y140.until_)))) rfl (fun hg => cpick rfl rfl (fun _ => hg) rfl rfl tv (fun h => and_ hg (eqf h)) rfl) (⟨⟨(againg (v := iV y140.until_) rfl (fun hg => (cloadO (e := eDLease) (y := y140) (v := iV y140.until_) rfl rfl (fun _ => hg) rfl rfl (ip hg e141) rfl (nl rfl) rfl)) rfl), tv⟩, (dtake tv (pick_ rfl rfl rfl (fun h => eqt h) tv rfl (⟨⟨(againg (v := iV y140.until_) rfl (fun hg => (cloadO (e := eDLease) (y := y140) (v := iV y140.until_) rfl rfl (fun _ => hg) rfl rfl (ip hg e141) rfl (nl rfl) rfl)) rfl), tv⟩, (dfin ?_)⟩)))⟩)))⟩)))⟩)))⟩)))⟩)))⟩)))⟩)))⟩)))⟩))
     obtain ⟨v142, e143, h2⟩ := bl h2
     refine wk_ ⟨[(4, .ptr 256 0), (6, .ptr 384 0), (7, .own 1152 0 1 (p44.map eI)), (8, iV p102), (9, iV p103), (55, .bool v142)], [(256, [iV 0, iV 0, .own 259 0 4 (([] : List DLease).map eDLease)]), (384, [iV (if a1 > a0.clock then a1 else a0.clock), iV r1.next, .own 768 0 4 (p45.map eDLease)])], []⟩ (fgk (by subst e143; kernel_rfl)) (ite_ (cb := v142) rfl (fun c144 => ?_) (fun c144 => ?_))
     ·replace h2 := ip c144 h2
      refine reg_ (st (mv_ rfl tv (st (mv_ rfl tv (oe_ (bn_ ?_))))))
      exact J133 _ ⟨[(4, .ptr 256 0), (6, .ptr 384 0), (7, .own 1152 0 1 (p44.map eI)), (8, iV p103), (9, iV p103)], [(256, [iV 0, iV 0, .own 259 0 4 (([] : List DLease).map eDLease)]), (384, [iV (if a1 > a0.clock then a1 else a0.clock), iV r1.next, .own 768 0 4 (p45.map eDLease)])], []⟩ (fgk (by kernel_rfl)) ⟨_, rfl, h2⟩
     ·replace h2 := inb c144 h2
      refine sk_ (bn_ ?_)
      exact J133 _ ⟨[(4, .ptr 256 0), (6, .ptr 384 0), (7, .own 1152 0 1 (p44.map eI)), (8, iV p102), (9, iV p103)], [(256, [iV 0, iV 0, .own 259 0 4 (([] : List DLease).map eDLease)]), (384, [iV (if a1 > a0.clock then a1 else a0.clock), iV r1.next, .own 768 0 4 (p45.map eDLease)])], []⟩ (fgk (by kernel_rfl)) ⟨_, rfl, h2⟩
   ·replace h2 := inb c120 h2
    obtain rfl := Option.some.inj h2
    obtain rfl := hx2 _ rfl
    refine exQ rfl ?_
    exact hE2 _ ⟨[(4, .ptr 256 0), (6, .ptr 384 0), (7, .own 1152 0 1 (p44.map eI)), (8, iV p102)], [(256, [iV 0, iV 0, .own 259 0 4 (([] : List DLease).map eDLease)]), (384, [iV (if a1 > a0.clock then a1 else a0.clock), iV r1.next, .own 768 0 4 (p45.map eDLease)])], []⟩ (fgk (by kernel_rfl)) ⟨_, rfl, rfl⟩

/- loop.example/g00149/spec.Tick -/
def c34_r0 : List Ins := [⟨some 2, .box (.t 0), none⟩,
⟨some 4, .alloc [(iV 0), (iV 0), (.own 259 0 4 [])], none⟩,
⟨some 5, .nilS 1, none⟩,
⟨some 6, .p (.mv (.c (iV 0))), none⟩]
def c34_r1 : List Ins := [(iQ 9 (.load (.t 2) 3 true)),
⟨some 10, .call 18 [(.t 9)], none⟩,
(iQ 11 (.un .not (.t 10)))]
def c34_r2 : List Ins := [(iQ 12 (.build [(iV 0), (iV 0), (.own 771 0 4 [])] [])),
⟨some 13, .mkS 1 [(iV 0)] 0 [], none⟩,
⟨none, .store (.t 4) (.t 12) 3, none⟩,
(iQ 5 (.mv (.t 13))),
⟨some 6, .p (.mv (.c (iV 1))), none⟩]
def c34_r3 : List Ins := [(iQ 15 (.load (.t 2) 3 true)),
(iQ 16 (.mv (.t 1))),
⟨some 17, .call 81 [(.t 15), (.t 16)], none⟩,
(iQ 14 (.mv (.t 17))),
(iQ 18 (.ext (.t 14) 0)),
(iQ 19 (.ext (.t 14) 1)),
⟨some 7, .alloc [(iV 0), (iV 0), (.own 451 0 4 [])], none⟩,
⟨none, .store (.t 7) (.t 18) 3, none⟩,
(iQ 8 (.mv (.t 19)))]
def c34_r4 : List Ins := [(iQ 20 (.load (.t 7) 3 true)),
(iQ 21 (.mv (.t 8))),
⟨none, .store (.t 4) (.t 20) 3, none⟩,
(iQ 5 (.mv (.t 21))),
⟨some 6, .p (.mv (.c (iV 0))), none⟩]
def c34 : XFn := { np := 2, nt := 22, res := [.cell 4 3 true, .t 5, .t 6], body := (.seq (.reg c34_r0) (.seq (.seq (.reg c34_r1) (.ite (.t 11) (.seq (.reg c34_r2) .ret) .skip)) (.seq (.reg c34_r3) (.seq (.reg c34_r4) .ret)))) }
def K34 (C : CRel) : Prop := ∀ (a0 : DTable) (a1 : Int) (r : DTable × (List Int) × Int), g34 a0 a1 = some r → C 34 ⟨[.agg (eDTable a0), iV a1], []⟩ ⟨.tup [.agg [iV r.1.clock, iV r.1.next, .own 0 0 4 (r.1.list_.map eDLease)], .own 1 0 1 (r.2.1.map eI), iV r.2.2], [], []⟩
theorem F34 {C : CRel} (H18 : K18 C) (H81 : K81 C) (a0 : DTable) (a1 : Int) (r : DTable × (List Int) × Int) (h0 : g34 a0 a1 = some r) : FnOK C c34 ⟨[.agg (eDTable a0), iV a1], []⟩ ⟨.tup [.agg [iV r.1.clock, iV r.1.next, .own 0 0 4 (r.1.list_.map eDLease)], .own 1 0 1 (r.2.1.map eI), iV r.2.2], [], []⟩ := by
 refine fn_ (nl rfl) (seq_ (reg_ (st (box_ rfl tv rfl (st (alloc_ (st (nilS_ (st (mvc_ tv (oe_ (wk_ ⟨[(1, iV a1), (2, .ptr 128 0), (4, .ptr 256 0)], [(128, [iV a0.clock, iV a0.next, .lst 4 (a0.list_.map eDLease)]), (256, [iV 0, iV 0, .own 259 0 4 (([] : List DLease).map eDLease)])], []⟩ (fgk (by kernel_rfl)) (seq_ (seq_ (reg_ (st (c_ (v := .agg (eDTable a0)) (cp_ ⟨tv, tv⟩ rfl (nl rfl)) ?_)))))))))))))))))
 obtain ⟨r1, e2, h0⟩ := bnd h0
 refine st (call0_ (r := .bool r1) false (H18 a0 r1 e2) ⟨tv, tv⟩ rfl rfl (fun _ => rfl) (st (c_ (cp_ ⟨tv, tv⟩ rfl tv) (oe_ (wk_ ⟨[(1, iV a1), (2, .ptr 128 0), (4, .ptr 256 0), (11, .bool (!r1))], [(128, [iV a0.clock, iV a0.next, .lst 4 (a0.list_.map eDLease)]), (256, [iV 0, iV 0, .own 259 0 4 (([] : List DLease).map eDLease)])], []⟩ (fgk (by kernel_rfl)) (ite_ (cb := (!r1)) rfl (fun c3 => ?_) (fun c3 => ?_)))))))
 ·replace h0 := ip c3 h0
  refine seq_ (reg_ (st (c_ (v := .agg [iV 0, iV 0, .own 771 0 4 (([] : List DLease).map eDLease)]) (cp_ tv rfl tv) (st (mkS_ tv tv (st (stp_ rfl rfl tv rfl rfl rfl (nl rfl) (st (mv_ rfl tv (st (mvc_ tv (oe_ (wk_ ⟨[(4, .ptr 256 0), (5, .own 832 0 1 (([] : List Int).map eI)), (6, iV 1)], [(256, [iV 0, iV 0, .own 771 0 4 (([] : List DLease).map eDLease)])], []⟩ (fgk (by kernel_rfl)) ?_)))))))))))))
  obtain rfl := Option.some.inj h0
  exact rt_ (ret_ rfl rfl rfl rfl rfl tv)
 ·replace h0 := inb c3 h0
  refine sk_ (wk_ ⟨[(1, iV a1), (2, .ptr 128 0), (4, .ptr 256 0)], [(128, [iV a0.clock, iV a0.next, .lst 4 (a0.list_.map eDLease)]), (256, [iV 0, iV 0, .own 259 0 4 (([] : List DLease).map eDLease)])], []⟩ (fgk (by kernel_rfl)) (seq_ (reg_ (st (c_ (v := .agg (eDTable a0)) (cp_ ⟨tv, tv⟩ rfl (nl rfl)) (st (mv_ rfl tv ?_)))))))
  obtain ⟨r4, e5, h0⟩ := bnd h0
  refine st (call0_ (r := .tup [.agg [iV r4.1.clock, iV r4.1.next, .own 0 0 4 (r4.1.list_.map eDLease)], .own 1 0 1 (r4.2.map eI)]) false (H81 a0 a1 r4 e5) ⟨tv, tv, tv⟩ rfl rfl (fun _ => (and_ rfl (and_ rfl (and_ (fl1 (fun _ => rfl)) (and_ (fl1 (fun _ => rfl)) rfl))))) (st (mv_ rfl tv (st (c_ (cp_ ⟨tv, tv⟩ rfl tv) (st (c_ (cp_ ⟨tv, tv⟩ rfl tv) (st (alloc_ (st (stp_ rfl rfl tv rfl rfl rfl (nl rfl) (sw ⟨[(4, .ptr 256 0), (7, .ptr 448 0), (19, .own 1089 0 1 (r4.2.map eI))], [(256, [iV 0, iV 0, .own 259 0 4 (([] : List DLease).map eDLease)]), (448, [iV r4.1.clock, iV r4.1.next, .own 1088 0 4 (r4.1.list_.map eDLease)])], []⟩ (fgk (by kernel_rfl)) (mv_ rfl tv (oe_ (wk_ ⟨[(4, .ptr 256 0), (7, .ptr 448 0), (8, .own 1089 0 1 (r4.2.map eI))], [(256, [iV 0, iV 0, .own 259 0 4 (([] : List DLease).map eDLease)]), (448, [iV r4.1.clock, iV r4.1.next, .own 1088 0 4 (r4.1.list_.map eDLease)])], []⟩ (fgk (by kernel_rfl)) (seq_ (reg_ (st (c_ (v := .agg [iV r4.1.clock, iV r4.1.next, .own 1088 0 4 (r4.1.list_.map eDLease)]) (cp_ ⟨tv, tv⟩ rfl (nl rfl)) (st (mv_ rfl tv (st (stp_ rfl rfl tv rfl rfl rfl (nl rfl) (st (mv_ rfl tv (st (mvc_ tv (oe_ (wk_ ⟨[(4, .ptr 256 0), (5, .own 1089 0 1 (r4.2.map eI)), (6, iV 0)], [(256, [iV r4.1.clock, iV r4.1.next, .own 1088 0 4 (r4.1.list_.map eDLease)])], []⟩ (fgk (by kernel_rfl)) ?_)))))))))))))))))))))))))))))
  obtain rfl := Option.some.inj h0
  exact rt_ (ret_ rfl rfl rfl rfl rfl tv)

/- cmp.Or[int] -/
def c109_r0 : List Ins := [⟨some 2, .p (.mv (.c (iV 0))), none⟩]
def c109_r1 : List Ins := [⟨some 3, .p (.mv (.c (iV 0))), none⟩]
def c109_r2 : List Ins := [(iQ 6 (.mv (.t 0))),
(iQ 7 (.len (.t 6))),
⟨some 8, .p (.mv (.c (iV 0))), none⟩]
def c109_r3 : List Ins := [(iQ 9 (.bin .lss (.t 8) (.t 7)))]
def c109_r4 : List Ins := [(iQ 10 (.idxA (.t 6) (.t 8) 1)),
(iQ 11 (.load (.t 10) 1 false)),
(iQ 5 (.mv (.t 11)))]
def c109_r5 : List Ins := [(iQ 12 (.mv (.t 5))),
(iQ 13 (.mv (.t 3))),
(iQ 14 (.bin .neq (.t 12) (.t 13)))]
def c109_r6 : List Ins := [(iQ 15 (.mv (.t 5))),
(iQ 2 (.mv (.t 15)))]
def c109_r7 : List Ins := [⟨some 16, .p (.bin .add (.t 8) (.c (iV 1))), none⟩,
(iQ 8 (.mv (.t 16)))]
def c109_l0 : IR := (.seq (.reg c109_r3) (.seq (.ite (.t 9) .skip (.exit 0)) (.seq (.block 1 (.seq (.reg c109_r4) (.seq (.reg c109_r5) (.ite (.t 14) (.seq (.reg c109_r6) .ret) .skip)))) (.reg c109_r7))))
def c109_r8 : List Ins := [(iQ 17 (.mv (.t 3))),
(iQ 2 (.mv (.t 17)))]
def c109 : XFn := { np := 1, nt := 18, res := [.t 2], body := (.seq (.reg c109_r0) (.seq (.reg c109_r1) (.seq (.seq (.reg c109_r2) (.block 0 (.loop c109_l0))) (.seq (.reg c109_r8) .ret)))) }
def K109 (C : CRel) : Prop := ∀ (a0 : List Int) (r : Int), g109 a0 = some r → C 109 ⟨[.lst 1 (a0.map eI)], []⟩ ⟨iV r, [], []⟩
theorem F109 {C : CRel}  (a0 : List Int) (r : Int) (h0 : g109 a0 = some r) : FnOK C c109 ⟨[.lst 1 (a0.map eI)], []⟩ ⟨iV r, [], []⟩ := by
 refine fn_ (nl rfl) (seq_ (reg_ (st (mvc_ tv (oe_ (wk_ ⟨[(0, .lst 1 (a0.map eI))], [], []⟩ (fgk (by kernel_rfl)) (seq_ (reg_ (st (mvc_ tv (oe_ (wk_ ⟨[(0, .lst 1 (a0.map eI)), (3, iV 0)], [], []⟩ (fgk (by kernel_rfl)) (seq_ (seq_ (reg_ (st (mv_ rfl tv (st (c_ (clenL (e := eI) (l0 := a0) rfl rfl tv) (st (mvc_ tv (oe_ (wk_ ⟨[(3, iV 0), (6, .lst 1 (a0.map eI)), (7, iV (a0.length : Int)), (8, iV 0)], [], []⟩ (fgk (by kernel_rfl)) (block_ ?_))))))))))))))))))))))))
 obtain ⟨r15, e16, h0⟩ := bnd h0
 refine loop_ (R := (fun S => .inl () = r15 ∧ S = ⟨[(3, iV 0)], [], []⟩)) (g109_l0 a0) (fun s S => match s with | p5 => S = ⟨[(3, iV 0), (6, .lst 1 (a0.map eI)), (7, iV (a0.length : Int)), (8, iV p5)], [], []⟩) e16 ⟨[(3, iV 0), (6, .lst 1 (a0.map eI)), (7, iV (a0.length : Int)), (8, iV 0)], [], []⟩ (fgk (by kernel_rfl)) rfl 0 (fun _ => rfl) ?_ ?_
 ·rintro S _ hfg ⟨rfl, rfl⟩
  refine wk_ ⟨[(3, iV 0)], [], []⟩ (fglk hfg (by kernel_rfl)) (seq_ (reg_ (st (mv_ rfl tv (st (mv_ rfl tv (oe_ (wk_ ⟨[(2, iV 0)], [], []⟩ (fgk (by kernel_rfl)) ?_))))))))
  obtain rfl := Option.some.inj h0
  exact rt_ (ret_ rfl rfl rfl rfl rfl tv)
 ·rintro p5 o1 _ K1 rfl h1 hx1 hK1 hE1 hR1
  refine seq_ (reg_ (st (c_ (cp_ t3 rfl tv) (oe_ (wk_ ⟨[(3, iV 0), (6, .lst 1 (a0.map eI)), (7, iV (a0.length : Int)), (8, iV p5), (9, .bool (decide (p5 < (a0.length : Int))))], [], []⟩ (fgk (by kernel_rfl)) (seq_ (ite_ (cb := (decide (p5 < (a0.length : Int)))) rfl (fun c11 => ?_) (fun c11 => ?_))))))))
  ·replace h1 := ip c11 h1
   refine sk_ (wk_ ⟨[(3, iV 0), (6, .lst 1 (a0.map eI)), (7, iV (a0.length : Int)), (8, iV p5)], [], []⟩ (fgk (by kernel_rfl)) (seq_ (block_ (seq_ (reg_ ?_)))))
   obtain ⟨y12, e13, h1⟩ := bnd h1
   refine st (c_ (cidxL (e := eI) (y := y12) rfl rfl tv rfl rfl tv e13) (st (c_ (cp_ ⟨tv, tv⟩ rfl (nl rfl)) (st (mv_ rfl tv (oe_ (wk_ ⟨[(3, iV 0), (5, iV y12), (6, .lst 1 (a0.map eI)), (7, iV (a0.length : Int)), (8, iV p5)], [], []⟩ (fgk (by kernel_rfl)) (seq_ (reg_ (st (mv_ rfl tv (st (mv_ rfl tv (st (c_ (cp_ t3 rfl tv) (oe_ (wk_ ⟨[(3, iV 0), (5, iV y12), (6, .lst 1 (a0.map eI)), (7, iV (a0.length : Int)), (8, iV p5), (14, .bool (y12 != 0))], [], []⟩ (fgk (by kernel_rfl)) (ite_ (cb := (y12 != 0)) rfl (fun c14 => ?_) (fun c14 => ?_)))))))))))))))))))
   ·replace h1 := ip c14 h1
    refine seq_ (reg_ (st (mv_ rfl tv (st (mv_ rfl tv (oe_ (wk_ ⟨[(2, iV y12)], [], []⟩ (fgk (by kernel_rfl)) ?_)))))))
    obtain rfl := Option.some.inj h1
    obtain rfl := hx1 _ rfl
    obtain rfl := Option.some.inj h0
    exact rt_ (hR1 _ (ret_ rfl rfl rfl rfl rfl tv))
   ·replace h1 := inb c14 h1
    refine sk_ (bn_ (wk_ ⟨[(3, iV 0), (6, .lst 1 (a0.map eI)), (7, iV (a0.length : Int)), (8, iV p5)], [], []⟩ (fgk (by kernel_rfl)) (reg_ (st (c_ (cp_ t3 rfl tv) (st (mv_ rfl tv (oe_ ?_))))))))
    obtain rfl := Option.some.inj h1
    exact hK1 _ rfl _ ⟨[(3, iV 0), (6, .lst 1 (a0.map eI)), (7, iV (a0.length : Int)), (8, iV (IntKind.i64.wrap (p5 + 1)))], [], []⟩ (fgk (by kernel_rfl)) rfl
  ·replace h1 := inb c11 h1
   obtain rfl := Option.some.inj h1
   obtain rfl := hx1 _ rfl
   refine exQ rfl ?_
   exact hE1 _ ⟨[(3, iV 0)], [], []⟩ (fgk (by kernel_rfl)) ⟨rfl, rfl⟩
end Go.Ev
