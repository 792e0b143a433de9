/- The walks of functions: the code comes to the answers that QgD tells. Written by a program of ours. -/
import Derived.Test.YtdkeomfbpdodiaaQgD
set_option linter.all false
set_option maxHeartbeats 4000000
set_option linter.unusedVariables false
set_option maxRecDepth 100000
namespace Go.Ev
theorem tv : True := True.intro
abbrev iQ (n : Nat) (o : PU) : Ins := ⟨some n, .p o, none⟩
abbrev iV (n : Int) : V := .int .i64 n
theorem nl {a b : Nat} (h : Nat.ble a b = true) : a ≤ b := Nat.le_of_ble_eq_true h
theorem t3 : True ∧ True ∧ True := ⟨trivial, trivial, trivial⟩

/- loop.example/g00149/laws.eqIntS -/
def c36_r0 : List Ins := [⟨some 4, .p (.mv (.c (.bool false))), none⟩]
def c36_r1 : List Ins := [(iQ 6 (.mv (.t 0))),
(iQ 7 (.len (.t 6))),
(iQ 8 (.mv (.t 1))),
(iQ 9 (.len (.t 8))),
(iQ 10 (.bin .neq (.t 7) (.t 9)))]
def c36_r2 : List Ins := [⟨some 4, .p (.mv (.c (.bool false))), none⟩]
def c36_r3 : List Ins := [⟨some 5, .p (.mv (.c (iV 0))), none⟩]
def c36_r4 : List Ins := [(iQ 11 (.mv (.t 5))),
(iQ 12 (.mv (.t 0))),
(iQ 13 (.len (.t 12))),
(iQ 14 (.bin .lss (.t 11) (.t 13)))]
def c36_r5 : DP := (.take (iQ 17 (.mv (.t 0)))
(.take (iQ 18 (.mv (.t 5)))
(.take (iQ 19 (.idxA (.t 17) (.t 18) 1))
(.take (iQ 20 (.load (.t 19) 1 false))
(.take (iQ 21 (.mv (.t 1)))
(.take (iQ 22 (.mv (.t 5)))
(.take (iQ 23 (.idxA (.t 21) (.t 22) 1))
(.take (iQ 24 (.load (.t 23) 1 false))
(.take (iQ 25 (.bin .neq (.t 20) (.t 24)))
.fin)))))))))
def c36_r6 : List Ins := [⟨some 4, .p (.mv (.c (.bool false))), none⟩]
def c36_r7 : List Ins := [(iQ 15 (.mv (.t 5))),
⟨some 16, .p (.bin .add (.t 15) (.c (iV 1))), none⟩,
(iQ 5 (.mv (.t 16)))]
def c36_l0 : IR := (.seq (.seq (.reg c36_r4) (.ite (.t 14) .skip (.exit 0))) (.seq (.block 1 (.seq (.draw c36_r5) (.ite (.t 25) (.seq (.reg c36_r6) .ret) .skip))) (.reg c36_r7)))
def c36_r8 : List Ins := [⟨some 4, .p (.mv (.c (.bool true))), none⟩]
def c36 : XFn := { np := 2, nt := 26, res := [.t 4], body := (.seq (.reg c36_r0) (.seq (.seq (.reg c36_r1) (.ite (.t 10) (.seq (.reg c36_r2) .ret) .skip)) (.seq (.seq (.reg c36_r3) (.block 0 (.loop c36_l0))) (.seq (.reg c36_r8) .ret)))) }
def K36 (C : CRel) : Prop := ∀ (a0 : List Int) (a1 : List Int) (r : Bool), g36 a0 a1 = some r → C 36 ⟨[.lst 1 (a0.map eI), .lst 1 (a1.map eI)], []⟩ ⟨.bool r, [], []⟩
theorem F36 {C : CRel}  (a0 : List Int) (a1 : List Int) (r : Bool) (h0 : g36 a0 a1 = some r) : FnOK C c36 ⟨[.lst 1 (a0.map eI), .lst 1 (a1.map eI)], []⟩ ⟨.bool r, [], []⟩ := by
 refine fn_ (nl rfl) (seq_ (reg_ (st (mvc_ tv (oe_ (wk_ ⟨[(0, .lst 1 (a0.map eI)), (1, .lst 1 (a1.map eI))], [], []⟩ (fgk (by kernel_rfl)) (seq_ (seq_ (reg_ (st (mv_ rfl tv (st (c_ (clenL (e := eI) (l0 := a0) rfl rfl tv) (st (mv_ rfl tv (st (c_ (clenL (e := eI) (l0 := a1) rfl rfl tv) (st (c_ (cp_ t3 rfl tv) (oe_ (wk_ ⟨[(0, .lst 1 (a0.map eI)), (1, .lst 1 (a1.map eI)), (10, .bool ((a0.length : Int) != (a1.length : Int)))], [], []⟩ (fgk (by kernel_rfl)) (ite_ (cb := ((a0.length : Int) != (a1.length : Int))) rfl (fun c1 => ?_) (fun c1 => ?_)))))))))))))))))))))))
 ·replace h0 := ip c1 h0
  refine seq_ (reg_ (st (mvc_ tv (oe_ (wk_ ⟨[(4, .bool false)], [], []⟩ (fgk (by kernel_rfl)) ?_)))))
  obtain rfl := Option.some.inj h0
  exact rt_ (ret_ rfl rfl rfl rfl rfl tv)
 ·replace h0 := inb c1 h0
  refine sk_ (wk_ ⟨[(0, .lst 1 (a0.map eI)), (1, .lst 1 (a1.map eI))], [], []⟩ (fgk (by kernel_rfl)) (seq_ (seq_ (reg_ (st (mvc_ tv (oe_ (wk_ ⟨[(0, .lst 1 (a0.map eI)), (1, .lst 1 (a1.map eI)), (5, iV 0)], [], []⟩ (fgk (by kernel_rfl)) (block_ ?_)))))))))
  obtain ⟨r22, e23, h0⟩ := bnd h0
  refine loop_ (R := (fun S => .inl () = r22 ∧ S = ⟨[], [], []⟩)) (g36_l0 a0 a1) (fun s S => match s with | p8 => S = ⟨[(0, .lst 1 (a0.map eI)), (1, .lst 1 (a1.map eI)), (5, iV p8)], [], []⟩) e23 ⟨[(0, .lst 1 (a0.map eI)), (1, .lst 1 (a1.map eI)), (5, iV 0)], [], []⟩ (fgk (by kernel_rfl)) rfl 0 (fun _ => rfl) ?_ ?_
  ·rintro S _ hfg ⟨rfl, rfl⟩
   refine wk_ ⟨[], [], []⟩ (fglk hfg (by kernel_rfl)) (seq_ (reg_ (st (mvc_ tv (oe_ (wk_ ⟨[(4, .bool true)], [], []⟩ (fgk (by kernel_rfl)) ?_))))))
   obtain rfl := Option.some.inj h0
   exact rt_ (ret_ rfl rfl rfl rfl rfl tv)
  ·rintro p8 o1 _ K1 rfl h1 hx1 hK1 hE1 hR1
   refine seq_ (seq_ (reg_ (st (mv_ rfl tv (st (mv_ rfl tv (st (c_ (clenL (e := eI) (l0 := a0) rfl rfl tv) (st (c_ (cp_ t3 rfl tv) (oe_ (wk_ ⟨[(0, .lst 1 (a0.map eI)), (1, .lst 1 (a1.map eI)), (5, iV p8), (14, .bool (decide (p8 < (a0.length : Int))))], [], []⟩ (fgk (by kernel_rfl)) (ite_ (cb := (decide (p8 < (a0.length : Int)))) rfl (fun c16 => ?_) (fun c16 => ?_))))))))))))))
   ·replace h1 := ip c16 h1
    refine sk_ (wk_ ⟨[(0, .lst 1 (a0.map eI)), (1, .lst 1 (a1.map eI)), (5, iV p8)], [], []⟩ (fgk (by kernel_rfl)) (seq_ (block_ (seq_ ?_))))
    obtain ⟨y17, e18, h1⟩ := bnd h1
    obtain ⟨y19, e20, h1⟩ := bnd h1
    refine draw_ (dtake tv (mv_ rfl tv (⟨tv, (dtake tv (mv_ rfl tv (⟨tv, (dtake tv (c_ (cidxL (e := eI) (y := y17) rfl rfl tv rfl rfl tv e18) (⟨tv, (dtake tv (c_ (cp_ ⟨tv, tv⟩ rfl (nl rfl)) (⟨tv, (dtake tv (mv_ rfl tv (⟨tv, (dtake tv (mv_ rfl tv (⟨tv, (dtake tv (c_ (cidxL (e := eI) (y := y19) rfl rfl tv rfl rfl tv e20) (⟨tv, (dtake tv (c_ (cp_ ⟨tv, tv⟩ rfl (nl rfl)) (⟨tv, (dtake tv (c_ (cp_ t3 rfl tv) (⟨tv, (dfin (wk_ ⟨[(0, .lst 1 (a0.map eI)), (1, .lst 1 (a1.map eI)), (5, iV p8), (25, .bool (y17 != y19))], [], []⟩ (fgk (by kernel_rfl)) (ite_ (cb := (y17 != y19)) rfl (fun c21 => ?_) (fun c21 => ?_))))⟩)))⟩)))⟩)))⟩)))⟩)))⟩)))⟩)))⟩)))⟩)))
    ·replace h1 := ip c21 h1
     refine seq_ (reg_ (st (mvc_ tv (oe_ (wk_ ⟨[(4, .bool false)], [], []⟩ (fgk (by kernel_rfl)) ?_)))))
     obtain rfl := Option.some.inj h1
     obtain rfl := hx1 _ rfl
     obtain rfl := Option.some.inj h0
     exact rt_ (hR1 _ (ret_ rfl rfl rfl rfl rfl tv))
    ·replace h1 := inb c21 h1
     refine sk_ (bn_ (wk_ ⟨[(0, .lst 1 (a0.map eI)), (1, .lst 1 (a1.map eI)), (5, iV p8)], [], []⟩ (fgk (by kernel_rfl)) (reg_ (st (mv_ rfl tv (st (c_ (cp_ t3 rfl tv) (st (mv_ rfl tv (oe_ ?_))))))))))
     obtain rfl := Option.some.inj h1
     exact hK1 _ rfl _ ⟨[(0, .lst 1 (a0.map eI)), (1, .lst 1 (a1.map eI)), (5, iV (IntKind.i64.wrap (p8 + 1)))], [], []⟩ (fgk (by kernel_rfl)) rfl
   ·replace h1 := inb c16 h1
    obtain rfl := Option.some.inj h1
    obtain rfl := hx1 _ rfl
    refine exQ rfl ?_
    exact hE1 _ ⟨[], [], []⟩ (fgk (by kernel_rfl)) ⟨rfl, rfl⟩

/- loop.example/g00149/laws.markIntS -/
def c37_r0 : List Ins := [⟨some 4, .p (.mv (.c (iV 0))), none⟩]
def c37_r1 : List Ins := [⟨some 5, .p (.mv (.c (iV 0))), none⟩]
def c37_r2 : List Ins := [(iQ 6 (.mv (.t 5))),
(iQ 7 (.mv (.t 0))),
(iQ 8 (.len (.t 7))),
(iQ 9 (.bin .lss (.t 6) (.t 8)))]
def c37_r3 : List Ins := [(iQ 12 (.mv (.t 0))),
(iQ 13 (.mv (.t 5))),
(iQ 14 (.mv (.t 1))),
(iQ 15 (.idxA (.t 12) (.t 13) 1)),
⟨none, .store (.t 15) (.t 14) 1, none⟩]
def c37_r4 : List Ins := [(iQ 16 (.mv (.t 1))),
⟨some 17, .p (.bin .add (.t 16) (.c (iV 1))), none⟩,
(iQ 1 (.mv (.t 17)))]
def c37_r5 : List Ins := [(iQ 10 (.mv (.t 5))),
⟨some 11, .p (.bin .add (.t 10) (.c (iV 1))), none⟩,
(iQ 5 (.mv (.t 11)))]
def c37_l0 : IR := (.seq (.seq (.reg c37_r2) (.ite (.t 9) .skip (.exit 0))) (.seq (.block 1 (.seq (.reg c37_r3) (.reg c37_r4))) (.reg c37_r5)))
def c37_r6 : List Ins := [(iQ 18 (.mv (.t 1))),
(iQ 4 (.mv (.t 18)))]
def c37 : XFn := { np := 2, nt := 19, res := [.t 4], body := (.seq (.reg c37_r0) (.seq (.seq (.reg c37_r1) (.block 0 (.loop c37_l0))) (.seq (.reg c37_r6) .ret))) }
def K37 (C : CRel) : Prop := ∀ (a0 : List Int) (a1 : Int) (r : Int × (List Int)), g37 a0 a1 = some r → C 37 ⟨[.own 2097152 0 1 (a0.map eI), iV a1], []⟩ ⟨iV r.1, [], [(0, 1, r.2.map eI)]⟩
theorem F37 {C : CRel}  (a0 : List Int) (a1 : Int) (r : Int × (List Int)) (h0 : g37 a0 a1 = some r) : FnOK C c37 ⟨[.own 2097152 0 1 (a0.map eI), iV a1], []⟩ ⟨iV r.1, [], [(0, 1, r.2.map eI)]⟩ := by
 refine fn_ (nl rfl) (seq_ (reg_ (st (mvc_ tv (oe_ (wk_ ⟨[(0, .own 2097152 0 1 (a0.map eI)), (1, iV a1)], [], []⟩ (fgk (by kernel_rfl)) (seq_ (seq_ (reg_ (st (mvc_ tv (oe_ (wk_ ⟨[(0, .own 2097152 0 1 (a0.map eI)), (1, iV a1), (5, iV 0)], [], []⟩ (fgk (by kernel_rfl)) (block_ ?_))))))))))))))
 obtain ⟨r24, e25, h0⟩ := bnd h0
 refine loop_ (R := (fun S => ∃ p17 : List Int, ∃ p18 : Int, (p17, p18) = r24 ∧ S = ⟨[(0, .own 2097152 0 1 (p17.map eI)), (1, iV p18)], [], []⟩)) (g37_l0) (fun s S => match s with | (p6, p7, p8) => S = ⟨[(0, .own 2097152 0 1 (p6.map eI)), (1, iV p7), (5, iV p8)], [], []⟩) e25 ⟨[(0, .own 2097152 0 1 (a0.map eI)), (1, iV a1), (5, iV 0)], [], []⟩ (fgk (by kernel_rfl)) rfl 0 (fun _ => rfl) ?_ ?_
 ·rintro S _ hfg ⟨p17, p18, rfl, rfl⟩
  refine wk_ ⟨[(0, .own 2097152 0 1 (p17.map eI)), (1, iV p18)], [], []⟩ (fglk hfg (by kernel_rfl)) (seq_ (reg_ (st (mv_ rfl tv (st (mv_ rfl tv (oe_ (wk_ ⟨[(0, .own 2097152 0 1 (p17.map eI)), (4, iV p18)], [], []⟩ (fgk (by kernel_rfl)) ?_))))))))
  obtain rfl := Option.some.inj h0
  exact rt_ (ret_ rfl rfl rfl rfl rfl ⟨⟨rfl, mlen (fun _ => rfl)⟩, tv⟩)
 ·rintro ⟨p6, p7, p8⟩ o1 _ K1 rfl h1 hx1 hK1 hE1 hR1
  refine seq_ (seq_ (reg_ (st (mv_ rfl tv (st (mv_ rfl tv (st (c_ (clenO (e := eI) (l0 := p6) rfl rfl tv) (st (c_ (cp_ t3 rfl tv) (oe_ (wk_ ⟨[(0, .own 2097152 0 1 (p6.map eI)), (1, iV p7), (5, iV p8), (9, .bool (decide (p8 < (p6.length : Int))))], [], []⟩ (fgk (by kernel_rfl)) (ite_ (cb := (decide (p8 < (p6.length : Int)))) rfl (fun c19 => ?_) (fun c19 => ?_))))))))))))))
  ·replace h1 := ip c19 h1
   refine sk_ (wk_ ⟨[(0, .own 2097152 0 1 (p6.map eI)), (1, iV p7), (5, iV p8)], [], []⟩ (fgk (by kernel_rfl)) (seq_ (block_ (seq_ (reg_ (st (mv_ rfl tv (st (mv_ rfl tv (st (mv_ rfl tv ?_)))))))))))
   obtain ⟨y20, e21, h1⟩ := bnd h1
   refine st (c_ (cidxO (e := eI) (y := y20) rfl rfl tv rfl rfl tv e21) ?_)
   obtain ⟨y22, e23, h1⟩ := bnd h1
   refine st (sto_ (y' := p7) rfl rfl tv rfl rfl rfl rfl e23 (nl rfl) rfl rfl rfl rfl (oe_ (wk_ ⟨[(0, .own 2097152 0 1 ((p6.set p8.toNat p7).map eI)), (1, iV p7), (5, iV p8)], [], []⟩ (fg ⟨(congrArg (fun z => some ((.own 2097152 0 1 z : V))) overlay_map), rfl, rfl, tv⟩ tv) (reg_ (st (mv_ rfl tv (st (c_ (cp_ t3 rfl tv) (st (mv_ rfl tv (oe_ (bn_ (wk_ ⟨[(0, .own 2097152 0 1 ((p6.set p8.toNat p7).map eI)), (1, iV (IntKind.i64.wrap (p7 + 1))), (5, iV p8)], [], []⟩ (fgk (by kernel_rfl)) (reg_ (st (mv_ rfl tv (st (c_ (cp_ t3 rfl tv) (st (mv_ rfl tv (oe_ ?_)))))))))))))))))))))
   obtain rfl := Option.some.inj h1
   exact hK1 _ rfl _ ⟨[(0, .own 2097152 0 1 ((p6.set p8.toNat p7).map eI)), (1, iV (IntKind.i64.wrap (p7 + 1))), (5, iV (IntKind.i64.wrap (p8 + 1)))], [], []⟩ (fgk (by kernel_rfl)) rfl
  ·replace h1 := inb c19 h1
   obtain rfl := Option.some.inj h1
   obtain rfl := hx1 _ rfl
   refine exQ rfl ?_
   exact hE1 _ ⟨[(0, .own 2097152 0 1 (p6.map eI)), (1, iV p7)], [], []⟩ (fgk (by kernel_rfl)) ⟨_, _, rfl, rfl⟩

/- loop.example/g00149/laws.heldIntS -/
def c38_r0 : List Ins := [⟨some 4, .p (.mv (.c (iV 0))), none⟩]
def c38_r1 : List Ins := [⟨some 5, .p (.mv (.c (iV 0))), none⟩]
def c38_r2 : List Ins := [(iQ 6 (.mv (.t 5))),
(iQ 7 (.mv (.t 0))),
(iQ 8 (.len (.t 7))),
(iQ 9 (.bin .lss (.t 6) (.t 8)))]
def c38_r3 : List Ins := [(iQ 12 (.mv (.t 0))),
(iQ 13 (.mv (.t 5))),
(iQ 14 (.idxA (.t 12) (.t 13) 1)),
(iQ 15 (.load (.t 14) 1 false)),
(iQ 16 (.mv (.t 1))),
(iQ 17 (.bin .neq (.t 15) (.t 16)))]
def c38_r4 : List Ins := [⟨some 4, .p (.mv (.c (iV (-1)))), none⟩]
def c38_r5 : List Ins := [(iQ 18 (.mv (.t 1))),
⟨some 19, .p (.bin .add (.t 18) (.c (iV 1))), none⟩,
(iQ 1 (.mv (.t 19)))]
def c38_r6 : List Ins := [(iQ 10 (.mv (.t 5))),
⟨some 11, .p (.bin .add (.t 10) (.c (iV 1))), none⟩,
(iQ 5 (.mv (.t 11)))]
def c38_l0 : IR := (.seq (.seq (.reg c38_r2) (.ite (.t 9) .skip (.exit 0))) (.seq (.block 1 (.seq (.seq (.reg c38_r3) (.ite (.t 17) (.seq (.reg c38_r4) .ret) .skip)) (.reg c38_r5))) (.reg c38_r6)))
def c38_r7 : List Ins := [(iQ 20 (.mv (.t 1))),
(iQ 4 (.mv (.t 20)))]
def c38 : XFn := { np := 2, nt := 21, res := [.t 4], body := (.seq (.reg c38_r0) (.seq (.seq (.reg c38_r1) (.block 0 (.loop c38_l0))) (.seq (.reg c38_r7) .ret))) }
def K38 (C : CRel) : Prop := ∀ (a0 : List Int) (a1 : Int) (r : Int), g38 a0 a1 = some r → C 38 ⟨[.lst 1 (a0.map eI), iV a1], []⟩ ⟨iV r, [], []⟩
theorem F38 {C : CRel}  (a0 : List Int) (a1 : Int) (r : Int) (h0 : g38 a0 a1 = some r) : FnOK C c38 ⟨[.lst 1 (a0.map eI), iV a1], []⟩ ⟨iV r, [], []⟩ := by
 refine fn_ (nl rfl) (seq_ (reg_ (st (mvc_ tv (oe_ (wk_ ⟨[(0, .lst 1 (a0.map eI)), (1, iV a1)], [], []⟩ (fgk (by kernel_rfl)) (seq_ (seq_ (reg_ (st (mvc_ tv (oe_ (wk_ ⟨[(0, .lst 1 (a0.map eI)), (1, iV a1), (5, iV 0)], [], []⟩ (fgk (by kernel_rfl)) (block_ ?_))))))))))))))
 obtain ⟨r18, e19, h0⟩ := bnd h0
 refine loop_ (R := (fun S => ∃ p13 : Int, .inl p13 = r18 ∧ S = ⟨[(1, iV p13)], [], []⟩)) (g38_l0 a0) (fun s S => match s with | (p5, p6) => S = ⟨[(0, .lst 1 (a0.map eI)), (1, iV p5), (5, iV p6)], [], []⟩) e19 ⟨[(0, .lst 1 (a0.map eI)), (1, iV a1), (5, iV 0)], [], []⟩ (fgk (by kernel_rfl)) rfl 0 (fun _ => rfl) ?_ ?_
 ·rintro S _ hfg ⟨p13, rfl, rfl⟩
  refine wk_ ⟨[(1, iV p13)], [], []⟩ (fglk hfg (by kernel_rfl)) (seq_ (reg_ (st (mv_ rfl tv (st (mv_ rfl tv (oe_ (wk_ ⟨[(4, iV p13)], [], []⟩ (fgk (by kernel_rfl)) ?_))))))))
  obtain rfl := Option.some.inj h0
  exact rt_ (ret_ rfl rfl rfl rfl rfl tv)
 ·rintro ⟨p5, p6⟩ o1 _ K1 rfl h1 hx1 hK1 hE1 hR1
  refine seq_ (seq_ (reg_ (st (mv_ rfl tv (st (mv_ rfl tv (st (c_ (clenL (e := eI) (l0 := a0) rfl rfl tv) (st (c_ (cp_ t3 rfl tv) (oe_ (wk_ ⟨[(0, .lst 1 (a0.map eI)), (1, iV p5), (5, iV p6), (9, .bool (decide (p6 < (a0.length : Int))))], [], []⟩ (fgk (by kernel_rfl)) (ite_ (cb := (decide (p6 < (a0.length : Int)))) rfl (fun c14 => ?_) (fun c14 => ?_))))))))))))))
  ·replace h1 := ip c14 h1
   refine sk_ (wk_ ⟨[(0, .lst 1 (a0.map eI)), (1, iV p5), (5, iV p6)], [], []⟩ (fgk (by kernel_rfl)) (seq_ (block_ (seq_ (seq_ (reg_ (st (mv_ rfl tv (st (mv_ rfl tv ?_))))))))))
   obtain ⟨y15, e16, h1⟩ := bnd h1
   refine st (c_ (cidxL (e := eI) (y := y15) rfl rfl tv rfl rfl tv e16) (st (c_ (cp_ ⟨tv, tv⟩ rfl (nl rfl)) (st (mv_ rfl tv (st (c_ (cp_ t3 rfl tv) (oe_ (wk_ ⟨[(0, .lst 1 (a0.map eI)), (1, iV p5), (5, iV p6), (17, .bool (y15 != p5))], [], []⟩ (fgk (by kernel_rfl)) (ite_ (cb := (y15 != p5)) rfl (fun c17 => ?_) (fun c17 => ?_)))))))))))
   ·replace h1 := ip c17 h1
    refine seq_ (reg_ (st (mvc_ tv (oe_ (wk_ ⟨[(4, iV (-1))], [], []⟩ (fgk (by kernel_rfl)) ?_)))))
    obtain rfl := Option.some.inj h1
    obtain rfl := hx1 _ rfl
    obtain rfl := Option.some.inj h0
    exact rt_ (hR1 _ (ret_ rfl rfl rfl rfl rfl tv))
   ·replace h1 := inb c17 h1
    refine sk_ (wk_ ⟨[(0, .lst 1 (a0.map eI)), (1, iV p5), (5, iV p6)], [], []⟩ (fgk (by kernel_rfl)) (reg_ (st (mv_ rfl tv (st (c_ (cp_ t3 rfl tv) (st (mv_ rfl tv (oe_ (bn_ (wk_ ⟨[(0, .lst 1 (a0.map eI)), (1, iV (IntKind.i64.wrap (p5 + 1))), (5, iV p6)], [], []⟩ (fgk (by kernel_rfl)) (reg_ (st (mv_ rfl tv (st (c_ (cp_ t3 rfl tv) (st (mv_ rfl tv (oe_ ?_)))))))))))))))))))
    obtain rfl := Option.some.inj h1
    exact hK1 _ rfl _ ⟨[(0, .lst 1 (a0.map eI)), (1, iV (IntKind.i64.wrap (p5 + 1))), (5, iV (IntKind.i64.wrap (p6 + 1)))], [], []⟩ (fgk (by kernel_rfl)) rfl
  ·replace h1 := inb c14 h1
   obtain rfl := Option.some.inj h1
   obtain rfl := hx1 _ rfl
   refine exQ rfl ?_
   exact hE1 _ ⟨[(1, iV p5)], [], []⟩ (fgk (by kernel_rfl)) ⟨_, rfl, rfl⟩

/- loop.example/g00149/spec.l01In -/
def c56_r0 : List Ins := [⟨some 6, .p (.mv (.c (.bool false))), none⟩]
def c56_r1 : List Ins := [(iQ 7 (.mv (.t 0))),
(iQ 8 (.mv (.t 1))),
(iQ 9 (.bin .geq (.t 7) (.t 8))),
(iQ 10 (.mv (.t 9))),
⟨some 11, .p (.mv (.t 0)), some (10, true)⟩,
⟨some 12, .p (.mv (.t 2)), some (10, true)⟩,
⟨some 13, .p (.bin .leq (.t 11) (.t 12)), some (10, true)⟩,
⟨some 14, .pick (.t 10) (.t 13) (.c (.bool false)), none⟩,
(iQ 6 (.mv (.t 14)))]
def c56 : XFn := { np := 3, nt := 15, res := [.t 6], body := (.seq (.reg c56_r0) (.seq (.reg c56_r1) .ret)) }
def K56 (C : CRel) : Prop := ∀ (a0 : Int) (a1 : Int) (a2 : Int) (r : Bool), g56 a0 a1 a2 = some r → C 56 ⟨[iV a0, iV a1, iV a2], []⟩ ⟨.bool r, [], []⟩
theorem F56 {C : CRel}  (a0 : Int) (a1 : Int) (a2 : Int) (r : Bool) (h0 : g56 a0 a1 a2 = some r) : FnOK C c56 ⟨[iV a0, iV a1, iV a2], []⟩ ⟨.bool r, [], []⟩ := by
 refine fn_ (nl rfl) (seq_ (reg_ (st (mvc_ tv (oe_ (wk_ ⟨[(0, iV a0), (1, iV a1), (2, iV a2)], [], []⟩ (fgk (by kernel_rfl)) (seq_ (reg_ (st (mv_ rfl tv (st (mv_ rfl tv (st (c_ (cp_ t3 rfl tv) (st (mv_ rfl tv (st (pg_ (u := iV a0) rfl (fun hg => (cmv (v := iV a0) rfl tv)) (st (pg_ (u := iV a2) rfl (fun hg => (cmv (v := iV a2) rfl tv)) (st (pg_ (u := .bool (decide (a0 ≤ a2))) rfl (fun hg => (cp_ ⟨(fun _ => hg), (fun _ => hg), tv⟩ rfl tv)) (st (pick_ rfl rfl rfl (fun h => eqt h) tv rfl (st (mv_ rfl tv (oe_ (wk_ ⟨[(6, .bool (bif (decide (a0 ≥ a1)) then (decide (a0 ≤ a2)) else false))], [], []⟩ (fgk (by kernel_rfl)) ?_))))))))))))))))))))))))))))
 obtain rfl := Option.some.inj h0
 exact rt_ (ret_ rfl rfl rfl rfl rfl tv)

/- loop.example/g00149/spec.l09Rising -/
def c85_r0 : List Ins := [⟨some 4, .p (.mv (.c (.bool false))), none⟩]
def c85_r1 : List Ins := [⟨some 5, .p (.mv (.c (iV 0))), none⟩]
def c85_r2 : List Ins := [(iQ 6 (.mv (.t 5))),
(iQ 7 (.mv (.t 0))),
(iQ 8 (.len (.t 7))),
(iQ 9 (.bin .lss (.t 6) (.t 8)))]
def c85_r3 : DP := (.take (iQ 12 (.mv (.t 0)))
(.take (iQ 13 (.mv (.t 5)))
(.take (iQ 14 (.idxA (.t 12) (.t 13) 1))
(.take (iQ 15 (.load (.t 14) 1 false))
(.take (iQ 16 (.mv (.t 1)))
(.take ⟨some 17, .p (.bin .sub (.t 16) (.c (iV 1))), none⟩
(.alt [] ⟨some 18, .call 56 [(.t 15), (.c (iV 1)), (.t 17)], none⟩
(.take (iQ 19 (.un .not (.t 18)))
(.take (iQ 20 (.mv (.t 19)))
(.take ⟨some 21, .p (.mv (.t 5)), some (20, false)⟩
(.take ⟨some 22, .p (.bin .gtr (.t 21) (.c (iV 0))), some (20, false)⟩
(.take ⟨some 23, .p (.mv (.t 22)), some (20, false)⟩
(.take ⟨some 24, .p (.mv (.t 0)), some (23, true)⟩
(.take ⟨some 25, .p (.mv (.t 5)), some (23, true)⟩
(.take ⟨some 26, .p (.bin .sub (.t 25) (.c (iV 1))), some (23, true)⟩
(.take ⟨some 27, .p (.idxA (.t 24) (.t 26) 1), some (23, true)⟩
(.take ⟨some 28, .p (.load (.t 27) 1 false), some (23, true)⟩
(.take ⟨some 29, .p (.mv (.t 0)), some (23, true)⟩
(.take ⟨some 30, .p (.mv (.t 5)), some (23, true)⟩
(.take ⟨some 31, .p (.idxA (.t 29) (.t 30) 1), some (23, true)⟩
(.take ⟨some 32, .p (.load (.t 31) 1 false), some (23, true)⟩
(.take ⟨some 33, .p (.bin .geq (.t 28) (.t 32)), some (23, true)⟩
(.take ⟨some 34, .pick (.t 23) (.t 33) (.c (.bool false)), some (20, false)⟩
(.take ⟨some 35, .pick (.t 20) (.c (.bool true)) (.t 34), none⟩
.fin)))))))))))))))))
.stop)))))))
def c85_r4 : List Ins := [⟨some 4, .p (.mv (.c (.bool false))), none⟩]
def c85_r5 : List Ins := [(iQ 10 (.mv (.t 5))),
⟨some 11, .p (.bin .add (.t 10) (.c (iV 1))), none⟩,
(iQ 5 (.mv (.t 11)))]
def c85_l0 : IR := (.seq (.seq (.reg c85_r2) (.ite (.t 9) .skip (.exit 0))) (.seq (.block 1 (.seq (.draw c85_r3) (.ite (.t 35) (.seq (.reg c85_r4) .ret) .skip))) (.reg c85_r5)))
def c85_r6 : List Ins := [⟨some 4, .p (.mv (.c (.bool true))), none⟩]
def c85 : XFn := { np := 2, nt := 36, res := [.t 4], body := (.seq (.reg c85_r0) (.seq (.seq (.reg c85_r1) (.block 0 (.loop c85_l0))) (.seq (.reg c85_r6) .ret))) }
def K85 (C : CRel) : Prop := ∀ (a0 : List Int) (a1 : Int) (r : Bool), g85 a0 a1 = some r → C 85 ⟨[.lst 1 (a0.map eI), iV a1], []⟩ ⟨.bool r, [], []⟩
theorem F85 {C : CRel} (H56 : K56 C) (a0 : List Int) (a1 : Int) (r : Bool) (h0 : g85 a0 a1 = some r) : FnOK C c85 ⟨[.lst 1 (a0.map eI), iV a1], []⟩ ⟨.bool r, [], []⟩ := by
 refine fn_ (nl rfl) (seq_ (reg_ (st (mvc_ tv (oe_ (wk_ ⟨[(0, .lst 1 (a0.map eI)), (1, iV a1)], [], []⟩ (fgk (by kernel_rfl)) (seq_ (seq_ (reg_ (st (mvc_ tv (oe_ (wk_ ⟨[(0, .lst 1 (a0.map eI)), (1, iV a1), (5, iV 0)], [], []⟩ (fgk (by kernel_rfl)) (block_ ?_))))))))))))))
 obtain ⟨r39, e40, h0⟩ := bnd h0
 refine loop_ (R := (fun S => .inl () = r39 ∧ S = ⟨[], [], []⟩)) (g85_l0 a0 a1) (fun s S => match s with | p13 => S = ⟨[(0, .lst 1 (a0.map eI)), (1, iV a1), (5, iV p13)], [], []⟩) e40 ⟨[(0, .lst 1 (a0.map eI)), (1, iV a1), (5, iV 0)], [], []⟩ (fgk (by kernel_rfl)) rfl 0 (fun _ => rfl) ?_ ?_
 ·rintro S _ hfg ⟨rfl, rfl⟩
  refine wk_ ⟨[], [], []⟩ (fglk hfg (by kernel_rfl)) (seq_ (reg_ (st (mvc_ tv (oe_ (wk_ ⟨[(4, .bool true)], [], []⟩ (fgk (by kernel_rfl)) ?_))))))
  obtain rfl := Option.some.inj h0
  exact rt_ (ret_ rfl rfl rfl rfl rfl tv)
 ·rintro p13 o1 _ K1 rfl h1 hx1 hK1 hE1 hR1
  refine seq_ (seq_ (reg_ (st (mv_ rfl tv (st (mv_ rfl tv (st (c_ (clenL (e := eI) (l0 := a0) rfl rfl tv) (st (c_ (cp_ t3 rfl tv) (oe_ (wk_ ⟨[(0, .lst 1 (a0.map eI)), (1, iV a1), (5, iV p13), (9, .bool (decide (p13 < (a0.length : Int))))], [], []⟩ (fgk (by kernel_rfl)) (ite_ (cb := (decide (p13 < (a0.length : Int)))) rfl (fun c27 => ?_) (fun c27 => ?_))))))))))))))
  ·replace h1 := ip c27 h1
   refine sk_ (wk_ ⟨[(0, .lst 1 (a0.map eI)), (1, iV a1), (5, iV p13)], [], []⟩ (fgk (by kernel_rfl)) (seq_ (block_ (seq_ ?_))))
   obtain ⟨y28, e29, h1⟩ := bnd h1
   obtain ⟨r30, e31, h1⟩ := bnd h1
   obtain ⟨y32, e33, h1⟩ := bnd h1
   obtain ⟨y34, e35, h1⟩ := bnd h1
   refine draw_ (dtake tv (mv_ rfl tv (⟨tv, (dtake tv (mv_ rfl tv (⟨tv, (dtake tv (c_ (cidxL (e := eI) (y := y28) rfl rfl tv rfl rfl tv e29) (⟨tv, (dtake tv (c_ (cp_ ⟨tv, tv⟩ rfl (nl rfl)) (⟨tv, (dtake tv (mv_ rfl tv (⟨tv, (dtake tv (c_ (cp_ t3 rfl tv) (⟨tv, (dalt (call0_ (r := .bool r30) false (H56 y28 1 (IntKind.i64.wrap (a1 - 1)) r30 e31) ⟨tv, tv, tv, tv⟩ rfl rfl (fun _ => rfl) (dkw ⟨[(0, .lst 1 (a0.map eI)), (1, iV a1), (5, iV p13), (18, .bool r30)], [], []⟩ (fgk (by kernel_rfl)) ⟨[], tv, tv, (dtake tv (c_ (cp_ ⟨tv, tv⟩ rfl tv) (⟨tv, (dtake tv (mv_ rfl tv (⟨tv, (dtake tv (pg_ (u := iV p13) rfl (fun hg => (cmv (v := iV p13) rfl tv)) (⟨tv, (dtake tv (pg_ (u := .bool (decide (p13 > 0))) rfl (fun hg => (cp_ ⟨(fun _ => hg), tv, tv⟩ rfl tv)) (⟨tv, (dtake tv (pg_ (u := .bool (decide (p13 > 0))) rfl (fun hg => (cmv (v := .may ((!r30) == false) (.bool (decide (p13 > 0)))) rfl (fun _ => hg))) (⟨tv, (dtake tv (pg_ (u := .lst 1 (a0.map eI)) rfl (fun hg => (cmv (v := .lst 1 (a0.map eI)) rfl tv)) (⟨tv, (dtake tv (pg_ (u := iV p13) rfl (fun hg => (cmv (v := iV p13) rfl tv)) (⟨tv, (dtake tv (pg_ (u := iV (IntKind.i64.wrap (p13 - 1))) rfl (fun hg => (cp_ ⟨(fun _ => hg), tv, tv⟩ rfl tv)) (⟨tv, ?_⟩)))⟩)))⟩)))⟩)))⟩)))⟩)))⟩)))⟩)))⟩)) dstop)⟩)))⟩)))⟩)))⟩)))⟩)))⟩)))
   refine dtake tv (pg_ (u := .iptr [iV y32]) rfl (fun hg => (cidxL (e := eI) (y := y32) rfl rfl (fun _ => hg) rfl rfl (fun _ => hg) (ip hg e33))) (⟨tv, (dtake tv (pg_ (u := iV y32) rfl (fun hg => (cp_ ⟨(fun _ => hg), tv⟩ rfl (nl rfl))) (⟨tv, (dtake tv (pg_ (u := .lst 1 (a0.map eI)) rfl (fun hg => (cmv (v := .lst 1 (a0.map eI)) rfl tv)) (⟨tv, (dtake tv (pg_ (u := iV p13) rfl (fun hg => (cmv (v := iV p13) rfl tv)) (⟨tv, (dtake tv (pg_ (u := .iptr [iV y34]) rfl (fun hg => (cidxL (e := eI) (y := y34) rfl rfl (fun _ => hg) rfl rfl (fun _ => hg) (ip hg e35))) (⟨tv, (dtake tv (pg_ (u := iV y34) rfl (fun hg => (cp_ ⟨(fun _ => hg), tv⟩ rfl (nl rfl))) (⟨tv, (dtake tv (pg_ (u := .bool (decide (y32 ≥ y34))) rfl (fun hg => (cp_ ⟨(fun _ => hg), (fun _ => hg), tv⟩ rfl tv)) (⟨tv, (dtake tv (pickg_ (u := .bool (bif (decide (p13 > 0)) then (decide (y32 ≥ y34)) else false)) rfl (fun hg => cpick rfl rfl (fun _ => hg) rfl rfl (fun h => and_ hg (eqt h)) tv rfl) (⟨tv, (dtake tv (pick_ rfl rfl rfl tv (fun h => eqf h) rfl (⟨tv, (dfin ?_)⟩)))⟩)))⟩)))⟩)))⟩)))⟩)))⟩)))⟩)))⟩))
   obtain ⟨v36, e37, h1⟩ := bl h1
   refine wk_ ⟨[(0, .lst 1 (a0.map eI)), (1, iV a1), (5, iV p13), (35, .bool v36)], [], []⟩ (fgk (by subst e37; kernel_rfl)) (ite_ (cb := v36) rfl (fun c38 => ?_) (fun c38 => ?_))
   ·replace h1 := ip c38 h1
    refine seq_ (reg_ (st (mvc_ tv (oe_ (wk_ ⟨[(4, .bool false)], [], []⟩ (fgk (by kernel_rfl)) ?_)))))
    obtain rfl := Option.some.inj h1
    obtain rfl := hx1 _ rfl
    obtain rfl := Option.some.inj h0
    exact rt_ (hR1 _ (ret_ rfl rfl rfl rfl rfl tv))
   ·replace h1 := inb c38 h1
    refine sk_ (bn_ (wk_ ⟨[(0, .lst 1 (a0.map eI)), (1, iV a1), (5, iV p13)], [], []⟩ (fgk (by kernel_rfl)) (reg_ (st (mv_ rfl tv (st (c_ (cp_ t3 rfl tv) (st (mv_ rfl tv (oe_ ?_))))))))))
    obtain rfl := Option.some.inj h1
    exact hK1 _ rfl _ ⟨[(0, .lst 1 (a0.map eI)), (1, iV a1), (5, iV (IntKind.i64.wrap (p13 + 1)))], [], []⟩ (fgk (by kernel_rfl)) rfl
  ·replace h1 := inb c27 h1
   obtain rfl := Option.some.inj h1
   obtain rfl := hx1 _ rfl
   refine exQ rfl ?_
   exact hE1 _ ⟨[], [], []⟩ (fgk (by kernel_rfl)) ⟨rfl, rfl⟩

/- loop.example/g00149/spec.l09Call -/
def c86_r0 : List Ins := [⟨some 8, .nilS 1, none⟩,
⟨some 9, .p (.mv (.c (iV 0))), none⟩]
def c86_r1 : List Ins := [(iQ 13 (.mv (.t 3))),
⟨some 14, .p (.bin .eql (.t 13) (.c (iV 1))), none⟩]
def c86_r2 : List Ins := [(iQ 15 (.mv (.t 0))),
(iQ 8 (.mv (.t 15))),
⟨some 9, .p (.mv (.c (iV 13))), none⟩]
def c86_r3 : List Ins := [⟨some 16, .mkS 1 [(iV 0)] 0 [], none⟩,
(iQ 10 (.mv (.t 16)))]
def c86_r4 : List Ins := [⟨some 11, .p (.mv (.c (iV 0))), none⟩]
def c86_r5 : List Ins := [(iQ 17 (.mv (.t 11))),
(iQ 18 (.mv (.t 0))),
(iQ 19 (.len (.t 18))),
(iQ 20 (.bin .lss (.t 17) (.t 19))),
(iQ 21 (.mv (.t 20))),
⟨some 22, .p (.mv (.t 0)), some (21, true)⟩,
⟨some 23, .p (.mv (.t 11)), some (21, true)⟩,
⟨some 24, .p (.idxA (.t 22) (.t 23) 1), some (21, true)⟩,
⟨some 25, .p (.load (.t 24) 1 false), some (21, true)⟩,
⟨some 26, .p (.mv (.t 1)), some (21, true)⟩,
⟨some 27, .p (.bin .lss (.t 25) (.t 26)), some (21, true)⟩,
⟨some 28, .pick (.t 21) (.t 27) (.c (.bool false)), none⟩]
def c86_r6 : List Ins := [(iQ 31 (.mv (.t 10))),
(iQ 32 (.mv (.t 0))),
(iQ 33 (.mv (.t 11))),
(iQ 34 (.idxA (.t 32) (.t 33) 1)),
(iQ 35 (.load (.t 34) 1 false)),
⟨some 36, .mkS 1 [(iV 0)] 1 [(0, (.t 35))], none⟩,
⟨some 37, .app 1 8 (.t 31) (.t 36), none⟩,
(iQ 10 (.mv (.t 37)))]
def c86_r7 : List Ins := [(iQ 29 (.mv (.t 11))),
⟨some 30, .p (.bin .add (.t 29) (.c (iV 1))), none⟩,
(iQ 11 (.mv (.t 30)))]
def c86_l0 : IR := (.seq (.seq (.reg c86_r5) (.ite (.t 28) .skip (.exit 0))) (.seq (.block 1 (.reg c86_r6)) (.reg c86_r7)))
def c86_r8 : List Ins := [(iQ 38 (.mv (.t 10))),
(iQ 39 (.len (.t 38))),
(iQ 12 (.mv (.t 39)))]
def c86_r9 : List Ins := [(iQ 40 (.mv (.t 2)))]
def c86_r10 : List Ins := [(iQ 41 (.mv (.t 10))),
(iQ 42 (.mv (.t 1))),
⟨some 43, .mkS 1 [(iV 0)] 1 [(0, (.t 42))], none⟩,
⟨some 44, .app 1 8 (.t 41) (.t 43), none⟩,
(iQ 10 (.mv (.t 44)))]
def c86_r11 : List Ins := [(iQ 45 (.mv (.t 12))),
(iQ 46 (.mv (.t 0))),
(iQ 47 (.len (.t 46))),
(iQ 48 (.bin .lss (.t 45) (.t 47))),
(iQ 49 (.mv (.t 48))),
⟨some 50, .p (.mv (.t 0)), some (49, true)⟩,
⟨some 51, .p (.mv (.t 12)), some (49, true)⟩,
⟨some 52, .p (.idxA (.t 50) (.t 51) 1), some (49, true)⟩,
⟨some 53, .p (.load (.t 52) 1 false), some (49, true)⟩,
⟨some 54, .p (.mv (.t 1)), some (49, true)⟩,
⟨some 55, .p (.bin .eql (.t 53) (.t 54)), some (49, true)⟩,
⟨some 56, .pick (.t 49) (.t 55) (.c (.bool false)), none⟩]
def c86_r12 : List Ins := [(iQ 57 (.mv (.t 12))),
⟨some 58, .p (.bin .add (.t 57) (.c (iV 1))), none⟩,
(iQ 12 (.mv (.t 58)))]
def c86_r13 : List Ins := [(iQ 59 (.mv (.t 10))),
(iQ 60 (.mv (.t 0))),
(iQ 61 (.mv (.t 12))),
⟨some 62, .p (.slice (.t 60) (some (.t 61)) none 1), none⟩,
⟨some 63, .app 1 8 (.t 59) (.t 62), none⟩,
(iQ 10 (.mv (.t 63)))]
def c86_r14 : List Ins := [(iQ 64 (.mv (.t 3))),
⟨some 65, .p (.bin .eql (.t 64) (.c (iV 2))), none⟩]
def c86_r15 : List Ins := [(iQ 66 (.mv (.t 10))),
(iQ 8 (.mv (.t 66))),
⟨some 9, .p (.mv (.c (iV 15))), none⟩]
def c86_r16 : List Ins := [(iQ 67 (.mv (.t 10))),
(iQ 8 (.mv (.t 67))),
⟨some 9, .p (.mv (.c (iV 0))), none⟩]
def c86 : XFn := { np := 4, nt := 68, res := [.t 8, .t 9], body := (.seq (.reg c86_r0) (.seq (.seq (.reg c86_r1) (.ite (.t 14) (.seq (.reg c86_r2) .ret) .skip)) (.seq (.reg c86_r3) (.seq (.seq (.reg c86_r4) (.block 0 (.loop c86_l0))) (.seq (.reg c86_r8) (.seq (.seq (.reg c86_r9) (.ite (.t 40) (.reg c86_r10) .skip)) (.seq (.seq (.reg c86_r11) (.ite (.t 56) (.reg c86_r12) .skip)) (.seq (.reg c86_r13) (.seq (.seq (.reg c86_r14) (.ite (.t 65) (.seq (.reg c86_r15) .ret) .skip)) (.seq (.reg c86_r16) .ret)))))))))) }
def K86 (C : CRel) : Prop := ∀ (a0 : List Int) (a1 : Int) (a2 : Bool) (a3 : Int) (r : (List Int) × Int), g86 a0 a1 a2 a3 = some r → C 86 ⟨[.lst 1 (a0.map eI), iV a1, .bool a2, iV a3], []⟩ ⟨.tup [.lst 1 (r.1.map eI), iV r.2], [], []⟩
theorem F86 {C : CRel}  (a0 : List Int) (a1 : Int) (a2 : Bool) (a3 : Int) (r : (List Int) × Int) (h0 : g86 a0 a1 a2 a3 = some r) : FnOK C c86 ⟨[.lst 1 (a0.map eI), iV a1, .bool a2, iV a3], []⟩ ⟨.tup [.lst 1 (r.1.map eI), iV r.2], [], []⟩ := by
 refine fn_ (nl rfl) (seq_ (reg_ (st (nilS_ (st (mvc_ tv (oe_ (wk_ ⟨[(0, .lst 1 (a0.map eI)), (1, iV a1), (2, .bool a2), (3, iV a3)], [], []⟩ (fgk (by kernel_rfl)) (seq_ (seq_ (reg_ (st (mv_ rfl tv (st (c_ (cp_ t3 rfl tv) (oe_ (wk_ ⟨[(0, .lst 1 (a0.map eI)), (1, iV a1), (2, .bool a2), (3, iV a3), (14, .bool (a3 == 1))], [], []⟩ (fgk (by kernel_rfl)) (ite_ (cb := (a3 == 1)) rfl (fun c1 => ?_) (fun c1 => ?_)))))))))))))))))))
 ·replace h0 := ip c1 h0
  refine seq_ (reg_ (st (mv_ rfl tv (st (mv_ rfl tv (st (mvc_ tv (oe_ (wk_ ⟨[(8, .lst 1 (a0.map eI)), (9, iV 13)], [], []⟩ (fgk (by kernel_rfl)) ?_)))))))))
  obtain rfl := Option.some.inj h0
  exact rt_ (ret_ rfl rfl rfl rfl rfl tv)
 ·replace h0 := inb c1 h0
  refine sk_ (wk_ ⟨[(0, .lst 1 (a0.map eI)), (1, iV a1), (2, .bool a2), (3, iV a3)], [], []⟩ (fgk (by kernel_rfl)) (seq_ (reg_ (st (mkS_ tv tv (st (mv_ rfl tv (oe_ (wk_ ⟨[(0, .lst 1 (a0.map eI)), (1, iV a1), (2, .bool a2), (3, iV a3), (10, .own 1024 0 1 (([] : List Int).map eI))], [], []⟩ (fgk (by kernel_rfl)) (seq_ (seq_ (reg_ (st (mvc_ tv (oe_ (wk_ ⟨[(0, .lst 1 (a0.map eI)), (1, iV a1), (2, .bool a2), (3, iV a3), (10, .own 1024 0 1 (([] : List Int).map eI)), (11, iV 0)], [], []⟩ (fgk (by kernel_rfl)) (block_ ?_)))))))))))))))))
  obtain ⟨r31, e32, h0⟩ := bnd h0
  refine loop_ (R := (fun S => ∃ p22 : List Int, p22 = r31 ∧ S = ⟨[(0, .lst 1 (a0.map eI)), (1, iV a1), (2, .bool a2), (3, iV a3), (10, .own 1024 0 1 (p22.map eI))], [], []⟩)) (g86_l0 a0 a1) (fun s S => match s with | (p10, p11) => S = ⟨[(0, .lst 1 (a0.map eI)), (1, iV a1), (2, .bool a2), (3, iV a3), (10, .own 1024 0 1 (p10.map eI)), (11, iV p11)], [], []⟩) e32 ⟨[(0, .lst 1 (a0.map eI)), (1, iV a1), (2, .bool a2), (3, iV a3), (10, .own 1024 0 1 (([] : List Int).map eI)), (11, iV 0)], [], []⟩ (fgk (by kernel_rfl)) rfl 0 (fun _ => rfl) ?_ ?_
  ·rintro S _ hfg ⟨p22, rfl, rfl⟩
   refine wk_ ⟨[(0, .lst 1 (a0.map eI)), (1, iV a1), (2, .bool a2), (3, iV a3), (10, .own 1024 0 1 (p22.map eI))], [], []⟩ (fglk hfg (by kernel_rfl)) (seq_ (reg_ (st (mv_ rfl tv (st (c_ (clenO (e := eI) (l0 := p22) rfl rfl tv) (st (mv_ rfl tv (oe_ (wk_ ⟨[(0, .lst 1 (a0.map eI)), (1, iV a1), (2, .bool a2), (3, iV a3), (10, .own 1024 0 1 (p22.map eI)), (12, iV (p22.length : Int))], [], []⟩ (fgk (by kernel_rfl)) (seq_ (seq_ (reg_ (st (mv_ rfl tv (oe_ (wk_ ⟨[(0, .lst 1 (a0.map eI)), (1, iV a1), (3, iV a3), (10, .own 1024 0 1 (p22.map eI)), (12, iV (p22.length : Int)), (40, .bool a2)], [], []⟩ (fgk (by kernel_rfl)) (iteJ (cb := a2) (fun S => ∃ p35 : List Int, S = ⟨[(0, .lst 1 (a0.map eI)), (1, iV a1), (3, iV a3), (10, .own 1024 0 1 (p35.map eI)), (12, iV (p22.length : Int))], [], []⟩ ∧ g86_j0 a0 a1 a3 p22 p35 = some r) rfl ?_ (fun c49 J48 => ?_) (fun c49 J48 => ?_)))))))))))))))))))
   ·rintro _ ⟨p35, rfl, h0⟩
    refine wk_ ⟨[(0, .lst 1 (a0.map eI)), (1, iV a1), (3, iV a3), (10, .own 1024 0 1 (p35.map eI)), (12, iV (p22.length : Int))], [], []⟩ (fgk (by kernel_rfl)) (seq_ (seq_ (reg_ (st (mv_ rfl tv (st (mv_ rfl tv (st (c_ (clenL (e := eI) (l0 := a0) rfl rfl tv) (st (c_ (cp_ t3 rfl tv) (st (mv_ rfl tv (st (pg_ (u := .lst 1 (a0.map eI)) rfl (fun hg => (cmv (v := .lst 1 (a0.map eI)) rfl tv)) (st (pg_ (u := iV (p22.length : Int)) rfl (fun hg => (cmv (v := iV (p22.length : Int)) rfl tv)) ?_)))))))))))))))))
    obtain ⟨y36, e37, h0⟩ := bnd h0
    refine st (pg_ (u := .iptr [iV y36]) rfl (fun hg => (cidxL (e := eI) (y := y36) rfl rfl (fun _ => hg) rfl rfl (fun _ => hg) (ip hg e37))) (st (pg_ (u := iV y36) rfl (fun hg => (cp_ ⟨(fun _ => hg), tv⟩ rfl (nl rfl))) (st (pg_ (u := iV a1) rfl (fun hg => (cmv (v := iV a1) rfl tv)) (st (pg_ (u := .bool (y36 == a1)) rfl (fun hg => (cp_ ⟨(fun _ => hg), (fun _ => hg), tv⟩ rfl tv)) (st (pick_ rfl rfl rfl (fun h => eqt h) tv rfl (oe_ ?_))))))))))
    obtain ⟨v38, e39, h0⟩ := bl h0
    refine wk_ ⟨[(0, .lst 1 (a0.map eI)), (3, iV a3), (10, .own 1024 0 1 (p35.map eI)), (12, iV (p22.length : Int)), (56, .bool v38)], [], []⟩ (fgk (by subst e39; kernel_rfl)) (iteJ (cb := v38) (fun S => ∃ p41 : Int, S = ⟨[(0, .lst 1 (a0.map eI)), (3, iV a3), (10, .own 1024 0 1 (p35.map eI)), (12, iV p41)], [], []⟩ ∧ g86_j1 a0 a3 p35 p41 = some r) rfl ?_ (fun c47 J46 => ?_) (fun c47 J46 => ?_))
    ·rintro _ ⟨p41, rfl, h0⟩
     refine wk_ ⟨[(0, .lst 1 (a0.map eI)), (3, iV a3), (10, .own 1024 0 1 (p35.map eI)), (12, iV p41)], [], []⟩ (fgk (by kernel_rfl)) (seq_ (reg_ (st (mv_ rfl tv (st (mv_ rfl tv (st (mv_ rfl tv ?_))))))))
     obtain ⟨s42, e43, h0⟩ := bnd h0
     refine st (c_ (csliceL (e := eI) (y := s42) rfl rfl tv ⟨tv, tv⟩ rfl rfl e43) ?_)
     obtain ⟨c44, h0⟩ := grd h0
     refine st (app_ (e := eI) (l0 := p35) (l1 := s42) rfl rfl tv rfl (by decide) c44 (st (mv_ rfl tv (oe_ (wk_ ⟨[(3, iV a3), (10, .own 1024 0 1 ((p35 ++ s42).map eI))], [], []⟩ (fgk (by kernel_rfl)) (seq_ (seq_ (reg_ (st (mv_ rfl tv (st (c_ (cp_ t3 rfl tv) (oe_ (wk_ ⟨[(10, .own 1024 0 1 ((p35 ++ s42).map eI)), (65, .bool (a3 == 2))], [], []⟩ (fgk (by kernel_rfl)) (ite_ (cb := (a3 == 2)) rfl (fun c45 => ?_) (fun c45 => ?_))))))))))))))))
     ·replace h0 := ip c45 h0
      refine seq_ (reg_ (st (mv_ rfl tv (st (mv_ rfl tv (st (mvc_ tv (oe_ (wk_ ⟨[(8, .lst 1 ((p35 ++ s42).map eI)), (9, iV 15)], [], []⟩ (fgzk [1024] (by kernel_rfl)) ?_)))))))))
      obtain rfl := Option.some.inj h0
      exact rt_ (ret_ rfl rfl rfl rfl rfl tv)
     ·replace h0 := inb c45 h0
      refine sk_ (wk_ ⟨[(10, .own 1024 0 1 ((p35 ++ s42).map eI))], [], []⟩ (fgk (by kernel_rfl)) (seq_ (reg_ (st (mv_ rfl tv (st (mv_ rfl tv (st (mvc_ tv (oe_ (wk_ ⟨[(8, .lst 1 ((p35 ++ s42).map eI)), (9, iV 0)], [], []⟩ (fgzk [1024] (by kernel_rfl)) ?_)))))))))))
      obtain rfl := Option.some.inj h0
      exact rt_ (ret_ rfl rfl rfl rfl rfl tv)
    ·replace h0 := ip c47 h0
     refine reg_ (st (mv_ rfl tv (st (c_ (cp_ t3 rfl tv) (st (mv_ rfl tv (oe_ ?_)))))))
     exact J46 _ ⟨[(0, .lst 1 (a0.map eI)), (3, iV a3), (10, .own 1024 0 1 (p35.map eI)), (12, iV (IntKind.i64.wrap ((p22.length : Int) + 1)))], [], []⟩ (fgk (by kernel_rfl)) ⟨_, rfl, h0⟩
    ·replace h0 := inb c47 h0
     refine sk_ ?_
     exact J46 _ ⟨[(0, .lst 1 (a0.map eI)), (3, iV a3), (10, .own 1024 0 1 (p35.map eI)), (12, iV (p22.length : Int))], [], []⟩ (fgk (by kernel_rfl)) ⟨_, rfl, h0⟩
   ·replace h0 := ip c49 h0
    refine reg_ (st (mv_ rfl tv (st (mv_ rfl tv (st (mkS_ ⟨tv, tv⟩ ⟨⟨nl rfl, rfl, rfl⟩, tv⟩ ?_))))))
    obtain ⟨c50, h0⟩ := grd h0
    refine st (app_ (e := eI) (l0 := p22) (l1 := ([a1] : List Int)) rfl rfl tv rfl (by decide) c50 (st (mv_ rfl tv (oe_ ?_))))
    exact J48 _ ⟨[(0, .lst 1 (a0.map eI)), (1, iV a1), (3, iV a3), (10, .own 1024 0 1 ((p22 ++ ([a1] : List Int)).map eI)), (12, iV (p22.length : Int))], [], []⟩ (fgk (by kernel_rfl)) ⟨_, rfl, h0⟩
   ·replace h0 := inb c49 h0
    refine sk_ ?_
    exact J48 _ ⟨[(0, .lst 1 (a0.map eI)), (1, iV a1), (3, iV a3), (10, .own 1024 0 1 (p22.map eI)), (12, iV (p22.length : Int))], [], []⟩ (fgk (by kernel_rfl)) ⟨_, rfl, h0⟩
  ·rintro ⟨p10, p11⟩ o1 _ K1 rfl h1 hx1 hK1 hE1 hR1
   refine seq_ (seq_ (reg_ (st (mv_ rfl tv (st (mv_ rfl tv (st (c_ (clenL (e := eI) (l0 := a0) rfl rfl tv) (st (c_ (cp_ t3 rfl tv) (st (mv_ rfl tv (st (pg_ (u := .lst 1 (a0.map eI)) rfl (fun hg => (cmv (v := .lst 1 (a0.map eI)) rfl tv)) (st (pg_ (u := iV p11) rfl (fun hg => (cmv (v := iV p11) rfl tv)) ?_))))))))))))))))
   obtain ⟨y23, e24, h1⟩ := bnd h1
   refine st (pg_ (u := .iptr [iV y23]) rfl (fun hg => (cidxL (e := eI) (y := y23) rfl rfl (fun _ => hg) rfl rfl (fun _ => hg) (ip hg e24))) (st (pg_ (u := iV y23) rfl (fun hg => (cp_ ⟨(fun _ => hg), tv⟩ rfl (nl rfl))) (st (pg_ (u := iV a1) rfl (fun hg => (cmv (v := iV a1) rfl tv)) (st (pg_ (u := .bool (decide (y23 < a1))) rfl (fun hg => (cp_ ⟨(fun _ => hg), (fun _ => hg), tv⟩ rfl tv)) (st (pick_ rfl rfl rfl (fun h => eqt h) tv rfl (oe_ ?_))))))))))
   obtain ⟨v25, e26, h1⟩ := bl h1
   refine wk_ ⟨[(0, .lst 1 (a0.map eI)), (1, iV a1), (2, .bool a2), (3, iV a3), (10, .own 1024 0 1 (p10.map eI)), (11, iV p11), (28, .bool v25)], [], []⟩ (fgk (by subst e26; kernel_rfl)) (ite_ (cb := v25) rfl (fun c27 => ?_) (fun c27 => ?_))
   ·replace h1 := ip c27 h1
    refine sk_ (wk_ ⟨[(0, .lst 1 (a0.map eI)), (1, iV a1), (2, .bool a2), (3, iV a3), (10, .own 1024 0 1 (p10.map eI)), (11, iV p11)], [], []⟩ (fgk (by kernel_rfl)) (seq_ (block_ (reg_ (st (mv_ rfl tv (st (mv_ rfl tv (st (mv_ rfl tv ?_))))))))))
    obtain ⟨y28, e29, h1⟩ := bnd h1
    refine st (c_ (cidxL (e := eI) (y := y28) rfl rfl tv rfl rfl tv e29) (st (c_ (cp_ ⟨tv, tv⟩ rfl (nl rfl)) (st (mkS_ ⟨tv, tv⟩ ⟨⟨nl rfl, rfl, rfl⟩, tv⟩ ?_)))))
    obtain ⟨c30, h1⟩ := grd h1
    refine st (app_ (e := eI) (l0 := p10) (l1 := ([y28] : List Int)) rfl rfl tv rfl (by decide) c30 (st (mv_ rfl tv (oe_ (bn_ (wk_ ⟨[(0, .lst 1 (a0.map eI)), (1, iV a1), (2, .bool a2), (3, iV a3), (10, .own 1024 0 1 ((p10 ++ ([y28] : List Int)).map eI)), (11, iV p11)], [], []⟩ (fgk (by kernel_rfl)) (reg_ (st (mv_ rfl tv (st (c_ (cp_ t3 rfl tv) (st (mv_ rfl tv (oe_ ?_))))))))))))))
    obtain rfl := Option.some.inj h1
    exact hK1 _ rfl _ ⟨[(0, .lst 1 (a0.map eI)), (1, iV a1), (2, .bool a2), (3, iV a3), (10, .own 1024 0 1 ((p10 ++ ([y28] : List Int)).map eI)), (11, iV (IntKind.i64.wrap (p11 + 1)))], [], []⟩ (fgk (by kernel_rfl)) rfl
   ·replace h1 := inb c27 h1
    obtain rfl := Option.some.inj h1
    obtain rfl := hx1 _ rfl
    refine exQ rfl ?_
    exact hE1 _ ⟨[(0, .lst 1 (a0.map eI)), (1, iV a1), (2, .bool a2), (3, iV a3), (10, .own 1024 0 1 (p10.map eI))], [], []⟩ (fgk (by kernel_rfl)) ⟨_, rfl, rfl⟩

/- loop.example/g00149/spec.CallTarget -/
def c42_r0 : List Ins := [⟨some 8, .nilS 1, none⟩,
⟨some 9, .p (.mv (.c (iV 0))), none⟩]
def c42_r1 : List Ins := [(iQ 12 (.mv (.t 0))),
(iQ 13 (.len (.t 12))),
⟨some 14, .p (.bin .gtr (.t 13) (.c (iV 4096))), none⟩]
def c42_r2 : List Ins := [⟨some 15, .mkS 1 [(iV 0)] 0 [], none⟩,
(iQ 8 (.mv (.t 15))),
⟨some 9, .p (.mv (.c (iV 2))), none⟩]
def c42_r3 : List Ins := [(iQ 16 (.mv (.t 0))),
⟨some 17, .call 85 [(.t 16), (.c (iV 1000001))], none⟩,
(iQ 18 (.un .not (.t 17))),
(iQ 19 (.mv (.t 18))),
⟨some 20, .p (.mv (.t 1)), some (19, false)⟩,
⟨some 21, .call 56 [(.t 20), (.c (iV 1)), (.c (iV 1000000))], some (19, false)⟩,
⟨some 22, .p (.un .not (.t 21)), some (19, false)⟩,
⟨some 23, .pick (.t 19) (.c (.bool true)) (.t 22), none⟩]
def c42_r4 : List Ins := [⟨some 24, .mkS 1 [(iV 0)] 0 [], none⟩,
(iQ 8 (.mv (.t 24))),
⟨some 9, .p (.mv (.c (iV 1))), none⟩]
def c42_r5 : List Ins := [(iQ 25 (.mv (.t 3))),
⟨some 26, .call 56 [(.t 25), (.c (iV 0)), (.c (iV 2))], none⟩,
(iQ 27 (.un .not (.t 26)))]
def c42_r6 : List Ins := [⟨some 28, .mkS 1 [(iV 0)] 0 [], none⟩,
(iQ 8 (.mv (.t 28))),
⟨some 9, .p (.mv (.c (iV 4))), none⟩]
def c42_r7 : List Ins := [(iQ 30 (.mv (.t 0))),
(iQ 31 (.mv (.t 1))),
(iQ 32 (.mv (.t 2))),
(iQ 33 (.mv (.t 3))),
⟨some 34, .call 86 [(.t 30), (.t 31), (.t 32), (.t 33)], none⟩,
(iQ 29 (.mv (.t 34))),
(iQ 35 (.ext (.t 29) 0)),
(iQ 36 (.ext (.t 29) 1)),
(iQ 10 (.mv (.t 35))),
(iQ 11 (.mv (.t 36)))]
def c42_r8 : List Ins := [⟨some 37, .mkS 1 [(iV 0)] 0 [], none⟩,
(iQ 38 (.mv (.t 10))),
⟨some 39, .app 1 8 (.t 37) (.t 38), none⟩,
(iQ 40 (.mv (.t 11))),
(iQ 8 (.mv (.t 39))),
(iQ 9 (.mv (.t 40)))]
def c42 : XFn := { np := 4, nt := 41, res := [.t 8, .t 9], body := (.seq (.reg c42_r0) (.seq (.seq (.reg c42_r1) (.ite (.t 14) (.seq (.reg c42_r2) .ret) .skip)) (.seq (.seq (.reg c42_r3) (.ite (.t 23) (.seq (.reg c42_r4) .ret) .skip)) (.seq (.seq (.reg c42_r5) (.ite (.t 27) (.seq (.reg c42_r6) .ret) .skip)) (.seq (.reg c42_r7) (.seq (.reg c42_r8) .ret)))))) }
def K42 (C : CRel) : Prop := ∀ (a0 : List Int) (a1 : Int) (a2 : Bool) (a3 : Int) (r : (List Int) × Int), g42 a0 a1 a2 a3 = some r → C 42 ⟨[.lst 1 (a0.map eI), iV a1, .bool a2, iV a3], []⟩ ⟨.tup [.own 0 0 1 (r.1.map eI), iV r.2], [], []⟩
theorem F42 {C : CRel} (H56 : K56 C) (H85 : K85 C) (H86 : K86 C) (a0 : List Int) (a1 : Int) (a2 : Bool) (a3 : Int) (r : (List Int) × Int) (h0 : g42 a0 a1 a2 a3 = some r) : FnOK C c42 ⟨[.lst 1 (a0.map eI), iV a1, .bool a2, iV a3], []⟩ ⟨.tup [.own 0 0 1 (r.1.map eI), iV r.2], [], []⟩ := by
 refine fn_ (nl rfl) (seq_ (reg_ (st (nilS_ (st (mvc_ tv (oe_ (wk_ ⟨[(0, .lst 1 (a0.map eI)), (1, iV a1), (2, .bool a2), (3, iV a3)], [], []⟩ (fgk (by kernel_rfl)) (seq_ (seq_ (reg_ (st (mv_ rfl tv (st (c_ (clenL (e := eI) (l0 := a0) rfl rfl tv) (st (c_ (cp_ t3 rfl tv) (oe_ (wk_ ⟨[(0, .lst 1 (a0.map eI)), (1, iV a1), (2, .bool a2), (3, iV a3), (14, .bool (decide ((a0.length : Int) > 4096)))], [], []⟩ (fgk (by kernel_rfl)) (ite_ (cb := (decide ((a0.length : Int) > 4096))) rfl (fun c1 => ?_) (fun c1 => ?_)))))))))))))))))))))
 ·replace h0 := ip c1 h0
  refine seq_ (reg_ (st (mkS_ tv tv (st (mv_ rfl tv (st (mvc_ tv (oe_ (wk_ ⟨[(8, .own 960 0 1 (([] : List Int).map eI)), (9, iV 2)], [], []⟩ (fgk (by kernel_rfl)) ?_)))))))))
  obtain rfl := Option.some.inj h0
  exact rt_ (ret_ rfl rfl rfl rfl rfl tv)
 ·replace h0 := inb c1 h0
  refine sk_ (wk_ ⟨[(0, .lst 1 (a0.map eI)), (1, iV a1), (2, .bool a2), (3, iV a3)], [], []⟩ (fgk (by kernel_rfl)) (seq_ (seq_ (reg_ (st (mv_ rfl tv ?_))))))
  obtain ⟨r2, e3, h0⟩ := bnd h0
  refine st (call0_ (r := .bool r2) false (H85 a0 1000001 r2 e3) ⟨tv, tv, tv⟩ rfl rfl (fun _ => rfl) (st (c_ (cp_ ⟨tv, tv⟩ rfl tv) (st (mv_ rfl tv (st (pg_ (u := iV a1) rfl (fun hg => (cmv (v := iV a1) rfl tv)) ?_)))))))
  obtain ⟨r4, e5, h0⟩ := bnd h0
  refine sw ⟨[(0, .lst 1 (a0.map eI)), (1, iV a1), (2, .bool a2), (3, iV a3), (19, .bool (!r2)), (20, .may ((!r2) == false) (iV a1))], [], []⟩ (fgk (by kernel_rfl)) (callg_ (r := .bool r4) rfl false (fun hg => H56 a1 1 1000000 r4 (ip hg e5)) ⟨(fun hg => hg), tv, tv, tv⟩ (fun _ => rfl) (fun _ => rfl) (fun _ => rfl) (fun h => nomatch h) (st (pg_ (u := .bool (!r4)) rfl (fun hg => (cp_ ⟨(fun _ => hg), tv⟩ rfl tv)) (st (pick_ rfl rfl rfl tv (fun h => eqf h) rfl (oe_ (wk_ ⟨[(0, .lst 1 (a0.map eI)), (1, iV a1), (2, .bool a2), (3, iV a3), (23, .bool (bif (!r2) then true else (!r4)))], [], []⟩ (fgk (by kernel_rfl)) (ite_ (cb := (bif (!r2) then true else (!r4))) rfl (fun c6 => ?_) (fun c6 => ?_)))))))))
  ·replace h0 := ip c6 h0
   refine seq_ (reg_ (st (mkS_ tv tv (st (mv_ rfl tv (st (mvc_ tv (oe_ (wk_ ⟨[(8, .own 1536 0 1 (([] : List Int).map eI)), (9, iV 1)], [], []⟩ (fgk (by kernel_rfl)) ?_)))))))))
   obtain rfl := Option.some.inj h0
   exact rt_ (ret_ rfl rfl rfl rfl rfl tv)
  ·replace h0 := inb c6 h0
   refine sk_ (wk_ ⟨[(0, .lst 1 (a0.map eI)), (1, iV a1), (2, .bool a2), (3, iV a3)], [], []⟩ (fgk (by kernel_rfl)) (seq_ (seq_ (reg_ (st (mv_ rfl tv ?_))))))
   obtain ⟨r7, e8, h0⟩ := bnd h0
   refine st (call0_ (r := .bool r7) false (H56 a3 0 2 r7 e8) ⟨tv, tv, tv, tv⟩ rfl rfl (fun _ => rfl) (st (c_ (cp_ ⟨tv, tv⟩ rfl tv) (oe_ (wk_ ⟨[(0, .lst 1 (a0.map eI)), (1, iV a1), (2, .bool a2), (3, iV a3), (27, .bool (!r7))], [], []⟩ (fgk (by kernel_rfl)) (ite_ (cb := (!r7)) rfl (fun c9 => ?_) (fun c9 => ?_)))))))
   ·replace h0 := ip c9 h0
    refine seq_ (reg_ (st (mkS_ tv tv (st (mv_ rfl tv (st (mvc_ tv (oe_ (wk_ ⟨[(8, .own 1792 0 1 (([] : List Int).map eI)), (9, iV 4)], [], []⟩ (fgk (by kernel_rfl)) ?_)))))))))
    obtain rfl := Option.some.inj h0
    exact rt_ (ret_ rfl rfl rfl rfl rfl tv)
   ·replace h0 := inb c9 h0
    refine sk_ (wk_ ⟨[(0, .lst 1 (a0.map eI)), (1, iV a1), (2, .bool a2), (3, iV a3)], [], []⟩ (fgk (by kernel_rfl)) (seq_ (reg_ (st (mv_ rfl tv (st (mv_ rfl tv (st (mv_ rfl tv (st (mv_ rfl tv ?_)))))))))))
    obtain ⟨r10, e11, h0⟩ := bnd h0
    refine st (call0_ (r := .tup [.lst 1 (r10.1.map eI), iV r10.2]) true (H86 a0 a1 a2 a3 r10 e11) ⟨tv, tv, tv, tv, tv⟩ rfl rfl (fun h => nomatch h) (st (mv_ rfl tv (st (c_ (cp_ ⟨tv, tv⟩ rfl tv) (st (c_ (cp_ ⟨tv, tv⟩ rfl tv) (st (mv_ rfl tv (st (mv_ rfl tv (oe_ (wk_ ⟨[(10, .lst 1 (r10.1.map eI)), (11, iV r10.2)], [], []⟩ (fgk (by kernel_rfl)) (seq_ (reg_ (st (mkS_ tv tv (st (mv_ rfl tv ?_)))))))))))))))))))
    obtain ⟨c12, h0⟩ := grd h0
    refine st (app_ (e := eI) (l0 := ([] : List Int)) (l1 := r10.1) rfl rfl tv rfl (by decide) c12 (st (mv_ rfl tv (st (mv_ rfl tv (st (mv_ rfl tv (oe_ (wk_ ⟨[(8, .own 2368 0 1 ((([] : List Int) ++ r10.1).map eI)), (9, iV r10.2)], [], []⟩ (fgk (by kernel_rfl)) ?_)))))))))
    obtain rfl := Option.some.inj h0
    exact rt_ (ret_ rfl rfl rfl rfl rfl tv)

/- loop.example/g00149/laws.toIntS -/
def c43_r0 : List Ins := [⟨some 2, .nilS 1, none⟩]
def c43_r1 : List Ins := [(iQ 5 (.mv (.t 0))),
(iQ 6 (.len (.t 5))),
⟨some 7, .make 1 8 [(iV 0)] (.t 6) (.t 6), none⟩,
(iQ 3 (.mv (.t 7)))]
def c43_r2 : List Ins := [⟨some 4, .p (.mv (.c (iV 0))), none⟩]
def c43_r3 : List Ins := [(iQ 8 (.mv (.t 4))),
(iQ 9 (.mv (.t 0))),
(iQ 10 (.len (.t 9))),
(iQ 11 (.bin .lss (.t 8) (.t 10)))]
def c43_r4 : List Ins := [(iQ 14 (.mv (.t 3))),
(iQ 15 (.mv (.t 4))),
(iQ 16 (.mv (.t 0))),
(iQ 17 (.mv (.t 4))),
(iQ 18 (.idxA (.t 16) (.t 17) 1)),
(iQ 19 (.load (.t 18) 1 false)),
(iQ 20 (.idxA (.t 14) (.t 15) 1)),
⟨none, .store (.t 20) (.t 19) 1, none⟩]
def c43_r5 : List Ins := [(iQ 12 (.mv (.t 4))),
⟨some 13, .p (.bin .add (.t 12) (.c (iV 1))), none⟩,
(iQ 4 (.mv (.t 13)))]
def c43_l0 : IR := (.seq (.seq (.reg c43_r3) (.ite (.t 11) .skip (.exit 0))) (.seq (.block 1 (.reg c43_r4)) (.reg c43_r5)))
def c43_r6 : List Ins := [(iQ 21 (.mv (.t 3))),
(iQ 2 (.mv (.t 21)))]
def c43 : XFn := { np := 1, nt := 22, res := [.t 2], body := (.seq (.reg c43_r0) (.seq (.reg c43_r1) (.seq (.seq (.reg c43_r2) (.block 0 (.loop c43_l0))) (.seq (.reg c43_r6) .ret)))) }
def K43 (C : CRel) : Prop := ∀ (a0 : List Int) (r : (List Int)), g43 a0 = some r → C 43 ⟨[.lst 1 (a0.map eI)], []⟩ ⟨.own 0 0 1 (r.map eI), [], []⟩
theorem F43 {C : CRel}  (a0 : List Int) (r : (List Int)) (h0 : g43 a0 = some r) : FnOK C c43 ⟨[.lst 1 (a0.map eI)], []⟩ ⟨.own 0 0 1 (r.map eI), [], []⟩ := by
 refine fn_ (nl rfl) (seq_ (reg_ (st (nilS_ (oe_ (wk_ ⟨[(0, .lst 1 (a0.map eI))], [], []⟩ (fgk (by kernel_rfl)) (seq_ (reg_ (st (mv_ rfl tv (st (c_ (clenL (e := eI) (l0 := a0) rfl rfl tv) ?_))))))))))))
 obtain ⟨c1, h0⟩ := grd h0
 obtain ⟨c2, h0⟩ := grd h0
 refine st (make_ (e := eI) 0 rfl rfl c1 rfl c2 rfl (st (mv_ rfl tv (oe_ (wk_ ⟨[(0, .lst 1 (a0.map eI)), (3, .own 448 0 1 ((List.replicate (a0.length : Int).toNat 0).map eI))], [], []⟩ (fgk (by kernel_rfl)) (seq_ (seq_ (reg_ (st (mvc_ tv (oe_ (wk_ ⟨[(0, .lst 1 (a0.map eI)), (3, .own 448 0 1 ((List.replicate (a0.length : Int).toNat 0).map eI)), (4, iV 0)], [], []⟩ (fgk (by kernel_rfl)) (block_ ?_)))))))))))))
 obtain ⟨r29, e30, h0⟩ := bnd h0
 refine loop_ (R := (fun S => ∃ p21 : List Int, p21 = r29 ∧ S = ⟨[(3, .own 448 0 1 (p21.map eI))], [], []⟩)) (g43_l0 a0) (fun s S => match s with | (p10, p11) => S = ⟨[(0, .lst 1 (a0.map eI)), (3, .own 448 0 1 (p10.map eI)), (4, iV p11)], [], []⟩) e30 ⟨[(0, .lst 1 (a0.map eI)), (3, .own 448 0 1 ((List.replicate (a0.length : Int).toNat 0).map eI)), (4, iV 0)], [], []⟩ (fgk (by kernel_rfl)) rfl 0 (fun _ => rfl) ?_ ?_
 ·rintro S _ hfg ⟨p21, rfl, rfl⟩
  refine wk_ ⟨[(3, .own 448 0 1 (p21.map eI))], [], []⟩ (fglk hfg (by kernel_rfl)) (seq_ (reg_ (st (mv_ rfl tv (st (mv_ rfl tv (oe_ (wk_ ⟨[(2, .own 448 0 1 (p21.map eI))], [], []⟩ (fgk (by kernel_rfl)) ?_))))))))
  obtain rfl := Option.some.inj h0
  exact rt_ (ret_ rfl rfl rfl rfl rfl tv)
 ·rintro ⟨p10, p11⟩ o1 _ K1 rfl h1 hx1 hK1 hE1 hR1
  refine seq_ (seq_ (reg_ (st (mv_ rfl tv (st (mv_ rfl tv (st (c_ (clenL (e := eI) (l0 := a0) rfl rfl tv) (st (c_ (cp_ t3 rfl tv) (oe_ (wk_ ⟨[(0, .lst 1 (a0.map eI)), (3, .own 448 0 1 (p10.map eI)), (4, iV p11), (11, .bool (decide (p11 < (a0.length : Int))))], [], []⟩ (fgk (by kernel_rfl)) (ite_ (cb := (decide (p11 < (a0.length : Int)))) rfl (fun c22 => ?_) (fun c22 => ?_))))))))))))))
  ·replace h1 := ip c22 h1
   refine sk_ (wk_ ⟨[(0, .lst 1 (a0.map eI)), (3, .own 448 0 1 (p10.map eI)), (4, iV p11)], [], []⟩ (fgk (by kernel_rfl)) (seq_ (block_ (reg_ (st (mv_ rfl tv (st (mv_ rfl tv (st (mv_ rfl tv (st (mv_ rfl tv ?_))))))))))))
   obtain ⟨y23, e24, h1⟩ := bnd h1
   refine st (c_ (cidxL (e := eI) (y := y23) rfl rfl tv rfl rfl tv e24) (st (c_ (cp_ ⟨tv, tv⟩ rfl (nl rfl)) ?_)))
   obtain ⟨y25, e26, h1⟩ := bnd h1
   refine st (c_ (cidxO (e := eI) (y := y25) rfl rfl tv rfl rfl tv e26) ?_)
   obtain ⟨y27, e28, h1⟩ := bnd h1
   refine st (sto_ (y' := y23) rfl rfl tv rfl rfl rfl rfl e28 (nl rfl) rfl rfl rfl rfl (oe_ (bn_ (wk_ ⟨[(0, .lst 1 (a0.map eI)), (3, .own 448 0 1 ((p10.set p11.toNat y23).map eI)), (4, iV p11)], [], []⟩ (fg ⟨rfl, (congrArg (fun z => some ((.own 448 0 1 z : V))) overlay_map), rfl, tv⟩ tv) (reg_ (st (mv_ rfl tv (st (c_ (cp_ t3 rfl tv) (st (mv_ rfl tv (oe_ ?_))))))))))))
   obtain rfl := Option.some.inj h1
   exact hK1 _ rfl _ ⟨[(0, .lst 1 (a0.map eI)), (3, .own 448 0 1 ((p10.set p11.toNat y23).map eI)), (4, iV (IntKind.i64.wrap (p11 + 1)))], [], []⟩ (fgk (by kernel_rfl)) rfl
  ·replace h1 := inb c22 h1
   obtain rfl := Option.some.inj h1
   obtain rfl := hx1 _ rfl
   refine exQ rfl ?_
   exact hE1 _ ⟨[(3, .own 448 0 1 (p10.map eI))], [], []⟩ (fgk (by kernel_rfl)) ⟨_, rfl, rfl⟩

/- loop.example/g00149/impl.within -/
def c63_r0 : List Ins := [⟨some 6, .p (.mv (.c (.bool false))), none⟩]
def c63_r1 : List Ins := [(iQ 7 (.mv (.t 1))),
(iQ 8 (.mv (.t 0))),
(iQ 9 (.bin .leq (.t 7) (.t 8))),
(iQ 10 (.mv (.t 9))),
⟨some 11, .p (.mv (.t 0)), some (10, true)⟩,
⟨some 12, .p (.mv (.t 2)), some (10, true)⟩,
⟨some 13, .p (.bin .leq (.t 11) (.t 12)), some (10, true)⟩,
⟨some 14, .pick (.t 10) (.t 13) (.c (.bool false)), none⟩,
(iQ 6 (.mv (.t 14)))]
def c63 : XFn := { np := 3, nt := 15, res := [.t 6], body := (.seq (.reg c63_r0) (.seq (.reg c63_r1) .ret)) }
def K63 (C : CRel) : Prop := ∀ (a0 : Int) (a1 : Int) (a2 : Int) (r : Bool), g63 a0 a1 a2 = some r → C 63 ⟨[iV a0, iV a1, iV a2], []⟩ ⟨.bool r, [], []⟩
theorem F63 {C : CRel}  (a0 : Int) (a1 : Int) (a2 : Int) (r : Bool) (h0 : g63 a0 a1 a2 = some r) : FnOK C c63 ⟨[iV a0, iV a1, iV a2], []⟩ ⟨.bool r, [], []⟩ := by
 refine fn_ (nl rfl) (seq_ (reg_ (st (mvc_ tv (oe_ (wk_ ⟨[(0, iV a0), (1, iV a1), (2, iV a2)], [], []⟩ (fgk (by kernel_rfl)) (seq_ (reg_ (st (mv_ rfl tv (st (mv_ rfl tv (st (c_ (cp_ t3 rfl tv) (st (mv_ rfl tv (st (pg_ (u := iV a0) rfl (fun hg => (cmv (v := iV a0) rfl tv)) (st (pg_ (u := iV a2) rfl (fun hg => (cmv (v := iV a2) rfl tv)) (st (pg_ (u := .bool (decide (a0 ≤ a2))) rfl (fun hg => (cp_ ⟨(fun _ => hg), (fun _ => hg), tv⟩ rfl tv)) (st (pick_ rfl rfl rfl (fun h => eqt h) tv rfl (st (mv_ rfl tv (oe_ (wk_ ⟨[(6, .bool (bif (decide (a1 ≤ a0)) then (decide (a0 ≤ a2)) else false))], [], []⟩ (fgk (by kernel_rfl)) ?_))))))))))))))))))))))))))))
 obtain rfl := Option.some.inj h0
 exact rt_ (ret_ rfl rfl rfl rfl rfl tv)

/- loop.example/g00149/impl.isSerial -/
def c58_r0 : List Ins := [⟨some 2, .p (.mv (.c (.bool false))), none⟩]
def c58_r1 : List Ins := [(iQ 3 (.mv (.t 0))),
⟨some 4, .call 63 [(.t 3), (.c (iV 1)), (.c (iV 1000000))], none⟩,
(iQ 2 (.mv (.t 4)))]
def c58 : XFn := { np := 1, nt := 5, res := [.t 2], body := (.seq (.reg c58_r0) (.seq (.reg c58_r1) .ret)) }
def K58 (C : CRel) : Prop := ∀ (a0 : Int) (r : Bool), g58 a0 = some r → C 58 ⟨[iV a0], []⟩ ⟨.bool r, [], []⟩
theorem F58 {C : CRel} (H63 : K63 C) (a0 : Int) (r : Bool) (h0 : g58 a0 = some r) : FnOK C c58 ⟨[iV a0], []⟩ ⟨.bool r, [], []⟩ := by
 refine fn_ (nl rfl) (seq_ (reg_ (st (mvc_ tv (oe_ (wk_ ⟨[(0, iV a0)], [], []⟩ (fgk (by kernel_rfl)) (seq_ (reg_ (st (mv_ rfl tv ?_))))))))))
 obtain ⟨r1, e2, h0⟩ := bnd h0
 refine st (call0_ (r := .bool r1) false (H63 a0 1 1000000 r1 e2) ⟨tv, tv, tv, tv⟩ rfl rfl (fun _ => rfl) (st (mv_ rfl tv (oe_ (wk_ ⟨[(2, .bool r1)], [], []⟩ (fgk (by kernel_rfl)) ?_)))))
 obtain rfl := Option.some.inj h0
 exact rt_ (ret_ rfl rfl rfl rfl rfl tv)

/- loop.example/g00149/impl.rises -/
def c59_r0 : List Ins := [⟨some 6, .p (.mv (.c (.bool false))), none⟩]
def c59_r1 : List Ins := [(iQ 9 (.mv (.t 0))),
(iQ 10 (.len (.t 9))),
⟨some 11, .p (.mv (.c (iV 0))), none⟩]
def c59_r2 : List Ins := [(iQ 12 (.bin .lss (.t 11) (.t 10)))]
def c59_r3 : List Ins := [(iQ 13 (.mv (.t 11))),
(iQ 14 (.idxA (.t 9) (.t 11) 1)),
(iQ 15 (.load (.t 14) 1 false)),
(iQ 7 (.mv (.t 13))),
(iQ 8 (.mv (.t 15)))]
def c59_r4 : List Ins := [(iQ 16 (.mv (.t 8))),
(iQ 17 (.mv (.t 1))),
(iQ 18 (.mv (.t 2))),
⟨some 19, .call 63 [(.t 16), (.t 17), (.t 18)], none⟩,
(iQ 20 (.un .not (.t 19))),
(iQ 21 (.mv (.t 20))),
⟨some 22, .p (.mv (.t 7)), some (21, false)⟩,
⟨some 23, .p (.bin .gtr (.t 22) (.c (iV 0))), some (21, false)⟩,
⟨some 24, .p (.mv (.t 23)), some (21, false)⟩,
⟨some 25, .p (.mv (.t 0)), some (24, true)⟩,
⟨some 26, .p (.mv (.t 7)), some (24, true)⟩,
⟨some 27, .p (.bin .sub (.t 26) (.c (iV 1))), some (24, true)⟩,
⟨some 28, .p (.idxA (.t 25) (.t 27) 1), some (24, true)⟩,
⟨some 29, .p (.load (.t 28) 1 false), some (24, true)⟩,
⟨some 30, .p (.mv (.t 8)), some (24, true)⟩,
⟨some 31, .p (.bin .geq (.t 29) (.t 30)), some (24, true)⟩,
⟨some 32, .pick (.t 24) (.t 31) (.c (.bool false)), some (21, false)⟩,
⟨some 33, .pick (.t 21) (.c (.bool true)) (.t 32), none⟩]
def c59_r5 : List Ins := [⟨some 6, .p (.mv (.c (.bool false))), none⟩]
def c59_r6 : List Ins := [⟨some 34, .p (.bin .add (.t 11) (.c (iV 1))), none⟩,
(iQ 11 (.mv (.t 34)))]
def c59_l0 : IR := (.seq (.reg c59_r2) (.seq (.ite (.t 12) .skip (.exit 0)) (.seq (.block 1 (.seq (.reg c59_r3) (.seq (.reg c59_r4) (.ite (.t 33) (.seq (.reg c59_r5) .ret) .skip)))) (.reg c59_r6))))
def c59_r7 : List Ins := [⟨some 6, .p (.mv (.c (.bool true))), none⟩]
def c59 : XFn := { np := 3, nt := 35, res := [.t 6], body := (.seq (.reg c59_r0) (.seq (.seq (.reg c59_r1) (.block 0 (.loop c59_l0))) (.seq (.reg c59_r7) .ret))) }
def K59 (C : CRel) : Prop := ∀ (a0 : List Int) (a1 : Int) (a2 : Int) (r : Bool), g59 a0 a1 a2 = some r → C 59 ⟨[.lst 1 (a0.map eI), iV a1, iV a2], []⟩ ⟨.bool r, [], []⟩
theorem F59 {C : CRel} (H63 : K63 C) (a0 : List Int) (a1 : Int) (a2 : Int) (r : Bool) (h0 : g59 a0 a1 a2 = some r) : FnOK C c59 ⟨[.lst 1 (a0.map eI), iV a1, iV a2], []⟩ ⟨.bool r, [], []⟩ := by
 refine fn_ (nl rfl) (seq_ (reg_ (st (mvc_ tv (oe_ (wk_ ⟨[(0, .lst 1 (a0.map eI)), (1, iV a1), (2, iV a2)], [], []⟩ (fgk (by kernel_rfl)) (seq_ (seq_ (reg_ (st (mv_ rfl tv (st (c_ (clenL (e := eI) (l0 := a0) rfl rfl tv) (st (mvc_ tv (oe_ (wk_ ⟨[(0, .lst 1 (a0.map eI)), (1, iV a1), (2, iV a2), (9, .lst 1 (a0.map eI)), (10, iV (a0.length : Int)), (11, iV 0)], [], []⟩ (fgk (by kernel_rfl)) (block_ ?_))))))))))))))))))
 obtain ⟨r33, e34, h0⟩ := bnd h0
 refine loop_ (R := (fun S => .inl () = r33 ∧ S = ⟨[], [], []⟩)) (g59_l0 a0 a1 a2) (fun s S => match s with | p11 => S = ⟨[(0, .lst 1 (a0.map eI)), (1, iV a1), (2, iV a2), (9, .lst 1 (a0.map eI)), (10, iV (a0.length : Int)), (11, iV p11)], [], []⟩) e34 ⟨[(0, .lst 1 (a0.map eI)), (1, iV a1), (2, iV a2), (9, .lst 1 (a0.map eI)), (10, iV (a0.length : Int)), (11, iV 0)], [], []⟩ (fgk (by kernel_rfl)) rfl 0 (fun _ => rfl) ?_ ?_
 ·rintro S _ hfg ⟨rfl, rfl⟩
  refine wk_ ⟨[], [], []⟩ (fglk hfg (by kernel_rfl)) (seq_ (reg_ (st (mvc_ tv (oe_ (wk_ ⟨[(6, .bool true)], [], []⟩ (fgk (by kernel_rfl)) ?_))))))
  obtain rfl := Option.some.inj h0
  exact rt_ (ret_ rfl rfl rfl rfl rfl tv)
 ·rintro p11 o1 _ K1 rfl h1 hx1 hK1 hE1 hR1
  refine seq_ (reg_ (st (c_ (cp_ t3 rfl tv) (oe_ (wk_ ⟨[(0, .lst 1 (a0.map eI)), (1, iV a1), (2, iV a2), (9, .lst 1 (a0.map eI)), (10, iV (a0.length : Int)), (11, iV p11), (12, .bool (decide (p11 < (a0.length : Int))))], [], []⟩ (fgk (by kernel_rfl)) (seq_ (ite_ (cb := (decide (p11 < (a0.length : Int)))) rfl (fun c23 => ?_) (fun c23 => ?_))))))))
  ·replace h1 := ip c23 h1
   refine sk_ (wk_ ⟨[(0, .lst 1 (a0.map eI)), (1, iV a1), (2, iV a2), (9, .lst 1 (a0.map eI)), (10, iV (a0.length : Int)), (11, iV p11)], [], []⟩ (fgk (by kernel_rfl)) (seq_ (block_ (seq_ (reg_ (st (mv_ rfl tv ?_)))))))
   obtain ⟨y24, e25, h1⟩ := bnd h1
   refine st (c_ (cidxL (e := eI) (y := y24) rfl rfl tv rfl rfl tv e25) (st (c_ (cp_ ⟨tv, tv⟩ rfl (nl rfl)) (st (mv_ rfl tv (st (mv_ rfl tv (oe_ (wk_ ⟨[(0, .lst 1 (a0.map eI)), (1, iV a1), (2, iV a2), (7, iV p11), (8, iV y24), (9, .lst 1 (a0.map eI)), (10, iV (a0.length : Int)), (11, iV p11)], [], []⟩ (fgk (by kernel_rfl)) (seq_ (reg_ (st (mv_ rfl tv (st (mv_ rfl tv (st (mv_ rfl tv ?_)))))))))))))))))
   obtain ⟨r26, e27, h1⟩ := bnd h1
   refine st (call0_ (r := .bool r26) false (H63 y24 a1 a2 r26 e27) ⟨tv, tv, tv, tv⟩ rfl rfl (fun _ => rfl) (st (c_ (cp_ ⟨tv, tv⟩ rfl tv) (st (mv_ rfl tv (st (pg_ (u := iV p11) rfl (fun hg => (cmv (v := iV p11) rfl tv)) (st (pg_ (u := .bool (decide (p11 > 0))) rfl (fun hg => (cp_ ⟨(fun _ => hg), tv, tv⟩ rfl tv)) (st (pg_ (u := .bool (decide (p11 > 0))) rfl (fun hg => (cmv (v := .may ((!r26) == false) (.bool (decide (p11 > 0)))) rfl (fun _ => hg))) (st (pg_ (u := .lst 1 (a0.map eI)) rfl (fun hg => (cmv (v := .lst 1 (a0.map eI)) rfl tv)) (st (pg_ (u := iV p11) rfl (fun hg => (cmv (v := iV p11) rfl tv)) (st (pg_ (u := iV (IntKind.i64.wrap (p11 - 1))) rfl (fun hg => (cp_ ⟨(fun _ => hg), tv, tv⟩ rfl tv)) ?_)))))))))))))))))
   obtain ⟨y28, e29, h1⟩ := bnd h1
   refine sw ⟨[(0, .lst 1 (a0.map eI)), (1, iV a1), (2, iV a2), (8, iV y24), (9, .lst 1 (a0.map eI)), (10, iV (a0.length : Int)), (11, iV p11), (21, .bool (!r26)), (24, .may ((!r26) == false) (.bool (decide (p11 > 0)))), (25, .may (((!r26) == false) && ((decide (p11 > 0)) == true)) (.lst 1 (a0.map eI))), (27, .may (((!r26) == false) && ((decide (p11 > 0)) == true)) (iV (IntKind.i64.wrap (p11 - 1))))], [], []⟩ (fgk (by kernel_rfl)) (pg_ (u := .iptr [iV y28]) rfl (fun hg => (cidxL (e := eI) (y := y28) rfl rfl (fun _ => hg) rfl rfl (fun _ => hg) (ip hg e29))) (st (pg_ (u := iV y28) rfl (fun hg => (cp_ ⟨(fun _ => hg), tv⟩ rfl (nl rfl))) (st (pg_ (u := iV y24) rfl (fun hg => (cmv (v := iV y24) rfl tv)) (st (pg_ (u := .bool (decide (y28 ≥ y24))) rfl (fun hg => (cp_ ⟨(fun _ => hg), (fun _ => hg), tv⟩ rfl tv)) (st (pickg_ (u := .bool (bif (decide (p11 > 0)) then (decide (y28 ≥ y24)) else false)) rfl (fun hg => cpick rfl rfl (fun _ => hg) rfl rfl (fun h => and_ hg (eqt h)) tv rfl) (st (pick_ rfl rfl rfl tv (fun h => eqf h) rfl (oe_ ?_))))))))))))
   obtain ⟨v30, e31, h1⟩ := bl h1
   refine wk_ ⟨[(0, .lst 1 (a0.map eI)), (1, iV a1), (2, iV a2), (9, .lst 1 (a0.map eI)), (10, iV (a0.length : Int)), (11, iV p11), (33, .bool v30)], [], []⟩ (fgk (by subst e31; kernel_rfl)) (ite_ (cb := v30) rfl (fun c32 => ?_) (fun c32 => ?_))
   ·replace h1 := ip c32 h1
    refine seq_ (reg_ (st (mvc_ tv (oe_ (wk_ ⟨[(6, .bool false)], [], []⟩ (fgk (by kernel_rfl)) ?_)))))
    obtain rfl := Option.some.inj h1
    obtain rfl := hx1 _ rfl
    obtain rfl := Option.some.inj h0
    exact rt_ (hR1 _ (ret_ rfl rfl rfl rfl rfl tv))
   ·replace h1 := inb c32 h1
    refine sk_ (bn_ (wk_ ⟨[(0, .lst 1 (a0.map eI)), (1, iV a1), (2, iV a2), (9, .lst 1 (a0.map eI)), (10, iV (a0.length : Int)), (11, iV p11)], [], []⟩ (fgk (by kernel_rfl)) (reg_ (st (c_ (cp_ t3 rfl tv) (st (mv_ rfl tv (oe_ ?_))))))))
    obtain rfl := Option.some.inj h1
    exact hK1 _ rfl _ ⟨[(0, .lst 1 (a0.map eI)), (1, iV a1), (2, iV a2), (9, .lst 1 (a0.map eI)), (10, iV (a0.length : Int)), (11, iV (IntKind.i64.wrap (p11 + 1)))], [], []⟩ (fgk (by kernel_rfl)) rfl
  ·replace h1 := inb c23 h1
   obtain rfl := Option.some.inj h1
   obtain rfl := hx1 _ rfl
   refine exQ rfl ?_
   exact hE1 _ ⟨[], [], []⟩ (fgk (by kernel_rfl)) ⟨rfl, rfl⟩

/- loop.example/g00149/impl.isList[int] -/
def c87_r0 : List Ins := [⟨some 2, .p (.mv (.c (.bool false))), none⟩]
def c87_r1 : List Ins := [(iQ 3 (.mv (.t 0))),
(iQ 4 (.len (.t 3))),
⟨some 5, .p (.bin .leq (.t 4) (.c (iV 4096))), none⟩,
(iQ 2 (.mv (.t 5)))]
def c87 : XFn := { np := 1, nt := 6, res := [.t 2], body := (.seq (.reg c87_r0) (.seq (.reg c87_r1) .ret)) }
def K87 (C : CRel) : Prop := ∀ (a0 : List Int) (r : Bool), g87 a0 = some r → C 87 ⟨[.lst 1 (a0.map eI)], []⟩ ⟨.bool r, [], []⟩
theorem F87 {C : CRel}  (a0 : List Int) (r : Bool) (h0 : g87 a0 = some r) : FnOK C c87 ⟨[.lst 1 (a0.map eI)], []⟩ ⟨.bool r, [], []⟩ := by
 refine fn_ (nl rfl) (seq_ (reg_ (st (mvc_ tv (oe_ (wk_ ⟨[(0, .lst 1 (a0.map eI))], [], []⟩ (fgk (by kernel_rfl)) (seq_ (reg_ (st (mv_ rfl tv (st (c_ (clenL (e := eI) (l0 := a0) rfl rfl tv) (st (c_ (cp_ t3 rfl tv) (st (mv_ rfl tv (oe_ (wk_ ⟨[(2, .bool (decide ((a0.length : Int) ≤ 4096)))], [], []⟩ (fgk (by kernel_rfl)) ?_))))))))))))))))))
 obtain rfl := Option.some.inj h0
 exact rt_ (ret_ rfl rfl rfl rfl rfl tv)

/- loop.example/g00149/impl.isFate -/
def c88_r0 : List Ins := [⟨some 2, .p (.mv (.c (.bool false))), none⟩]
def c88_r1 : List Ins := [(iQ 3 (.mv (.t 0))),
⟨some 4, .call 63 [(.t 3), (.c (iV 0)), (.c (iV 2))], none⟩,
(iQ 2 (.mv (.t 4)))]
def c88 : XFn := { np := 1, nt := 5, res := [.t 2], body := (.seq (.reg c88_r0) (.seq (.reg c88_r1) .ret)) }
def K88 (C : CRel) : Prop := ∀ (a0 : Int) (r : Bool), g88 a0 = some r → C 88 ⟨[iV a0], []⟩ ⟨.bool r, [], []⟩
theorem F88 {C : CRel} (H63 : K63 C) (a0 : Int) (r : Bool) (h0 : g88 a0 = some r) : FnOK C c88 ⟨[iV a0], []⟩ ⟨.bool r, [], []⟩ := by
 refine fn_ (nl rfl) (seq_ (reg_ (st (mvc_ tv (oe_ (wk_ ⟨[(0, iV a0)], [], []⟩ (fgk (by kernel_rfl)) (seq_ (reg_ (st (mv_ rfl tv ?_))))))))))
 obtain ⟨r1, e2, h0⟩ := bnd h0
 refine st (call0_ (r := .bool r1) false (H63 a0 0 2 r1 e2) ⟨tv, tv, tv, tv⟩ rfl rfl (fun _ => rfl) (st (mv_ rfl tv (oe_ (wk_ ⟨[(2, .bool r1)], [], []⟩ (fgk (by kernel_rfl)) ?_)))))
 obtain rfl := Option.some.inj h0
 exact rt_ (ret_ rfl rfl rfl rfl rfl tv)

/- slices.Clone[[]int,int] -/
def c120_r0 : List Ins := [⟨some 2, .nilS 1, none⟩]
def c120_r1 : List Ins := [(iQ 3 (.mv (.t 0))),
⟨some 4, .isnil (.t 3) false, none⟩]
def c120_r2 : List Ins := [⟨some 2, .nilS 1, none⟩]
def c120_r3 : List Ins := [⟨some 5, .mkS 1 [(iV 0)] 0 [], none⟩,
(iQ 6 (.mv (.t 0))),
⟨some 7, .app 1 8 (.t 5) (.t 6), none⟩,
(iQ 2 (.mv (.t 7)))]
def c120 : XFn := { np := 1, nt := 8, res := [.t 2], body := (.seq (.reg c120_r0) (.seq (.seq (.reg c120_r1) (.ite (.t 4) (.seq (.reg c120_r2) .ret) .skip)) (.seq (.reg c120_r3) .ret))) }
def K120 (C : CRel) : Prop := ∀ (a0 : List Int) (r : List Int), g120 a0 = some r → C 120 ⟨[.lst 1 (a0.map eI)], []⟩ ⟨.own 0 0 1 (r.map eI), [], []⟩
theorem F120 {C : CRel} (a0 : List Int) (r : List Int) (h0 : g120 a0 = some r) : FnOK C c120 ⟨[.lst 1 (a0.map eI)], []⟩ ⟨.own 0 0 1 (r.map eI), [], []⟩ := by
 refine fn_ (nl rfl) ?_
 obtain ⟨hc, h0⟩ := grd h0
 obtain rfl := Option.some.inj h0
 refine seq_ (reg_ (st (nilS_ (oe_ (wk_ ⟨[(0, .lst 1 (a0.map eI))], [], []⟩ (fg ⟨rfl, tv⟩ tv) (seq_ (seq_ (reg_ (st (mv_ rfl tv (st (isnilL (e := eI) (l0 := a0) rfl fun b hb => (oe_ (w0_ (ite_ (cb := b) rfl (fun h => ?_) (fun h => ?_))))))))))))))))
 ·obtain rfl := hb h
  refine seq_ (reg_ (st (nilS_ (oe_ (w0_ ?_)))))
  refine rt_ (ret_ rfl rfl rfl rfl rfl tv)
 ·refine sk_ ?_
  refine wk_ ⟨[(0, .lst 1 (a0.map eI))], [], []⟩ (fg ⟨rfl, tv⟩ tv) (seq_ (reg_ (st (mkS_ tv tv (st (mv_ rfl tv (st (app_ (e := eI) (l0 := ([] : List Int)) (l1 := a0) rfl rfl tv rfl (by decide) ?_ ?_))))))))
  rotate_left
  refine st (mv_ rfl tv (oe_ (w0_ ?_)))
  refine rt_ (ret_ rfl rfl rfl rfl rfl tv)
  have := Nat.mul_le_mul_right 8 hc
  exact Nat.le_trans this (by decide)

/- cmp.isNaN[int] -/
def c136_r0 : List Ins := [⟨some 2, .p (.mv (.c (.bool false))), none⟩]
def c136_r1 : List Ins := [(iQ 3 (.mv (.t 0))),
(iQ 4 (.mv (.t 0))),
(iQ 5 (.bin .neq (.t 3) (.t 4))),
(iQ 2 (.mv (.t 5)))]
def c136 : XFn := { np := 1, nt := 6, res := [.t 2], body := (.seq (.reg c136_r0) (.seq (.reg c136_r1) .ret)) }
def K136 (C : CRel) : Prop := ∀ (a0 : Int) (r : Bool), g136 a0 = some r → C 136 ⟨[iV a0], []⟩ ⟨.bool r, [], []⟩
theorem F136 {C : CRel}  (a0 : Int) (r : Bool) (h0 : g136 a0 = some r) : FnOK C c136 ⟨[iV a0], []⟩ ⟨.bool r, [], []⟩ := by
 refine fn_ (nl rfl) (seq_ (reg_ (st (mvc_ tv (oe_ (wk_ ⟨[(0, iV a0)], [], []⟩ (fgk (by kernel_rfl)) (seq_ (reg_ (st (mv_ rfl tv (st (mv_ rfl tv (st (c_ (cp_ t3 rfl tv) (st (mv_ rfl tv (oe_ (wk_ ⟨[(2, .bool (a0 != a0))], [], []⟩ (fgk (by kernel_rfl)) ?_))))))))))))))))))
 obtain rfl := Option.some.inj h0
 exact rt_ (ret_ rfl rfl rfl rfl rfl tv)

/- cmp.Less[int] -/
def c140_r0 : List Ins := [⟨some 4, .p (.mv (.c (.bool false))), none⟩]
def c140_r1 : List Ins := [(iQ 5 (.mv (.t 0))),
⟨some 6, .call 136 [(.t 5)], none⟩,
(iQ 7 (.mv (.t 6))),
⟨some 8, .p (.mv (.t 1)), some (7, true)⟩,
⟨some 9, .call 136 [(.t 8)], some (7, true)⟩,
⟨some 10, .p (.un .not (.t 9)), some (7, true)⟩,
⟨some 11, .pick (.t 7) (.t 10) (.c (.bool false)), none⟩,
(iQ 12 (.mv (.t 11))),
⟨some 13, .p (.mv (.t 0)), some (12, false)⟩,
⟨some 14, .p (.mv (.t 1)), some (12, false)⟩,
⟨some 15, .p (.bin .lss (.t 13) (.t 14)), some (12, false)⟩,
⟨some 16, .pick (.t 12) (.c (.bool true)) (.t 15), none⟩,
(iQ 4 (.mv (.t 16)))]
def c140 : XFn := { np := 2, nt := 17, res := [.t 4], body := (.seq (.reg c140_r0) (.seq (.reg c140_r1) .ret)) }
def K140 (C : CRel) : Prop := ∀ (a0 : Int) (a1 : Int) (r : Bool), g140 a0 a1 = some r → C 140 ⟨[iV a0, iV a1], []⟩ ⟨.bool r, [], []⟩
theorem F140 {C : CRel} (H136 : K136 C) (a0 : Int) (a1 : Int) (r : Bool) (h0 : g140 a0 a1 = some r) : FnOK C c140 ⟨[iV a0, iV a1], []⟩ ⟨.bool r, [], []⟩ := by
 refine fn_ (nl rfl) (seq_ (reg_ (st (mvc_ tv (oe_ (wk_ ⟨[(0, iV a0), (1, iV a1)], [], []⟩ (fgk (by kernel_rfl)) (seq_ (reg_ (st (mv_ rfl tv ?_))))))))))
 obtain ⟨r1, e2, h0⟩ := bnd h0
 refine st (call0_ (r := .bool r1) false (H136 a0 r1 e2) ⟨tv, tv⟩ rfl rfl (fun _ => rfl) (st (mv_ rfl tv (st (pg_ (u := iV a1) rfl (fun hg => (cmv (v := iV a1) rfl tv)) ?_)))))
 obtain ⟨r3, e4, h0⟩ := bnd h0
 refine sw ⟨[(0, iV a0), (1, iV a1), (7, .bool r1), (8, .may (r1 == true) (iV a1))], [], []⟩ (fgk (by kernel_rfl)) (callg_ (r := .bool r3) rfl false (fun hg => H136 a1 r3 (ip hg e4)) ⟨(fun hg => hg), tv⟩ (fun _ => rfl) (fun _ => rfl) (fun _ => rfl) (fun h => nomatch h) (st (pg_ (u := .bool (!r3)) rfl (fun hg => (cp_ ⟨(fun _ => hg), tv⟩ rfl tv)) (st (pick_ rfl rfl rfl (fun h => eqt h) tv rfl (st (mv_ rfl tv (st (pg_ (u := iV a0) rfl (fun hg => (cmv (v := iV a0) rfl tv)) (st (pg_ (u := iV a1) rfl (fun hg => (cmv (v := iV a1) rfl tv)) (st (pg_ (u := .bool (decide (a0 < a1))) rfl (fun hg => (cp_ ⟨(fun _ => hg), (fun _ => hg), tv⟩ rfl tv)) (st (pick_ rfl rfl rfl tv (fun h => eqf h) rfl (st (mv_ rfl tv (oe_ ?_))))))))))))))))))
 obtain ⟨v5, e6, h0⟩ := bl h0
 refine wk_ ⟨[(4, .bool v5)], [], []⟩ (fgk (by subst e6; kernel_rfl)) ?_
 obtain rfl := Option.some.inj h0
 exact rt_ (ret_ rfl rfl rfl rfl rfl tv)

/- slices.isNaN[int] -/
def c141_r0 : List Ins := [⟨some 2, .p (.mv (.c (.bool false))), none⟩]
def c141_r1 : List Ins := [(iQ 3 (.mv (.t 0))),
(iQ 4 (.mv (.t 0))),
(iQ 5 (.bin .neq (.t 3) (.t 4))),
(iQ 2 (.mv (.t 5)))]
def c141 : XFn := { np := 1, nt := 6, res := [.t 2], body := (.seq (.reg c141_r0) (.seq (.reg c141_r1) .ret)) }
def K141 (C : CRel) : Prop := ∀ (a0 : Int) (r : Bool), g141 a0 = some r → C 141 ⟨[iV a0], []⟩ ⟨.bool r, [], []⟩
theorem F141 {C : CRel}  (a0 : Int) (r : Bool) (h0 : g141 a0 = some r) : FnOK C c141 ⟨[iV a0], []⟩ ⟨.bool r, [], []⟩ := by
 refine fn_ (nl rfl) (seq_ (reg_ (st (mvc_ tv (oe_ (wk_ ⟨[(0, iV a0)], [], []⟩ (fgk (by kernel_rfl)) (seq_ (reg_ (st (mv_ rfl tv (st (mv_ rfl tv (st (c_ (cp_ t3 rfl tv) (st (mv_ rfl tv (oe_ (wk_ ⟨[(2, .bool (a0 != a0))], [], []⟩ (fgk (by kernel_rfl)) ?_))))))))))))))))))
 obtain rfl := Option.some.inj h0
 exact rt_ (ret_ rfl rfl rfl rfl rfl tv)

/- slices.BinarySearch[[]int,int] -/
def c121_r0 : List Ins := [⟨some 4, .p (.mv (.c (iV 0))), none⟩,
⟨some 5, .p (.mv (.c (.bool false))), none⟩]
def c121_r1 : List Ins := [(iQ 10 (.mv (.t 0))),
(iQ 11 (.len (.t 10))),
(iQ 6 (.mv (.t 11)))]
def c121_r2 : List Ins := [(iQ 12 (.mv (.t 6))),
⟨some 7, .p (.mv (.c (iV 0))), none⟩,
(iQ 8 (.mv (.t 12)))]
def c121_r3 : List Ins := [(iQ 13 (.mv (.t 7))),
(iQ 14 (.mv (.t 8))),
(iQ 15 (.bin .lss (.t 13) (.t 14)))]
def c121_r4 : List Ins := [(iQ 16 (.mv (.t 7))),
(iQ 17 (.mv (.t 8))),
(iQ 18 (.bin .add (.t 16) (.t 17))),
(iQ 19 (.conv .u64 (.t 18))),
⟨some 20, .p (.bin .shr (.t 19) (.c (.int .u64 1))), none⟩,
(iQ 21 (.conv .i64 (.t 20))),
(iQ 9 (.mv (.t 21)))]
def c121_r5 : List Ins := [(iQ 22 (.mv (.t 0))),
(iQ 23 (.mv (.t 9))),
(iQ 24 (.idxA (.t 22) (.t 23) 1)),
(iQ 25 (.load (.t 24) 1 false)),
(iQ 26 (.mv (.t 1))),
⟨some 27, .call 140 [(.t 25), (.t 26)], none⟩]
def c121_r6 : List Ins := [(iQ 28 (.mv (.t 9))),
⟨some 29, .p (.bin .add (.t 28) (.c (iV 1))), none⟩,
(iQ 7 (.mv (.t 29)))]
def c121_r7 : List Ins := [(iQ 30 (.mv (.t 9))),
(iQ 8 (.mv (.t 30)))]
def c121_l0 : IR := (.seq (.seq (.reg c121_r3) (.ite (.t 15) .skip (.exit 0))) (.block 1 (.seq (.reg c121_r4) (.seq (.reg c121_r5) (.ite (.t 27) (.reg c121_r6) (.reg c121_r7))))))
def c121_r8 : List Ins := [(iQ 31 (.mv (.t 7))),
(iQ 32 (.mv (.t 7))),
(iQ 33 (.mv (.t 6))),
(iQ 34 (.bin .lss (.t 32) (.t 33))),
(iQ 35 (.mv (.t 34))),
⟨some 36, .p (.mv (.t 0)), some (35, true)⟩,
⟨some 37, .p (.mv (.t 7)), some (35, true)⟩,
⟨some 38, .p (.idxA (.t 36) (.t 37) 1), some (35, true)⟩,
⟨some 39, .p (.load (.t 38) 1 false), some (35, true)⟩,
⟨some 40, .p (.mv (.t 1)), some (35, true)⟩,
⟨some 41, .p (.bin .eql (.t 39) (.t 40)), some (35, true)⟩,
⟨some 42, .p (.mv (.t 41)), some (35, true)⟩,
⟨some 43, .p (.mv (.t 0)), some (42, false)⟩,
⟨some 44, .p (.mv (.t 7)), some (42, false)⟩,
⟨some 45, .p (.idxA (.t 43) (.t 44) 1), some (42, false)⟩,
⟨some 46, .p (.load (.t 45) 1 false), some (42, false)⟩,
⟨some 47, .call 141 [(.t 46)], some (42, false)⟩,
⟨some 48, .p (.mv (.t 47)), some (42, false)⟩,
⟨some 49, .p (.mv (.t 1)), some (48, true)⟩,
⟨some 50, .call 141 [(.t 49)], some (48, true)⟩,
⟨some 51, .pick (.t 48) (.t 50) (.c (.bool false)), some (42, false)⟩,
⟨some 52, .pick (.t 42) (.c (.bool true)) (.t 51), some (35, true)⟩,
⟨some 53, .pick (.t 35) (.t 52) (.c (.bool false)), none⟩,
(iQ 4 (.mv (.t 31))),
(iQ 5 (.mv (.t 53)))]
def c121 : XFn := { np := 2, nt := 54, res := [.t 4, .t 5], body := (.seq (.reg c121_r0) (.seq (.reg c121_r1) (.seq (.reg c121_r2) (.seq (.block 0 (.loop c121_l0)) (.seq (.reg c121_r8) .ret))))) }
def K121 (C : CRel) : Prop := ∀ (a0 : List Int) (a1 : Int) (r : Int × Bool), g121 a0 a1 = some r → C 121 ⟨[.lst 1 (a0.map eI), iV a1], []⟩ ⟨.tup [iV r.1, .bool r.2], [], []⟩
theorem F121 {C : CRel} (H140 : K140 C) (H141 : K141 C) (a0 : List Int) (a1 : Int) (r : Int × Bool) (h0 : g121 a0 a1 = some r) : FnOK C c121 ⟨[.lst 1 (a0.map eI), iV a1], []⟩ ⟨.tup [iV r.1, .bool r.2], [], []⟩ := by
 refine fn_ (nl rfl) (seq_ (reg_ (st (mvc_ tv (st (mvc_ tv (oe_ (wk_ ⟨[(0, .lst 1 (a0.map eI)), (1, iV a1)], [], []⟩ (fgk (by kernel_rfl)) (seq_ (reg_ (st (mv_ rfl tv (st (c_ (clenL (e := eI) (l0 := a0) rfl rfl tv) (st (mv_ rfl tv (oe_ (wk_ ⟨[(0, .lst 1 (a0.map eI)), (1, iV a1), (6, iV (a0.length : Int))], [], []⟩ (fgk (by kernel_rfl)) (seq_ (reg_ (st (mv_ rfl tv (st (mvc_ tv (st (mv_ rfl tv (oe_ (wk_ ⟨[(0, .lst 1 (a0.map eI)), (1, iV a1), (6, iV (a0.length : Int)), (7, iV 0), (8, iV (a0.length : Int))], [], []⟩ (fgk (by kernel_rfl)) (seq_ (block_ ?_))))))))))))))))))))))))))))))
 obtain ⟨r30, e31, h0⟩ := bnd h0
 refine loop_ (R := (fun S => ∃ p21 : Int, p21 = r30 ∧ S = ⟨[(0, .lst 1 (a0.map eI)), (1, iV a1), (6, iV (a0.length : Int)), (7, iV p21)], [], []⟩)) (g121_l0 a0 a1) (fun s S => match s with | (p9, p10) => S = ⟨[(0, .lst 1 (a0.map eI)), (1, iV a1), (6, iV (a0.length : Int)), (7, iV p9), (8, iV p10)], [], []⟩) e31 ⟨[(0, .lst 1 (a0.map eI)), (1, iV a1), (6, iV (a0.length : Int)), (7, iV 0), (8, iV (a0.length : Int))], [], []⟩ (fgk (by kernel_rfl)) rfl 0 (fun _ => rfl) ?_ ?_
 ·rintro S _ hfg ⟨p21, rfl, rfl⟩
  refine wk_ ⟨[(0, .lst 1 (a0.map eI)), (1, iV a1), (6, iV (a0.length : Int)), (7, iV p21)], [], []⟩ (fglk hfg (by kernel_rfl)) (seq_ (reg_ (st (mv_ rfl tv (st (mv_ rfl tv (st (mv_ rfl tv (st (c_ (cp_ t3 rfl tv) (st (mv_ rfl tv (st (pg_ (u := .lst 1 (a0.map eI)) rfl (fun hg => (cmv (v := .lst 1 (a0.map eI)) rfl tv)) (st (pg_ (u := iV p21) rfl (fun hg => (cmv (v := iV p21) rfl tv)) ?_))))))))))))))))
  obtain ⟨y32, e33, h0⟩ := bnd h0
  refine st (pg_ (u := .iptr [iV y32]) rfl (fun hg => (cidxL (e := eI) (y := y32) rfl rfl (fun _ => hg) rfl rfl (fun _ => hg) (ip hg e33))) (st (pg_ (u := iV y32) rfl (fun hg => (cp_ ⟨(fun _ => hg), tv⟩ rfl (nl rfl))) (st (pg_ (u := iV a1) rfl (fun hg => (cmv (v := iV a1) rfl tv)) (st (pg_ (u := .bool (y32 == a1)) rfl (fun hg => (cp_ ⟨(fun _ => hg), (fun _ => hg), tv⟩ rfl tv)) (st (pg_ (u := .bool (y32 == a1)) rfl (fun hg => (cmv (v := .may ((decide (p21 < (a0.length : Int))) == true) (.bool (y32 == a1))) rfl (fun _ => hg))) (st (pg_ (u := .lst 1 (a0.map eI)) rfl (fun hg => (cmv (v := .lst 1 (a0.map eI)) rfl tv)) (st (pg_ (u := iV p21) rfl (fun hg => (cmv (v := iV p21) rfl tv)) ?_)))))))))))))
  obtain ⟨y34, e35, h0⟩ := bnd h0
  refine st (pg_ (u := .iptr [iV y34]) rfl (fun hg => (cidxL (e := eI) (y := y34) rfl rfl (fun _ => hg) rfl rfl (fun _ => hg) (ip hg e35))) (sw ⟨[(1, iV a1), (31, iV p21), (35, .bool (decide (p21 < (a0.length : Int)))), (42, .may ((decide (p21 < (a0.length : Int))) == true) (.bool (y32 == a1))), (45, .may (((decide (p21 < (a0.length : Int))) == true) && ((y32 == a1) == false)) (.iptr [iV y34]))], [], []⟩ (fgk (by kernel_rfl)) (pg_ (u := iV y34) rfl (fun hg => (cp_ ⟨(fun _ => hg), tv⟩ rfl (nl rfl))) ?_)))
  obtain ⟨r36, e37, h0⟩ := bnd h0
  refine st (callg_ (r := .bool r36) rfl false (fun hg => H141 y34 r36 (ip hg e37)) ⟨(fun hg => hg), tv⟩ (fun _ => rfl) (fun _ => rfl) (fun _ => rfl) (fun h => nomatch h) (st (pg_ (u := .bool r36) rfl (fun hg => (cmv (v := .may (((decide (p21 < (a0.length : Int))) == true) && ((y32 == a1) == false)) (.bool r36)) rfl (fun _ => hg))) (st (pg_ (u := iV a1) rfl (fun hg => (cmv (v := iV a1) rfl tv)) ?_)))))
  obtain ⟨r38, e39, h0⟩ := bnd h0
  refine sw ⟨[(31, iV p21), (35, .bool (decide (p21 < (a0.length : Int)))), (42, .may ((decide (p21 < (a0.length : Int))) == true) (.bool (y32 == a1))), (48, .may (((decide (p21 < (a0.length : Int))) == true) && ((y32 == a1) == false)) (.bool r36)), (49, .may ((((decide (p21 < (a0.length : Int))) == true) && ((y32 == a1) == false)) && (r36 == true)) (iV a1))], [], []⟩ (fgk (by kernel_rfl)) (callg_ (r := .bool r38) rfl false (fun hg => H141 a1 r38 (ip hg e39)) ⟨(fun hg => hg), tv⟩ (fun _ => rfl) (fun _ => rfl) (fun _ => rfl) (fun h => nomatch h) (st (pickg_ (u := .bool (bif r36 then r38 else false)) rfl (fun hg => cpick rfl rfl (fun _ => hg) rfl rfl (fun h => and_ hg (eqt h)) tv rfl) (st (pickg_ (u := .bool (bif (y32 == a1) then true else (bif r36 then r38 else false))) rfl (fun hg => cpick rfl rfl (fun _ => hg) rfl rfl tv (fun h => and_ hg (eqf h)) rfl) (st (pick_ rfl rfl rfl (fun h => eqt h) tv rfl (st (mv_ rfl tv (st (mv_ rfl tv (oe_ ?_))))))))))))
  obtain ⟨v40, e41, h0⟩ := bl h0
  refine wk_ ⟨[(4, iV p21), (5, .bool v40)], [], []⟩ (fgk (by subst e41; kernel_rfl)) ?_
  obtain rfl := Option.some.inj h0
  exact rt_ (ret_ rfl rfl rfl rfl rfl tv)
 ·rintro ⟨p9, p10⟩ o1 _ K1 rfl h1 hx1 hK1 hE1 hR1
  refine seq_ (seq_ (reg_ (st (mv_ rfl tv (st (mv_ rfl tv (st (c_ (cp_ t3 rfl tv) (oe_ (wk_ ⟨[(0, .lst 1 (a0.map eI)), (1, iV a1), (6, iV (a0.length : Int)), (7, iV p9), (8, iV p10), (15, .bool (decide (p9 < p10)))], [], []⟩ (fgk (by kernel_rfl)) (ite_ (cb := (decide (p9 < p10))) rfl (fun c22 => ?_) (fun c22 => ?_))))))))))))
  ·replace h1 := ip c22 h1
   refine sk_ (wk_ ⟨[(0, .lst 1 (a0.map eI)), (1, iV a1), (6, iV (a0.length : Int)), (7, iV p9), (8, iV p10)], [], []⟩ (fgk (by kernel_rfl)) (block_ (seq_ (reg_ (st (mv_ rfl tv (st (mv_ rfl tv (st (c_ (cp_ t3 rfl tv) (st (c_ (cp_ ⟨tv, tv⟩ rfl tv) (st (c_ (cp_ ⟨tv, tv, tv⟩ rfl (by decide)) (st (c_ (cp_ ⟨tv, tv⟩ rfl tv) (st (mv_ rfl tv (oe_ ?_)))))))))))))))))))
   obtain ⟨v23, e24, h1⟩ := bl h1
   refine wk_ ⟨[(0, .lst 1 (a0.map eI)), (1, iV a1), (6, iV (a0.length : Int)), (7, iV p9), (8, iV p10), (9, iV v23)], [], []⟩ (fgk (by subst e24; kernel_rfl)) (seq_ (reg_ (st (mv_ rfl tv (st (mv_ rfl tv ?_))))))
   obtain ⟨y25, e26, h1⟩ := bnd h1
   refine st (c_ (cidxL (e := eI) (y := y25) rfl rfl tv rfl rfl tv e26) (st (c_ (cp_ ⟨tv, tv⟩ rfl (nl rfl)) (st (mv_ rfl tv ?_)))))
   obtain ⟨r27, e28, h1⟩ := bnd h1
   refine st (call0_ (r := .bool r27) false (H140 y25 a1 r27 e28) ⟨tv, tv, tv⟩ rfl rfl (fun _ => rfl) (oe_ (wk_ ⟨[(0, .lst 1 (a0.map eI)), (1, iV a1), (6, iV (a0.length : Int)), (7, iV p9), (8, iV p10), (9, iV v23), (27, .bool r27)], [], []⟩ (fgk (by kernel_rfl)) (ite_ (cb := r27) rfl (fun c29 => ?_) (fun c29 => ?_)))))
   ·replace h1 := ip c29 h1
    refine reg_ (st (mv_ rfl tv (st (c_ (cp_ t3 rfl tv) (st (mv_ rfl tv (oe_ (bn_ ?_))))))))
    obtain rfl := Option.some.inj h1
    exact hK1 _ rfl _ ⟨[(0, .lst 1 (a0.map eI)), (1, iV a1), (6, iV (a0.length : Int)), (7, iV (IntKind.i64.wrap (v23 + 1))), (8, iV p10)], [], []⟩ (fgk (by kernel_rfl)) rfl
   ·replace h1 := inb c29 h1
    refine reg_ (st (mv_ rfl tv (st (mv_ rfl tv (oe_ (bn_ ?_))))))
    obtain rfl := Option.some.inj h1
    exact hK1 _ rfl _ ⟨[(0, .lst 1 (a0.map eI)), (1, iV a1), (6, iV (a0.length : Int)), (7, iV p9), (8, iV v23)], [], []⟩ (fgk (by kernel_rfl)) rfl
  ·replace h1 := inb c22 h1
   obtain rfl := Option.some.inj h1
   obtain rfl := hx1 _ rfl
   refine exQ rfl ?_
   exact hE1 _ ⟨[(0, .lst 1 (a0.map eI)), (1, iV a1), (6, iV (a0.length : Int)), (7, iV p9)], [], []⟩ (fgk (by kernel_rfl)) ⟨_, rfl, rfl⟩

/- slices.Insert[[]int,int] -/
def c122_r0 : List Ins := [⟨some 6, .nilS 1, none⟩]
def c122_r1 : List Ins := [(iQ 10 (.mv (.t 0))),
(iQ 11 (.mv (.t 1))),
⟨some 12, .p (.slice (.t 10) (some (.t 11)) none 1), none⟩]
def c122_r2 : List Ins := [(iQ 13 (.mv (.t 2))),
(iQ 14 (.len (.t 13))),
(iQ 7 (.mv (.t 14)))]
def c122_r3 : List Ins := [(iQ 15 (.mv (.t 7))),
⟨some 16, .p (.bin .eql (.t 15) (.c (iV 0))), none⟩]
def c122_r4 : List Ins := [(iQ 17 (.mv (.t 0))),
(iQ 6 (.mv (.t 17)))]
def c122_r5 : List Ins := [(iQ 18 (.mv (.t 0))),
(iQ 19 (.len (.t 18))),
(iQ 8 (.mv (.t 19)))]
def c122_r6 : List Ins := [(iQ 20 (.mv (.t 1))),
(iQ 21 (.mv (.t 8))),
(iQ 22 (.bin .eql (.t 20) (.t 21)))]
def c122_r7 : List Ins := [(iQ 23 (.mv (.t 0))),
(iQ 24 (.mv (.t 2))),
⟨some 25, .app 1 8 (.t 23) (.t 24), none⟩,
(iQ 6 (.mv (.t 25)))]
def c122_r8 : List Ins := [(iQ 26 (.mv (.t 8))),
(iQ 27 (.mv (.t 7))),
(iQ 28 (.bin .add (.t 26) (.t 27))),
(iQ 29 (.mv (.t 0))),
⟨some 30, .cap (.t 29), none⟩,
(iQ 31 (.bin .gtr (.t 28) (.t 30)))]
def c122_r9 : List Ins := [(iQ 32 (.mv (.t 0))),
(iQ 33 (.mv (.t 1))),
⟨some 34, .p (.slice (.t 32) none (some (.t 33)) 1), none⟩,
(iQ 35 (.mv (.t 8))),
(iQ 36 (.mv (.t 7))),
(iQ 37 (.bin .add (.t 35) (.t 36))),
(iQ 38 (.mv (.t 1))),
(iQ 39 (.bin .sub (.t 37) (.t 38))),
⟨some 40, .appz 1 8 [(iV 0)] (.t 34) (.t 39), none⟩,
(iQ 9 (.mv (.t 40)))]
def c122_r10 : List Ins := [(iQ 41 (.mv (.t 9))),
(iQ 42 (.mv (.t 1))),
⟨some 43, .p (.slice (.t 41) (some (.t 42)) none 1), none⟩,
(iQ 44 (.mv (.t 2))),
⟨some 45, .copy 1 (.t 43) (.t 44), none⟩]
def c122_r11 : DP := (.take (iQ 46 (.mv (.t 9)))
(.take (iQ 47 (.mv (.t 1)))
(.take (iQ 48 (.mv (.t 7)))
(.take (iQ 49 (.bin .add (.t 47) (.t 48)))
(.take ⟨some 50, .p (.slice (.t 46) (some (.t 49)) none 1), none⟩
(.take (iQ 51 (.mv (.t 0)))
(.take (iQ 52 (.mv (.t 1)))
(.take ⟨some 53, .p (.slice (.t 51) (some (.t 52)) none 1), none⟩
(.alt [] ⟨some 54, .copy 1 (.t 50) (.t 53), none⟩
.fin
.stop)))))))))
def c122_r12 : List Ins := [(iQ 55 (.mv (.t 9))),
(iQ 6 (.mv (.t 55)))]
def c122_r13 : List Ins := [(iQ 56 (.mv (.t 0))),
(iQ 57 (.mv (.t 8))),
(iQ 58 (.mv (.t 7))),
(iQ 59 (.bin .add (.t 57) (.t 58))),
⟨some 60, .p (.slice (.t 56) none (some (.t 59)) 1), none⟩,
(iQ 0 (.mv (.t 60)))]
def c122_r14 : List Ins := [(iQ 61 (.mv (.t 2))),
(iQ 62 (.mv (.t 0))),
(iQ 63 (.mv (.t 1))),
(iQ 64 (.mv (.t 7))),
(iQ 65 (.bin .add (.t 63) (.t 64))),
⟨some 66, .p (.slice (.t 62) (some (.t 65)) none 1), none⟩,
(iQ 67 (.ovl (.t 61) (.t 66))),
(iQ 68 (.un .not (.t 67)))]
def c122_r15 : DP := (.take (iQ 69 (.mv (.t 0)))
(.take (iQ 70 (.mv (.t 1)))
(.take (iQ 71 (.mv (.t 7)))
(.take (iQ 72 (.bin .add (.t 70) (.t 71)))
(.take ⟨some 73, .p (.slice (.t 69) (some (.t 72)) none 1), none⟩
(.take (iQ 74 (.mv (.t 0)))
(.take (iQ 75 (.mv (.t 1)))
(.take ⟨some 76, .p (.slice (.t 74) (some (.t 75)) none 1), none⟩
(.alt [] ⟨some 77, .copy 1 (.t 73) (.t 76), none⟩
.fin
.stop)))))))))
def c122_r16 : List Ins := [(iQ 78 (.mv (.t 0))),
(iQ 79 (.mv (.t 1))),
⟨some 80, .p (.slice (.t 78) (some (.t 79)) none 1), none⟩,
(iQ 81 (.mv (.t 2))),
⟨some 82, .copy 1 (.t 80) (.t 81), none⟩]
def c122_r17 : List Ins := [(iQ 83 (.mv (.t 0))),
(iQ 6 (.mv (.t 83)))]
def c122_r18 : List Ins := [(iQ 84 (.mv (.t 0))),
(iQ 85 (.mv (.t 8))),
⟨some 86, .p (.slice (.t 84) (some (.t 85)) none 1), none⟩,
(iQ 87 (.mv (.t 2))),
⟨some 88, .copy 1 (.t 86) (.t 87), none⟩]
def c122_r19 : List Ins := [(iQ 89 (.mv (.t 0))),
(iQ 90 (.mv (.t 1))),
⟨some 91, .p (.slice (.t 89) (some (.t 90)) none 1), none⟩,
(iQ 92 (.mv (.t 7))),
⟨some 93, .call 143 [(.t 91), (.t 92)], none⟩]
def c122_r20 : List Ins := [(iQ 94 (.mv (.t 0))),
(iQ 6 (.mv (.t 94)))]
def c122 : XFn := { np := 3, nt := 95, res := [.t 6], body := (.seq (.reg c122_r0) (.seq (.reg c122_r1) (.seq (.reg c122_r2) (.seq (.seq (.reg c122_r3) (.ite (.t 16) (.seq (.reg c122_r4) .ret) .skip)) (.seq (.reg c122_r5) (.seq (.seq (.reg c122_r6) (.ite (.t 22) (.seq (.reg c122_r7) .ret) .skip)) (.seq (.seq (.reg c122_r8) (.ite (.t 31) (.seq (.reg c122_r9) (.seq (.reg c122_r10) (.seq (.draw c122_r11) (.seq (.reg c122_r12) .ret)))) .skip)) (.seq (.reg c122_r13) (.seq (.seq (.reg c122_r14) (.ite (.t 68) (.seq (.draw c122_r15) (.seq (.reg c122_r16) (.seq (.reg c122_r17) .ret))) .skip)) (.seq (.reg c122_r18) (.seq (.reg c122_r19) (.seq (.reg c122_r20) .ret)))))))))))) }
def K122 (C : CRel) : Prop := ∀ (a0 : List Int) (a1 : Int) (a2 : List Int) (r : (List Int) × (List Int)), g122 a0 a1 a2 = some r → C 122 ⟨[.own 1024000 0 1 (a0.map eI), iV a1, .own 2097152 0 1 (a2.map eI)], []⟩ ⟨.own 0 0 1 (r.1.map eI), [], [(0, 1, r.2.map eI)]⟩
theorem F122 {C : CRel} (a0 : List Int) (a1 : Int) (a2 : List Int) (r : (List Int) × (List Int)) (h0 : g122 a0 a1 a2 = some r) : FnOK C c122 ⟨[.own 1024000 0 1 (a0.map eI), iV a1, .own 2097152 0 1 (a2.map eI)], []⟩ ⟨.own 0 0 1 (r.1.map eI), [], [(0, 1, r.2.map eI)]⟩ := by
 refine fn_ (nl rfl) ?_
 obtain ⟨⟨hb, hpos, hl⟩, h0⟩ := grd h0
 obtain rfl := Option.some.inj h0
 obtain ⟨i, rfl⟩ := Int.eq_ofNat_of_zero_le hb.1
 have hi : i ≤ a0.length := by omega
 rw [show ((i : Nat) : Int).toNat = i from rfl]
 have hbyte : (a0.length + a2.length) * 8 ≤ 140737488355328 := Nat.le_trans (Nat.mul_le_mul_right 8 hl) (by decide)
 have hsm : a0.length + a2.length ≤ 140737488355328 := by omega
 have w1 : IntKind.i64.wrap ((a0.length : Int) + (a2.length : Int)) = ((a0.length + a2.length : Nat) : Int) := wrapN _ (by omega) (by omega)
 have w2 : IntKind.i64.wrap ((i : Int) + (a2.length : Int)) = ((i + a2.length : Nat) : Int) := wrapN _ (by omega) (by omega)
 have w3 : IntKind.i64.wrap (((a0.length + a2.length : Nat) : Int) - (i : Int)) = ((a0.length + a2.length - i : Nat) : Int) := wrapN _ (by omega) (by omega)
 refine seq_ (reg_ (st (nilS_ (oe_ (wk_ ⟨[(0, .own 1024000 0 1 (a0.map eI)), (1, iV i), (2, .own 2097152 0 1 (a2.map eI))], [], []⟩ (fg ⟨rfl, rfl, rfl, tv⟩ tv) (seq_ (reg_ (st (mv_ rfl tv (st (mv_ rfl tv (st (c_ (csliceO (e := eI) (y := a0.drop i) rfl rfl tv ⟨tv, tv⟩ rfl rfl (slcD a0 i hi)) (oe_ (wk_ ⟨[(0, .own 1024000 0 1 (a0.map eI)), (1, iV i), (2, .own 2097152 0 1 (a2.map eI))], [], []⟩ (fg ⟨rfl, rfl, rfl, tv⟩ tv) (seq_ (reg_ (st (mv_ rfl tv (st (c_ (clenO (e := eI) (l0 := a2) rfl rfl tv) (st (mv_ rfl tv (oe_ (wk_ ⟨[(0, .own 1024000 0 1 (a0.map eI)), (1, iV i), (2, .own 2097152 0 1 (a2.map eI)), (7, iV (a2.length : Int))], [], []⟩ (fg ⟨rfl, rfl, rfl, rfl, tv⟩ tv) (seq_ (seq_ (reg_ (st (mv_ rfl tv (st (c_ (cp_ t3 rfl tv) (oe_ (w0_ (ite_ (cb := (a2.length : Int) == 0) rfl (fun h => absurd (eq_of_beq h) (by omega)) (fun _ => (sk_ (wk_ ⟨[(0, .own 1024000 0 1 (a0.map eI)), (1, iV i), (2, .own 2097152 0 1 (a2.map eI)), (7, iV (a2.length : Int))], [], []⟩ (fg ⟨rfl, rfl, rfl, rfl, tv⟩ tv) (seq_ (reg_ ?_))))))))))))))))))))))))))))))))))))))))
 refine st (mv_ rfl tv (st (c_ (clenO (e := eI) (l0 := a0) rfl rfl tv) (st (mv_ rfl tv (oe_ (wk_ ⟨[(0, .own 1024000 0 1 (a0.map eI)), (1, iV i), (2, .own 2097152 0 1 (a2.map eI)), (7, iV (a2.length : Int)), (8, iV (a0.length : Int))], [], []⟩ (fg ⟨rfl, rfl, rfl, rfl, rfl, tv⟩ tv) (seq_ (seq_ (reg_ (st (mv_ rfl tv (st (mv_ rfl tv (st (c_ (cp_ t3 rfl tv) (oe_ (w0_ (ite_ (cb := (i : Int) == (a0.length : Int)) rfl (fun h => ?_) (fun h => ?_))))))))))))))))))))
 ·have e1 : i = a0.length := by have := eq_of_beq h; omega
  subst e1
  rw [List.take_length, List.drop_length, List.append_nil]
  refine seq_ (reg_ (st (mv_ rfl tv (st (mv_ rfl tv (st (app_ (e := eI) (l0 := a0) (l1 := a2) rfl rfl tv rfl (show (1024000 : Nat) < 1048576 by decide) hbyte (st (mv_ rfl tv (oe_ (wk_ ⟨[(6, .own 1024000 0 1 ((a0 ++ a2).map eI)), (2, .own 2097152 0 1 (a2.map eI))], [], []⟩ (fg ⟨rfl, rfl, tv⟩ tv) ?_)))))))))))
  exact rt_ (ret_ rfl rfl rfl rfl rfl ⟨⟨rfl, mlen (fun _ => rfl)⟩, tv⟩)
 have hlt : i < a0.length := by
  have : (i : Int) ≠ (a0.length : Int) := fun h1 => by rw [h1] at h; simp at h
  omega
 have hemp : a0.map eI ≠ [] := fun e1 => by
  have := congrArg List.length e1
  simp at this
  subst this
  simp at hlt
 have hemp2 : a2.map eI ≠ [] := fun e1 => by
  have := congrArg List.length e1
  simp at this
  subst this
  simp at hpos
 refine sk_ (wk_ ⟨[(0, .own 1024000 0 1 (a0.map eI)), (1, iV i), (2, .own 2097152 0 1 (a2.map eI)), (7, iV (a2.length : Int)), (8, iV (a0.length : Int))], [], []⟩ (fg ⟨rfl, rfl, rfl, rfl, rfl, tv⟩ tv) (seq_ (seq_ (reg_ (st (mv_ rfl tv (st (mv_ rfl tv (st (c_ (cp_ (v := iV ((a0.length + a2.length : Nat) : Int)) ⟨tv, tv, tv⟩ (congrArg (fun z => some (True, V.int .i64 z)) w1) tv) (st (mv_ rfl tv (st (cap_ (e := eI) (l0 := a0) rfl fun c hc => (st (c_ (cp_ t3 rfl tv) (oe_ ?_)))))))))))))))))
 refine wk_ ⟨[(31, .bool (decide (((a0.length + a2.length : Nat) : Int) > (c : Int)))), (0, .own 1024000 0 1 (a0.map eI)), (1, iV i), (2, .own 2097152 0 1 (a2.map eI)), (7, iV (a2.length : Int)), (8, iV (a0.length : Int))], [], [(0, xcap + (c : Int))]⟩
  (fgc ⟨rfl, rfl, rfl, rfl, rfl, rfl, tv⟩ tv ⟨.inr (.inr ⟨29, xcap + (c : Int), _, _, 0, _, 0, _, rfl, rfl, hemp, rfl, hemp, .inr ⟨rfl, rfl⟩⟩), tv⟩) ?_
 refine ite_ (cb := decide (((a0.length + a2.length : Nat) : Int) > (c : Int))) rfl (fun hgt => ?_) (fun hle => ?_)
 ·have hgt' : c < a0.length + a2.length := by have := of_decide_eq_true hgt; omega
  refine seq_ (reg_ (st (mv_ rfl tv (st (mv_ rfl tv (st (c_ (csliceO (e := eI) (y := a0.take i) rfl rfl tv ⟨tv, tv⟩ rfl rfl (by rw [show (none : Option Int).getD 0 = ((0 : Nat) : Int) from rfl]; exact slcN a0 0 i (by omega) (by omega))) (st (mv_ rfl tv (st (mv_ rfl tv (st (c_ (cp_ (v := iV ((a0.length + a2.length : Nat) : Int)) ⟨tv, tv, tv⟩ (congrArg (fun z => some (True, V.int .i64 z)) w1) tv) (st (mv_ rfl tv (st (c_ (cp_ (v := iV ((a0.length + a2.length - i : Nat) : Int)) ⟨tv, tv, tv⟩ (congrArg (fun z => some (True, V.int .i64 z)) w3) tv) (st (appzx_ (e := eI) (l0 := a0.take i) (c := xcap + (c : Int) - 0) (t := 1024000) (default : Int) rfl rfl rfl (by decide) (Int.natCast_nonneg _) ?_ rfl (by omega) ?_ ?_)))))))))))))))))))
  ·have e1 : (a0.take i).length + (a0.length + a2.length - i) = a0.length + a2.length := by simp; omega
   have := Int.ofNat_le.2 hbyte
   rw [Int.natCast_mul] at this
   rw [← Int.natCast_add, e1]
   exact this
  ·have e1 : (a0.take i).length = i := by simp; omega
   rw [e1]; omega
  rw [show ((a0.length + a2.length - i : Nat) : Int).toNat = a0.length + a2.length - i from rfl]
  refine st (mv_ rfl tv (oe_ (wk_ ⟨[(9, .own 2560 0 1 ((a0.take i ++ List.replicate (a0.length + a2.length - i) (default : Int)).map eI)), (0, .own 1024000 0 1 (a0.map eI)), (1, iV i), (2, .own 2097152 0 1 (a2.map eI)), (7, iV (a2.length : Int))], [], []⟩ (fg ⟨rfl, rfl, rfl, rfl, rfl, tv⟩ tv) ?_)))
  generalize hR : a0.take i ++ List.replicate (a0.length + a2.length - i) (default : Int) = R
  have hRl : R.length = a0.length + a2.length := by rw [← hR]; simp; omega
  have hRt : R.take i = a0.take i := by rw [← hR, List.take_append_of_le_length (by simp; omega), List.take_take, Nat.min_self]
  refine seq_ (reg_ (st (mv_ rfl tv (st (mv_ rfl tv (st (c_ (csliceO (e := eI) (y := R.drop i) rfl rfl tv ⟨tv, tv⟩ rfl rfl (slcD R i (by omega))) (st (mv_ rfl tv (st (copy_ (e := eI) (l0 := R.drop i) (l1 := a2) (t := 2560) rfl rfl tv rfl (oe_ (wk_ ⟨[(9, .own 2560 0 1 ((ovl R i (a2.take (R.drop i).length)).map eI)), (0, .own 1024000 0 1 (a0.map eI)), (1, iV i), (2, .own 2097152 0 1 (a2.map eI)), (7, iV (a2.length : Int))], [], []⟩ (fg ⟨congrArg (fun z => some (V.own 2560 0 1 z)) (overlay_ovl (off := 0)), rfl, rfl, rfl, rfl, tv⟩ tv) ?_)))))))))))))
  have hR2l : (ovl R i (a2.take (R.drop i).length)).length = a0.length + a2.length := by rw [ovl_len, hRl]
  generalize hR2 : ovl R i (a2.take (R.drop i).length) = R2 at hR2l
  refine seq_ (draw_ (dtake tv (mv_ rfl tv (⟨tv, (dtake tv (mv_ rfl tv (⟨tv, (dtake tv (mv_ rfl tv (⟨tv, (dtake tv (c_ (cp_ (v := iV ((i + a2.length : Nat) : Int)) ⟨tv, tv, tv⟩ (congrArg (fun z => some (True, V.int .i64 z)) w2) tv) (⟨tv, (dtake tv (c_ (csliceO (e := eI) (y := R2.drop (i + a2.length)) rfl rfl tv ⟨tv, tv⟩ rfl rfl (slcD R2 (i + a2.length) (by omega))) (⟨tv, (dtake tv (mv_ rfl tv (⟨tv, (dtake tv (mv_ rfl tv (⟨tv, (dtake tv (c_ (csliceO (e := eI) (y := a0.drop i) rfl rfl tv ⟨tv, tv⟩ rfl rfl (slcD a0 i hi)) (⟨tv, (dalt (copy_ (e := eI) (l0 := R2.drop (i + a2.length)) (l1 := a0.drop i) (t := 2560) rfl rfl tv rfl (dk0 ⟨[], tv, tv, (dfin ?_)⟩)) dstop)⟩)))⟩)))⟩)))⟩)))⟩)))⟩)))⟩)))⟩))))
  have hfin : ovl R2 (i + a2.length) ((a0.drop i).take (R2.drop (i + a2.length)).length) = a0.take i ++ a2 ++ a0.drop i := by
   rw [← hR2]
   exact ovl_ins hRl hRt hi
  refine wk_ ⟨[(9, .own 2560 0 1 ((a0.take i ++ a2 ++ a0.drop i).map eI)), (2, .own 2097152 0 1 (a2.map eI))], [], []⟩ (fg ⟨(congrArg (fun z => some (V.own 2560 0 1 z)) (overlay_ovl (off := 0))).trans (congrArg (fun z => some (V.own 2560 0 1 (z.map eI))) hfin), rfl, tv⟩ tv) (seq_ (reg_ (st (mv_ rfl tv (st (mv_ rfl tv (oe_ (w0_ ?_))))))))
  exact rt_ (ret_ rfl rfl rfl rfl rfl ⟨⟨rfl, mlen (fun _ => rfl)⟩, tv⟩)
 ·have hle' : a0.length + a2.length ≤ c := by have := of_decide_eq_false hle; omega
  refine sk_ ?_
  refine wk_ ⟨[(0, .own 1024000 0 1 (a0.map eI)), (1, iV i), (2, .own 2097152 0 1 (a2.map eI)), (7, iV (a2.length : Int)), (8, iV (a0.length : Int))], [], [(0, xcap + (c : Int))]⟩
   (fgc ⟨rfl, rfl, rfl, rfl, rfl, tv⟩ tv ⟨.inl ⟨_, rfl, .inl rfl⟩, tv⟩) ?_
  refine seq_ (reg_ (st (mv_ rfl tv (st (mv_ rfl tv (st (mv_ rfl tv (st (c_ (cp_ (v := iV ((a0.length + a2.length : Nat) : Int)) ⟨tv, tv, tv⟩ (congrArg (fun z => some (True, V.int .i64 z)) w1) tv) (st (c_ (sliceUp (e := eI) (l0 := a0) (t := 1024000) (sz := 1) (H := a0.length + a2.length) (c := xcap + (c : Int)) rfl rfl (Nat.le_add_right _ _) (show (0 : Nat) < 1 by decide) rfl (by rw [lowC_x]; omega)) (st (mv_ rfl tv (oe_ ?_))))))))))))))
  rw [Nat.add_sub_cancel_left]
  have hA0 : (a0.map some ++ List.replicate a2.length none).length = a0.length + a2.length := by simp
  have hA1 : (a0.map some ++ List.replicate a2.length none).take i = (a0.take i).map some := by rw [List.take_append_of_le_length (by simpa using hi), List.map_take]
  have hA2 : ((a0.map some ++ List.replicate a2.length none).drop i).take (a0.length - i) = (a0.drop i).map some := by
   rw [List.drop_append_of_le_length (by simpa using hi), ← List.map_drop, List.take_append_of_le_length (by simp), List.take_of_length_le (by simp)]
  generalize (a0.map some ++ List.replicate a2.length none : List (Option (Int))) = A at hA0 hA1 hA2
  refine wk_ ⟨[(0, .own 1024000 0 1 (A.map (eo eI 1))), (1, iV i), (2, .own 2097152 0 1 (a2.map eI)), (7, iV (a2.length : Int)), (8, iV (a0.length : Int))], [], []⟩ (fg ⟨rfl, rfl, rfl, rfl, rfl, tv⟩ tv) (seq_ (seq_ (reg_ (st (mv_ rfl tv (st (mv_ rfl tv (st (mv_ rfl tv (st (mv_ rfl tv (st (c_ (cp_ (v := iV ((i + a2.length : Nat) : Int)) ⟨tv, tv, tv⟩ (congrArg (fun z => some (True, V.int .i64 z)) w2) tv) (st (c_ (csliceO (e := eo eI 1) (y := A.drop (i + a2.length)) rfl rfl tv ⟨tv, tv⟩ rfl rfl (slcD A (i + a2.length) (by omega))) (st (c_ (covl rfl rfl (by decide) hemp2 (fun e1 => ?_)) ?_)))))))))))))))))
  ·have := congrArg List.length e1
   simp at this
   omega
  refine st (c_ (cp_ ⟨tv, tv⟩ rfl tv) (oe_ (wk_ ⟨[(68, .bool true), (0, .own 1024000 0 1 (A.map (eo eI 1))), (1, iV i), (2, .own 2097152 0 1 (a2.map eI)), (7, iV (a2.length : Int)), (8, iV (a0.length : Int))], [], []⟩ (fg ⟨rfl, rfl, rfl, rfl, rfl, rfl, tv⟩ tv) (ite_ (cb := true) rfl (fun _ => (seq_ (draw_ (dtake tv (mv_ rfl tv (⟨tv, (dtake tv (mv_ rfl tv (⟨tv, (dtake tv (mv_ rfl tv (⟨tv, (dtake tv (c_ (cp_ (v := iV ((i + a2.length : Nat) : Int)) ⟨tv, tv, tv⟩ (congrArg (fun z => some (True, V.int .i64 z)) w2) tv) (⟨tv, (dtake tv (c_ (csliceO (e := eo eI 1) (y := A.drop (i + a2.length)) rfl rfl tv ⟨tv, tv⟩ rfl rfl (slcD A (i + a2.length) (by omega))) (⟨tv, (dtake tv (mv_ rfl tv (⟨tv, (dtake tv (mv_ rfl tv (⟨tv, (dtake tv (c_ (csliceO (e := eo eI 1) (y := A.drop i) rfl rfl tv ⟨tv, tv⟩ rfl rfl (slcD A i (by omega))) (⟨tv, (dalt (copy_ (e := eo eI 1) (l0 := A.drop (i + a2.length)) (l1 := A.drop i) (t := 1024000) rfl rfl tv rfl (dk0 ⟨[], tv, tv, (dfin ?_)⟩)) dstop)⟩)))⟩)))⟩)))⟩)))⟩)))⟩)))⟩)))⟩)))))) (fun h => by cases h)))))
  have hB : (A.drop i).take (A.drop (i + a2.length)).length = (a0.drop i).map some := by
   rw [← hA2]; congr 1; simp; omega
  rw [hB]
  refine wk_ ⟨[(0, .own 1024000 0 1 ((ovl A (i + a2.length) ((a0.drop i).map some)).map (eo eI 1))), (1, iV i), (2, .own 2097152 0 1 (a2.map eI))], [], []⟩ (fg ⟨congrArg (fun z => some (V.own 1024000 0 1 z)) (overlay_ovl (off := 0)), rfl, rfl, tv⟩ tv) ?_
  have hR2l : (ovl A (i + a2.length) ((a0.drop i).map some)).length = a0.length + a2.length := by rw [ovl_len, hA0]
  have hfin : ovl (ovl A (i + a2.length) ((a0.drop i).map some)) i (a2.map some) = (a0.take i ++ a2 ++ a0.drop i).map some := ovl_ins2 hA0 hA1 hi
  generalize ovl A (i + a2.length) ((a0.drop i).map some) = R2 at hR2l hfin
  refine seq_ (reg_ (st (mv_ rfl tv (st (mv_ rfl tv (st (c_ (csliceO (e := eo eI 1) (y := R2.drop i) rfl rfl tv ⟨tv, tv⟩ rfl rfl (slcD R2 i (by omega))) (st (mv_ rfl tv (st (copy_ (e := eo eI 1) (l0 := R2.drop i) (l1 := a2.map some) (t := 1024000) rfl rfl tv (congrArg (fun z => some (1, z)) (eo_some a2)) (oe_ ?_))))))))))))
  have hT : (a2.map some).take (R2.drop i).length = a2.map some := List.take_of_length_le (by simp; omega)
  rw [hT]
  refine wk_ ⟨[(0, .own 1024000 0 1 ((a0.take i ++ a2 ++ a0.drop i).map eI)), (2, .own 2097152 0 1 (a2.map eI))], [], []⟩
   (fg ⟨(congrArg (fun z => some (V.own 1024000 0 1 z)) (overlay_ovl (off := 0))).trans (congrArg (fun z => some (V.own 1024000 0 1 z)) ((congrArg (List.map (eo eI 1)) hfin).trans (eo_some _).symm)), rfl, tv⟩ tv) ?_
  refine seq_ (reg_ (st (mv_ rfl tv (st (mv_ rfl tv (oe_ (w0_ ?_)))))))
  exact rt_ (ret_ rfl rfl rfl rfl rfl ⟨⟨rfl, mlen (fun _ => rfl)⟩, tv⟩)


/- slices.Delete[[]int,int] -/
def c123_r0 : List Ins := [⟨some 6, .nilS 1, none⟩]
def c123_r1 : List Ins := [(iQ 8 (.mv (.t 0))),
(iQ 9 (.mv (.t 1))),
(iQ 10 (.mv (.t 2))),
(iQ 11 (.mv (.t 0))),
(iQ 12 (.len (.t 11))),
⟨some 13, .chk3 (.t 8) (.t 9) (.t 10) (.t 12), none⟩]
def c123_r2 : List Ins := [(iQ 14 (.mv (.t 1))),
(iQ 15 (.mv (.t 2))),
(iQ 16 (.bin .eql (.t 14) (.t 15)))]
def c123_r3 : List Ins := [(iQ 17 (.mv (.t 0))),
(iQ 6 (.mv (.t 17)))]
def c123_r4 : List Ins := [(iQ 18 (.mv (.t 0))),
(iQ 19 (.len (.t 18))),
(iQ 7 (.mv (.t 19)))]
def c123_r5 : DP := (.take (iQ 20 (.mv (.t 0)))
(.take (iQ 21 (.mv (.t 1)))
(.take ⟨some 22, .p (.slice (.t 20) none (some (.t 21)) 1), none⟩
(.take (iQ 23 (.mv (.t 0)))
(.take (iQ 24 (.mv (.t 2)))
(.take ⟨some 25, .p (.slice (.t 23) (some (.t 24)) none 1), none⟩
(.alt [] ⟨some 26, .app 1 8 (.t 22) (.t 25), none⟩
(.alt [] (iQ 0 (.mv (.t 26)))
.fin
.stop)
.stop)))))))
def c123_r6 : List Ins := [(iQ 27 (.mv (.t 0))),
(iQ 28 (.mv (.t 0))),
(iQ 29 (.len (.t 28))),
(iQ 30 (.mv (.t 7))),
⟨some 31, .p (.slice (.t 27) (some (.t 29)) (some (.t 30)) 1), none⟩,
⟨none, .clear 1 [(iV 0)] (.t 31), none⟩]
def c123_r7 : List Ins := [(iQ 32 (.mv (.t 0))),
(iQ 6 (.mv (.t 32)))]
def c123 : XFn := { np := 3, nt := 33, res := [.t 6], body := (.seq (.reg c123_r0) (.seq (.reg c123_r1) (.seq (.seq (.reg c123_r2) (.ite (.t 16) (.seq (.reg c123_r3) .ret) .skip)) (.seq (.reg c123_r4) (.seq (.draw c123_r5) (.seq (.reg c123_r6) (.seq (.reg c123_r7) .ret))))))) }
def K123 (C : CRel) : Prop := ∀ (a0 : List Int) (a1 : Int) (a2 : Int) (r : List Int), g123 a0 a1 a2 = some r → C 123 ⟨[.own 1024000 0 1 (a0.map eI), iV a1, iV a2], []⟩ ⟨.own 0 0 1 (r.map eI), [], []⟩
theorem F123 {C : CRel} (a0 : List Int) (a1 : Int) (a2 : Int) (r : List Int) (h0 : g123 a0 a1 a2 = some r) : FnOK C c123 ⟨[.own 1024000 0 1 (a0.map eI), iV a1, iV a2], []⟩ ⟨.own 0 0 1 (r.map eI), [], []⟩ := by
 refine fn_ (nl rfl) ?_
 obtain ⟨⟨hb, hl⟩, h0⟩ := grd h0
 obtain rfl := Option.some.inj h0
 obtain ⟨i, rfl⟩ := Int.eq_ofNat_of_zero_le hb.1
 obtain ⟨j, rfl⟩ := Int.eq_ofNat_of_zero_le (Int.le_trans hb.1 hb.2.1)
 have hij : i ≤ j := by omega
 have hx63 : (a0.length : Int) < xcap := by have := hl; simp only [xcap]; omega
 have hj : j ≤ a0.length := by omega
 rw [show ((i : Nat) : Int).toNat = i from rfl, show ((j : Nat) : Int).toNat = j from rfl]
 refine seq_ (reg_ (st (nilS_ (oe_ (wk_ ⟨[(0, .own 1024000 0 1 (a0.map eI)), (1, iV i), (2, iV j)], [], []⟩ (fg ⟨rfl, rfl, rfl, tv⟩ tv) (seq_ (reg_ (st (mv_ rfl tv (st (mv_ rfl tv (st (mv_ rfl tv (st (mv_ rfl tv (st (c_ (clenO (e := eI) (l0 := a0) rfl rfl tv) (st (chk3O (e := eI) (l0 := a0) rfl rfl rfl rfl ⟨by omega, by omega, by omega, Int.le_refl _⟩ (oe_ (wk_ ⟨[(0, .own 1024000 0 1 (a0.map eI)), (1, iV i), (2, iV j)], [], []⟩ (fg ⟨rfl, rfl, rfl, tv⟩ tv) (seq_ (seq_ (reg_ (st (mv_ rfl tv (st (mv_ rfl tv (st (c_ (cp_ t3 rfl tv) (oe_ (w0_ (ite_ (cb := (i : Int) == (j : Int)) rfl (fun h => ?_) (fun h => ?_))))))))))))))))))))))))))))))))))
 ·have e1 : i = j := by have := eq_of_beq h; omega
  subst e1
  rw [List.take_append_drop]
  refine seq_ (reg_ (st (mv_ rfl tv (st (mv_ rfl tv (oe_ (w0_ ?_)))))))
  exact rt_ (ret_ rfl rfl rfl rfl rfl tv)
 ·have hne : i ≠ j := fun e1 => by subst e1; simp at h
  have hemp : a0.map eI ≠ [] := fun e1 => by
   have := congrArg List.length e1
   simp at this
   subst this
   simp at hj
   omega
  refine sk_ (wk_ ⟨[(0, .own 1024000 0 1 (a0.map eI)), (1, iV i), (2, iV j)], [], []⟩ (fg ⟨rfl, rfl, rfl, tv⟩ tv) (seq_ (reg_ (st (mv_ rfl tv (st (c_ (clenO (e := eI) (l0 := a0) rfl rfl tv) (st (mv_ rfl tv (oe_ (wk_ ⟨[(0, .own 1024000 0 1 (a0.map eI)), (1, iV i), (2, iV j), (7, iV (a0.length : Int))], [], [(0, (a0.length : Int))]⟩ (fgc ⟨rfl, rfl, rfl, rfl, tv⟩ tv ⟨.inr (.inl ⟨_, _, _, _, rfl, hemp, by simp, hx63⟩), tv⟩) (seq_ (draw_ (dtake tv (mv_ rfl tv (⟨tv, (dtake tv (mv_ rfl tv (⟨tv, (dtake tv (c_ (csliceO (e := eI) (y := a0.take i) rfl rfl tv ⟨tv, tv⟩ rfl rfl (by rw [show (none : Option Int).getD 0 = ((0 : Nat) : Int) from rfl]; exact slcN a0 0 i (by omega) (by omega))) (⟨tv, (dtake tv (mv_ rfl tv (⟨tv, (dtake tv (mv_ rfl tv (⟨tv, (dtake tv (c_ (csliceO (e := eI) (y := a0.drop j) rfl rfl tv ⟨tv, tv⟩ rfl rfl (slcD a0 j hj)) (⟨tv, (dalt (appc_ (e := eI) (l0 := a0.take i) (l1 := a0.drop j) (t := 1024000) (sz := 1) (vy := .own 1024000 (0 + j) 1 ((a0.drop j).map eI)) (c := (a0.length : Int) - 0) rfl rfl tv rfl (show (1024000 : Nat) < 1048576 by decide) ?_ rfl ?_ ?_) dstop)⟩)))⟩)))⟩)))⟩)))⟩)))⟩))))))))))))))))
  ·have : (a0.take i).length + (a0.drop j).length ≤ a0.length := by simp; omega
   exact Nat.le_trans (Nat.mul_le_mul_right 8 this) (Nat.le_trans (Nat.mul_le_mul_right 8 hl) (by decide))
  ·rw [lowC_lt (show (a0.length : Int) - 0 < xcap by omega)]; simp; omega
  refine dk0 ⟨[], tv, tv, (dalt (mv_ rfl tv (dk0 ⟨[], tv, tv, (dfin ?_)⟩)) dstop)⟩
  generalize hR : a0.take i ++ a0.drop j = R
  have hRl : R.length ≤ a0.length := by rw [← hR]; simp; omega
  refine wk_ ⟨[(0, .own 1024000 0 1 (R.map eI)), (7, iV (a0.length : Int))], [], [(0, (a0.length : Int) - 0)]⟩ (fgc ⟨rfl, rfl, tv⟩ tv ⟨.inl ⟨_, rfl, .inl rfl⟩, tv⟩) (seq_ (reg_ (st (mv_ rfl tv (st (mv_ rfl tv (st (c_ (clenO (e := eI) (l0 := R) rfl rfl tv) (st (mv_ rfl tv (st (c_ (sliceRoom (e := eI) (R := R) (t := 1024000) (sz := 1) (L := R.length) (H := a0.length) (c := (a0.length : Int) - 0) rfl rfl rfl rfl hRl (show (0 : Nat) < 1 by decide) rfl (by rw [lowC_lt (show (a0.length : Int) - 0 < xcap by omega)]; omega)) (st (clearAt_ rfl (oe_ (wk_ ⟨[(0, .own 1024000 0 1 (R.map eI))], [], []⟩ (fg ⟨past1 (Nat.le_refl _), tv⟩ tv) (seq_ (reg_ (st (mv_ rfl tv (st (mv_ rfl tv (oe_ (w0_ ?_))))))))))))))))))))))))
  exact rt_ (ret_ rfl rfl rfl rfl rfl tv)

/- loop.example/g00149/impl.call -/
def c89_r0 : List Ins := [⟨some 8, .nilS 1, none⟩,
⟨some 9, .p (.mv (.c (iV 0))), none⟩]
def c89_r1 : List Ins := [(iQ 13 (.mv (.t 0))),
⟨some 14, .call 120 [(.t 13)], none⟩,
(iQ 10 (.mv (.t 14)))]
def c89_r2 : List Ins := [(iQ 15 (.mv (.t 3))),
⟨some 16, .p (.bin .eql (.t 15) (.c (iV 1))), none⟩]
def c89_r3 : List Ins := [(iQ 17 (.mv (.t 10))),
(iQ 8 (.mv (.t 17))),
⟨some 9, .p (.mv (.c (iV 13))), none⟩]
def c89_r4 : List Ins := [(iQ 19 (.mv (.t 10))),
(iQ 20 (.mv (.t 1))),
⟨some 21, .call 121 [(.t 19), (.t 20)], none⟩,
(iQ 18 (.mv (.t 21))),
(iQ 22 (.ext (.t 18) 0)),
(iQ 23 (.ext (.t 18) 1)),
(iQ 11 (.mv (.t 22))),
(iQ 12 (.mv (.t 23)))]
def c89_r5 : List Ins := [(iQ 25 (.mv (.t 2))),
(iQ 26 (.mv (.t 25))),
⟨some 27, .p (.mv (.t 12)), some (26, true)⟩,
⟨some 28, .p (.un .not (.t 27)), some (26, true)⟩,
⟨some 29, .pick (.t 26) (.t 28) (.c (.bool false)), none⟩,
(iQ 24 (.mv (.t 29)))]
def c89_r6 : List Ins := [(iQ 30 (.mv (.t 10))),
(iQ 31 (.mv (.t 11))),
(iQ 32 (.mv (.t 1))),
⟨some 33, .mkS 1 [(iV 0)] 1 [(0, (.t 32))], none⟩,
⟨some 34, .call 122 [(.t 30), (.t 31), (.t 33)], none⟩,
(iQ 10 (.mv (.t 34)))]
def c89_r7 : List Ins := [(iQ 36 (.mv (.t 2))),
(iQ 37 (.un .not (.t 36))),
(iQ 38 (.mv (.t 37))),
⟨some 39, .p (.mv (.t 12)), some (38, true)⟩,
⟨some 40, .pick (.t 38) (.t 39) (.c (.bool false)), none⟩,
(iQ 35 (.mv (.t 40)))]
def c89_r8 : List Ins := [(iQ 41 (.mv (.t 10))),
(iQ 42 (.mv (.t 11))),
(iQ 43 (.mv (.t 11))),
⟨some 44, .p (.bin .add (.t 43) (.c (iV 1))), none⟩,
⟨some 45, .call 123 [(.t 41), (.t 42), (.t 44)], none⟩,
(iQ 10 (.mv (.t 45)))]
def c89_r9 : List Ins := [(iQ 46 (.mv (.t 3))),
⟨some 47, .p (.bin .eql (.t 46) (.c (iV 2))), none⟩]
def c89_r10 : List Ins := [(iQ 48 (.mv (.t 10))),
(iQ 8 (.mv (.t 48))),
⟨some 9, .p (.mv (.c (iV 15))), none⟩]
def c89_r11 : List Ins := [(iQ 49 (.mv (.t 10))),
(iQ 8 (.mv (.t 49))),
⟨some 9, .p (.mv (.c (iV 0))), none⟩]
def c89 : XFn := { np := 4, nt := 50, res := [.t 8, .t 9], body := (.seq (.reg c89_r0) (.seq (.reg c89_r1) (.seq (.seq (.reg c89_r2) (.ite (.t 16) (.seq (.reg c89_r3) .ret) .skip)) (.seq (.reg c89_r4) (.seq (.block 0 (.seq (.reg c89_r5) (.ite (.t 24) (.reg c89_r6) (.seq (.reg c89_r7) (.ite (.t 35) (.reg c89_r8) .skip))))) (.seq (.seq (.reg c89_r9) (.ite (.t 47) (.seq (.reg c89_r10) .ret) .skip)) (.seq (.reg c89_r11) .ret))))))) }
def K89 (C : CRel) : Prop := ∀ (a0 : List Int) (a1 : Int) (a2 : Bool) (a3 : Int) (r : (List Int) × Int), g89 a0 a1 a2 a3 = some r → C 89 ⟨[.lst 1 (a0.map eI), iV a1, .bool a2, iV a3], []⟩ ⟨.tup [.own 0 0 1 (r.1.map eI), iV r.2], [], []⟩
theorem F89 {C : CRel} (H120 : K120 C) (H121 : K121 C) (H122 : K122 C) (H123 : K123 C) (a0 : List Int) (a1 : Int) (a2 : Bool) (a3 : Int) (r : (List Int) × Int) (h0 : g89 a0 a1 a2 a3 = some r) : FnOK C c89 ⟨[.lst 1 (a0.map eI), iV a1, .bool a2, iV a3], []⟩ ⟨.tup [.own 0 0 1 (r.1.map eI), iV r.2], [], []⟩ := by
 refine fn_ (nl rfl) (seq_ (reg_ (st (nilS_ (st (mvc_ tv (oe_ (wk_ ⟨[(0, .lst 1 (a0.map eI)), (1, iV a1), (2, .bool a2), (3, iV a3)], [], []⟩ (fgk (by kernel_rfl)) (seq_ (reg_ (st (mv_ rfl tv ?_))))))))))))
 obtain ⟨r1, e2, h0⟩ := bnd h0
 refine st (call0_ (r := .own 0 0 1 (r1.map eI)) false (H120 a0 r1 e2) ⟨tv, tv⟩ rfl rfl (fun _ => (and_ (fl1 (fun _ => rfl)) rfl)) (st (mv_ rfl tv (oe_ (wk_ ⟨[(1, iV a1), (2, .bool a2), (3, iV a3), (10, .own 896 0 1 (r1.map eI))], [], []⟩ (fgk (by kernel_rfl)) (seq_ (seq_ (reg_ (st (mv_ rfl tv (st (c_ (cp_ t3 rfl tv) (oe_ (wk_ ⟨[(1, iV a1), (2, .bool a2), (3, iV a3), (10, .own 896 0 1 (r1.map eI)), (16, .bool (a3 == 1))], [], []⟩ (fgk (by kernel_rfl)) (ite_ (cb := (a3 == 1)) rfl (fun c3 => ?_) (fun c3 => ?_))))))))))))))))
 ·replace h0 := ip c3 h0
  refine seq_ (reg_ (st (mv_ rfl tv (st (mv_ rfl tv (st (mvc_ tv (oe_ (wk_ ⟨[(8, .own 896 0 1 (r1.map eI)), (9, iV 13)], [], []⟩ (fgk (by kernel_rfl)) ?_)))))))))
  obtain rfl := Option.some.inj h0
  exact rt_ (ret_ rfl rfl rfl rfl rfl tv)
 ·replace h0 := inb c3 h0
  refine sk_ (wk_ ⟨[(1, iV a1), (2, .bool a2), (3, iV a3), (10, .own 896 0 1 (r1.map eI))], [], []⟩ (fgk (by kernel_rfl)) (seq_ (reg_ (st (mv_ rfl tv (st (mv_ rfl tv ?_)))))))
  obtain ⟨r4, e5, h0⟩ := bnd h0
  refine st (call0_ (r := .tup [iV r4.1, .bool r4.2]) false (H121 r1 a1 r4 e5) ⟨tv, tv, tv⟩ rfl rfl (fun _ => rfl) (st (mv_ rfl tv (st (c_ (cp_ ⟨tv, tv⟩ rfl tv) (st (c_ (cp_ ⟨tv, tv⟩ rfl tv) (st (mv_ rfl tv (st (mv_ rfl tv (oe_ (wk_ ⟨[(1, iV a1), (2, .bool a2), (3, iV a3), (10, .own 896 0 1 (r1.map eI)), (11, iV r4.1), (12, .bool r4.2)], [], []⟩ (fgk (by kernel_rfl)) (seq_ (blockJ (fun S => ∃ p13 : List Int, S = ⟨[(3, iV a3), (10, .own 2176 0 1 (p13.map eI))], [], []⟩ ∧ g89_j0 a3 p13 = some r) ?_ (fun J15 => ?_))))))))))))))))
  ·rintro _ ⟨p13, rfl, h0⟩
   refine wk_ ⟨[(3, iV a3), (10, .own 2176 0 1 (p13.map eI))], [], []⟩ (fgk (by kernel_rfl)) (seq_ (seq_ (reg_ (st (mv_ rfl tv (st (c_ (cp_ t3 rfl tv) (oe_ (wk_ ⟨[(10, .own 2176 0 1 (p13.map eI)), (47, .bool (a3 == 2))], [], []⟩ (fgk (by kernel_rfl)) (ite_ (cb := (a3 == 2)) rfl (fun c14 => ?_) (fun c14 => ?_)))))))))))
   ·replace h0 := ip c14 h0
    refine seq_ (reg_ (st (mv_ rfl tv (st (mv_ rfl tv (st (mvc_ tv (oe_ (wk_ ⟨[(8, .own 2176 0 1 (p13.map eI)), (9, iV 15)], [], []⟩ (fgk (by kernel_rfl)) ?_)))))))))
    obtain rfl := Option.some.inj h0
    exact rt_ (ret_ rfl rfl rfl rfl rfl tv)
   ·replace h0 := inb c14 h0
    refine sk_ (wk_ ⟨[(10, .own 2176 0 1 (p13.map eI))], [], []⟩ (fgk (by kernel_rfl)) (seq_ (reg_ (st (mv_ rfl tv (st (mv_ rfl tv (st (mvc_ tv (oe_ (wk_ ⟨[(8, .own 2176 0 1 (p13.map eI)), (9, iV 0)], [], []⟩ (fgk (by kernel_rfl)) ?_)))))))))))
    obtain rfl := Option.some.inj h0
    exact rt_ (ret_ rfl rfl rfl rfl rfl tv)
  ·refine seq_ ?_
   refine reg_ (st (mv_ rfl tv (st (mv_ rfl tv (st (pg_ (u := .bool r4.2) rfl (fun hg => (cmv (v := .bool r4.2) rfl tv)) (st (pg_ (u := .bool (!r4.2)) rfl (fun hg => (cp_ ⟨(fun _ => hg), tv⟩ rfl tv)) (st (pick_ rfl rfl rfl (fun h => eqt h) tv rfl (st (mv_ rfl tv (oe_ (wk_ ⟨[(1, iV a1), (2, .bool a2), (3, iV a3), (10, .own 896 0 1 (r1.map eI)), (11, iV r4.1), (12, .bool r4.2), (24, .bool (bif a2 then (!r4.2) else false))], [], []⟩ (fgk (by kernel_rfl)) (ite_ (cb := (bif a2 then (!r4.2) else false)) rfl (fun c16 => ?_) (fun c16 => ?_))))))))))))))))
   ·replace h0 := ip c16 h0
    refine reg_ (st (mv_ rfl tv (st (mv_ rfl tv (st (mv_ rfl tv (st (mkS_ ⟨tv, tv⟩ ⟨⟨nl rfl, rfl, rfl⟩, tv⟩ ?_))))))))
    obtain ⟨r17, e18, h0⟩ := bnd h0
    obtain ⟨c19, h0⟩ := grd h0
    refine st (call1_ [] [2112] [896] false (H122 r1 r4.1 ([a1] : List Int) r17 e18) ⟨tv, tv, tv, tv⟩ (by kernel_rfl) (by kernel_rfl) (by kernel_rfl) (by kernel_rfl) (fun _ => and_ (and_ (fl1 (fun _ => rfl)) rfl) (and_ (fl2 (fun _ => rfl)) rfl)) (sw ⟨[(3, iV a3), (34, .own 2176 0 1 (r17.1.map eI))], [], []⟩ (fgk (by kernel_rfl)) (mv_ rfl tv (oe_ (bn_ ?_)))))
    exact J15 _ ⟨[(3, iV a3), (10, .own 2176 0 1 (r17.1.map eI))], [], []⟩ (fgk (by kernel_rfl)) ⟨_, rfl, h0⟩
   ·replace h0 := inb c16 h0
    refine seq_ (reg_ (st (mv_ rfl tv (st (c_ (cp_ ⟨tv, tv⟩ rfl tv) (st (mv_ rfl tv (st (pg_ (u := .bool r4.2) rfl (fun hg => (cmv (v := .bool r4.2) rfl tv)) (st (pick_ rfl rfl rfl (fun h => eqt h) tv rfl (st (mv_ rfl tv (oe_ (wk_ ⟨[(3, iV a3), (10, .own 896 0 1 (r1.map eI)), (11, iV r4.1), (35, .bool (bif (!a2) then r4.2 else false))], [], []⟩ (fgk (by kernel_rfl)) (ite_ (cb := (bif (!a2) then r4.2 else false)) rfl (fun c20 => ?_) (fun c20 => ?_)))))))))))))))))
    ·replace h0 := ip c20 h0
     refine reg_ (st (mv_ rfl tv (st (mv_ rfl tv (st (mv_ rfl tv (st (c_ (cp_ t3 rfl tv) ?_))))))))
     obtain ⟨r21, e22, h0⟩ := bnd h0
     refine st (call1_ [] [] [896] false (H123 r1 r4.1 (IntKind.i64.wrap (r4.1 + 1)) r21 e22) ⟨tv, tv, tv, tv⟩ (by kernel_rfl) (by kernel_rfl) (by kernel_rfl) (by kernel_rfl) (fun _ => and_ (and_ (fl1 (fun _ => rfl)) rfl) rfl) (sw ⟨[(3, iV a3), (45, .own 2880 0 1 (r21.map eI))], [], []⟩ (fgk (by kernel_rfl)) (mv_ rfl tv (oe_ (bn_ ?_)))))
     exact J15 _ ⟨[(3, iV a3), (10, .own 2176 0 1 (r21.map eI))], [], []⟩ (fgsk [] [(2880, 2176)] rfl (by kernel_rfl)) ⟨_, rfl, h0⟩
    ·replace h0 := inb c20 h0
     refine sk_ (bn_ ?_)
     exact J15 _ ⟨[(3, iV a3), (10, .own 2176 0 1 (r1.map eI))], [], []⟩ (fgsk [] [(896, 2176)] rfl (by kernel_rfl)) ⟨_, rfl, h0⟩

/- loop.example/g00149/impl.CallTarget -/
def c44_r0 : List Ins := [⟨some 8, .nilS 1, none⟩,
⟨some 9, .p (.mv (.c (iV 0))), none⟩]
def c44_r1 : List Ins := [(iQ 11 (.mv (.t 0))),
⟨some 12, .call 87 [(.t 11)], none⟩,
(iQ 13 (.un .not (.t 12))),
(iQ 10 (.mv (.t 13)))]
def c44_r2 : List Ins := [⟨some 8, .nilS 1, none⟩,
⟨some 9, .p (.mv (.c (iV 2))), none⟩]
def c44_r3 : List Ins := [(iQ 15 (.mv (.t 0))),
⟨some 16, .call 59 [(.t 15), (.c (iV 1)), (.c (iV 1000000))], none⟩,
(iQ 17 (.un .not (.t 16))),
(iQ 18 (.mv (.t 17))),
⟨some 19, .p (.mv (.t 1)), some (18, false)⟩,
⟨some 20, .call 58 [(.t 19)], some (18, false)⟩,
⟨some 21, .p (.un .not (.t 20)), some (18, false)⟩,
⟨some 22, .pick (.t 18) (.c (.bool true)) (.t 21), none⟩,
(iQ 14 (.mv (.t 22)))]
def c44_r4 : List Ins := [⟨some 8, .nilS 1, none⟩,
⟨some 9, .p (.mv (.c (iV 1))), none⟩]
def c44_r5 : List Ins := [(iQ 24 (.mv (.t 3))),
⟨some 25, .call 88 [(.t 24)], none⟩,
(iQ 26 (.un .not (.t 25))),
(iQ 23 (.mv (.t 26)))]
def c44_r6 : List Ins := [⟨some 8, .nilS 1, none⟩,
⟨some 9, .p (.mv (.c (iV 4))), none⟩]
def c44_r7 : List Ins := [(iQ 27 (.mv (.t 0))),
(iQ 28 (.mv (.t 1))),
(iQ 29 (.mv (.t 2))),
(iQ 30 (.mv (.t 3))),
⟨some 31, .call 89 [(.t 27), (.t 28), (.t 29), (.t 30)], none⟩,
(iQ 32 (.ext (.t 31) 0)),
(iQ 33 (.ext (.t 31) 1)),
(iQ 8 (.mv (.t 32))),
(iQ 9 (.mv (.t 33)))]
def c44 : XFn := { np := 4, nt := 34, res := [.t 8, .t 9], body := (.seq (.reg c44_r0) (.seq (.block 0 (.seq (.reg c44_r1) (.ite (.t 10) (.seq (.reg c44_r2) .ret) (.seq (.reg c44_r3) (.ite (.t 14) (.seq (.reg c44_r4) .ret) (.seq (.reg c44_r5) (.ite (.t 23) (.seq (.reg c44_r6) .ret) .skip))))))) (.seq (.reg c44_r7) .ret))) }
def K44 (C : CRel) : Prop := ∀ (a0 : List Int) (a1 : Int) (a2 : Bool) (a3 : Int) (r : (List Int) × Int), g44 a0 a1 a2 a3 = some r → C 44 ⟨[.lst 1 (a0.map eI), iV a1, .bool a2, iV a3], []⟩ ⟨.tup [.own 0 0 1 (r.1.map eI), iV r.2], [], []⟩
theorem F44 {C : CRel} (H58 : K58 C) (H59 : K59 C) (H87 : K87 C) (H88 : K88 C) (H89 : K89 C) (a0 : List Int) (a1 : Int) (a2 : Bool) (a3 : Int) (r : (List Int) × Int) (h0 : g44 a0 a1 a2 a3 = some r) : FnOK C c44 ⟨[.lst 1 (a0.map eI), iV a1, .bool a2, iV a3], []⟩ ⟨.tup [.own 0 0 1 (r.1.map eI), iV r.2], [], []⟩ := by
 refine fn_ (nl rfl) (seq_ (reg_ (st (nilS_ (st (mvc_ tv (oe_ (wk_ ⟨[(0, .lst 1 (a0.map eI)), (1, iV a1), (2, .bool a2), (3, iV a3)], [], []⟩ (fgk (by kernel_rfl)) (seq_ (block_ (seq_ (reg_ (st (mv_ rfl tv ?_))))))))))))))
 obtain ⟨r1, e2, h0⟩ := bnd h0
 refine st (call0_ (r := .bool r1) false (H87 a0 r1 e2) ⟨tv, tv⟩ rfl rfl (fun _ => rfl) (st (c_ (cp_ ⟨tv, tv⟩ rfl tv) (st (mv_ rfl tv (oe_ (wk_ ⟨[(0, .lst 1 (a0.map eI)), (1, iV a1), (2, .bool a2), (3, iV a3), (10, .bool (!r1))], [], []⟩ (fgk (by kernel_rfl)) (ite_ (cb := (!r1)) rfl (fun c3 => ?_) (fun c3 => ?_)))))))))
 ·replace h0 := ip c3 h0
  refine seq_ (reg_ (st (nilS_ (st (mvc_ tv (oe_ (wk_ ⟨[(8, .own 512 0 1 ([].map eI)), (9, iV 2)], [], []⟩ (fgk (by kernel_rfl)) ?_)))))))
  obtain rfl := Option.some.inj h0
  exact rt_ (ret_ rfl rfl rfl rfl rfl tv)
 ·replace h0 := inb c3 h0
  refine seq_ (reg_ (st (mv_ rfl tv ?_)))
  obtain ⟨r4, e5, h0⟩ := bnd h0
  refine st (call0_ (r := .bool r4) false (H59 a0 1 1000000 r4 e5) ⟨tv, tv, tv, tv⟩ rfl rfl (fun _ => rfl) (st (c_ (cp_ ⟨tv, tv⟩ rfl tv) (st (mv_ rfl tv (st (pg_ (u := iV a1) rfl (fun hg => (cmv (v := iV a1) rfl tv)) ?_)))))))
  obtain ⟨r6, e7, h0⟩ := bnd h0
  refine sw ⟨[(0, .lst 1 (a0.map eI)), (1, iV a1), (2, .bool a2), (3, iV a3), (18, .bool (!r4)), (19, .may ((!r4) == false) (iV a1))], [], []⟩ (fgk (by kernel_rfl)) (callg_ (r := .bool r6) rfl false (fun hg => H58 a1 r6 (ip hg e7)) ⟨(fun hg => hg), tv⟩ (fun _ => rfl) (fun _ => rfl) (fun _ => rfl) (fun h => nomatch h) (st (pg_ (u := .bool (!r6)) rfl (fun hg => (cp_ ⟨(fun _ => hg), tv⟩ rfl tv)) (st (pick_ rfl rfl rfl tv (fun h => eqf h) rfl (st (mv_ rfl tv (oe_ (wk_ ⟨[(0, .lst 1 (a0.map eI)), (1, iV a1), (2, .bool a2), (3, iV a3), (14, .bool (bif (!r4) then true else (!r6)))], [], []⟩ (fgk (by kernel_rfl)) (ite_ (cb := (bif (!r4) then true else (!r6))) rfl (fun c8 => ?_) (fun c8 => ?_)))))))))))
  ·replace h0 := ip c8 h0
   refine seq_ (reg_ (st (nilS_ (st (mvc_ tv (oe_ (wk_ ⟨[(8, .own 512 0 1 ([].map eI)), (9, iV 1)], [], []⟩ (fgk (by kernel_rfl)) ?_)))))))
   obtain rfl := Option.some.inj h0
   exact rt_ (ret_ rfl rfl rfl rfl rfl tv)
  ·replace h0 := inb c8 h0
   refine seq_ (reg_ (st (mv_ rfl tv ?_)))
   obtain ⟨r9, e10, h0⟩ := bnd h0
   refine st (call0_ (r := .bool r9) false (H88 a3 r9 e10) ⟨tv, tv⟩ rfl rfl (fun _ => rfl) (st (c_ (cp_ ⟨tv, tv⟩ rfl tv) (st (mv_ rfl tv (oe_ (wk_ ⟨[(0, .lst 1 (a0.map eI)), (1, iV a1), (2, .bool a2), (3, iV a3), (23, .bool (!r9))], [], []⟩ (fgk (by kernel_rfl)) (ite_ (cb := (!r9)) rfl (fun c11 => ?_) (fun c11 => ?_)))))))))
   ·replace h0 := ip c11 h0
    refine seq_ (reg_ (st (nilS_ (st (mvc_ tv (oe_ (wk_ ⟨[(8, .own 512 0 1 ([].map eI)), (9, iV 4)], [], []⟩ (fgk (by kernel_rfl)) ?_)))))))
    obtain rfl := Option.some.inj h0
    exact rt_ (ret_ rfl rfl rfl rfl rfl tv)
   ·replace h0 := inb c11 h0
    refine sk_ (bn_ (wk_ ⟨[(0, .lst 1 (a0.map eI)), (1, iV a1), (2, .bool a2), (3, iV a3)], [], []⟩ (fgk (by kernel_rfl)) (seq_ (reg_ (st (mv_ rfl tv (st (mv_ rfl tv (st (mv_ rfl tv (st (mv_ rfl tv ?_))))))))))))
    obtain ⟨r12, e13, h0⟩ := bnd h0
    refine st (call0_ (r := .tup [.own 0 0 1 (r12.1.map eI), iV r12.2]) false (H89 a0 a1 a2 a3 r12 e13) ⟨tv, tv, tv, tv, tv⟩ rfl rfl (fun _ => (and_ (fl1 (fun _ => rfl)) (and_ rfl rfl))) (st (c_ (cp_ ⟨tv, tv⟩ rfl tv) (st (c_ (cp_ ⟨tv, tv⟩ rfl tv) (st (mv_ rfl tv (st (mv_ rfl tv (oe_ (wk_ ⟨[(8, .own 1984 0 1 (r12.1.map eI)), (9, iV r12.2)], [], []⟩ (fgk (by kernel_rfl)) ?_)))))))))))
    obtain rfl := Option.some.inj h0
    exact rt_ (ret_ rfl rfl rfl rfl rfl tv)

/- loop.example/g00149/laws.FnExactCallTarget -/
def c12_r0 : List Ins := [⟨some 8, .p (.mv (.c (.bool false))), none⟩]
def c12_r1 : List Ins := [(iQ 19 (.mv (.t 0))),
(iQ 20 (.len (.t 19))),
⟨some 21, .p (.bin .gtr (.t 20) (.c (iV 1048576))), none⟩]
def c12_r2 : List Ins := [⟨some 8, .p (.mv (.c (.bool true))), none⟩]
def c12_r3 : List Ins := [(iQ 23 (.mv (.t 0))),
⟨some 24, .call 43 [(.t 23)], none⟩,
(iQ 25 (.mv (.t 1))),
(iQ 26 (.mv (.t 2))),
(iQ 27 (.mv (.t 3))),
⟨some 28, .call 42 [(.t 24), (.t 25), (.t 26), (.t 27)], none⟩,
(iQ 22 (.mv (.t 28))),
(iQ 29 (.ext (.t 22) 0)),
(iQ 30 (.ext (.t 22) 1)),
(iQ 9 (.mv (.t 29))),
(iQ 10 (.mv (.t 30)))]
def c12_r4 : List Ins := [(iQ 31 (.mv (.t 0))),
⟨some 32, .call 43 [(.t 31)], none⟩,
(iQ 11 (.mv (.t 32)))]
def c12_r5 : List Ins := [(iQ 34 (.mv (.t 11))),
(iQ 35 (.mv (.t 1))),
(iQ 36 (.mv (.t 2))),
(iQ 37 (.mv (.t 3))),
⟨some 38, .call 44 [(.t 34), (.t 35), (.t 36), (.t 37)], none⟩,
(iQ 33 (.mv (.t 38))),
(iQ 39 (.ext (.t 33) 0)),
(iQ 40 (.ext (.t 33) 1)),
(iQ 12 (.mv (.t 39))),
(iQ 13 (.mv (.t 40)))]
def c12_r6 : List Ins := [(iQ 41 (.mv (.t 12))),
(iQ 42 (.mv (.t 9))),
⟨some 43, .call 36 [(.t 41), (.t 42)], none⟩,
(iQ 44 (.un .not (.t 43))),
(iQ 45 (.mv (.t 44))),
⟨some 46, .p (.mv (.t 13)), some (45, false)⟩,
⟨some 47, .p (.mv (.t 10)), some (45, false)⟩,
⟨some 48, .p (.bin .neq (.t 46) (.t 47)), some (45, false)⟩,
⟨some 49, .pick (.t 45) (.c (.bool true)) (.t 48), none⟩]
def c12_r7 : List Ins := [⟨some 8, .p (.mv (.c (.bool false))), none⟩]
def c12_r8 : List Ins := [(iQ 50 (.mv (.t 11))),
(iQ 51 (.mv (.t 0))),
⟨some 52, .call 43 [(.t 51)], none⟩,
⟨some 53, .call 36 [(.t 50), (.t 52)], none⟩,
(iQ 54 (.un .not (.t 53)))]
def c12_r9 : List Ins := [⟨some 8, .p (.mv (.c (.bool false))), none⟩]
def c12_r10 : List Ins := [⟨some 14, .p (.mv (.c (iV 1))), none⟩]
def c12_r11 : List Ins := [(iQ 55 (.mv (.t 11))),
(iQ 56 (.mv (.t 14))),
⟨some 57, .call 37 [(.t 55), (.t 56)], none⟩,
(iQ 14 (.mv (.t 57)))]
def c12_r12 : List Ins := [(iQ 58 (.mv (.t 14))),
⟨some 59, .p (.bin .lss (.t 58) (.c (iV 0))), none⟩,
(iQ 60 (.mv (.t 59))),
⟨some 61, .p (.mv (.t 12)), some (60, false)⟩,
⟨some 62, .p (.mv (.t 9)), some (60, false)⟩,
⟨some 63, .call 36 [(.t 61), (.t 62)], some (60, false)⟩,
⟨some 64, .p (.un .not (.t 63)), some (60, false)⟩,
⟨some 65, .pick (.t 60) (.c (.bool true)) (.t 64), none⟩,
(iQ 66 (.mv (.t 65))),
⟨some 67, .p (.mv (.t 13)), some (66, false)⟩,
⟨some 68, .p (.mv (.t 10)), some (66, false)⟩,
⟨some 69, .p (.bin .neq (.t 67) (.t 68)), some (66, false)⟩,
⟨some 70, .pick (.t 66) (.c (.bool true)) (.t 69), none⟩]
def c12_r13 : List Ins := [⟨some 8, .p (.mv (.c (.bool false))), none⟩]
def c12_r14 : List Ins := [⟨some 15, .p (.mv (.c (iV 1))), none⟩]
def c12_r15 : List Ins := [(iQ 71 (.mv (.t 12))),
(iQ 72 (.mv (.t 15))),
⟨some 73, .call 37 [(.t 71), (.t 72)], none⟩,
(iQ 15 (.mv (.t 73)))]
def c12_r16 : List Ins := [⟨some 16, .p (.mv (.c (iV 1))), none⟩]
def c12_r17 : List Ins := [(iQ 74 (.mv (.t 12))),
(iQ 75 (.mv (.t 16))),
⟨some 76, .call 38 [(.t 74), (.t 75)], none⟩,
(iQ 16 (.mv (.t 76)))]
def c12_r18 : List Ins := [(iQ 77 (.mv (.t 16))),
⟨some 78, .p (.bin .lss (.t 77) (.c (iV 0))), none⟩]
def c12_r19 : List Ins := [⟨some 8, .p (.mv (.c (.bool false))), none⟩]
def c12_r20 : List Ins := [(iQ 79 (.mv (.t 16))),
(iQ 80 (.mv (.t 15))),
(iQ 81 (.bin .neq (.t 79) (.t 80)))]
def c12_r21 : List Ins := [⟨some 8, .p (.mv (.c (.bool false))), none⟩]
def c12_r22 : List Ins := [(iQ 83 (.mv (.t 0))),
⟨some 84, .call 43 [(.t 83)], none⟩,
(iQ 85 (.mv (.t 1))),
(iQ 86 (.mv (.t 2))),
(iQ 87 (.mv (.t 3))),
⟨some 88, .call 44 [(.t 84), (.t 85), (.t 86), (.t 87)], none⟩,
(iQ 82 (.mv (.t 88))),
(iQ 89 (.ext (.t 82) 0)),
(iQ 90 (.ext (.t 82) 1)),
(iQ 17 (.mv (.t 89))),
(iQ 18 (.mv (.t 90)))]
def c12_r23 : List Ins := [(iQ 91 (.mv (.t 17))),
(iQ 92 (.mv (.t 9))),
⟨some 93, .call 36 [(.t 91), (.t 92)], none⟩,
(iQ 94 (.un .not (.t 93))),
(iQ 95 (.mv (.t 94))),
⟨some 96, .p (.mv (.t 18)), some (95, false)⟩,
⟨some 97, .p (.mv (.t 10)), some (95, false)⟩,
⟨some 98, .p (.bin .neq (.t 96) (.t 97)), some (95, false)⟩,
⟨some 99, .pick (.t 95) (.c (.bool true)) (.t 98), none⟩]
def c12_r24 : List Ins := [⟨some 8, .p (.mv (.c (.bool false))), none⟩]
def c12_r25 : List Ins := [⟨some 16, .p (.mv (.c (iV 1))), none⟩]
def c12_r26 : List Ins := [(iQ 100 (.mv (.t 12))),
(iQ 101 (.mv (.t 16))),
⟨some 102, .call 38 [(.t 100), (.t 101)], none⟩,
(iQ 16 (.mv (.t 102)))]
def c12_r27 : List Ins := [(iQ 103 (.mv (.t 16))),
⟨some 104, .p (.bin .lss (.t 103) (.c (iV 0))), none⟩]
def c12_r28 : List Ins := [⟨some 8, .p (.mv (.c (.bool false))), none⟩]
def c12_r29 : List Ins := [(iQ 105 (.mv (.t 16))),
(iQ 106 (.mv (.t 15))),
(iQ 107 (.bin .neq (.t 105) (.t 106)))]
def c12_r30 : List Ins := [⟨some 8, .p (.mv (.c (.bool false))), none⟩]
def c12_r31 : List Ins := [⟨some 8, .p (.mv (.c (.bool true))), none⟩]
def c12 : XFn := { np := 4, nt := 108, res := [.t 8], body := (.seq (.reg c12_r0) (.seq (.seq (.reg c12_r1) (.ite (.t 21) (.seq (.reg c12_r2) .ret) .skip)) (.seq (.reg c12_r3) (.seq (.reg c12_r4) (.seq (.reg c12_r5) (.seq (.seq (.reg c12_r6) (.ite (.t 49) (.seq (.reg c12_r7) .ret) .skip)) (.seq (.seq (.reg c12_r8) (.ite (.t 54) (.seq (.reg c12_r9) .ret) .skip)) (.seq (.reg c12_r10) (.seq (.reg c12_r11) (.seq (.seq (.reg c12_r12) (.ite (.t 70) (.seq (.reg c12_r13) .ret) .skip)) (.seq (.reg c12_r14) (.seq (.reg c12_r15) (.seq (.reg c12_r16) (.seq (.reg c12_r17) (.seq (.seq (.reg c12_r18) (.ite (.t 78) (.seq (.reg c12_r19) .ret) .skip)) (.seq (.seq (.reg c12_r20) (.ite (.t 81) (.seq (.reg c12_r21) .ret) .skip)) (.seq (.reg c12_r22) (.seq (.seq (.reg c12_r23) (.ite (.t 99) (.seq (.reg c12_r24) .ret) .skip)) (.seq (.reg c12_r25) (.seq (.reg c12_r26) (.seq (.seq (.reg c12_r27) (.ite (.t 104) (.seq (.reg c12_r28) .ret) .skip)) (.seq (.seq (.reg c12_r29) (.ite (.t 107) (.seq (.reg c12_r30) .ret) .skip)) (.seq (.reg c12_r31) .ret))))))))))))))))))))))) }
def K12 (C : CRel) : Prop := ∀ (a0 : List Int) (a1 : Int) (a2 : Bool) (a3 : Int) (r : Bool), g12 a0 a1 a2 a3 = some r → C 12 ⟨[.lst 1 (a0.map eI), iV a1, .bool a2, iV a3], []⟩ ⟨.bool r, [], []⟩
theorem F12 {C : CRel} (H36 : K36 C) (H37 : K37 C) (H38 : K38 C) (H42 : K42 C) (H43 : K43 C) (H44 : K44 C) (a0 : List Int) (a1 : Int) (a2 : Bool) (a3 : Int) (r : Bool) (h0 : g12 a0 a1 a2 a3 = some r) : FnOK C c12 ⟨[.lst 1 (a0.map eI), iV a1, .bool a2, iV a3], []⟩ ⟨.bool r, [], []⟩ := by
 refine fn_ (nl rfl) (seq_ (reg_ (st (mvc_ tv (oe_ (wk_ ⟨[(0, .lst 1 (a0.map eI)), (1, iV a1), (2, .bool a2), (3, iV a3)], [], []⟩ (fgk (by kernel_rfl)) (seq_ (seq_ (reg_ (st (mv_ rfl tv (st (c_ (clenL (e := eI) (l0 := a0) rfl rfl tv) (st (c_ (cp_ t3 rfl tv) (oe_ (wk_ ⟨[(0, .lst 1 (a0.map eI)), (1, iV a1), (2, .bool a2), (3, iV a3), (21, .bool (decide ((a0.length : Int) > 1048576)))], [], []⟩ (fgk (by kernel_rfl)) (ite_ (cb := (decide ((a0.length : Int) > 1048576))) rfl (fun c1 => ?_) (fun c1 => ?_)))))))))))))))))))
 ·replace h0 := ip c1 h0
  refine seq_ (reg_ (st (mvc_ tv (oe_ (wk_ ⟨[(8, .bool true)], [], []⟩ (fgk (by kernel_rfl)) ?_)))))
  obtain rfl := Option.some.inj h0
  exact rt_ (ret_ rfl rfl rfl rfl rfl tv)
 ·replace h0 := inb c1 h0
  refine sk_ (wk_ ⟨[(0, .lst 1 (a0.map eI)), (1, iV a1), (2, .bool a2), (3, iV a3)], [], []⟩ (fgk (by kernel_rfl)) (seq_ (reg_ (st (mv_ rfl tv ?_)))))
  obtain ⟨r2, e3, h0⟩ := bnd h0
  refine st (call0_ (r := .own 0 0 1 (r2.map eI)) false (H43 a0 r2 e3) ⟨tv, tv⟩ rfl rfl (fun _ => (and_ (fl1 (fun _ => rfl)) rfl)) (st (mv_ rfl tv (st (mv_ rfl tv (st (mv_ rfl tv ?_)))))))
  obtain ⟨r4, e5, h0⟩ := bnd h0
  refine sw ⟨[(0, .lst 1 (a0.map eI)), (1, iV a1), (2, .bool a2), (3, iV a3), (24, .own 1536 0 1 (r2.map eI)), (25, iV a1), (26, .bool a2), (27, iV a3)], [], []⟩ (fgk (by kernel_rfl)) (call0_ (r := .tup [.own 0 0 1 (r4.1.map eI), iV r4.2]) false (H42 r2 a1 a2 a3 r4 e5) ⟨tv, tv, tv, tv, tv⟩ rfl rfl (fun _ => (and_ (fl1 (fun _ => rfl)) (and_ rfl rfl))) (st (mv_ rfl tv (st (c_ (cp_ ⟨tv, tv⟩ rfl tv) (st (c_ (cp_ ⟨tv, tv⟩ rfl tv) (st (mv_ rfl tv (st (mv_ rfl tv (oe_ (wk_ ⟨[(0, .lst 1 (a0.map eI)), (1, iV a1), (2, .bool a2), (3, iV a3), (9, .own 1792 0 1 (r4.1.map eI)), (10, iV r4.2)], [], []⟩ (fgk (by kernel_rfl)) (seq_ (reg_ (st (mv_ rfl tv ?_)))))))))))))))))
  obtain ⟨r6, e7, h0⟩ := bnd h0
  refine st (call0_ (r := .own 0 0 1 (r6.map eI)) false (H43 a0 r6 e7) ⟨tv, tv⟩ rfl rfl (fun _ => (and_ (fl1 (fun _ => rfl)) rfl)) (st (mv_ rfl tv (oe_ (wk_ ⟨[(0, .lst 1 (a0.map eI)), (1, iV a1), (2, .bool a2), (3, iV a3), (9, .own 1792 0 1 (r4.1.map eI)), (10, iV r4.2), (11, .own 2048 0 1 (r6.map eI))], [], []⟩ (fgk (by kernel_rfl)) (seq_ (reg_ (st (mv_ rfl tv (st (mv_ rfl tv (st (mv_ rfl tv (st (mv_ rfl tv ?_)))))))))))))))
  obtain ⟨r8, e9, h0⟩ := bnd h0
  refine st (call0_ (r := .tup [.own 0 0 1 (r8.1.map eI), iV r8.2]) false (H44 r6 a1 a2 a3 r8 e9) ⟨tv, tv, tv, tv, tv⟩ rfl rfl (fun _ => (and_ (fl1 (fun _ => rfl)) (and_ rfl rfl))) (st (mv_ rfl tv (st (c_ (cp_ ⟨tv, tv⟩ rfl tv) (st (c_ (cp_ ⟨tv, tv⟩ rfl tv) (st (mv_ rfl tv (st (mv_ rfl tv (oe_ (wk_ ⟨[(0, .lst 1 (a0.map eI)), (1, iV a1), (2, .bool a2), (3, iV a3), (9, .own 1792 0 1 (r4.1.map eI)), (10, iV r4.2), (11, .own 2048 0 1 (r6.map eI)), (12, .own 2432 0 1 (r8.1.map eI)), (13, iV r8.2)], [], []⟩ (fgk (by kernel_rfl)) (seq_ (seq_ (reg_ (st (mv_ rfl tv (st (mv_ rfl tv ?_))))))))))))))))))))
  obtain ⟨r10, e11, h0⟩ := bnd h0
  refine st (call0_ (r := .bool r10) false (H36 r8.1 r4.1 r10 e11) ⟨tv, tv, tv⟩ rfl rfl (fun _ => rfl) (st (c_ (cp_ ⟨tv, tv⟩ rfl tv) (st (mv_ rfl tv (st (pg_ (u := iV r8.2) rfl (fun hg => (cmv (v := iV r8.2) rfl tv)) (st (pg_ (u := iV r4.2) rfl (fun hg => (cmv (v := iV r4.2) rfl tv)) (st (pg_ (u := .bool (r8.2 != r4.2)) rfl (fun hg => (cp_ ⟨(fun _ => hg), (fun _ => hg), tv⟩ rfl tv)) (st (pick_ rfl rfl rfl tv (fun h => eqf h) rfl (oe_ (wk_ ⟨[(0, .lst 1 (a0.map eI)), (1, iV a1), (2, .bool a2), (3, iV a3), (9, .own 1792 0 1 (r4.1.map eI)), (10, iV r4.2), (11, .own 2048 0 1 (r6.map eI)), (12, .own 2432 0 1 (r8.1.map eI)), (13, iV r8.2), (49, .bool (bif (!r10) then true else (r8.2 != r4.2)))], [], []⟩ (fgk (by kernel_rfl)) (ite_ (cb := (bif (!r10) then true else (r8.2 != r4.2))) rfl (fun c12 => ?_) (fun c12 => ?_)))))))))))))))))
  ·replace h0 := ip c12 h0
   refine seq_ (reg_ (st (mvc_ tv (oe_ (wk_ ⟨[(8, .bool false)], [], []⟩ (fgk (by kernel_rfl)) ?_)))))
   obtain rfl := Option.some.inj h0
   exact rt_ (ret_ rfl rfl rfl rfl rfl tv)
  ·replace h0 := inb c12 h0
   refine sk_ (wk_ ⟨[(0, .lst 1 (a0.map eI)), (1, iV a1), (2, .bool a2), (3, iV a3), (9, .own 1792 0 1 (r4.1.map eI)), (10, iV r4.2), (11, .own 2048 0 1 (r6.map eI)), (12, .own 2432 0 1 (r8.1.map eI)), (13, iV r8.2)], [], []⟩ (fgk (by kernel_rfl)) (seq_ (seq_ (reg_ (st (mv_ rfl tv (st (mv_ rfl tv ?_))))))))
   obtain ⟨r13, e14, h0⟩ := bnd h0
   refine st (call0_ (r := .own 0 0 1 (r13.map eI)) false (H43 a0 r13 e14) ⟨tv, tv⟩ rfl rfl (fun _ => (and_ (fl1 (fun _ => rfl)) rfl)) ?_)
   obtain ⟨r15, e16, h0⟩ := bnd h0
   refine st (call0_ (r := .bool r15) false (H36 r6 r13 r15 e16) ⟨tv, tv, tv⟩ rfl rfl (fun _ => rfl) (st (c_ (cp_ ⟨tv, tv⟩ rfl tv) (oe_ (wk_ ⟨[(0, .lst 1 (a0.map eI)), (1, iV a1), (2, .bool a2), (3, iV a3), (9, .own 1792 0 1 (r4.1.map eI)), (10, iV r4.2), (11, .own 2048 0 1 (r6.map eI)), (12, .own 2432 0 1 (r8.1.map eI)), (13, iV r8.2), (54, .bool (!r15))], [], []⟩ (fgk (by kernel_rfl)) (ite_ (cb := (!r15)) rfl (fun c17 => ?_) (fun c17 => ?_)))))))
   ·replace h0 := ip c17 h0
    refine seq_ (reg_ (st (mvc_ tv (oe_ (wk_ ⟨[(8, .bool false)], [], []⟩ (fgk (by kernel_rfl)) ?_)))))
    obtain rfl := Option.some.inj h0
    exact rt_ (ret_ rfl rfl rfl rfl rfl tv)
   ·replace h0 := inb c17 h0
    refine sk_ (wk_ ⟨[(0, .lst 1 (a0.map eI)), (1, iV a1), (2, .bool a2), (3, iV a3), (9, .own 1792 0 1 (r4.1.map eI)), (10, iV r4.2), (11, .own 2048 0 1 (r6.map eI)), (12, .own 2432 0 1 (r8.1.map eI)), (13, iV r8.2)], [], []⟩ (fgk (by kernel_rfl)) (seq_ (reg_ (st (mvc_ tv (oe_ (wk_ ⟨[(0, .lst 1 (a0.map eI)), (1, iV a1), (2, .bool a2), (3, iV a3), (9, .own 1792 0 1 (r4.1.map eI)), (10, iV r4.2), (11, .own 2048 0 1 (r6.map eI)), (12, .own 2432 0 1 (r8.1.map eI)), (13, iV r8.2), (14, iV 1)], [], []⟩ (fgk (by kernel_rfl)) (seq_ (reg_ (st (mv_ rfl tv (st (mv_ rfl tv ?_)))))))))))))
    obtain ⟨r18, e19, h0⟩ := bnd h0
    obtain ⟨c20, h0⟩ := grd h0
    refine st (call1_ [] [2048] [] false (H37 r6 1 r18 e19) ⟨tv, tv, tv⟩ (by kernel_rfl) (by kernel_rfl) (by kernel_rfl) (by kernel_rfl) (fun _ => and_ rfl (and_ (fl2 (fun _ => rfl)) rfl)) (sw ⟨[(0, .lst 1 (a0.map eI)), (1, iV a1), (2, .bool a2), (3, iV a3), (9, .own 1792 0 1 (r4.1.map eI)), (10, iV r4.2), (12, .own 2432 0 1 (r8.1.map eI)), (13, iV r8.2), (57, iV r18.1)], [], []⟩ (fgk (by kernel_rfl)) (mv_ rfl tv (oe_ (wk_ ⟨[(0, .lst 1 (a0.map eI)), (1, iV a1), (2, .bool a2), (3, iV a3), (9, .own 1792 0 1 (r4.1.map eI)), (10, iV r4.2), (12, .own 2432 0 1 (r8.1.map eI)), (13, iV r8.2), (14, iV r18.1)], [], []⟩ (fgk (by kernel_rfl)) (seq_ (seq_ (reg_ (st (mv_ rfl tv (st (c_ (cp_ t3 rfl tv) (st (mv_ rfl tv (st (pg_ (u := .own 2432 0 1 (r8.1.map eI)) rfl (fun hg => (cmv (v := .own 2432 0 1 (r8.1.map eI)) rfl tv)) (st (pg_ (u := .own 1792 0 1 (r4.1.map eI)) rfl (fun hg => (cmv (v := .own 1792 0 1 (r4.1.map eI)) rfl tv)) ?_))))))))))))))))))
    obtain ⟨r21, e22, h0⟩ := bnd h0
    refine st (callg_ (r := .bool r21) rfl false (fun hg => H36 r8.1 r4.1 r21 (ip hg e22)) ⟨(fun hg => hg), (fun hg => hg), tv⟩ (fun _ => rfl) (fun _ => rfl) (fun _ => rfl) (fun h => nomatch h) (st (pg_ (u := .bool (!r21)) rfl (fun hg => (cp_ ⟨(fun _ => hg), tv⟩ rfl tv)) (st (pick_ rfl rfl rfl tv (fun h => eqf h) rfl (st (mv_ rfl tv (st (pg_ (u := iV r8.2) rfl (fun hg => (cmv (v := iV r8.2) rfl tv)) (st (pg_ (u := iV r4.2) rfl (fun hg => (cmv (v := iV r4.2) rfl tv)) (st (pg_ (u := .bool (r8.2 != r4.2)) rfl (fun hg => (cp_ ⟨(fun _ => hg), (fun _ => hg), tv⟩ rfl tv)) (sw ⟨[(0, .lst 1 (a0.map eI)), (1, iV a1), (2, .bool a2), (3, iV a3), (9, .own 1792 0 1 (r4.1.map eI)), (10, iV r4.2), (12, .own 2432 0 1 (r8.1.map eI)), (66, .bool (bif (decide (r18.1 < 0)) then true else (!r21))), (69, .may ((bif (decide (r18.1 < 0)) then true else (!r21)) == false) (.bool (r8.2 != r4.2)))], [], []⟩ (fgk (by kernel_rfl)) (pick_ rfl rfl rfl tv (fun h => eqf h) rfl (oe_ ?_))))))))))))))))
    obtain ⟨v23, e24, h0⟩ := bl h0
    refine wk_ ⟨[(0, .lst 1 (a0.map eI)), (1, iV a1), (2, .bool a2), (3, iV a3), (9, .own 1792 0 1 (r4.1.map eI)), (10, iV r4.2), (12, .own 2432 0 1 (r8.1.map eI)), (70, .bool v23)], [], []⟩ (fgk (by subst e24; kernel_rfl)) (ite_ (cb := v23) rfl (fun c25 => ?_) (fun c25 => ?_))
    ·replace h0 := ip c25 h0
     refine seq_ (reg_ (st (mvc_ tv (oe_ (wk_ ⟨[(8, .bool false)], [], []⟩ (fgk (by kernel_rfl)) ?_)))))
     obtain rfl := Option.some.inj h0
     exact rt_ (ret_ rfl rfl rfl rfl rfl tv)
    ·replace h0 := inb c25 h0
     refine sk_ (wk_ ⟨[(0, .lst 1 (a0.map eI)), (1, iV a1), (2, .bool a2), (3, iV a3), (9, .own 1792 0 1 (r4.1.map eI)), (10, iV r4.2), (12, .own 2432 0 1 (r8.1.map eI))], [], []⟩ (fgk (by kernel_rfl)) (seq_ (reg_ (st (mvc_ tv (oe_ (wk_ ⟨[(0, .lst 1 (a0.map eI)), (1, iV a1), (2, .bool a2), (3, iV a3), (9, .own 1792 0 1 (r4.1.map eI)), (10, iV r4.2), (12, .own 2432 0 1 (r8.1.map eI)), (15, iV 1)], [], []⟩ (fgk (by kernel_rfl)) (seq_ (reg_ (st (mv_ rfl tv (st (mv_ rfl tv ?_)))))))))))))
     obtain ⟨r26, e27, h0⟩ := bnd h0
     obtain ⟨c28, h0⟩ := grd h0
     refine st (call1_ [] [2432] [] false (H37 r8.1 1 r26 e27) ⟨tv, tv, tv⟩ (by kernel_rfl) (by kernel_rfl) (by kernel_rfl) (by kernel_rfl) (fun _ => and_ rfl (and_ (fl2 (fun _ => rfl)) rfl)) (sw ⟨[(0, .lst 1 (a0.map eI)), (1, iV a1), (2, .bool a2), (3, iV a3), (9, .own 1792 0 1 (r4.1.map eI)), (10, iV r4.2), (12, .own 2432 0 1 (r26.2.map eI)), (73, iV r26.1)], [], []⟩ (fg ⟨rfl, rfl, rfl, rfl, rfl, rfl, (congrArg (fun z => some ((z : V))) (row_eq c28)), rfl, tv⟩ tv) (mv_ rfl tv (oe_ (wk_ ⟨[(0, .lst 1 (a0.map eI)), (1, iV a1), (2, .bool a2), (3, iV a3), (9, .own 1792 0 1 (r4.1.map eI)), (10, iV r4.2), (12, .own 2432 0 1 (r26.2.map eI)), (15, iV r26.1)], [], []⟩ (fgk (by kernel_rfl)) (seq_ (reg_ (st (mvc_ tv (oe_ (wk_ ⟨[(0, .lst 1 (a0.map eI)), (1, iV a1), (2, .bool a2), (3, iV a3), (9, .own 1792 0 1 (r4.1.map eI)), (10, iV r4.2), (12, .own 2432 0 1 (r26.2.map eI)), (15, iV r26.1), (16, iV 1)], [], []⟩ (fgk (by kernel_rfl)) (seq_ (reg_ (st (mv_ rfl tv (st (mv_ rfl tv ?_)))))))))))))))))
     obtain ⟨r29, e30, h0⟩ := bnd h0
     refine st (call0_ (r := iV r29) false (H38 r26.2 1 r29 e30) ⟨tv, tv, tv⟩ rfl rfl (fun _ => rfl) (st (mv_ rfl tv (oe_ (wk_ ⟨[(0, .lst 1 (a0.map eI)), (1, iV a1), (2, .bool a2), (3, iV a3), (9, .own 1792 0 1 (r4.1.map eI)), (10, iV r4.2), (12, .own 2432 0 1 (r26.2.map eI)), (15, iV r26.1), (16, iV r29)], [], []⟩ (fgk (by kernel_rfl)) (seq_ (seq_ (reg_ (st (mv_ rfl tv (st (c_ (cp_ t3 rfl tv) (oe_ (wk_ ⟨[(0, .lst 1 (a0.map eI)), (1, iV a1), (2, .bool a2), (3, iV a3), (9, .own 1792 0 1 (r4.1.map eI)), (10, iV r4.2), (12, .own 2432 0 1 (r26.2.map eI)), (15, iV r26.1), (16, iV r29), (78, .bool (decide (r29 < 0)))], [], []⟩ (fgk (by kernel_rfl)) (ite_ (cb := (decide (r29 < 0))) rfl (fun c31 => ?_) (fun c31 => ?_))))))))))))))))
     ·replace h0 := ip c31 h0
      refine seq_ (reg_ (st (mvc_ tv (oe_ (wk_ ⟨[(8, .bool false)], [], []⟩ (fgk (by kernel_rfl)) ?_)))))
      obtain rfl := Option.some.inj h0
      exact rt_ (ret_ rfl rfl rfl rfl rfl tv)
     ·replace h0 := inb c31 h0
      refine sk_ (wk_ ⟨[(0, .lst 1 (a0.map eI)), (1, iV a1), (2, .bool a2), (3, iV a3), (9, .own 1792 0 1 (r4.1.map eI)), (10, iV r4.2), (12, .own 2432 0 1 (r26.2.map eI)), (15, iV r26.1), (16, iV r29)], [], []⟩ (fgk (by kernel_rfl)) (seq_ (seq_ (reg_ (st (mv_ rfl tv (st (mv_ rfl tv (st (c_ (cp_ t3 rfl tv) (oe_ (wk_ ⟨[(0, .lst 1 (a0.map eI)), (1, iV a1), (2, .bool a2), (3, iV a3), (9, .own 1792 0 1 (r4.1.map eI)), (10, iV r4.2), (12, .own 2432 0 1 (r26.2.map eI)), (15, iV r26.1), (81, .bool (r29 != r26.1))], [], []⟩ (fgk (by kernel_rfl)) (ite_ (cb := (r29 != r26.1)) rfl (fun c32 => ?_) (fun c32 => ?_))))))))))))))
      ·replace h0 := ip c32 h0
       refine seq_ (reg_ (st (mvc_ tv (oe_ (wk_ ⟨[(8, .bool false)], [], []⟩ (fgk (by kernel_rfl)) ?_)))))
       obtain rfl := Option.some.inj h0
       exact rt_ (ret_ rfl rfl rfl rfl rfl tv)
      ·replace h0 := inb c32 h0
       refine sk_ (wk_ ⟨[(0, .lst 1 (a0.map eI)), (1, iV a1), (2, .bool a2), (3, iV a3), (9, .own 1792 0 1 (r4.1.map eI)), (10, iV r4.2), (12, .own 2432 0 1 (r26.2.map eI)), (15, iV r26.1)], [], []⟩ (fgk (by kernel_rfl)) (seq_ (reg_ (st (mv_ rfl tv ?_)))))
       obtain ⟨r33, e34, h0⟩ := bnd h0
       refine st (call0_ (r := .own 0 0 1 (r33.map eI)) false (H43 a0 r33 e34) ⟨tv, tv⟩ rfl rfl (fun _ => (and_ (fl1 (fun _ => rfl)) rfl)) (st (mv_ rfl tv (st (mv_ rfl tv (st (mv_ rfl tv ?_)))))))
       obtain ⟨r35, e36, h0⟩ := bnd h0
       refine sw ⟨[(9, .own 1792 0 1 (r4.1.map eI)), (10, iV r4.2), (12, .own 2432 0 1 (r26.2.map eI)), (15, iV r26.1), (84, .own 5376 0 1 (r33.map eI)), (85, iV a1), (86, .bool a2), (87, iV a3)], [], []⟩ (fgk (by kernel_rfl)) (call0_ (r := .tup [.own 0 0 1 (r35.1.map eI), iV r35.2]) false (H44 r33 a1 a2 a3 r35 e36) ⟨tv, tv, tv, tv, tv⟩ rfl rfl (fun _ => (and_ (fl1 (fun _ => rfl)) (and_ rfl rfl))) (st (mv_ rfl tv (st (c_ (cp_ ⟨tv, tv⟩ rfl tv) (st (c_ (cp_ ⟨tv, tv⟩ rfl tv) (st (mv_ rfl tv (st (mv_ rfl tv (oe_ (wk_ ⟨[(9, .own 1792 0 1 (r4.1.map eI)), (10, iV r4.2), (12, .own 2432 0 1 (r26.2.map eI)), (15, iV r26.1), (17, .own 5632 0 1 (r35.1.map eI)), (18, iV r35.2)], [], []⟩ (fgk (by kernel_rfl)) (seq_ (seq_ (reg_ (st (mv_ rfl tv (st (mv_ rfl tv ?_))))))))))))))))))))
       obtain ⟨r37, e38, h0⟩ := bnd h0
       refine st (call0_ (r := .bool r37) false (H36 r35.1 r4.1 r37 e38) ⟨tv, tv, tv⟩ rfl rfl (fun _ => rfl) (st (c_ (cp_ ⟨tv, tv⟩ rfl tv) (st (mv_ rfl tv (st (pg_ (u := iV r35.2) rfl (fun hg => (cmv (v := iV r35.2) rfl tv)) (st (pg_ (u := iV r4.2) rfl (fun hg => (cmv (v := iV r4.2) rfl tv)) (st (pg_ (u := .bool (r35.2 != r4.2)) rfl (fun hg => (cp_ ⟨(fun _ => hg), (fun _ => hg), tv⟩ rfl tv)) (st (pick_ rfl rfl rfl tv (fun h => eqf h) rfl (oe_ (wk_ ⟨[(12, .own 2432 0 1 (r26.2.map eI)), (15, iV r26.1), (99, .bool (bif (!r37) then true else (r35.2 != r4.2)))], [], []⟩ (fgk (by kernel_rfl)) (ite_ (cb := (bif (!r37) then true else (r35.2 != r4.2))) rfl (fun c39 => ?_) (fun c39 => ?_)))))))))))))))))
       ·replace h0 := ip c39 h0
        refine seq_ (reg_ (st (mvc_ tv (oe_ (wk_ ⟨[(8, .bool false)], [], []⟩ (fgk (by kernel_rfl)) ?_)))))
        obtain rfl := Option.some.inj h0
        exact rt_ (ret_ rfl rfl rfl rfl rfl tv)
       ·replace h0 := inb c39 h0
        refine sk_ (wk_ ⟨[(12, .own 2432 0 1 (r26.2.map eI)), (15, iV r26.1)], [], []⟩ (fgk (by kernel_rfl)) (seq_ (reg_ (st (mvc_ tv (oe_ (wk_ ⟨[(12, .own 2432 0 1 (r26.2.map eI)), (15, iV r26.1), (16, iV 1)], [], []⟩ (fgk (by kernel_rfl)) (seq_ (reg_ (st (mv_ rfl tv (st (mv_ rfl tv ?_)))))))))))))
        obtain ⟨r40, e41, h0⟩ := bnd h0
        refine st (call0_ (r := iV r40) false (H38 r26.2 1 r40 e41) ⟨tv, tv, tv⟩ rfl rfl (fun _ => rfl) (st (mv_ rfl tv (oe_ (wk_ ⟨[(15, iV r26.1), (16, iV r40)], [], []⟩ (fgk (by kernel_rfl)) (seq_ (seq_ (reg_ (st (mv_ rfl tv (st (c_ (cp_ t3 rfl tv) (oe_ (wk_ ⟨[(15, iV r26.1), (16, iV r40), (104, .bool (decide (r40 < 0)))], [], []⟩ (fgk (by kernel_rfl)) (ite_ (cb := (decide (r40 < 0))) rfl (fun c42 => ?_) (fun c42 => ?_))))))))))))))))
        ·replace h0 := ip c42 h0
         refine seq_ (reg_ (st (mvc_ tv (oe_ (wk_ ⟨[(8, .bool false)], [], []⟩ (fgk (by kernel_rfl)) ?_)))))
         obtain rfl := Option.some.inj h0
         exact rt_ (ret_ rfl rfl rfl rfl rfl tv)
        ·replace h0 := inb c42 h0
         refine sk_ (wk_ ⟨[(15, iV r26.1), (16, iV r40)], [], []⟩ (fgk (by kernel_rfl)) (seq_ (seq_ (reg_ (st (mv_ rfl tv (st (mv_ rfl tv (st (c_ (cp_ t3 rfl tv) (oe_ (wk_ ⟨[(107, .bool (r40 != r26.1))], [], []⟩ (fgk (by kernel_rfl)) (ite_ (cb := (r40 != r26.1)) rfl (fun c43 => ?_) (fun c43 => ?_))))))))))))))
         ·replace h0 := ip c43 h0
          refine seq_ (reg_ (st (mvc_ tv (oe_ (wk_ ⟨[(8, .bool false)], [], []⟩ (fgk (by kernel_rfl)) ?_)))))
          obtain rfl := Option.some.inj h0
          exact rt_ (ret_ rfl rfl rfl rfl rfl tv)
         ·replace h0 := inb c43 h0
          refine sk_ (wk_ ⟨[], [], []⟩ (fgk (by kernel_rfl)) (seq_ (reg_ (st (mvc_ tv (oe_ (wk_ ⟨[(8, .bool true)], [], []⟩ (fgk (by kernel_rfl)) ?_)))))))
          obtain rfl := Option.some.inj h0
          exact rt_ (ret_ rfl rfl rfl rfl rfl tv)
end Go.Ev
