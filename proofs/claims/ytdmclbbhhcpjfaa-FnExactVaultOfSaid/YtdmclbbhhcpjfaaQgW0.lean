/- The walks of functions: the code comes to the answers that QgD tells. Written by a program of ours. -/
import Derived.Test.YtdmclbbhhcpjfaaQgD
set_option linter.all false
set_option maxHeartbeats 4000000
set_option linter.unusedVariables false
set_option maxRecDepth 100000
namespace Go.Ev
theorem tv : True := True.intro
abbrev iQ (n : Nat) (o : PU) : Ins := ⟨some n, .p o, none⟩
abbrev iV (n : Int) : V := .int .i64 n
theorem nl {a b : Nat} (h : Nat.ble a b = true) : a ≤ b := Nat.le_of_ble_eq_true h
theorem t3 : True ∧ True ∧ True := ⟨trivial, trivial, trivial⟩

/- loop.example/g00149/laws.eqIntS -/
def c36_r0 : List Ins := [⟨some 4, .p (.mv (.c (.bool false))), none⟩]
def c36_r1 : List Ins := [(iQ 6 (.mv (.t 0))),
(iQ 7 (.len (.t 6))),
(iQ 8 (.mv (.t 1))),
(iQ 9 (.len (.t 8))),
(iQ 10 (.bin .neq (.t 7) (.t 9)))]
def c36_r2 : List Ins := [⟨some 4, .p (.mv (.c (.bool false))), none⟩]
def c36_r3 : List Ins := [⟨some 5, .p (.mv (.c (iV 0))), none⟩]
def c36_r4 : List Ins := [(iQ 11 (.mv (.t 5))),
(iQ 12 (.mv (.t 0))),
(iQ 13 (.len (.t 12))),
(iQ 14 (.bin .lss (.t 11) (.t 13)))]
def c36_r5 : DP := (.take (iQ 17 (.mv (.t 0)))
(.take (iQ 18 (.mv (.t 5)))
(.take (iQ 19 (.idxA (.t 17) (.t 18) 1))
(.take (iQ 20 (.load (.t 19) 1 false))
(.take (iQ 21 (.mv (.t 1)))
(.take (iQ 22 (.mv (.t 5)))
(.take (iQ 23 (.idxA (.t 21) (.t 22) 1))
(.take (iQ 24 (.load (.t 23) 1 false))
(.take (iQ 25 (.bin .neq (.t 20) (.t 24)))
.fin)))))))))
def c36_r6 : List Ins := [⟨some 4, .p (.mv (.c (.bool false))), none⟩]
def c36_r7 : List Ins := [(iQ 15 (.mv (.t 5))),
⟨some 16, .p (.bin .add (.t 15) (.c (iV 1))), none⟩,
(iQ 5 (.mv (.t 16)))]
def c36_l0 : IR := (.seq (.seq (.reg c36_r4) (.ite (.t 14) .skip (.exit 0))) (.seq (.block 1 (.seq (.draw c36_r5) (.ite (.t 25) (.seq (.reg c36_r6) .ret) .skip))) (.reg c36_r7)))
def c36_r8 : List Ins := [⟨some 4, .p (.mv (.c (.bool true))), none⟩]
def c36 : XFn := { np := 2, nt := 26, res := [.t 4], body := (.seq (.reg c36_r0) (.seq (.seq (.reg c36_r1) (.ite (.t 10) (.seq (.reg c36_r2) .ret) .skip)) (.seq (.seq (.reg c36_r3) (.block 0 (.loop c36_l0))) (.seq (.reg c36_r8) .ret)))) }
def K36 (C : CRel) : Prop := ∀ (a0 : List Int) (a1 : List Int) (r : Bool), g36 a0 a1 = some r → C 36 ⟨[.lst 1 (a0.map eI), .lst 1 (a1.map eI)], []⟩ ⟨.bool r, [], []⟩
theorem F36 {C : CRel}  (a0 : List Int) (a1 : List Int) (r : Bool) (h0 : g36 a0 a1 = some r) : FnOK C c36 ⟨[.lst 1 (a0.map eI), .lst 1 (a1.map eI)], []⟩ ⟨.bool r, [], []⟩ := by
 refine fn_ (nl rfl) (seq_ (reg_ (st (mvc_ tv (oe_ (wk_ ⟨[(0, .lst 1 (a0.map eI)), (1, .lst 1 (a1.map eI))], [], []⟩ (fgk (by kernel_rfl)) (seq_ (seq_ (reg_ (st (mv_ rfl tv (st (c_ (clenL (e := eI) (l0 := a0) rfl rfl tv) (st (mv_ rfl tv (st (c_ (clenL (e := eI) (l0 := a1) rfl rfl tv) (st (c_ (cp_ t3 rfl tv) (oe_ (wk_ ⟨[(0, .lst 1 (a0.map eI)), (1, .lst 1 (a1.map eI)), (10, .bool ((a0.length : Int) != (a1.length : Int)))], [], []⟩ (fgk (by kernel_rfl)) (ite_ (cb := ((a0.length : Int) != (a1.length : Int))) rfl (fun c1 => ?_) (fun c1 => ?_)))))))))))))))))))))))
 ·replace h0 := ip c1 h0
  refine seq_ (reg_ (st (mvc_ tv (oe_ (wk_ ⟨[(4, .bool false)], [], []⟩ (fgk (by kernel_rfl)) ?_)))))
  obtain rfl := Option.some.inj h0
  exact rt_ (ret_ rfl rfl rfl rfl rfl tv)
 ·replace h0 := inb c1 h0
  refine sk_ (wk_ ⟨[(0, .lst 1 (a0.map eI)), (1, .lst 1 (a1.map eI))], [], []⟩ (fgk (by kernel_rfl)) (seq_ (seq_ (reg_ (st (mvc_ tv (oe_ (wk_ ⟨[(0, .lst 1 (a0.map eI)), (1, .lst 1 (a1.map eI)), (5, iV 0)], [], []⟩ (fgk (by kernel_rfl)) (block_ ?_)))))))))
  obtain ⟨r22, e23, h0⟩ := bnd h0
  refine loop_ (R := (fun S => .inl () = r22 ∧ S = ⟨[], [], []⟩)) (g36_l0 a0 a1) (fun s S => match s with | p8 => S = ⟨[(0, .lst 1 (a0.map eI)), (1, .lst 1 (a1.map eI)), (5, iV p8)], [], []⟩) e23 ⟨[(0, .lst 1 (a0.map eI)), (1, .lst 1 (a1.map eI)), (5, iV 0)], [], []⟩ (fgk (by kernel_rfl)) rfl 0 (fun _ => rfl) ?_ ?_
  ·rintro S _ hfg ⟨rfl, rfl⟩
   refine wk_ ⟨[], [], []⟩ (fglk hfg (by kernel_rfl)) (seq_ (reg_ (st (mvc_ tv (oe_ (wk_ ⟨[(4, .bool true)], [], []⟩ (fgk (by kernel_rfl)) ?_))))))
   obtain rfl := Option.some.inj h0
   exact rt_ (ret_ rfl rfl rfl rfl rfl tv)
  ·rintro p8 o1 _ K1 rfl h1 hx1 hK1 hE1 hR1
   refine seq_ (seq_ (reg_ (st (mv_ rfl tv (st (mv_ rfl tv (st (c_ (clenL (e := eI) (l0 := a0) rfl rfl tv) (st (c_ (cp_ t3 rfl tv) (oe_ (wk_ ⟨[(0, .lst 1 (a0.map eI)), (1, .lst 1 (a1.map eI)), (5, iV p8), (14, .bool (decide (p8 < (a0.length : Int))))], [], []⟩ (fgk (by kernel_rfl)) (ite_ (cb := (decide (p8 < (a0.length : Int)))) rfl (fun c16 => ?_) (fun c16 => ?_))))))))))))))
   ·replace h1 := ip c16 h1
    refine sk_ (wk_ ⟨[(0, .lst 1 (a0.map eI)), (1, .lst 1 (a1.map eI)), (5, iV p8)], [], []⟩ (fgk (by kernel_rfl)) (seq_ (block_ (seq_ ?_))))
    obtain ⟨y17, e18, h1⟩ := bnd h1
    obtain ⟨y19, e20, h1⟩ := bnd h1
    refine draw_ (dtake tv (mv_ rfl tv (⟨tv, (dtake tv (mv_ rfl tv (⟨tv, (dtake tv (c_ (cidxL (e := eI) (y := y17) rfl rfl tv rfl rfl tv e18) (⟨tv, (dtake tv (c_ (cp_ ⟨tv, tv⟩ rfl (nl rfl)) (⟨tv, (dtake tv (mv_ rfl tv (⟨tv, (dtake tv (mv_ rfl tv (⟨tv, (dtake tv (c_ (cidxL (e := eI) (y := y19) rfl rfl tv rfl rfl tv e20) (⟨tv, (dtake tv (c_ (cp_ ⟨tv, tv⟩ rfl (nl rfl)) (⟨tv, (dtake tv (c_ (cp_ t3 rfl tv) (⟨tv, (dfin (wk_ ⟨[(0, .lst 1 (a0.map eI)), (1, .lst 1 (a1.map eI)), (5, iV p8), (25, .bool (y17 != y19))], [], []⟩ (fgk (by kernel_rfl)) (ite_ (cb := (y17 != y19)) rfl (fun c21 => ?_) (fun c21 => ?_))))⟩)))⟩)))⟩)))⟩)))⟩)))⟩)))⟩)))⟩)))⟩)))
    ·replace h1 := ip c21 h1
     refine seq_ (reg_ (st (mvc_ tv (oe_ (wk_ ⟨[(4, .bool false)], [], []⟩ (fgk (by kernel_rfl)) ?_)))))
     obtain rfl := Option.some.inj h1
     obtain rfl := hx1 _ rfl
     obtain rfl := Option.some.inj h0
     exact rt_ (hR1 _ (ret_ rfl rfl rfl rfl rfl tv))
    ·replace h1 := inb c21 h1
     refine sk_ (bn_ (wk_ ⟨[(0, .lst 1 (a0.map eI)), (1, .lst 1 (a1.map eI)), (5, iV p8)], [], []⟩ (fgk (by kernel_rfl)) (reg_ (st (mv_ rfl tv (st (c_ (cp_ t3 rfl tv) (st (mv_ rfl tv (oe_ ?_))))))))))
     obtain rfl := Option.some.inj h1
     exact hK1 _ rfl _ ⟨[(0, .lst 1 (a0.map eI)), (1, .lst 1 (a1.map eI)), (5, iV (IntKind.i64.wrap (p8 + 1)))], [], []⟩ (fgk (by kernel_rfl)) rfl
   ·replace h1 := inb c16 h1
    obtain rfl := Option.some.inj h1
    obtain rfl := hx1 _ rfl
    refine exQ rfl ?_
    exact hE1 _ ⟨[], [], []⟩ (fgk (by kernel_rfl)) ⟨rfl, rfl⟩

/- loop.example/g00149/laws.markIntS -/
def c37_r0 : List Ins := [⟨some 4, .p (.mv (.c (iV 0))), none⟩]
def c37_r1 : List Ins := [⟨some 5, .p (.mv (.c (iV 0))), none⟩]
def c37_r2 : List Ins := [(iQ 6 (.mv (.t 5))),
(iQ 7 (.mv (.t 0))),
(iQ 8 (.len (.t 7))),
(iQ 9 (.bin .lss (.t 6) (.t 8)))]
def c37_r3 : List Ins := [(iQ 12 (.mv (.t 0))),
(iQ 13 (.mv (.t 5))),
(iQ 14 (.mv (.t 1))),
(iQ 15 (.idxA (.t 12) (.t 13) 1)),
⟨none, .store (.t 15) (.t 14) 1, none⟩]
def c37_r4 : List Ins := [(iQ 16 (.mv (.t 1))),
⟨some 17, .p (.bin .add (.t 16) (.c (iV 1))), none⟩,
(iQ 1 (.mv (.t 17)))]
def c37_r5 : List Ins := [(iQ 10 (.mv (.t 5))),
⟨some 11, .p (.bin .add (.t 10) (.c (iV 1))), none⟩,
(iQ 5 (.mv (.t 11)))]
def c37_l0 : IR := (.seq (.seq (.reg c37_r2) (.ite (.t 9) .skip (.exit 0))) (.seq (.block 1 (.seq (.reg c37_r3) (.reg c37_r4))) (.reg c37_r5)))
def c37_r6 : List Ins := [(iQ 18 (.mv (.t 1))),
(iQ 4 (.mv (.t 18)))]
def c37 : XFn := { np := 2, nt := 19, res := [.t 4], body := (.seq (.reg c37_r0) (.seq (.seq (.reg c37_r1) (.block 0 (.loop c37_l0))) (.seq (.reg c37_r6) .ret))) }
def K37 (C : CRel) : Prop := ∀ (a0 : List Int) (a1 : Int) (r : Int × (List Int)), g37 a0 a1 = some r → C 37 ⟨[.own 2097152 0 1 (a0.map eI), iV a1], []⟩ ⟨iV r.1, [], [(0, 1, r.2.map eI)]⟩
theorem F37 {C : CRel}  (a0 : List Int) (a1 : Int) (r : Int × (List Int)) (h0 : g37 a0 a1 = some r) : FnOK C c37 ⟨[.own 2097152 0 1 (a0.map eI), iV a1], []⟩ ⟨iV r.1, [], [(0, 1, r.2.map eI)]⟩ := by
 refine fn_ (nl rfl) (seq_ (reg_ (st (mvc_ tv (oe_ (wk_ ⟨[(0, .own 2097152 0 1 (a0.map eI)), (1, iV a1)], [], []⟩ (fgk (by kernel_rfl)) (seq_ (seq_ (reg_ (st (mvc_ tv (oe_ (wk_ ⟨[(0, .own 2097152 0 1 (a0.map eI)), (1, iV a1), (5, iV 0)], [], []⟩ (fgk (by kernel_rfl)) (block_ ?_))))))))))))))
 obtain ⟨r24, e25, h0⟩ := bnd h0
 refine loop_ (R := (fun S => ∃ p17 : List Int, ∃ p18 : Int, (p17, p18) = r24 ∧ S = ⟨[(0, .own 2097152 0 1 (p17.map eI)), (1, iV p18)], [], []⟩)) (g37_l0) (fun s S => match s with | (p6, p7, p8) => S = ⟨[(0, .own 2097152 0 1 (p6.map eI)), (1, iV p7), (5, iV p8)], [], []⟩) e25 ⟨[(0, .own 2097152 0 1 (a0.map eI)), (1, iV a1), (5, iV 0)], [], []⟩ (fgk (by kernel_rfl)) rfl 0 (fun _ => rfl) ?_ ?_
 ·rintro S _ hfg ⟨p17, p18, rfl, rfl⟩
  refine wk_ ⟨[(0, .own 2097152 0 1 (p17.map eI)), (1, iV p18)], [], []⟩ (fglk hfg (by kernel_rfl)) (seq_ (reg_ (st (mv_ rfl tv (st (mv_ rfl tv (oe_ (wk_ ⟨[(0, .own 2097152 0 1 (p17.map eI)), (4, iV p18)], [], []⟩ (fgk (by kernel_rfl)) ?_))))))))
  obtain rfl := Option.some.inj h0
  exact rt_ (ret_ rfl rfl rfl rfl rfl ⟨⟨rfl, mlen (fun _ => rfl)⟩, tv⟩)
 ·rintro ⟨p6, p7, p8⟩ o1 _ K1 rfl h1 hx1 hK1 hE1 hR1
  refine seq_ (seq_ (reg_ (st (mv_ rfl tv (st (mv_ rfl tv (st (c_ (clenO (e := eI) (l0 := p6) rfl rfl tv) (st (c_ (cp_ t3 rfl tv) (oe_ (wk_ ⟨[(0, .own 2097152 0 1 (p6.map eI)), (1, iV p7), (5, iV p8), (9, .bool (decide (p8 < (p6.length : Int))))], [], []⟩ (fgk (by kernel_rfl)) (ite_ (cb := (decide (p8 < (p6.length : Int)))) rfl (fun c19 => ?_) (fun c19 => ?_))))))))))))))
  ·replace h1 := ip c19 h1
   refine sk_ (wk_ ⟨[(0, .own 2097152 0 1 (p6.map eI)), (1, iV p7), (5, iV p8)], [], []⟩ (fgk (by kernel_rfl)) (seq_ (block_ (seq_ (reg_ (st (mv_ rfl tv (st (mv_ rfl tv (st (mv_ rfl tv ?_)))))))))))
   obtain ⟨y20, e21, h1⟩ := bnd h1
   refine st (c_ (cidxO (e := eI) (y := y20) rfl rfl tv rfl rfl tv e21) ?_)
   obtain ⟨y22, e23, h1⟩ := bnd h1
   refine st (sto_ (y' := p7) rfl rfl tv rfl rfl rfl rfl e23 (nl rfl) rfl rfl rfl rfl (oe_ (wk_ ⟨[(0, .own 2097152 0 1 ((p6.set p8.toNat p7).map eI)), (1, iV p7), (5, iV p8)], [], []⟩ (fg ⟨(congrArg (fun z => some ((.own 2097152 0 1 z : V))) overlay_map), rfl, rfl, tv⟩ tv) (reg_ (st (mv_ rfl tv (st (c_ (cp_ t3 rfl tv) (st (mv_ rfl tv (oe_ (bn_ (wk_ ⟨[(0, .own 2097152 0 1 ((p6.set p8.toNat p7).map eI)), (1, iV (IntKind.i64.wrap (p7 + 1))), (5, iV p8)], [], []⟩ (fgk (by kernel_rfl)) (reg_ (st (mv_ rfl tv (st (c_ (cp_ t3 rfl tv) (st (mv_ rfl tv (oe_ ?_)))))))))))))))))))))
   obtain rfl := Option.some.inj h1
   exact hK1 _ rfl _ ⟨[(0, .own 2097152 0 1 ((p6.set p8.toNat p7).map eI)), (1, iV (IntKind.i64.wrap (p7 + 1))), (5, iV (IntKind.i64.wrap (p8 + 1)))], [], []⟩ (fgk (by kernel_rfl)) rfl
  ·replace h1 := inb c19 h1
   obtain rfl := Option.some.inj h1
   obtain rfl := hx1 _ rfl
   refine exQ rfl ?_
   exact hE1 _ ⟨[(0, .own 2097152 0 1 (p6.map eI)), (1, iV p7)], [], []⟩ (fgk (by kernel_rfl)) ⟨_, _, rfl, rfl⟩

/- loop.example/g00149/laws.toIntS -/
def c43_r0 : List Ins := [⟨some 2, .nilS 1, none⟩]
def c43_r1 : List Ins := [(iQ 5 (.mv (.t 0))),
(iQ 6 (.len (.t 5))),
⟨some 7, .make 1 8 [(iV 0)] (.t 6) (.t 6), none⟩,
(iQ 3 (.mv (.t 7)))]
def c43_r2 : List Ins := [⟨some 4, .p (.mv (.c (iV 0))), none⟩]
def c43_r3 : List Ins := [(iQ 8 (.mv (.t 4))),
(iQ 9 (.mv (.t 0))),
(iQ 10 (.len (.t 9))),
(iQ 11 (.bin .lss (.t 8) (.t 10)))]
def c43_r4 : List Ins := [(iQ 14 (.mv (.t 3))),
(iQ 15 (.mv (.t 4))),
(iQ 16 (.mv (.t 0))),
(iQ 17 (.mv (.t 4))),
(iQ 18 (.idxA (.t 16) (.t 17) 1)),
(iQ 19 (.load (.t 18) 1 false)),
(iQ 20 (.idxA (.t 14) (.t 15) 1)),
⟨none, .store (.t 20) (.t 19) 1, none⟩]
def c43_r5 : List Ins := [(iQ 12 (.mv (.t 4))),
⟨some 13, .p (.bin .add (.t 12) (.c (iV 1))), none⟩,
(iQ 4 (.mv (.t 13)))]
def c43_l0 : IR := (.seq (.seq (.reg c43_r3) (.ite (.t 11) .skip (.exit 0))) (.seq (.block 1 (.reg c43_r4)) (.reg c43_r5)))
def c43_r6 : List Ins := [(iQ 21 (.mv (.t 3))),
(iQ 2 (.mv (.t 21)))]
def c43 : XFn := { np := 1, nt := 22, res := [.t 2], body := (.seq (.reg c43_r0) (.seq (.reg c43_r1) (.seq (.seq (.reg c43_r2) (.block 0 (.loop c43_l0))) (.seq (.reg c43_r6) .ret)))) }
def K43 (C : CRel) : Prop := ∀ (a0 : List Int) (r : (List Int)), g43 a0 = some r → C 43 ⟨[.lst 1 (a0.map eI)], []⟩ ⟨.own 0 0 1 (r.map eI), [], []⟩
theorem F43 {C : CRel}  (a0 : List Int) (r : (List Int)) (h0 : g43 a0 = some r) : FnOK C c43 ⟨[.lst 1 (a0.map eI)], []⟩ ⟨.own 0 0 1 (r.map eI), [], []⟩ := by
 refine fn_ (nl rfl) (seq_ (reg_ (st (nilS_ (oe_ (wk_ ⟨[(0, .lst 1 (a0.map eI))], [], []⟩ (fgk (by kernel_rfl)) (seq_ (reg_ (st (mv_ rfl tv (st (c_ (clenL (e := eI) (l0 := a0) rfl rfl tv) ?_))))))))))))
 obtain ⟨c1, h0⟩ := grd h0
 obtain ⟨c2, h0⟩ := grd h0
 refine st (make_ (e := eI) 0 rfl rfl c1 rfl c2 rfl (st (mv_ rfl tv (oe_ (wk_ ⟨[(0, .lst 1 (a0.map eI)), (3, .own 448 0 1 ((List.replicate (a0.length : Int).toNat 0).map eI))], [], []⟩ (fgk (by kernel_rfl)) (seq_ (seq_ (reg_ (st (mvc_ tv (oe_ (wk_ ⟨[(0, .lst 1 (a0.map eI)), (3, .own 448 0 1 ((List.replicate (a0.length : Int).toNat 0).map eI)), (4, iV 0)], [], []⟩ (fgk (by kernel_rfl)) (block_ ?_)))))))))))))
 obtain ⟨r29, e30, h0⟩ := bnd h0
 refine loop_ (R := (fun S => ∃ p21 : List Int, p21 = r29 ∧ S = ⟨[(3, .own 448 0 1 (p21.map eI))], [], []⟩)) (g43_l0 a0) (fun s S => match s with | (p10, p11) => S = ⟨[(0, .lst 1 (a0.map eI)), (3, .own 448 0 1 (p10.map eI)), (4, iV p11)], [], []⟩) e30 ⟨[(0, .lst 1 (a0.map eI)), (3, .own 448 0 1 ((List.replicate (a0.length : Int).toNat 0).map eI)), (4, iV 0)], [], []⟩ (fgk (by kernel_rfl)) rfl 0 (fun _ => rfl) ?_ ?_
 ·rintro S _ hfg ⟨p21, rfl, rfl⟩
  refine wk_ ⟨[(3, .own 448 0 1 (p21.map eI))], [], []⟩ (fglk hfg (by kernel_rfl)) (seq_ (reg_ (st (mv_ rfl tv (st (mv_ rfl tv (oe_ (wk_ ⟨[(2, .own 448 0 1 (p21.map eI))], [], []⟩ (fgk (by kernel_rfl)) ?_))))))))
  obtain rfl := Option.some.inj h0
  exact rt_ (ret_ rfl rfl rfl rfl rfl tv)
 ·rintro ⟨p10, p11⟩ o1 _ K1 rfl h1 hx1 hK1 hE1 hR1
  refine seq_ (seq_ (reg_ (st (mv_ rfl tv (st (mv_ rfl tv (st (c_ (clenL (e := eI) (l0 := a0) rfl rfl tv) (st (c_ (cp_ t3 rfl tv) (oe_ (wk_ ⟨[(0, .lst 1 (a0.map eI)), (3, .own 448 0 1 (p10.map eI)), (4, iV p11), (11, .bool (decide (p11 < (a0.length : Int))))], [], []⟩ (fgk (by kernel_rfl)) (ite_ (cb := (decide (p11 < (a0.length : Int)))) rfl (fun c22 => ?_) (fun c22 => ?_))))))))))))))
  ·replace h1 := ip c22 h1
   refine sk_ (wk_ ⟨[(0, .lst 1 (a0.map eI)), (3, .own 448 0 1 (p10.map eI)), (4, iV p11)], [], []⟩ (fgk (by kernel_rfl)) (seq_ (block_ (reg_ (st (mv_ rfl tv (st (mv_ rfl tv (st (mv_ rfl tv (st (mv_ rfl tv ?_))))))))))))
   obtain ⟨y23, e24, h1⟩ := bnd h1
   refine st (c_ (cidxL (e := eI) (y := y23) rfl rfl tv rfl rfl tv e24) (st (c_ (cp_ ⟨tv, tv⟩ rfl (nl rfl)) ?_)))
   obtain ⟨y25, e26, h1⟩ := bnd h1
   refine st (c_ (cidxO (e := eI) (y := y25) rfl rfl tv rfl rfl tv e26) ?_)
   obtain ⟨y27, e28, h1⟩ := bnd h1
   refine st (sto_ (y' := y23) rfl rfl tv rfl rfl rfl rfl e28 (nl rfl) rfl rfl rfl rfl (oe_ (bn_ (wk_ ⟨[(0, .lst 1 (a0.map eI)), (3, .own 448 0 1 ((p10.set p11.toNat y23).map eI)), (4, iV p11)], [], []⟩ (fg ⟨rfl, (congrArg (fun z => some ((.own 448 0 1 z : V))) overlay_map), rfl, tv⟩ tv) (reg_ (st (mv_ rfl tv (st (c_ (cp_ t3 rfl tv) (st (mv_ rfl tv (oe_ ?_))))))))))))
   obtain rfl := Option.some.inj h1
   exact hK1 _ rfl _ ⟨[(0, .lst 1 (a0.map eI)), (3, .own 448 0 1 ((p10.set p11.toNat y23).map eI)), (4, iV (IntKind.i64.wrap (p11 + 1)))], [], []⟩ (fgk (by kernel_rfl)) rfl
  ·replace h1 := inb c22 h1
   obtain rfl := Option.some.inj h1
   obtain rfl := hx1 _ rfl
   refine exQ rfl ?_
   exact hE1 _ ⟨[(3, .own 448 0 1 (p10.map eI))], [], []⟩ (fgk (by kernel_rfl)) ⟨_, rfl, rfl⟩

/- loop.example/g00149/laws.eqLease -/
def c107_r0 : List Ins := [⟨some 2, .box (.t 0), none⟩,
⟨some 3, .box (.t 1), none⟩,
⟨some 4, .p (.mv (.c (.bool false))), none⟩]
def c107_r1 : List Ins := [(iQ 5 (.fieldA (.t 2) 0)),
(iQ 6 (.load (.t 5) 1 false)),
(iQ 7 (.fieldA (.t 3) 0)),
(iQ 8 (.load (.t 7) 1 false)),
(iQ 9 (.bin .neq (.t 6) (.t 8)))]
def c107_r2 : List Ins := [⟨some 4, .p (.mv (.c (.bool false))), none⟩]
def c107_r3 : List Ins := [(iQ 10 (.fieldA (.t 2) 1)),
(iQ 11 (.load (.t 10) 1 false)),
(iQ 12 (.fieldA (.t 3) 1)),
(iQ 13 (.load (.t 12) 1 false)),
(iQ 14 (.bin .neq (.t 11) (.t 13)))]
def c107_r4 : List Ins := [⟨some 4, .p (.mv (.c (.bool false))), none⟩]
def c107_r5 : List Ins := [(iQ 15 (.fieldA (.t 2) 2)),
(iQ 16 (.load (.t 15) 1 false)),
(iQ 17 (.fieldA (.t 3) 2)),
(iQ 18 (.load (.t 17) 1 false)),
(iQ 19 (.bin .neq (.t 16) (.t 18)))]
def c107_r6 : List Ins := [⟨some 4, .p (.mv (.c (.bool false))), none⟩]
def c107_r7 : List Ins := [(iQ 20 (.fieldA (.t 2) 3)),
(iQ 21 (.load (.t 20) 1 false)),
(iQ 22 (.fieldA (.t 3) 3)),
(iQ 23 (.load (.t 22) 1 false)),
(iQ 24 (.binB .neq (.t 21) (.t 23)))]
def c107_r8 : List Ins := [⟨some 4, .p (.mv (.c (.bool false))), none⟩]
def c107_r9 : List Ins := [⟨some 4, .p (.mv (.c (.bool true))), none⟩]
def c107 : XFn := { np := 2, nt := 25, res := [.t 4], body := (.seq (.reg c107_r0) (.seq (.seq (.reg c107_r1) (.ite (.t 9) (.seq (.reg c107_r2) .ret) .skip)) (.seq (.seq (.reg c107_r3) (.ite (.t 14) (.seq (.reg c107_r4) .ret) .skip)) (.seq (.seq (.reg c107_r5) (.ite (.t 19) (.seq (.reg c107_r6) .ret) .skip)) (.seq (.seq (.reg c107_r7) (.ite (.t 24) (.seq (.reg c107_r8) .ret) .skip)) (.seq (.reg c107_r9) .ret)))))) }
def K107 (C : CRel) : Prop := ∀ (a0 : DLease) (a1 : DLease) (r : Bool), g107 a0 a1 = some r → C 107 ⟨[.agg (eDLease a0), .agg (eDLease a1)], []⟩ ⟨.bool r, [], []⟩
theorem F107 {C : CRel}  (a0 : DLease) (a1 : DLease) (r : Bool) (h0 : g107 a0 a1 = some r) : FnOK C c107 ⟨[.agg (eDLease a0), .agg (eDLease a1)], []⟩ ⟨.bool r, [], []⟩ := by
 refine fn_ (nl rfl) (seq_ (reg_ (st (box_ rfl tv rfl (st (box_ rfl tv rfl (st (mvc_ tv (oe_ (wk_ ⟨[(2, .ptr 128 0), (3, .ptr 192 0)], [(128, [iV a0.id, iV a0.until_, iV a0.cap, .bool a0.queued]), (192, [iV a1.id, iV a1.until_, iV a1.cap, .bool a1.queued])], []⟩ (fgk (by kernel_rfl)) (seq_ (seq_ (reg_ (st (c_ (cp_ ⟨tv, tv⟩ rfl tv) (st (c_ (cp_ ⟨tv, tv⟩ rfl (nl rfl)) (st (c_ (cp_ ⟨tv, tv⟩ rfl tv) (st (c_ (cp_ ⟨tv, tv⟩ rfl (nl rfl)) (st (c_ (cp_ t3 rfl tv) (oe_ (wk_ ⟨[(2, .ptr 128 0), (3, .ptr 192 0), (9, .bool (a0.id != a1.id))], [(128, [iV a0.id, iV a0.until_, iV a0.cap, .bool a0.queued]), (192, [iV a1.id, iV a1.until_, iV a1.cap, .bool a1.queued])], []⟩ (fgk (by kernel_rfl)) (ite_ (cb := (a0.id != a1.id)) rfl (fun c1 => ?_) (fun c1 => ?_)))))))))))))))))))))))))))
 ·replace h0 := ip c1 h0
  refine seq_ (reg_ (st (mvc_ tv (oe_ (wk_ ⟨[(4, .bool false)], [], []⟩ (fgk (by kernel_rfl)) ?_)))))
  obtain rfl := Option.some.inj h0
  exact rt_ (ret_ rfl rfl rfl rfl rfl tv)
 ·replace h0 := inb c1 h0
  refine sk_ (wk_ ⟨[(2, .ptr 128 0), (3, .ptr 192 0)], [(128, [iV a0.id, iV a0.until_, iV a0.cap, .bool a0.queued]), (192, [iV a1.id, iV a1.until_, iV a1.cap, .bool a1.queued])], []⟩ (fgk (by kernel_rfl)) (seq_ (seq_ (reg_ (st (c_ (cp_ ⟨tv, tv⟩ rfl tv) (st (c_ (cp_ ⟨tv, tv⟩ rfl (nl rfl)) (st (c_ (cp_ ⟨tv, tv⟩ rfl tv) (st (c_ (cp_ ⟨tv, tv⟩ rfl (nl rfl)) (st (c_ (cp_ t3 rfl tv) (oe_ (wk_ ⟨[(2, .ptr 128 0), (3, .ptr 192 0), (14, .bool (a0.until_ != a1.until_))], [(128, [iV a0.id, iV a0.until_, iV a0.cap, .bool a0.queued]), (192, [iV a1.id, iV a1.until_, iV a1.cap, .bool a1.queued])], []⟩ (fgk (by kernel_rfl)) (ite_ (cb := (a0.until_ != a1.until_)) rfl (fun c2 => ?_) (fun c2 => ?_))))))))))))))))))
  ·replace h0 := ip c2 h0
   refine seq_ (reg_ (st (mvc_ tv (oe_ (wk_ ⟨[(4, .bool false)], [], []⟩ (fgk (by kernel_rfl)) ?_)))))
   obtain rfl := Option.some.inj h0
   exact rt_ (ret_ rfl rfl rfl rfl rfl tv)
  ·replace h0 := inb c2 h0
   refine sk_ (wk_ ⟨[(2, .ptr 128 0), (3, .ptr 192 0)], [(128, [iV a0.id, iV a0.until_, iV a0.cap, .bool a0.queued]), (192, [iV a1.id, iV a1.until_, iV a1.cap, .bool a1.queued])], []⟩ (fgk (by kernel_rfl)) (seq_ (seq_ (reg_ (st (c_ (cp_ ⟨tv, tv⟩ rfl tv) (st (c_ (cp_ ⟨tv, tv⟩ rfl (nl rfl)) (st (c_ (cp_ ⟨tv, tv⟩ rfl tv) (st (c_ (cp_ ⟨tv, tv⟩ rfl (nl rfl)) (st (c_ (cp_ t3 rfl tv) (oe_ (wk_ ⟨[(2, .ptr 128 0), (3, .ptr 192 0), (19, .bool (a0.cap != a1.cap))], [(128, [iV a0.id, iV a0.until_, iV a0.cap, .bool a0.queued]), (192, [iV a1.id, iV a1.until_, iV a1.cap, .bool a1.queued])], []⟩ (fgk (by kernel_rfl)) (ite_ (cb := (a0.cap != a1.cap)) rfl (fun c3 => ?_) (fun c3 => ?_))))))))))))))))))
   ·replace h0 := ip c3 h0
    refine seq_ (reg_ (st (mvc_ tv (oe_ (wk_ ⟨[(4, .bool false)], [], []⟩ (fgk (by kernel_rfl)) ?_)))))
    obtain rfl := Option.some.inj h0
    exact rt_ (ret_ rfl rfl rfl rfl rfl tv)
   ·replace h0 := inb c3 h0
    refine sk_ (wk_ ⟨[(2, .ptr 128 0), (3, .ptr 192 0)], [(128, [iV a0.id, iV a0.until_, iV a0.cap, .bool a0.queued]), (192, [iV a1.id, iV a1.until_, iV a1.cap, .bool a1.queued])], []⟩ (fgk (by kernel_rfl)) (seq_ (seq_ (reg_ (st (c_ (cp_ ⟨tv, tv⟩ rfl tv) (st (c_ (cp_ ⟨tv, tv⟩ rfl (nl rfl)) (st (c_ (cp_ ⟨tv, tv⟩ rfl tv) (st (c_ (cp_ ⟨tv, tv⟩ rfl (nl rfl)) (st (c_ (cp_ t3 rfl tv) (oe_ (wk_ ⟨[(24, .bool (!(a0.queued == a1.queued)))], [], []⟩ (fgk (by kernel_rfl)) (ite_ (cb := (!(a0.queued == a1.queued))) rfl (fun c4 => ?_) (fun c4 => ?_))))))))))))))))))
    ·replace h0 := ip c4 h0
     refine seq_ (reg_ (st (mvc_ tv (oe_ (wk_ ⟨[(4, .bool false)], [], []⟩ (fgk (by kernel_rfl)) ?_)))))
     obtain rfl := Option.some.inj h0
     exact rt_ (ret_ rfl rfl rfl rfl rfl tv)
    ·replace h0 := inb c4 h0
     refine sk_ (wk_ ⟨[], [], []⟩ (fgk (by kernel_rfl)) (seq_ (reg_ (st (mvc_ tv (oe_ (wk_ ⟨[(4, .bool true)], [], []⟩ (fgk (by kernel_rfl)) ?_)))))))
     obtain rfl := Option.some.inj h0
     exact rt_ (ret_ rfl rfl rfl rfl rfl tv)

/- loop.example/g00149/laws.eqLeaseS -/
def c64_r0 : List Ins := [⟨some 4, .p (.mv (.c (.bool false))), none⟩]
def c64_r1 : List Ins := [(iQ 6 (.mv (.t 0))),
(iQ 7 (.len (.t 6))),
(iQ 8 (.mv (.t 1))),
(iQ 9 (.len (.t 8))),
(iQ 10 (.bin .neq (.t 7) (.t 9)))]
def c64_r2 : List Ins := [⟨some 4, .p (.mv (.c (.bool false))), none⟩]
def c64_r3 : List Ins := [⟨some 5, .p (.mv (.c (iV 0))), none⟩]
def c64_r4 : List Ins := [(iQ 11 (.mv (.t 5))),
(iQ 12 (.mv (.t 0))),
(iQ 13 (.len (.t 12))),
(iQ 14 (.bin .lss (.t 11) (.t 13)))]
def c64_r5 : DP := (.take (iQ 17 (.mv (.t 0)))
(.take (iQ 18 (.mv (.t 5)))
(.take (iQ 19 (.idxA (.t 17) (.t 18) 4))
(.take (iQ 20 (.load (.t 19) 4 true))
(.take (iQ 21 (.mv (.t 1)))
(.take (iQ 22 (.mv (.t 5)))
(.take (iQ 23 (.idxA (.t 21) (.t 22) 4))
(.take (iQ 24 (.load (.t 23) 4 true))
(.alt [] ⟨some 25, .call 107 [(.t 20), (.t 24)], none⟩
(.take (iQ 26 (.un .not (.t 25)))
.fin)
.stop)))))))))
def c64_r6 : List Ins := [⟨some 4, .p (.mv (.c (.bool false))), none⟩]
def c64_r7 : List Ins := [(iQ 15 (.mv (.t 5))),
⟨some 16, .p (.bin .add (.t 15) (.c (iV 1))), none⟩,
(iQ 5 (.mv (.t 16)))]
def c64_l0 : IR := (.seq (.seq (.reg c64_r4) (.ite (.t 14) .skip (.exit 0))) (.seq (.block 1 (.seq (.draw c64_r5) (.ite (.t 26) (.seq (.reg c64_r6) .ret) .skip))) (.reg c64_r7)))
def c64_r8 : List Ins := [⟨some 4, .p (.mv (.c (.bool true))), none⟩]
def c64 : XFn := { np := 2, nt := 27, res := [.t 4], body := (.seq (.reg c64_r0) (.seq (.seq (.reg c64_r1) (.ite (.t 10) (.seq (.reg c64_r2) .ret) .skip)) (.seq (.seq (.reg c64_r3) (.block 0 (.loop c64_l0))) (.seq (.reg c64_r8) .ret)))) }
def K64 (C : CRel) : Prop := ∀ (a0 : List DLease) (a1 : List DLease) (r : Bool), g64 a0 a1 = some r → C 64 ⟨[.lst 4 (a0.map eDLease), .lst 4 (a1.map eDLease)], []⟩ ⟨.bool r, [], []⟩
theorem F64 {C : CRel} (H107 : K107 C) (a0 : List DLease) (a1 : List DLease) (r : Bool) (h0 : g64 a0 a1 = some r) : FnOK C c64 ⟨[.lst 4 (a0.map eDLease), .lst 4 (a1.map eDLease)], []⟩ ⟨.bool r, [], []⟩ := by
 refine fn_ (nl rfl) (seq_ (reg_ (st (mvc_ tv (oe_ (wk_ ⟨[(0, .lst 4 (a0.map eDLease)), (1, .lst 4 (a1.map eDLease))], [], []⟩ (fgk (by kernel_rfl)) (seq_ (seq_ (reg_ (st (mv_ rfl tv (st (c_ (clenL (e := eDLease) (l0 := a0) rfl rfl tv) (st (mv_ rfl tv (st (c_ (clenL (e := eDLease) (l0 := a1) rfl rfl tv) (st (c_ (cp_ t3 rfl tv) (oe_ (wk_ ⟨[(0, .lst 4 (a0.map eDLease)), (1, .lst 4 (a1.map eDLease)), (10, .bool ((a0.length : Int) != (a1.length : Int)))], [], []⟩ (fgk (by kernel_rfl)) (ite_ (cb := ((a0.length : Int) != (a1.length : Int))) rfl (fun c1 => ?_) (fun c1 => ?_)))))))))))))))))))))))
 ·replace h0 := ip c1 h0
  refine seq_ (reg_ (st (mvc_ tv (oe_ (wk_ ⟨[(4, .bool false)], [], []⟩ (fgk (by kernel_rfl)) ?_)))))
  obtain rfl := Option.some.inj h0
  exact rt_ (ret_ rfl rfl rfl rfl rfl tv)
 ·replace h0 := inb c1 h0
  refine sk_ (wk_ ⟨[(0, .lst 4 (a0.map eDLease)), (1, .lst 4 (a1.map eDLease))], [], []⟩ (fgk (by kernel_rfl)) (seq_ (seq_ (reg_ (st (mvc_ tv (oe_ (wk_ ⟨[(0, .lst 4 (a0.map eDLease)), (1, .lst 4 (a1.map eDLease)), (5, iV 0)], [], []⟩ (fgk (by kernel_rfl)) (block_ ?_)))))))))
  obtain ⟨r28, e29, h0⟩ := bnd h0
  refine loop_ (R := (fun S => .inl () = r28 ∧ S = ⟨[], [], []⟩)) (g64_l0 a0 a1) (fun s S => match s with | p10 => S = ⟨[(0, .lst 4 (a0.map eDLease)), (1, .lst 4 (a1.map eDLease)), (5, iV p10)], [], []⟩) e29 ⟨[(0, .lst 4 (a0.map eDLease)), (1, .lst 4 (a1.map eDLease)), (5, iV 0)], [], []⟩ (fgk (by kernel_rfl)) rfl 0 (fun _ => rfl) ?_ ?_
  ·rintro S _ hfg ⟨rfl, rfl⟩
   refine wk_ ⟨[], [], []⟩ (fglk hfg (by kernel_rfl)) (seq_ (reg_ (st (mvc_ tv (oe_ (wk_ ⟨[(4, .bool true)], [], []⟩ (fgk (by kernel_rfl)) ?_))))))
   obtain rfl := Option.some.inj h0
   exact rt_ (ret_ rfl rfl rfl rfl rfl tv)
  ·rintro p10 o1 _ K1 rfl h1 hx1 hK1 hE1 hR1
   refine seq_ (seq_ (reg_ (st (mv_ rfl tv (st (mv_ rfl tv (st (c_ (clenL (e := eDLease) (l0 := a0) rfl rfl tv) (st (c_ (cp_ t3 rfl tv) (oe_ (wk_ ⟨[(0, .lst 4 (a0.map eDLease)), (1, .lst 4 (a1.map eDLease)), (5, iV p10), (14, .bool (decide (p10 < (a0.length : Int))))], [], []⟩ (fgk (by kernel_rfl)) (ite_ (cb := (decide (p10 < (a0.length : Int)))) rfl (fun c20 => ?_) (fun c20 => ?_))))))))))))))
   ·replace h1 := ip c20 h1
    refine sk_ (wk_ ⟨[(0, .lst 4 (a0.map eDLease)), (1, .lst 4 (a1.map eDLease)), (5, iV p10)], [], []⟩ (fgk (by kernel_rfl)) (seq_ (block_ (seq_ ?_))))
    obtain ⟨y21, e22, h1⟩ := bnd h1
    obtain ⟨y23, e24, h1⟩ := bnd h1
    obtain ⟨r25, e26, h1⟩ := bnd h1
    refine draw_ (dtake tv (mv_ rfl tv (⟨tv, (dtake tv (mv_ rfl tv (⟨tv, (dtake tv (c_ (cidxL (e := eDLease) (y := y21) rfl rfl tv rfl rfl tv e22) (⟨tv, (dtake tv (c_ (v := .agg (eDLease y21)) (cp_ ⟨tv, tv⟩ rfl (nl rfl)) (⟨tv, (dtake tv (mv_ rfl tv (⟨tv, (dtake tv (mv_ rfl tv (⟨tv, (dtake tv (c_ (cidxL (e := eDLease) (y := y23) rfl rfl tv rfl rfl tv e24) (⟨tv, (dtake tv (c_ (v := .agg (eDLease y23)) (cp_ ⟨tv, tv⟩ rfl (nl rfl)) (⟨tv, (dalt (call0_ (r := .bool r25) false (H107 y21 y23 r25 e26) ⟨tv, tv, tv⟩ rfl rfl (fun _ => rfl) (dkw ⟨[(0, .lst 4 (a0.map eDLease)), (1, .lst 4 (a1.map eDLease)), (5, iV p10), (25, .bool r25)], [], []⟩ (fgk (by kernel_rfl)) ⟨[], tv, tv, (dtake tv (c_ (cp_ ⟨tv, tv⟩ rfl tv) (⟨tv, (dfin (wk_ ⟨[(0, .lst 4 (a0.map eDLease)), (1, .lst 4 (a1.map eDLease)), (5, iV p10), (26, .bool (!r25))], [], []⟩ (fgk (by kernel_rfl)) (ite_ (cb := (!r25)) rfl (fun c27 => ?_) (fun c27 => ?_))))⟩)))⟩)) dstop)⟩)))⟩)))⟩)))⟩)))⟩)))⟩)))⟩)))⟩)))
    ·replace h1 := ip c27 h1
     refine seq_ (reg_ (st (mvc_ tv (oe_ (wk_ ⟨[(4, .bool false)], [], []⟩ (fgk (by kernel_rfl)) ?_)))))
     obtain rfl := Option.some.inj h1
     obtain rfl := hx1 _ rfl
     obtain rfl := Option.some.inj h0
     exact rt_ (hR1 _ (ret_ rfl rfl rfl rfl rfl tv))
    ·replace h1 := inb c27 h1
     refine sk_ (bn_ (wk_ ⟨[(0, .lst 4 (a0.map eDLease)), (1, .lst 4 (a1.map eDLease)), (5, iV p10)], [], []⟩ (fgk (by kernel_rfl)) (reg_ (st (mv_ rfl tv (st (c_ (cp_ t3 rfl tv) (st (mv_ rfl tv (oe_ ?_))))))))))
     obtain rfl := Option.some.inj h1
     exact hK1 _ rfl _ ⟨[(0, .lst 4 (a0.map eDLease)), (1, .lst 4 (a1.map eDLease)), (5, iV (IntKind.i64.wrap (p10 + 1)))], [], []⟩ (fgk (by kernel_rfl)) rfl
   ·replace h1 := inb c20 h1
    obtain rfl := Option.some.inj h1
    obtain rfl := hx1 _ rfl
    refine exQ rfl ?_
    exact hE1 _ ⟨[], [], []⟩ (fgk (by kernel_rfl)) ⟨rfl, rfl⟩

/- loop.example/g00149/laws.eqTable -/
def c21_r0 : List Ins := [⟨some 2, .box (.t 0), none⟩,
⟨some 3, .box (.t 1), none⟩,
⟨some 4, .p (.mv (.c (.bool false))), none⟩]
def c21_r1 : List Ins := [(iQ 5 (.fieldA (.t 2) 0)),
(iQ 6 (.load (.t 5) 1 false)),
(iQ 7 (.fieldA (.t 3) 0)),
(iQ 8 (.load (.t 7) 1 false)),
(iQ 9 (.bin .neq (.t 6) (.t 8)))]
def c21_r2 : List Ins := [⟨some 4, .p (.mv (.c (.bool false))), none⟩]
def c21_r3 : List Ins := [(iQ 10 (.fieldA (.t 2) 1)),
(iQ 11 (.load (.t 10) 1 false)),
(iQ 12 (.fieldA (.t 3) 1)),
(iQ 13 (.load (.t 12) 1 false)),
(iQ 14 (.bin .neq (.t 11) (.t 13)))]
def c21_r4 : List Ins := [⟨some 4, .p (.mv (.c (.bool false))), none⟩]
def c21_r5 : List Ins := [(iQ 15 (.fieldA (.t 2) 2)),
(iQ 16 (.load (.t 15) 1 false)),
(iQ 17 (.fieldA (.t 3) 2)),
(iQ 18 (.load (.t 17) 1 false)),
⟨some 19, .call 64 [(.t 16), (.t 18)], none⟩,
(iQ 20 (.un .not (.t 19)))]
def c21_r6 : List Ins := [⟨some 4, .p (.mv (.c (.bool false))), none⟩]
def c21_r7 : List Ins := [⟨some 4, .p (.mv (.c (.bool true))), none⟩]
def c21 : XFn := { np := 2, nt := 21, res := [.t 4], body := (.seq (.reg c21_r0) (.seq (.seq (.reg c21_r1) (.ite (.t 9) (.seq (.reg c21_r2) .ret) .skip)) (.seq (.seq (.reg c21_r3) (.ite (.t 14) (.seq (.reg c21_r4) .ret) .skip)) (.seq (.seq (.reg c21_r5) (.ite (.t 20) (.seq (.reg c21_r6) .ret) .skip)) (.seq (.reg c21_r7) .ret))))) }
def K21 (C : CRel) : Prop := ∀ (a0 : DTable) (a1 : DTable) (r : Bool), g21 a0 a1 = some r → C 21 ⟨[.agg (eDTable a0), .agg (eDTable a1)], []⟩ ⟨.bool r, [], []⟩
theorem F21 {C : CRel} (H64 : K64 C) (a0 : DTable) (a1 : DTable) (r : Bool) (h0 : g21 a0 a1 = some r) : FnOK C c21 ⟨[.agg (eDTable a0), .agg (eDTable a1)], []⟩ ⟨.bool r, [], []⟩ := by
 refine fn_ (nl rfl) (seq_ (reg_ (st (box_ rfl tv rfl (st (box_ rfl tv rfl (st (mvc_ tv (oe_ (wk_ ⟨[(2, .ptr 128 0), (3, .ptr 192 0)], [(128, [iV a0.clock, iV a0.next, .lst 4 (a0.list_.map eDLease)]), (192, [iV a1.clock, iV a1.next, .lst 4 (a1.list_.map eDLease)])], []⟩ (fgk (by kernel_rfl)) (seq_ (seq_ (reg_ (st (c_ (cp_ ⟨tv, tv⟩ rfl tv) (st (c_ (cp_ ⟨tv, tv⟩ rfl (nl rfl)) (st (c_ (cp_ ⟨tv, tv⟩ rfl tv) (st (c_ (cp_ ⟨tv, tv⟩ rfl (nl rfl)) (st (c_ (cp_ t3 rfl tv) (oe_ (wk_ ⟨[(2, .ptr 128 0), (3, .ptr 192 0), (9, .bool (a0.clock != a1.clock))], [(128, [iV a0.clock, iV a0.next, .lst 4 (a0.list_.map eDLease)]), (192, [iV a1.clock, iV a1.next, .lst 4 (a1.list_.map eDLease)])], []⟩ (fgk (by kernel_rfl)) (ite_ (cb := (a0.clock != a1.clock)) rfl (fun c1 => ?_) (fun c1 => ?_)))))))))))))))))))))))))))
 ·replace h0 := ip c1 h0
  refine seq_ (reg_ (st (mvc_ tv (oe_ (wk_ ⟨[(4, .bool false)], [], []⟩ (fgk (by kernel_rfl)) ?_)))))
  obtain rfl := Option.some.inj h0
  exact rt_ (ret_ rfl rfl rfl rfl rfl tv)
 ·replace h0 := inb c1 h0
  refine sk_ (wk_ ⟨[(2, .ptr 128 0), (3, .ptr 192 0)], [(128, [iV a0.clock, iV a0.next, .lst 4 (a0.list_.map eDLease)]), (192, [iV a1.clock, iV a1.next, .lst 4 (a1.list_.map eDLease)])], []⟩ (fgk (by kernel_rfl)) (seq_ (seq_ (reg_ (st (c_ (cp_ ⟨tv, tv⟩ rfl tv) (st (c_ (cp_ ⟨tv, tv⟩ rfl (nl rfl)) (st (c_ (cp_ ⟨tv, tv⟩ rfl tv) (st (c_ (cp_ ⟨tv, tv⟩ rfl (nl rfl)) (st (c_ (cp_ t3 rfl tv) (oe_ (wk_ ⟨[(2, .ptr 128 0), (3, .ptr 192 0), (14, .bool (a0.next != a1.next))], [(128, [iV a0.clock, iV a0.next, .lst 4 (a0.list_.map eDLease)]), (192, [iV a1.clock, iV a1.next, .lst 4 (a1.list_.map eDLease)])], []⟩ (fgk (by kernel_rfl)) (ite_ (cb := (a0.next != a1.next)) rfl (fun c2 => ?_) (fun c2 => ?_))))))))))))))))))
  ·replace h0 := ip c2 h0
   refine seq_ (reg_ (st (mvc_ tv (oe_ (wk_ ⟨[(4, .bool false)], [], []⟩ (fgk (by kernel_rfl)) ?_)))))
   obtain rfl := Option.some.inj h0
   exact rt_ (ret_ rfl rfl rfl rfl rfl tv)
  ·replace h0 := inb c2 h0
   refine sk_ (wk_ ⟨[(2, .ptr 128 0), (3, .ptr 192 0)], [(128, [iV a0.clock, iV a0.next, .lst 4 (a0.list_.map eDLease)]), (192, [iV a1.clock, iV a1.next, .lst 4 (a1.list_.map eDLease)])], []⟩ (fgk (by kernel_rfl)) (seq_ (seq_ (reg_ (st (c_ (cp_ ⟨tv, tv⟩ rfl tv) (st (c_ (cp_ ⟨tv, tv⟩ rfl (nl rfl)) (st (c_ (cp_ ⟨tv, tv⟩ rfl tv) (st (c_ (cp_ ⟨tv, tv⟩ rfl (nl rfl)) ?_))))))))))))
   obtain ⟨r3, e4, h0⟩ := bnd h0
   refine st (call0_ (r := .bool r3) false (H64 a0.list_ a1.list_ r3 e4) ⟨tv, tv, tv⟩ rfl rfl (fun _ => rfl) (st (c_ (cp_ ⟨tv, tv⟩ rfl tv) (oe_ (wk_ ⟨[(20, .bool (!r3))], [], []⟩ (fgk (by kernel_rfl)) (ite_ (cb := (!r3)) rfl (fun c5 => ?_) (fun c5 => ?_)))))))
   ·replace h0 := ip c5 h0
    refine seq_ (reg_ (st (mvc_ tv (oe_ (wk_ ⟨[(4, .bool false)], [], []⟩ (fgk (by kernel_rfl)) ?_)))))
    obtain rfl := Option.some.inj h0
    exact rt_ (ret_ rfl rfl rfl rfl rfl tv)
   ·replace h0 := inb c5 h0
    refine sk_ (wk_ ⟨[], [], []⟩ (fgk (by kernel_rfl)) (seq_ (reg_ (st (mvc_ tv (oe_ (wk_ ⟨[(4, .bool true)], [], []⟩ (fgk (by kernel_rfl)) ?_)))))))
    obtain rfl := Option.some.inj h0
    exact rt_ (ret_ rfl rfl rfl rfl rfl tv)

/- loop.example/g00149/laws.eqIntent -/
def c131_r0 : List Ins := [⟨some 2, .box (.t 0), none⟩,
⟨some 3, .box (.t 1), none⟩,
⟨some 4, .p (.mv (.c (.bool false))), none⟩]
def c131_r1 : List Ins := [(iQ 5 (.fieldA (.t 2) 0)),
(iQ 6 (.load (.t 5) 1 false)),
(iQ 7 (.fieldA (.t 3) 0)),
(iQ 8 (.load (.t 7) 1 false)),
(iQ 9 (.bin .neq (.t 6) (.t 8)))]
def c131_r2 : List Ins := [⟨some 4, .p (.mv (.c (.bool false))), none⟩]
def c131_r3 : List Ins := [(iQ 10 (.fieldA (.t 2) 1)),
(iQ 11 (.load (.t 10) 1 false)),
(iQ 12 (.fieldA (.t 3) 1)),
(iQ 13 (.load (.t 12) 1 false)),
(iQ 14 (.binB .neq (.t 11) (.t 13)))]
def c131_r4 : List Ins := [⟨some 4, .p (.mv (.c (.bool false))), none⟩]
def c131_r5 : List Ins := [⟨some 4, .p (.mv (.c (.bool true))), none⟩]
def c131 : XFn := { np := 2, nt := 15, res := [.t 4], body := (.seq (.reg c131_r0) (.seq (.seq (.reg c131_r1) (.ite (.t 9) (.seq (.reg c131_r2) .ret) .skip)) (.seq (.seq (.reg c131_r3) (.ite (.t 14) (.seq (.reg c131_r4) .ret) .skip)) (.seq (.reg c131_r5) .ret)))) }
def K131 (C : CRel) : Prop := ∀ (a0 : DIntent) (a1 : DIntent) (r : Bool), g131 a0 a1 = some r → C 131 ⟨[.agg (eDIntent a0), .agg (eDIntent a1)], []⟩ ⟨.bool r, [], []⟩
theorem F131 {C : CRel}  (a0 : DIntent) (a1 : DIntent) (r : Bool) (h0 : g131 a0 a1 = some r) : FnOK C c131 ⟨[.agg (eDIntent a0), .agg (eDIntent a1)], []⟩ ⟨.bool r, [], []⟩ := by
 refine fn_ (nl rfl) (seq_ (reg_ (st (box_ rfl tv rfl (st (box_ rfl tv rfl (st (mvc_ tv (oe_ (wk_ ⟨[(2, .ptr 128 0), (3, .ptr 192 0)], [(128, [iV a0.lease, .bool a0.undo]), (192, [iV a1.lease, .bool a1.undo])], []⟩ (fgk (by kernel_rfl)) (seq_ (seq_ (reg_ (st (c_ (cp_ ⟨tv, tv⟩ rfl tv) (st (c_ (cp_ ⟨tv, tv⟩ rfl (nl rfl)) (st (c_ (cp_ ⟨tv, tv⟩ rfl tv) (st (c_ (cp_ ⟨tv, tv⟩ rfl (nl rfl)) (st (c_ (cp_ t3 rfl tv) (oe_ (wk_ ⟨[(2, .ptr 128 0), (3, .ptr 192 0), (9, .bool (a0.lease != a1.lease))], [(128, [iV a0.lease, .bool a0.undo]), (192, [iV a1.lease, .bool a1.undo])], []⟩ (fgk (by kernel_rfl)) (ite_ (cb := (a0.lease != a1.lease)) rfl (fun c1 => ?_) (fun c1 => ?_)))))))))))))))))))))))))))
 ·replace h0 := ip c1 h0
  refine seq_ (reg_ (st (mvc_ tv (oe_ (wk_ ⟨[(4, .bool false)], [], []⟩ (fgk (by kernel_rfl)) ?_)))))
  obtain rfl := Option.some.inj h0
  exact rt_ (ret_ rfl rfl rfl rfl rfl tv)
 ·replace h0 := inb c1 h0
  refine sk_ (wk_ ⟨[(2, .ptr 128 0), (3, .ptr 192 0)], [(128, [iV a0.lease, .bool a0.undo]), (192, [iV a1.lease, .bool a1.undo])], []⟩ (fgk (by kernel_rfl)) (seq_ (seq_ (reg_ (st (c_ (cp_ ⟨tv, tv⟩ rfl tv) (st (c_ (cp_ ⟨tv, tv⟩ rfl (nl rfl)) (st (c_ (cp_ ⟨tv, tv⟩ rfl tv) (st (c_ (cp_ ⟨tv, tv⟩ rfl (nl rfl)) (st (c_ (cp_ t3 rfl tv) (oe_ (wk_ ⟨[(14, .bool (!(a0.undo == a1.undo)))], [], []⟩ (fgk (by kernel_rfl)) (ite_ (cb := (!(a0.undo == a1.undo))) rfl (fun c2 => ?_) (fun c2 => ?_))))))))))))))))))
  ·replace h0 := ip c2 h0
   refine seq_ (reg_ (st (mvc_ tv (oe_ (wk_ ⟨[(4, .bool false)], [], []⟩ (fgk (by kernel_rfl)) ?_)))))
   obtain rfl := Option.some.inj h0
   exact rt_ (ret_ rfl rfl rfl rfl rfl tv)
  ·replace h0 := inb c2 h0
   refine sk_ (wk_ ⟨[], [], []⟩ (fgk (by kernel_rfl)) (seq_ (reg_ (st (mvc_ tv (oe_ (wk_ ⟨[(4, .bool true)], [], []⟩ (fgk (by kernel_rfl)) ?_)))))))
   obtain rfl := Option.some.inj h0
   exact rt_ (ret_ rfl rfl rfl rfl rfl tv)

/- loop.example/g00149/laws.eqIntentS -/
def c99_r0 : List Ins := [⟨some 4, .p (.mv (.c (.bool false))), none⟩]
def c99_r1 : List Ins := [(iQ 6 (.mv (.t 0))),
(iQ 7 (.len (.t 6))),
(iQ 8 (.mv (.t 1))),
(iQ 9 (.len (.t 8))),
(iQ 10 (.bin .neq (.t 7) (.t 9)))]
def c99_r2 : List Ins := [⟨some 4, .p (.mv (.c (.bool false))), none⟩]
def c99_r3 : List Ins := [⟨some 5, .p (.mv (.c (iV 0))), none⟩]
def c99_r4 : List Ins := [(iQ 11 (.mv (.t 5))),
(iQ 12 (.mv (.t 0))),
(iQ 13 (.len (.t 12))),
(iQ 14 (.bin .lss (.t 11) (.t 13)))]
def c99_r5 : DP := (.take (iQ 17 (.mv (.t 0)))
(.take (iQ 18 (.mv (.t 5)))
(.take (iQ 19 (.idxA (.t 17) (.t 18) 2))
(.take (iQ 20 (.load (.t 19) 2 true))
(.take (iQ 21 (.mv (.t 1)))
(.take (iQ 22 (.mv (.t 5)))
(.take (iQ 23 (.idxA (.t 21) (.t 22) 2))
(.take (iQ 24 (.load (.t 23) 2 true))
(.alt [] ⟨some 25, .call 131 [(.t 20), (.t 24)], none⟩
(.take (iQ 26 (.un .not (.t 25)))
.fin)
.stop)))))))))
def c99_r6 : List Ins := [⟨some 4, .p (.mv (.c (.bool false))), none⟩]
def c99_r7 : List Ins := [(iQ 15 (.mv (.t 5))),
⟨some 16, .p (.bin .add (.t 15) (.c (iV 1))), none⟩,
(iQ 5 (.mv (.t 16)))]
def c99_l0 : IR := (.seq (.seq (.reg c99_r4) (.ite (.t 14) .skip (.exit 0))) (.seq (.block 1 (.seq (.draw c99_r5) (.ite (.t 26) (.seq (.reg c99_r6) .ret) .skip))) (.reg c99_r7)))
def c99_r8 : List Ins := [⟨some 4, .p (.mv (.c (.bool true))), none⟩]
def c99 : XFn := { np := 2, nt := 27, res := [.t 4], body := (.seq (.reg c99_r0) (.seq (.seq (.reg c99_r1) (.ite (.t 10) (.seq (.reg c99_r2) .ret) .skip)) (.seq (.seq (.reg c99_r3) (.block 0 (.loop c99_l0))) (.seq (.reg c99_r8) .ret)))) }
def K99 (C : CRel) : Prop := ∀ (a0 : List DIntent) (a1 : List DIntent) (r : Bool), g99 a0 a1 = some r → C 99 ⟨[.lst 2 (a0.map eDIntent), .lst 2 (a1.map eDIntent)], []⟩ ⟨.bool r, [], []⟩
theorem F99 {C : CRel} (H131 : K131 C) (a0 : List DIntent) (a1 : List DIntent) (r : Bool) (h0 : g99 a0 a1 = some r) : FnOK C c99 ⟨[.lst 2 (a0.map eDIntent), .lst 2 (a1.map eDIntent)], []⟩ ⟨.bool r, [], []⟩ := by
 refine fn_ (nl rfl) (seq_ (reg_ (st (mvc_ tv (oe_ (wk_ ⟨[(0, .lst 2 (a0.map eDIntent)), (1, .lst 2 (a1.map eDIntent))], [], []⟩ (fgk (by kernel_rfl)) (seq_ (seq_ (reg_ (st (mv_ rfl tv (st (c_ (clenL (e := eDIntent) (l0 := a0) rfl rfl tv) (st (mv_ rfl tv (st (c_ (clenL (e := eDIntent) (l0 := a1) rfl rfl tv) (st (c_ (cp_ t3 rfl tv) (oe_ (wk_ ⟨[(0, .lst 2 (a0.map eDIntent)), (1, .lst 2 (a1.map eDIntent)), (10, .bool ((a0.length : Int) != (a1.length : Int)))], [], []⟩ (fgk (by kernel_rfl)) (ite_ (cb := ((a0.length : Int) != (a1.length : Int))) rfl (fun c1 => ?_) (fun c1 => ?_)))))))))))))))))))))))
 ·replace h0 := ip c1 h0
  refine seq_ (reg_ (st (mvc_ tv (oe_ (wk_ ⟨[(4, .bool false)], [], []⟩ (fgk (by kernel_rfl)) ?_)))))
  obtain rfl := Option.some.inj h0
  exact rt_ (ret_ rfl rfl rfl rfl rfl tv)
 ·replace h0 := inb c1 h0
  refine sk_ (wk_ ⟨[(0, .lst 2 (a0.map eDIntent)), (1, .lst 2 (a1.map eDIntent))], [], []⟩ (fgk (by kernel_rfl)) (seq_ (seq_ (reg_ (st (mvc_ tv (oe_ (wk_ ⟨[(0, .lst 2 (a0.map eDIntent)), (1, .lst 2 (a1.map eDIntent)), (5, iV 0)], [], []⟩ (fgk (by kernel_rfl)) (block_ ?_)))))))))
  obtain ⟨r28, e29, h0⟩ := bnd h0
  refine loop_ (R := (fun S => .inl () = r28 ∧ S = ⟨[], [], []⟩)) (g99_l0 a0 a1) (fun s S => match s with | p10 => S = ⟨[(0, .lst 2 (a0.map eDIntent)), (1, .lst 2 (a1.map eDIntent)), (5, iV p10)], [], []⟩) e29 ⟨[(0, .lst 2 (a0.map eDIntent)), (1, .lst 2 (a1.map eDIntent)), (5, iV 0)], [], []⟩ (fgk (by kernel_rfl)) rfl 0 (fun _ => rfl) ?_ ?_
  ·rintro S _ hfg ⟨rfl, rfl⟩
   refine wk_ ⟨[], [], []⟩ (fglk hfg (by kernel_rfl)) (seq_ (reg_ (st (mvc_ tv (oe_ (wk_ ⟨[(4, .bool true)], [], []⟩ (fgk (by kernel_rfl)) ?_))))))
   obtain rfl := Option.some.inj h0
   exact rt_ (ret_ rfl rfl rfl rfl rfl tv)
  ·rintro p10 o1 _ K1 rfl h1 hx1 hK1 hE1 hR1
   refine seq_ (seq_ (reg_ (st (mv_ rfl tv (st (mv_ rfl tv (st (c_ (clenL (e := eDIntent) (l0 := a0) rfl rfl tv) (st (c_ (cp_ t3 rfl tv) (oe_ (wk_ ⟨[(0, .lst 2 (a0.map eDIntent)), (1, .lst 2 (a1.map eDIntent)), (5, iV p10), (14, .bool (decide (p10 < (a0.length : Int))))], [], []⟩ (fgk (by kernel_rfl)) (ite_ (cb := (decide (p10 < (a0.length : Int)))) rfl (fun c20 => ?_) (fun c20 => ?_))))))))))))))
   ·replace h1 := ip c20 h1
    refine sk_ (wk_ ⟨[(0, .lst 2 (a0.map eDIntent)), (1, .lst 2 (a1.map eDIntent)), (5, iV p10)], [], []⟩ (fgk (by kernel_rfl)) (seq_ (block_ (seq_ ?_))))
    obtain ⟨y21, e22, h1⟩ := bnd h1
    obtain ⟨y23, e24, h1⟩ := bnd h1
    obtain ⟨r25, e26, h1⟩ := bnd h1
    refine draw_ (dtake tv (mv_ rfl tv (⟨tv, (dtake tv (mv_ rfl tv (⟨tv, (dtake tv (c_ (cidxL (e := eDIntent) (y := y21) rfl rfl tv rfl rfl tv e22) (⟨tv, (dtake tv (c_ (v := .agg (eDIntent y21)) (cp_ ⟨tv, tv⟩ rfl (nl rfl)) (⟨tv, (dtake tv (mv_ rfl tv (⟨tv, (dtake tv (mv_ rfl tv (⟨tv, (dtake tv (c_ (cidxL (e := eDIntent) (y := y23) rfl rfl tv rfl rfl tv e24) (⟨tv, (dtake tv (c_ (v := .agg (eDIntent y23)) (cp_ ⟨tv, tv⟩ rfl (nl rfl)) (⟨tv, (dalt (call0_ (r := .bool r25) false (H131 y21 y23 r25 e26) ⟨tv, tv, tv⟩ rfl rfl (fun _ => rfl) (dkw ⟨[(0, .lst 2 (a0.map eDIntent)), (1, .lst 2 (a1.map eDIntent)), (5, iV p10), (25, .bool r25)], [], []⟩ (fgk (by kernel_rfl)) ⟨[], tv, tv, (dtake tv (c_ (cp_ ⟨tv, tv⟩ rfl tv) (⟨tv, (dfin (wk_ ⟨[(0, .lst 2 (a0.map eDIntent)), (1, .lst 2 (a1.map eDIntent)), (5, iV p10), (26, .bool (!r25))], [], []⟩ (fgk (by kernel_rfl)) (ite_ (cb := (!r25)) rfl (fun c27 => ?_) (fun c27 => ?_))))⟩)))⟩)) dstop)⟩)))⟩)))⟩)))⟩)))⟩)))⟩)))⟩)))⟩)))
    ·replace h1 := ip c27 h1
     refine seq_ (reg_ (st (mvc_ tv (oe_ (wk_ ⟨[(4, .bool false)], [], []⟩ (fgk (by kernel_rfl)) ?_)))))
     obtain rfl := Option.some.inj h1
     obtain rfl := hx1 _ rfl
     obtain rfl := Option.some.inj h0
     exact rt_ (hR1 _ (ret_ rfl rfl rfl rfl rfl tv))
    ·replace h1 := inb c27 h1
     refine sk_ (bn_ (wk_ ⟨[(0, .lst 2 (a0.map eDIntent)), (1, .lst 2 (a1.map eDIntent)), (5, iV p10)], [], []⟩ (fgk (by kernel_rfl)) (reg_ (st (mv_ rfl tv (st (c_ (cp_ t3 rfl tv) (st (mv_ rfl tv (oe_ ?_))))))))))
     obtain rfl := Option.some.inj h1
     exact hK1 _ rfl _ ⟨[(0, .lst 2 (a0.map eDIntent)), (1, .lst 2 (a1.map eDIntent)), (5, iV (IntKind.i64.wrap (p10 + 1)))], [], []⟩ (fgk (by kernel_rfl)) rfl
   ·replace h1 := inb c20 h1
    obtain rfl := Option.some.inj h1
    obtain rfl := hx1 _ rfl
    refine exQ rfl ?_
    exact hE1 _ ⟨[], [], []⟩ (fgk (by kernel_rfl)) ⟨rfl, rfl⟩

/- loop.example/g00149/laws.eqVault -/
def c49_r0 : List Ins := [⟨some 2, .box (.t 0), none⟩,
⟨some 3, .box (.t 1), none⟩,
⟨some 4, .p (.mv (.c (.bool false))), none⟩]
def c49_r1 : List Ins := [(iQ 5 (.fieldA (.t 2) 0)),
(iQ 6 (.load (.t 5) 3 true)),
(iQ 7 (.fieldA (.t 3) 0)),
(iQ 8 (.load (.t 7) 3 true)),
⟨some 9, .call 21 [(.t 6), (.t 8)], none⟩,
(iQ 10 (.un .not (.t 9)))]
def c49_r2 : List Ins := [⟨some 4, .p (.mv (.c (.bool false))), none⟩]
def c49_r3 : List Ins := [(iQ 11 (.fieldA (.t 2) 3)),
(iQ 12 (.load (.t 11) 1 false)),
(iQ 13 (.fieldA (.t 3) 3)),
(iQ 14 (.load (.t 13) 1 false)),
⟨some 15, .call 99 [(.t 12), (.t 14)], none⟩,
(iQ 16 (.un .not (.t 15)))]
def c49_r4 : List Ins := [⟨some 4, .p (.mv (.c (.bool false))), none⟩]
def c49_r5 : List Ins := [(iQ 17 (.fieldA (.t 2) 4)),
(iQ 18 (.load (.t 17) 1 false)),
(iQ 19 (.fieldA (.t 3) 4)),
(iQ 20 (.load (.t 19) 1 false)),
⟨some 21, .call 36 [(.t 18), (.t 20)], none⟩,
(iQ 22 (.un .not (.t 21)))]
def c49_r6 : List Ins := [⟨some 4, .p (.mv (.c (.bool false))), none⟩]
def c49_r7 : List Ins := [(iQ 23 (.fieldA (.t 2) 5)),
(iQ 24 (.load (.t 23) 1 false)),
(iQ 25 (.fieldA (.t 3) 5)),
(iQ 26 (.load (.t 25) 1 false)),
(iQ 27 (.binB .neq (.t 24) (.t 26)))]
def c49_r8 : List Ins := [⟨some 4, .p (.mv (.c (.bool false))), none⟩]
def c49_r9 : List Ins := [⟨some 4, .p (.mv (.c (.bool true))), none⟩]
def c49 : XFn := { np := 2, nt := 28, res := [.t 4], body := (.seq (.reg c49_r0) (.seq (.seq (.reg c49_r1) (.ite (.t 10) (.seq (.reg c49_r2) .ret) .skip)) (.seq (.seq (.reg c49_r3) (.ite (.t 16) (.seq (.reg c49_r4) .ret) .skip)) (.seq (.seq (.reg c49_r5) (.ite (.t 22) (.seq (.reg c49_r6) .ret) .skip)) (.seq (.seq (.reg c49_r7) (.ite (.t 27) (.seq (.reg c49_r8) .ret) .skip)) (.seq (.reg c49_r9) .ret)))))) }
def K49 (C : CRel) : Prop := ∀ (a0 : DVault) (a1 : DVault) (r : Bool), g49 a0 a1 = some r → C 49 ⟨[.agg (eDVault a0), .agg (eDVault a1)], []⟩ ⟨.bool r, [], []⟩
theorem F49 {C : CRel} (H21 : K21 C) (H36 : K36 C) (H99 : K99 C) (a0 : DVault) (a1 : DVault) (r : Bool) (h0 : g49 a0 a1 = some r) : FnOK C c49 ⟨[.agg (eDVault a0), .agg (eDVault a1)], []⟩ ⟨.bool r, [], []⟩ := by
 refine fn_ (nl rfl) (seq_ (reg_ (st (box_ rfl tv rfl (st (box_ rfl tv rfl (st (mvc_ tv (oe_ (wk_ ⟨[(2, .ptr 128 0), (3, .ptr 192 0)], [(128, [iV a0.table.clock, iV a0.table.next, .lst 4 (a0.table.list_.map eDLease), .lst 2 (a0.intents.map eDIntent), .lst 1 (a0.accounts.map eI), .bool a0.sealed]), (192, [iV a1.table.clock, iV a1.table.next, .lst 4 (a1.table.list_.map eDLease), .lst 2 (a1.intents.map eDIntent), .lst 1 (a1.accounts.map eI), .bool a1.sealed])], []⟩ (fgk (by kernel_rfl)) (seq_ (seq_ (reg_ (st (c_ (cp_ ⟨tv, tv⟩ rfl tv) (st (c_ (v := .agg [iV a0.table.clock, iV a0.table.next, .lst 4 (a0.table.list_.map eDLease)]) (cp_ ⟨tv, tv⟩ rfl (nl rfl)) (st (c_ (cp_ ⟨tv, tv⟩ rfl tv) (st (c_ (v := .agg [iV a1.table.clock, iV a1.table.next, .lst 4 (a1.table.list_.map eDLease)]) (cp_ ⟨tv, tv⟩ rfl (nl rfl)) ?_)))))))))))))))))))))
 obtain ⟨r1, e2, h0⟩ := bnd h0
 refine st (call0_ (r := .bool r1) false (H21 a0.table a1.table r1 e2) ⟨tv, tv, tv⟩ rfl rfl (fun _ => rfl) (st (c_ (cp_ ⟨tv, tv⟩ rfl tv) (oe_ (wk_ ⟨[(2, .ptr 128 0), (3, .ptr 192 0), (10, .bool (!r1))], [(128, [iV a0.table.clock, iV a0.table.next, .lst 4 (a0.table.list_.map eDLease), .lst 2 (a0.intents.map eDIntent), .lst 1 (a0.accounts.map eI), .bool a0.sealed]), (192, [iV a1.table.clock, iV a1.table.next, .lst 4 (a1.table.list_.map eDLease), .lst 2 (a1.intents.map eDIntent), .lst 1 (a1.accounts.map eI), .bool a1.sealed])], []⟩ (fgk (by kernel_rfl)) (ite_ (cb := (!r1)) rfl (fun c3 => ?_) (fun c3 => ?_)))))))
 ·replace h0 := ip c3 h0
  refine seq_ (reg_ (st (mvc_ tv (oe_ (wk_ ⟨[(4, .bool false)], [], []⟩ (fgk (by kernel_rfl)) ?_)))))
  obtain rfl := Option.some.inj h0
  exact rt_ (ret_ rfl rfl rfl rfl rfl tv)
 ·replace h0 := inb c3 h0
  refine sk_ (wk_ ⟨[(2, .ptr 128 0), (3, .ptr 192 0)], [(128, [iV a0.table.clock, iV a0.table.next, .lst 4 (a0.table.list_.map eDLease), .lst 2 (a0.intents.map eDIntent), .lst 1 (a0.accounts.map eI), .bool a0.sealed]), (192, [iV a1.table.clock, iV a1.table.next, .lst 4 (a1.table.list_.map eDLease), .lst 2 (a1.intents.map eDIntent), .lst 1 (a1.accounts.map eI), .bool a1.sealed])], []⟩ (fgk (by kernel_rfl)) (seq_ (seq_ (reg_ (st (c_ (cp_ ⟨tv, tv⟩ rfl tv) (st (c_ (cp_ ⟨tv, tv⟩ rfl (nl rfl)) (st (c_ (cp_ ⟨tv, tv⟩ rfl tv) (st (c_ (cp_ ⟨tv, tv⟩ rfl (nl rfl)) ?_))))))))))))
  obtain ⟨r4, e5, h0⟩ := bnd h0
  refine st (call0_ (r := .bool r4) false (H99 a0.intents a1.intents r4 e5) ⟨tv, tv, tv⟩ rfl rfl (fun _ => rfl) (st (c_ (cp_ ⟨tv, tv⟩ rfl tv) (oe_ (wk_ ⟨[(2, .ptr 128 0), (3, .ptr 192 0), (16, .bool (!r4))], [(128, [iV a0.table.clock, iV a0.table.next, .lst 4 (a0.table.list_.map eDLease), .lst 2 (a0.intents.map eDIntent), .lst 1 (a0.accounts.map eI), .bool a0.sealed]), (192, [iV a1.table.clock, iV a1.table.next, .lst 4 (a1.table.list_.map eDLease), .lst 2 (a1.intents.map eDIntent), .lst 1 (a1.accounts.map eI), .bool a1.sealed])], []⟩ (fgk (by kernel_rfl)) (ite_ (cb := (!r4)) rfl (fun c6 => ?_) (fun c6 => ?_)))))))
  ·replace h0 := ip c6 h0
   refine seq_ (reg_ (st (mvc_ tv (oe_ (wk_ ⟨[(4, .bool false)], [], []⟩ (fgk (by kernel_rfl)) ?_)))))
   obtain rfl := Option.some.inj h0
   exact rt_ (ret_ rfl rfl rfl rfl rfl tv)
  ·replace h0 := inb c6 h0
   refine sk_ (wk_ ⟨[(2, .ptr 128 0), (3, .ptr 192 0)], [(128, [iV a0.table.clock, iV a0.table.next, .lst 4 (a0.table.list_.map eDLease), .lst 2 (a0.intents.map eDIntent), .lst 1 (a0.accounts.map eI), .bool a0.sealed]), (192, [iV a1.table.clock, iV a1.table.next, .lst 4 (a1.table.list_.map eDLease), .lst 2 (a1.intents.map eDIntent), .lst 1 (a1.accounts.map eI), .bool a1.sealed])], []⟩ (fgk (by kernel_rfl)) (seq_ (seq_ (reg_ (st (c_ (cp_ ⟨tv, tv⟩ rfl tv) (st (c_ (cp_ ⟨tv, tv⟩ rfl (nl rfl)) (st (c_ (cp_ ⟨tv, tv⟩ rfl tv) (st (c_ (cp_ ⟨tv, tv⟩ rfl (nl rfl)) ?_))))))))))))
   obtain ⟨r7, e8, h0⟩ := bnd h0
   refine st (call0_ (r := .bool r7) false (H36 a0.accounts a1.accounts r7 e8) ⟨tv, tv, tv⟩ rfl rfl (fun _ => rfl) (st (c_ (cp_ ⟨tv, tv⟩ rfl tv) (oe_ (wk_ ⟨[(2, .ptr 128 0), (3, .ptr 192 0), (22, .bool (!r7))], [(128, [iV a0.table.clock, iV a0.table.next, .lst 4 (a0.table.list_.map eDLease), .lst 2 (a0.intents.map eDIntent), .lst 1 (a0.accounts.map eI), .bool a0.sealed]), (192, [iV a1.table.clock, iV a1.table.next, .lst 4 (a1.table.list_.map eDLease), .lst 2 (a1.intents.map eDIntent), .lst 1 (a1.accounts.map eI), .bool a1.sealed])], []⟩ (fgk (by kernel_rfl)) (ite_ (cb := (!r7)) rfl (fun c9 => ?_) (fun c9 => ?_)))))))
   ·replace h0 := ip c9 h0
    refine seq_ (reg_ (st (mvc_ tv (oe_ (wk_ ⟨[(4, .bool false)], [], []⟩ (fgk (by kernel_rfl)) ?_)))))
    obtain rfl := Option.some.inj h0
    exact rt_ (ret_ rfl rfl rfl rfl rfl tv)
   ·replace h0 := inb c9 h0
    refine sk_ (wk_ ⟨[(2, .ptr 128 0), (3, .ptr 192 0)], [(128, [iV a0.table.clock, iV a0.table.next, .lst 4 (a0.table.list_.map eDLease), .lst 2 (a0.intents.map eDIntent), .lst 1 (a0.accounts.map eI), .bool a0.sealed]), (192, [iV a1.table.clock, iV a1.table.next, .lst 4 (a1.table.list_.map eDLease), .lst 2 (a1.intents.map eDIntent), .lst 1 (a1.accounts.map eI), .bool a1.sealed])], []⟩ (fgk (by kernel_rfl)) (seq_ (seq_ (reg_ (st (c_ (cp_ ⟨tv, tv⟩ rfl tv) (st (c_ (cp_ ⟨tv, tv⟩ rfl (nl rfl)) (st (c_ (cp_ ⟨tv, tv⟩ rfl tv) (st (c_ (cp_ ⟨tv, tv⟩ rfl (nl rfl)) (st (c_ (cp_ t3 rfl tv) (oe_ (wk_ ⟨[(27, .bool (!(a0.sealed == a1.sealed)))], [], []⟩ (fgk (by kernel_rfl)) (ite_ (cb := (!(a0.sealed == a1.sealed))) rfl (fun c10 => ?_) (fun c10 => ?_))))))))))))))))))
    ·replace h0 := ip c10 h0
     refine seq_ (reg_ (st (mvc_ tv (oe_ (wk_ ⟨[(4, .bool false)], [], []⟩ (fgk (by kernel_rfl)) ?_)))))
     obtain rfl := Option.some.inj h0
     exact rt_ (ret_ rfl rfl rfl rfl rfl tv)
    ·replace h0 := inb c10 h0
     refine sk_ (wk_ ⟨[], [], []⟩ (fgk (by kernel_rfl)) (seq_ (reg_ (st (mvc_ tv (oe_ (wk_ ⟨[(4, .bool true)], [], []⟩ (fgk (by kernel_rfl)) ?_)))))))
     obtain rfl := Option.some.inj h0
     exact rt_ (ret_ rfl rfl rfl rfl rfl tv)

/- loop.example/g00149/laws.eqPair -/
def c314_r0 : List Ins := [⟨some 2, .box (.t 0), none⟩,
⟨some 3, .box (.t 1), none⟩,
⟨some 4, .p (.mv (.c (.bool false))), none⟩]
def c314_r1 : List Ins := [(iQ 5 (.fieldA (.t 2) 0)),
(iQ 6 (.load (.t 5) 1 false)),
(iQ 7 (.fieldA (.t 3) 0)),
(iQ 8 (.load (.t 7) 1 false)),
(iQ 9 (.bin .neq (.t 6) (.t 8)))]
def c314_r2 : List Ins := [⟨some 4, .p (.mv (.c (.bool false))), none⟩]
def c314_r3 : List Ins := [(iQ 10 (.fieldA (.t 2) 1)),
(iQ 11 (.load (.t 10) 1 false)),
(iQ 12 (.fieldA (.t 3) 1)),
(iQ 13 (.load (.t 12) 1 false)),
(iQ 14 (.bin .neq (.t 11) (.t 13)))]
def c314_r4 : List Ins := [⟨some 4, .p (.mv (.c (.bool false))), none⟩]
def c314_r5 : List Ins := [⟨some 4, .p (.mv (.c (.bool true))), none⟩]
def c314 : XFn := { np := 2, nt := 15, res := [.t 4], body := (.seq (.reg c314_r0) (.seq (.seq (.reg c314_r1) (.ite (.t 9) (.seq (.reg c314_r2) .ret) .skip)) (.seq (.seq (.reg c314_r3) (.ite (.t 14) (.seq (.reg c314_r4) .ret) .skip)) (.seq (.reg c314_r5) .ret)))) }
def K314 (C : CRel) : Prop := ∀ (a0 : DPair) (a1 : DPair) (r : Bool), g314 a0 a1 = some r → C 314 ⟨[.agg (eDPair a0), .agg (eDPair a1)], []⟩ ⟨.bool r, [], []⟩
theorem F314 {C : CRel}  (a0 : DPair) (a1 : DPair) (r : Bool) (h0 : g314 a0 a1 = some r) : FnOK C c314 ⟨[.agg (eDPair a0), .agg (eDPair a1)], []⟩ ⟨.bool r, [], []⟩ := by
 refine fn_ (nl rfl) (seq_ (reg_ (st (box_ rfl tv rfl (st (box_ rfl tv rfl (st (mvc_ tv (oe_ (wk_ ⟨[(2, .ptr 128 0), (3, .ptr 192 0)], [(128, [.str a0.key, .str a0.value]), (192, [.str a1.key, .str a1.value])], []⟩ (fgk (by kernel_rfl)) (seq_ (seq_ (reg_ (st (c_ (cp_ ⟨tv, tv⟩ rfl tv) (st (c_ (cp_ ⟨tv, tv⟩ rfl (nl rfl)) (st (c_ (cp_ ⟨tv, tv⟩ rfl tv) (st (c_ (cp_ ⟨tv, tv⟩ rfl (nl rfl)) (st (c_ (cp_ t3 rfl tv) (oe_ (wk_ ⟨[(2, .ptr 128 0), (3, .ptr 192 0), (9, .bool (!(a0.key == a1.key)))], [(128, [.str a0.key, .str a0.value]), (192, [.str a1.key, .str a1.value])], []⟩ (fgk (by kernel_rfl)) (ite_ (cb := (!(a0.key == a1.key))) rfl (fun c1 => ?_) (fun c1 => ?_)))))))))))))))))))))))))))
 ·replace h0 := ip c1 h0
  refine seq_ (reg_ (st (mvc_ tv (oe_ (wk_ ⟨[(4, .bool false)], [], []⟩ (fgk (by kernel_rfl)) ?_)))))
  obtain rfl := Option.some.inj h0
  exact rt_ (ret_ rfl rfl rfl rfl rfl tv)
 ·replace h0 := inb c1 h0
  refine sk_ (wk_ ⟨[(2, .ptr 128 0), (3, .ptr 192 0)], [(128, [.str a0.key, .str a0.value]), (192, [.str a1.key, .str a1.value])], []⟩ (fgk (by kernel_rfl)) (seq_ (seq_ (reg_ (st (c_ (cp_ ⟨tv, tv⟩ rfl tv) (st (c_ (cp_ ⟨tv, tv⟩ rfl (nl rfl)) (st (c_ (cp_ ⟨tv, tv⟩ rfl tv) (st (c_ (cp_ ⟨tv, tv⟩ rfl (nl rfl)) (st (c_ (cp_ t3 rfl tv) (oe_ (wk_ ⟨[(14, .bool (!(a0.value == a1.value)))], [], []⟩ (fgk (by kernel_rfl)) (ite_ (cb := (!(a0.value == a1.value))) rfl (fun c2 => ?_) (fun c2 => ?_))))))))))))))))))
  ·replace h0 := ip c2 h0
   refine seq_ (reg_ (st (mvc_ tv (oe_ (wk_ ⟨[(4, .bool false)], [], []⟩ (fgk (by kernel_rfl)) ?_)))))
   obtain rfl := Option.some.inj h0
   exact rt_ (ret_ rfl rfl rfl rfl rfl tv)
  ·replace h0 := inb c2 h0
   refine sk_ (wk_ ⟨[], [], []⟩ (fgk (by kernel_rfl)) (seq_ (reg_ (st (mvc_ tv (oe_ (wk_ ⟨[(4, .bool true)], [], []⟩ (fgk (by kernel_rfl)) ?_)))))))
   obtain rfl := Option.some.inj h0
   exact rt_ (ret_ rfl rfl rfl rfl rfl tv)

/- loop.example/g00149/laws.eqPairS -/
def c251_r0 : List Ins := [⟨some 4, .p (.mv (.c (.bool false))), none⟩]
def c251_r1 : List Ins := [(iQ 6 (.mv (.t 0))),
(iQ 7 (.len (.t 6))),
(iQ 8 (.mv (.t 1))),
(iQ 9 (.len (.t 8))),
(iQ 10 (.bin .neq (.t 7) (.t 9)))]
def c251_r2 : List Ins := [⟨some 4, .p (.mv (.c (.bool false))), none⟩]
def c251_r3 : List Ins := [⟨some 5, .p (.mv (.c (iV 0))), none⟩]
def c251_r4 : List Ins := [(iQ 11 (.mv (.t 5))),
(iQ 12 (.mv (.t 0))),
(iQ 13 (.len (.t 12))),
(iQ 14 (.bin .lss (.t 11) (.t 13)))]
def c251_r5 : DP := (.take (iQ 17 (.mv (.t 0)))
(.take (iQ 18 (.mv (.t 5)))
(.take (iQ 19 (.idxA (.t 17) (.t 18) 2))
(.take (iQ 20 (.load (.t 19) 2 true))
(.take (iQ 21 (.mv (.t 1)))
(.take (iQ 22 (.mv (.t 5)))
(.take (iQ 23 (.idxA (.t 21) (.t 22) 2))
(.take (iQ 24 (.load (.t 23) 2 true))
(.alt [] ⟨some 25, .call 314 [(.t 20), (.t 24)], none⟩
(.take (iQ 26 (.un .not (.t 25)))
.fin)
.stop)))))))))
def c251_r6 : List Ins := [⟨some 4, .p (.mv (.c (.bool false))), none⟩]
def c251_r7 : List Ins := [(iQ 15 (.mv (.t 5))),
⟨some 16, .p (.bin .add (.t 15) (.c (iV 1))), none⟩,
(iQ 5 (.mv (.t 16)))]
def c251_l0 : IR := (.seq (.seq (.reg c251_r4) (.ite (.t 14) .skip (.exit 0))) (.seq (.block 1 (.seq (.draw c251_r5) (.ite (.t 26) (.seq (.reg c251_r6) .ret) .skip))) (.reg c251_r7)))
def c251_r8 : List Ins := [⟨some 4, .p (.mv (.c (.bool true))), none⟩]
def c251 : XFn := { np := 2, nt := 27, res := [.t 4], body := (.seq (.reg c251_r0) (.seq (.seq (.reg c251_r1) (.ite (.t 10) (.seq (.reg c251_r2) .ret) .skip)) (.seq (.seq (.reg c251_r3) (.block 0 (.loop c251_l0))) (.seq (.reg c251_r8) .ret)))) }
def K251 (C : CRel) : Prop := ∀ (a0 : List DPair) (a1 : List DPair) (r : Bool), g251 a0 a1 = some r → C 251 ⟨[.lst 2 (a0.map eDPair), .lst 2 (a1.map eDPair)], []⟩ ⟨.bool r, [], []⟩
theorem F251 {C : CRel} (H314 : K314 C) (a0 : List DPair) (a1 : List DPair) (r : Bool) (h0 : g251 a0 a1 = some r) : FnOK C c251 ⟨[.lst 2 (a0.map eDPair), .lst 2 (a1.map eDPair)], []⟩ ⟨.bool r, [], []⟩ := by
 refine fn_ (nl rfl) (seq_ (reg_ (st (mvc_ tv (oe_ (wk_ ⟨[(0, .lst 2 (a0.map eDPair)), (1, .lst 2 (a1.map eDPair))], [], []⟩ (fgk (by kernel_rfl)) (seq_ (seq_ (reg_ (st (mv_ rfl tv (st (c_ (clenL (e := eDPair) (l0 := a0) rfl rfl tv) (st (mv_ rfl tv (st (c_ (clenL (e := eDPair) (l0 := a1) rfl rfl tv) (st (c_ (cp_ t3 rfl tv) (oe_ (wk_ ⟨[(0, .lst 2 (a0.map eDPair)), (1, .lst 2 (a1.map eDPair)), (10, .bool ((a0.length : Int) != (a1.length : Int)))], [], []⟩ (fgk (by kernel_rfl)) (ite_ (cb := ((a0.length : Int) != (a1.length : Int))) rfl (fun c1 => ?_) (fun c1 => ?_)))))))))))))))))))))))
 ·replace h0 := ip c1 h0
  refine seq_ (reg_ (st (mvc_ tv (oe_ (wk_ ⟨[(4, .bool false)], [], []⟩ (fgk (by kernel_rfl)) ?_)))))
  obtain rfl := Option.some.inj h0
  exact rt_ (ret_ rfl rfl rfl rfl rfl tv)
 ·replace h0 := inb c1 h0
  refine sk_ (wk_ ⟨[(0, .lst 2 (a0.map eDPair)), (1, .lst 2 (a1.map eDPair))], [], []⟩ (fgk (by kernel_rfl)) (seq_ (seq_ (reg_ (st (mvc_ tv (oe_ (wk_ ⟨[(0, .lst 2 (a0.map eDPair)), (1, .lst 2 (a1.map eDPair)), (5, iV 0)], [], []⟩ (fgk (by kernel_rfl)) (block_ ?_)))))))))
  obtain ⟨r28, e29, h0⟩ := bnd h0
  refine loop_ (R := (fun S => .inl () = r28 ∧ S = ⟨[], [], []⟩)) (g251_l0 a0 a1) (fun s S => match s with | p10 => S = ⟨[(0, .lst 2 (a0.map eDPair)), (1, .lst 2 (a1.map eDPair)), (5, iV p10)], [], []⟩) e29 ⟨[(0, .lst 2 (a0.map eDPair)), (1, .lst 2 (a1.map eDPair)), (5, iV 0)], [], []⟩ (fgk (by kernel_rfl)) rfl 0 (fun _ => rfl) ?_ ?_
  ·rintro S _ hfg ⟨rfl, rfl⟩
   refine wk_ ⟨[], [], []⟩ (fglk hfg (by kernel_rfl)) (seq_ (reg_ (st (mvc_ tv (oe_ (wk_ ⟨[(4, .bool true)], [], []⟩ (fgk (by kernel_rfl)) ?_))))))
   obtain rfl := Option.some.inj h0
   exact rt_ (ret_ rfl rfl rfl rfl rfl tv)
  ·rintro p10 o1 _ K1 rfl h1 hx1 hK1 hE1 hR1
   refine seq_ (seq_ (reg_ (st (mv_ rfl tv (st (mv_ rfl tv (st (c_ (clenL (e := eDPair) (l0 := a0) rfl rfl tv) (st (c_ (cp_ t3 rfl tv) (oe_ (wk_ ⟨[(0, .lst 2 (a0.map eDPair)), (1, .lst 2 (a1.map eDPair)), (5, iV p10), (14, .bool (decide (p10 < (a0.length : Int))))], [], []⟩ (fgk (by kernel_rfl)) (ite_ (cb := (decide (p10 < (a0.length : Int)))) rfl (fun c20 => ?_) (fun c20 => ?_))))))))))))))
   ·replace h1 := ip c20 h1
    refine sk_ (wk_ ⟨[(0, .lst 2 (a0.map eDPair)), (1, .lst 2 (a1.map eDPair)), (5, iV p10)], [], []⟩ (fgk (by kernel_rfl)) (seq_ (block_ (seq_ ?_))))
    obtain ⟨y21, e22, h1⟩ := bnd h1
    obtain ⟨y23, e24, h1⟩ := bnd h1
    obtain ⟨r25, e26, h1⟩ := bnd h1
    refine draw_ (dtake tv (mv_ rfl tv (⟨tv, (dtake tv (mv_ rfl tv (⟨tv, (dtake tv (c_ (cidxL (e := eDPair) (y := y21) rfl rfl tv rfl rfl tv e22) (⟨tv, (dtake tv (c_ (v := .agg (eDPair y21)) (cp_ ⟨tv, tv⟩ rfl (nl rfl)) (⟨tv, (dtake tv (mv_ rfl tv (⟨tv, (dtake tv (mv_ rfl tv (⟨tv, (dtake tv (c_ (cidxL (e := eDPair) (y := y23) rfl rfl tv rfl rfl tv e24) (⟨tv, (dtake tv (c_ (v := .agg (eDPair y23)) (cp_ ⟨tv, tv⟩ rfl (nl rfl)) (⟨tv, (dalt (call0_ (r := .bool r25) false (H314 y21 y23 r25 e26) ⟨tv, tv, tv⟩ rfl rfl (fun _ => rfl) (dkw ⟨[(0, .lst 2 (a0.map eDPair)), (1, .lst 2 (a1.map eDPair)), (5, iV p10), (25, .bool r25)], [], []⟩ (fgk (by kernel_rfl)) ⟨[], tv, tv, (dtake tv (c_ (cp_ ⟨tv, tv⟩ rfl tv) (⟨tv, (dfin (wk_ ⟨[(0, .lst 2 (a0.map eDPair)), (1, .lst 2 (a1.map eDPair)), (5, iV p10), (26, .bool (!r25))], [], []⟩ (fgk (by kernel_rfl)) (ite_ (cb := (!r25)) rfl (fun c27 => ?_) (fun c27 => ?_))))⟩)))⟩)) dstop)⟩)))⟩)))⟩)))⟩)))⟩)))⟩)))⟩)))⟩)))
    ·replace h1 := ip c27 h1
     refine seq_ (reg_ (st (mvc_ tv (oe_ (wk_ ⟨[(4, .bool false)], [], []⟩ (fgk (by kernel_rfl)) ?_)))))
     obtain rfl := Option.some.inj h1
     obtain rfl := hx1 _ rfl
     obtain rfl := Option.some.inj h0
     exact rt_ (hR1 _ (ret_ rfl rfl rfl rfl rfl tv))
    ·replace h1 := inb c27 h1
     refine sk_ (bn_ (wk_ ⟨[(0, .lst 2 (a0.map eDPair)), (1, .lst 2 (a1.map eDPair)), (5, iV p10)], [], []⟩ (fgk (by kernel_rfl)) (reg_ (st (mv_ rfl tv (st (c_ (cp_ t3 rfl tv) (st (mv_ rfl tv (oe_ ?_))))))))))
     obtain rfl := Option.some.inj h1
     exact hK1 _ rfl _ ⟨[(0, .lst 2 (a0.map eDPair)), (1, .lst 2 (a1.map eDPair)), (5, iV (IntKind.i64.wrap (p10 + 1)))], [], []⟩ (fgk (by kernel_rfl)) rfl
   ·replace h1 := inb c20 h1
    obtain rfl := Option.some.inj h1
    obtain rfl := hx1 _ rfl
    refine exQ rfl ?_
    exact hE1 _ ⟨[], [], []⟩ (fgk (by kernel_rfl)) ⟨rfl, rfl⟩

/- loop.example/g00149/laws.markLeaseS -/
def c72_r0 : List Ins := [⟨some 4, .p (.mv (.c (iV 0))), none⟩]
def c72_r1 : List Ins := [⟨some 5, .p (.mv (.c (iV 0))), none⟩]
def c72_r2 : List Ins := [(iQ 6 (.mv (.t 5))),
(iQ 7 (.mv (.t 0))),
(iQ 8 (.len (.t 7))),
(iQ 9 (.bin .lss (.t 6) (.t 8)))]
def c72_r3 : List Ins := [(iQ 12 (.mv (.t 0))),
(iQ 13 (.mv (.t 5))),
(iQ 14 (.mv (.t 1))),
(iQ 15 (.idxA (.t 12) (.t 13) 4)),
(iQ 16 (.fieldA (.t 15) 0)),
⟨none, .store (.t 16) (.t 14) 1, none⟩]
def c72_r4 : List Ins := [(iQ 17 (.mv (.t 1))),
⟨some 18, .p (.bin .add (.t 17) (.c (iV 1))), none⟩,
(iQ 1 (.mv (.t 18)))]
def c72_r5 : List Ins := [(iQ 19 (.mv (.t 0))),
(iQ 20 (.mv (.t 5))),
(iQ 21 (.mv (.t 1))),
(iQ 22 (.idxA (.t 19) (.t 20) 4)),
(iQ 23 (.fieldA (.t 22) 1)),
⟨none, .store (.t 23) (.t 21) 1, none⟩]
def c72_r6 : List Ins := [(iQ 24 (.mv (.t 1))),
⟨some 25, .p (.bin .add (.t 24) (.c (iV 1))), none⟩,
(iQ 1 (.mv (.t 25)))]
def c72_r7 : List Ins := [(iQ 26 (.mv (.t 0))),
(iQ 27 (.mv (.t 5))),
(iQ 28 (.mv (.t 1))),
(iQ 29 (.idxA (.t 26) (.t 27) 4)),
(iQ 30 (.fieldA (.t 29) 2)),
⟨none, .store (.t 30) (.t 28) 1, none⟩]
def c72_r8 : List Ins := [(iQ 31 (.mv (.t 1))),
⟨some 32, .p (.bin .add (.t 31) (.c (iV 1))), none⟩,
(iQ 1 (.mv (.t 32)))]
def c72_r9 : List Ins := [(iQ 33 (.mv (.t 0))),
(iQ 34 (.mv (.t 5))),
(iQ 35 (.mv (.t 1))),
⟨some 36, .p (.bin .rem (.t 35) (.c (iV 3))), none⟩,
⟨some 37, .p (.bin .eql (.t 36) (.c (iV 0))), none⟩,
(iQ 38 (.idxA (.t 33) (.t 34) 4)),
(iQ 39 (.fieldA (.t 38) 3)),
⟨none, .store (.t 39) (.t 37) 1, none⟩]
def c72_r10 : List Ins := [(iQ 40 (.mv (.t 1))),
⟨some 41, .p (.bin .add (.t 40) (.c (iV 1))), none⟩,
(iQ 1 (.mv (.t 41)))]
def c72_r11 : List Ins := [(iQ 10 (.mv (.t 5))),
⟨some 11, .p (.bin .add (.t 10) (.c (iV 1))), none⟩,
(iQ 5 (.mv (.t 11)))]
def c72_l0 : IR := (.seq (.seq (.reg c72_r2) (.ite (.t 9) .skip (.exit 0))) (.seq (.block 1 (.seq (.reg c72_r3) (.seq (.reg c72_r4) (.seq (.reg c72_r5) (.seq (.reg c72_r6) (.seq (.reg c72_r7) (.seq (.reg c72_r8) (.seq (.reg c72_r9) (.reg c72_r10))))))))) (.reg c72_r11)))
def c72_r12 : List Ins := [(iQ 42 (.mv (.t 1))),
(iQ 4 (.mv (.t 42)))]
def c72 : XFn := { np := 2, nt := 43, res := [.t 4], body := (.seq (.reg c72_r0) (.seq (.seq (.reg c72_r1) (.block 0 (.loop c72_l0))) (.seq (.reg c72_r12) .ret))) }
def K72 (C : CRel) : Prop := ∀ (a0 : List DLease) (a1 : Int) (r : Int × (List DLease)), g72 a0 a1 = some r → C 72 ⟨[.own 2097152 0 4 (a0.map eDLease), iV a1], []⟩ ⟨iV r.1, [], [(0, 4, r.2.map eDLease)]⟩
theorem F72 {C : CRel}  (a0 : List DLease) (a1 : Int) (r : Int × (List DLease)) (h0 : g72 a0 a1 = some r) : FnOK C c72 ⟨[.own 2097152 0 4 (a0.map eDLease), iV a1], []⟩ ⟨iV r.1, [], [(0, 4, r.2.map eDLease)]⟩ := by
 refine fn_ (nl rfl) (seq_ (reg_ (st (mvc_ tv (oe_ (wk_ ⟨[(0, .own 2097152 0 4 (a0.map eDLease)), (1, iV a1)], [], []⟩ (fgk (by kernel_rfl)) (seq_ (seq_ (reg_ (st (mvc_ tv (oe_ (wk_ ⟨[(0, .own 2097152 0 4 (a0.map eDLease)), (1, iV a1), (5, iV 0)], [], []⟩ (fgk (by kernel_rfl)) (block_ ?_))))))))))))))
 obtain ⟨r84, e85, h0⟩ := bnd h0
 refine loop_ (R := (fun S => ∃ p57 : List DLease, ∃ p58 : Int, (p57, p58) = r84 ∧ S = ⟨[(0, .own 2097152 0 4 (p57.map eDLease)), (1, iV p58)], [], []⟩)) (g72_l0) (fun s S => match s with | (p26, p27, p28) => S = ⟨[(0, .own 2097152 0 4 (p26.map eDLease)), (1, iV p27), (5, iV p28)], [], []⟩) e85 ⟨[(0, .own 2097152 0 4 (a0.map eDLease)), (1, iV a1), (5, iV 0)], [], []⟩ (fgk (by kernel_rfl)) rfl 0 (fun _ => rfl) ?_ ?_
 ·rintro S _ hfg ⟨p57, p58, rfl, rfl⟩
  refine wk_ ⟨[(0, .own 2097152 0 4 (p57.map eDLease)), (1, iV p58)], [], []⟩ (fglk hfg (by kernel_rfl)) (seq_ (reg_ (st (mv_ rfl tv (st (mv_ rfl tv (oe_ (wk_ ⟨[(0, .own 2097152 0 4 (p57.map eDLease)), (4, iV p58)], [], []⟩ (fgk (by kernel_rfl)) ?_))))))))
  obtain rfl := Option.some.inj h0
  exact rt_ (ret_ rfl rfl rfl rfl rfl ⟨⟨rfl, mlen (fun _ => rfl)⟩, tv⟩)
 ·rintro ⟨p26, p27, p28⟩ o1 _ K1 rfl h1 hx1 hK1 hE1 hR1
  refine seq_ (seq_ (reg_ (st (mv_ rfl tv (st (mv_ rfl tv (st (c_ (clenO (e := eDLease) (l0 := p26) rfl rfl tv) (st (c_ (cp_ t3 rfl tv) (oe_ (wk_ ⟨[(0, .own 2097152 0 4 (p26.map eDLease)), (1, iV p27), (5, iV p28), (9, .bool (decide (p28 < (p26.length : Int))))], [], []⟩ (fgk (by kernel_rfl)) (ite_ (cb := (decide (p28 < (p26.length : Int)))) rfl (fun c59 => ?_) (fun c59 => ?_))))))))))))))
  ·replace h1 := ip c59 h1
   refine sk_ (wk_ ⟨[(0, .own 2097152 0 4 (p26.map eDLease)), (1, iV p27), (5, iV p28)], [], []⟩ (fgk (by kernel_rfl)) (seq_ (block_ (seq_ (reg_ (st (mv_ rfl tv (st (mv_ rfl tv (st (mv_ rfl tv ?_)))))))))))
   obtain ⟨y60, e61, h1⟩ := bnd h1
   refine st (c_ (cidxO (e := eDLease) (y := y60) rfl rfl tv rfl rfl tv e61) (st (c_ (cp_ ⟨tv, tv⟩ rfl tv) ?_)))
   obtain ⟨y62, e63, h1⟩ := bnd h1
   refine st (sto_ (y' := (DLease.mk p27 y62.until_ y62.cap y62.queued)) rfl rfl tv rfl rfl rfl rfl e63 (nl rfl) rfl rfl rfl rfl (oe_ (wk_ ⟨[(0, .own 2097152 0 4 ((p26.set p28.toNat (DLease.mk p27 y62.until_ y62.cap y62.queued)).map eDLease)), (1, iV p27), (5, iV p28)], [], []⟩ (fg ⟨(congrArg (fun z => some ((.own 2097152 0 4 z : V))) overlay_map), rfl, rfl, tv⟩ tv) (seq_ (reg_ (st (mv_ rfl tv (st (c_ (cp_ t3 rfl tv) (st (mv_ rfl tv (oe_ (wk_ ⟨[(0, .own 2097152 0 4 ((p26.set p28.toNat (DLease.mk p27 y62.until_ y62.cap y62.queued)).map eDLease)), (1, iV (IntKind.i64.wrap (p27 + 1))), (5, iV p28)], [], []⟩ (fgk (by kernel_rfl)) (seq_ (reg_ (st (mv_ rfl tv (st (mv_ rfl tv (st (mv_ rfl tv ?_)))))))))))))))))))))
   obtain ⟨y64, e65, h1⟩ := bnd h1
   refine st (c_ (cidxO (e := eDLease) (y := y64) rfl rfl tv rfl rfl tv e65) (st (c_ (cp_ ⟨tv, tv⟩ rfl tv) ?_)))
   obtain ⟨y66, e67, h1⟩ := bnd h1
   refine st (sto_ (y' := (DLease.mk y66.id (IntKind.i64.wrap (p27 + 1)) y66.cap y66.queued)) rfl rfl tv rfl rfl rfl rfl e67 (nl rfl) rfl rfl rfl rfl (oe_ (wk_ ⟨[(0, .own 2097152 0 4 (((p26.set p28.toNat (DLease.mk p27 y62.until_ y62.cap y62.queued)).set p28.toNat (DLease.mk y66.id (IntKind.i64.wrap (p27 + 1)) y66.cap y66.queued)).map eDLease)), (1, iV (IntKind.i64.wrap (p27 + 1))), (5, iV p28)], [], []⟩ (fg ⟨(congrArg (fun z => some ((.own 2097152 0 4 z : V))) overlay_map), rfl, rfl, tv⟩ tv) (seq_ (reg_ (st (mv_ rfl tv (st (c_ (cp_ t3 rfl tv) (st (mv_ rfl tv (oe_ ?_))))))))))))
   obtain ⟨v68, e69, h1⟩ := bl h1
   refine wk_ ⟨[(0, .own 2097152 0 4 (v68.map eDLease)), (1, iV (IntKind.i64.wrap ((IntKind.i64.wrap (p27 + 1)) + 1))), (5, iV p28)], [], []⟩ (fgk (by subst e69; kernel_rfl)) (seq_ (reg_ (st (mv_ rfl tv (st (mv_ rfl tv (st (mv_ rfl tv ?_))))))))
   obtain ⟨y70, e71, h1⟩ := bnd h1
   refine st (c_ (cidxO (e := eDLease) (y := y70) rfl rfl tv rfl rfl tv e71) (st (c_ (cp_ ⟨tv, tv⟩ rfl tv) ?_)))
   obtain ⟨y72, e73, h1⟩ := bnd h1
   refine st (sto_ (y' := (DLease.mk y72.id y72.until_ (IntKind.i64.wrap ((IntKind.i64.wrap (p27 + 1)) + 1)) y72.queued)) rfl rfl tv rfl rfl rfl rfl e73 (nl rfl) rfl rfl rfl rfl (oe_ (wk_ ⟨[(0, .own 2097152 0 4 ((v68.set p28.toNat (DLease.mk y72.id y72.until_ (IntKind.i64.wrap ((IntKind.i64.wrap (p27 + 1)) + 1)) y72.queued)).map eDLease)), (1, iV (IntKind.i64.wrap ((IntKind.i64.wrap (p27 + 1)) + 1))), (5, iV p28)], [], []⟩ (fg ⟨(congrArg (fun z => some ((.own 2097152 0 4 z : V))) overlay_map), rfl, rfl, tv⟩ tv) (seq_ (reg_ (st (mv_ rfl tv (st (c_ (cp_ t3 rfl tv) (st (mv_ rfl tv (oe_ ?_))))))))))))
   obtain ⟨v74, e75, h1⟩ := bl h1
   obtain ⟨v76, e77, h1⟩ := bl h1
   refine wk_ ⟨[(0, .own 2097152 0 4 (v74.map eDLease)), (1, iV v76), (5, iV p28)], [], []⟩ (fgk (by subst e75 e77; kernel_rfl)) (seq_ (reg_ (st (mv_ rfl tv (st (mv_ rfl tv (st (mv_ rfl tv (st (c_ (cp_ ⟨tv, tv, tv⟩ rfl (by decide)) (st (c_ (cp_ t3 rfl tv) ?_))))))))))))
   obtain ⟨y78, e79, h1⟩ := bnd h1
   refine st (c_ (cidxO (e := eDLease) (y := y78) rfl rfl tv rfl rfl tv e79) (st (c_ (cp_ ⟨tv, tv⟩ rfl tv) ?_)))
   obtain ⟨y80, e81, h1⟩ := bnd h1
   refine st (sto_ (y' := (DLease.mk y80.id y80.until_ y80.cap (((v76).tmod 3) == 0))) rfl rfl tv rfl rfl rfl rfl e81 (nl rfl) rfl rfl rfl rfl (oe_ (wk_ ⟨[(0, .own 2097152 0 4 ((v74.set p28.toNat (DLease.mk y80.id y80.until_ y80.cap (((v76).tmod 3) == 0))).map eDLease)), (1, iV v76), (5, iV p28)], [], []⟩ (fg ⟨(congrArg (fun z => some ((.own 2097152 0 4 z : V))) overlay_map), rfl, rfl, tv⟩ tv) (reg_ (st (mv_ rfl tv (st (c_ (cp_ t3 rfl tv) (st (mv_ rfl tv (oe_ (bn_ ?_))))))))))))
   obtain ⟨v82, e83, h1⟩ := bl h1
   refine wk_ ⟨[(0, .own 2097152 0 4 (v82.map eDLease)), (1, iV (IntKind.i64.wrap (v76 + 1))), (5, iV p28)], [], []⟩ (fgk (by subst e83; kernel_rfl)) (reg_ (st (mv_ rfl tv (st (c_ (cp_ t3 rfl tv) (st (mv_ rfl tv (oe_ ?_))))))))
   obtain rfl := Option.some.inj h1
   exact hK1 _ rfl _ ⟨[(0, .own 2097152 0 4 (v82.map eDLease)), (1, iV (IntKind.i64.wrap (v76 + 1))), (5, iV (IntKind.i64.wrap (p28 + 1)))], [], []⟩ (fgk (by kernel_rfl)) rfl
  ·replace h1 := inb c59 h1
   obtain rfl := Option.some.inj h1
   obtain rfl := hx1 _ rfl
   refine exQ rfl ?_
   exact hE1 _ ⟨[(0, .own 2097152 0 4 (p26.map eDLease)), (1, iV p27)], [], []⟩ (fgk (by kernel_rfl)) ⟨_, _, rfl, rfl⟩

/- loop.example/g00149/laws.markTable -/
def c26_r0 : List Ins := [⟨some 2, .box (.t 0), none⟩,
⟨some 4, .p (.mv (.c (iV 0))), none⟩]
def c26_r1 : List Ins := [(iQ 5 (.fieldA (.t 2) 2)),
(iQ 6 (.load (.t 5) 1 false)),
(iQ 7 (.mv (.t 1))),
⟨some 8, .call 72 [(.t 6), (.t 7)], none⟩,
(iQ 1 (.mv (.t 8)))]
def c26_r2 : List Ins := [(iQ 9 (.mv (.t 1))),
(iQ 4 (.mv (.t 9)))]
def c26 : XFn := { np := 2, nt := 10, res := [.t 4], body := (.seq (.reg c26_r0) (.seq (.reg c26_r1) (.seq (.reg c26_r2) .ret))) }
def K26 (C : CRel) : Prop := ∀ (a0 : DTable) (a1 : Int) (r : Int × (List DLease)), g26 a0 a1 = some r → C 26 ⟨[.agg [iV a0.clock, iV a0.next, .own 2097152 0 4 (a0.list_.map eDLease)], iV a1], []⟩ ⟨iV r.1, [], [(0, 4, r.2.map eDLease)]⟩
theorem F26 {C : CRel} (H72 : K72 C) (a0 : DTable) (a1 : Int) (r : Int × (List DLease)) (h0 : g26 a0 a1 = some r) : FnOK C c26 ⟨[.agg [iV a0.clock, iV a0.next, .own 2097152 0 4 (a0.list_.map eDLease)], iV a1], []⟩ ⟨iV r.1, [], [(0, 4, r.2.map eDLease)]⟩ := by
 refine fn_ (nl rfl) (seq_ (reg_ (st (box_ rfl tv rfl (st (mvc_ tv (oe_ (wk_ ⟨[(0, .agg [iV a0.clock, iV a0.next, .own 2097152 0 4 (a0.list_.map eDLease)]), (1, iV a1), (2, .ptr 128 0)], [(128, [iV a0.clock, iV a0.next, .own 2097152 0 4 (a0.list_.map eDLease)])], []⟩ (fgk (by kernel_rfl)) (seq_ (reg_ (st (c_ (cp_ ⟨tv, tv⟩ rfl tv) (st (c_ (cp_ ⟨tv, tv⟩ rfl (nl rfl)) (st (mv_ rfl tv ?_))))))))))))))))
 obtain ⟨r1, e2, h0⟩ := bnd h0
 obtain ⟨c3, h0⟩ := grd h0
 refine st (call1_ [] [2097152] [] false (H72 a0.list_ a1 r1 e2) ⟨tv, tv, tv⟩ (by kernel_rfl) (by kernel_rfl) (by kernel_rfl) (by kernel_rfl) (fun _ => and_ rfl (and_ (fl2 (fun _ => rfl)) rfl)) (sw ⟨[(0, .agg [iV a0.clock, iV a0.next, .own 2097152 0 4 (r1.2.map eDLease)]), (8, iV r1.1)], [], []⟩ (fg ⟨(congrArg (fun z => some ((.agg [iV a0.clock, iV a0.next, z] : V))) (row_eq c3)), rfl, tv⟩ tv) (mv_ rfl tv (oe_ (wk_ ⟨[(0, .agg [iV a0.clock, iV a0.next, .own 2097152 0 4 (r1.2.map eDLease)]), (1, iV r1.1)], [], []⟩ (fgk (by kernel_rfl)) (seq_ (reg_ (st (mv_ rfl tv (st (mv_ rfl tv (oe_ (wk_ ⟨[(0, .agg [iV a0.clock, iV a0.next, .own 2097152 0 4 (r1.2.map eDLease)]), (4, iV r1.1)], [], []⟩ (fgk (by kernel_rfl)) ?_)))))))))))))
 obtain rfl := Option.some.inj h0
 exact rt_ (ret_ rfl rfl rfl rfl rfl ⟨⟨rfl, mlen (fun _ => rfl)⟩, tv⟩)

/- loop.example/g00149/laws.markIntentS -/
def c315_r0 : List Ins := [⟨some 4, .p (.mv (.c (iV 0))), none⟩]
def c315_r1 : List Ins := [⟨some 5, .p (.mv (.c (iV 0))), none⟩]
def c315_r2 : List Ins := [(iQ 6 (.mv (.t 5))),
(iQ 7 (.mv (.t 0))),
(iQ 8 (.len (.t 7))),
(iQ 9 (.bin .lss (.t 6) (.t 8)))]
def c315_r3 : List Ins := [(iQ 12 (.mv (.t 0))),
(iQ 13 (.mv (.t 5))),
(iQ 14 (.mv (.t 1))),
(iQ 15 (.idxA (.t 12) (.t 13) 2)),
(iQ 16 (.fieldA (.t 15) 0)),
⟨none, .store (.t 16) (.t 14) 1, none⟩]
def c315_r4 : List Ins := [(iQ 17 (.mv (.t 1))),
⟨some 18, .p (.bin .add (.t 17) (.c (iV 1))), none⟩,
(iQ 1 (.mv (.t 18)))]
def c315_r5 : List Ins := [(iQ 19 (.mv (.t 0))),
(iQ 20 (.mv (.t 5))),
(iQ 21 (.mv (.t 1))),
⟨some 22, .p (.bin .rem (.t 21) (.c (iV 3))), none⟩,
⟨some 23, .p (.bin .eql (.t 22) (.c (iV 0))), none⟩,
(iQ 24 (.idxA (.t 19) (.t 20) 2)),
(iQ 25 (.fieldA (.t 24) 1)),
⟨none, .store (.t 25) (.t 23) 1, none⟩]
def c315_r6 : List Ins := [(iQ 26 (.mv (.t 1))),
⟨some 27, .p (.bin .add (.t 26) (.c (iV 1))), none⟩,
(iQ 1 (.mv (.t 27)))]
def c315_r7 : List Ins := [(iQ 10 (.mv (.t 5))),
⟨some 11, .p (.bin .add (.t 10) (.c (iV 1))), none⟩,
(iQ 5 (.mv (.t 11)))]
def c315_l0 : IR := (.seq (.seq (.reg c315_r2) (.ite (.t 9) .skip (.exit 0))) (.seq (.block 1 (.seq (.reg c315_r3) (.seq (.reg c315_r4) (.seq (.reg c315_r5) (.reg c315_r6))))) (.reg c315_r7)))
def c315_r8 : List Ins := [(iQ 28 (.mv (.t 1))),
(iQ 4 (.mv (.t 28)))]
def c315 : XFn := { np := 2, nt := 29, res := [.t 4], body := (.seq (.reg c315_r0) (.seq (.seq (.reg c315_r1) (.block 0 (.loop c315_l0))) (.seq (.reg c315_r8) .ret))) }
def K315 (C : CRel) : Prop := ∀ (a0 : List DIntent) (a1 : Int) (r : Int × (List DIntent)), g315 a0 a1 = some r → C 315 ⟨[.own 2097152 0 2 (a0.map eDIntent), iV a1], []⟩ ⟨iV r.1, [], [(0, 2, r.2.map eDIntent)]⟩
theorem F315 {C : CRel}  (a0 : List DIntent) (a1 : Int) (r : Int × (List DIntent)) (h0 : g315 a0 a1 = some r) : FnOK C c315 ⟨[.own 2097152 0 2 (a0.map eDIntent), iV a1], []⟩ ⟨iV r.1, [], [(0, 2, r.2.map eDIntent)]⟩ := by
 refine fn_ (nl rfl) (seq_ (reg_ (st (mvc_ tv (oe_ (wk_ ⟨[(0, .own 2097152 0 2 (a0.map eDIntent)), (1, iV a1)], [], []⟩ (fgk (by kernel_rfl)) (seq_ (seq_ (reg_ (st (mvc_ tv (oe_ (wk_ ⟨[(0, .own 2097152 0 2 (a0.map eDIntent)), (1, iV a1), (5, iV 0)], [], []⟩ (fgk (by kernel_rfl)) (block_ ?_))))))))))))))
 obtain ⟨r42, e43, h0⟩ := bnd h0
 refine loop_ (R := (fun S => ∃ p29 : List DIntent, ∃ p30 : Int, (p29, p30) = r42 ∧ S = ⟨[(0, .own 2097152 0 2 (p29.map eDIntent)), (1, iV p30)], [], []⟩)) (g315_l0) (fun s S => match s with | (p12, p13, p14) => S = ⟨[(0, .own 2097152 0 2 (p12.map eDIntent)), (1, iV p13), (5, iV p14)], [], []⟩) e43 ⟨[(0, .own 2097152 0 2 (a0.map eDIntent)), (1, iV a1), (5, iV 0)], [], []⟩ (fgk (by kernel_rfl)) rfl 0 (fun _ => rfl) ?_ ?_
 ·rintro S _ hfg ⟨p29, p30, rfl, rfl⟩
  refine wk_ ⟨[(0, .own 2097152 0 2 (p29.map eDIntent)), (1, iV p30)], [], []⟩ (fglk hfg (by kernel_rfl)) (seq_ (reg_ (st (mv_ rfl tv (st (mv_ rfl tv (oe_ (wk_ ⟨[(0, .own 2097152 0 2 (p29.map eDIntent)), (4, iV p30)], [], []⟩ (fgk (by kernel_rfl)) ?_))))))))
  obtain rfl := Option.some.inj h0
  exact rt_ (ret_ rfl rfl rfl rfl rfl ⟨⟨rfl, mlen (fun _ => rfl)⟩, tv⟩)
 ·rintro ⟨p12, p13, p14⟩ o1 _ K1 rfl h1 hx1 hK1 hE1 hR1
  refine seq_ (seq_ (reg_ (st (mv_ rfl tv (st (mv_ rfl tv (st (c_ (clenO (e := eDIntent) (l0 := p12) rfl rfl tv) (st (c_ (cp_ t3 rfl tv) (oe_ (wk_ ⟨[(0, .own 2097152 0 2 (p12.map eDIntent)), (1, iV p13), (5, iV p14), (9, .bool (decide (p14 < (p12.length : Int))))], [], []⟩ (fgk (by kernel_rfl)) (ite_ (cb := (decide (p14 < (p12.length : Int)))) rfl (fun c31 => ?_) (fun c31 => ?_))))))))))))))
  ·replace h1 := ip c31 h1
   refine sk_ (wk_ ⟨[(0, .own 2097152 0 2 (p12.map eDIntent)), (1, iV p13), (5, iV p14)], [], []⟩ (fgk (by kernel_rfl)) (seq_ (block_ (seq_ (reg_ (st (mv_ rfl tv (st (mv_ rfl tv (st (mv_ rfl tv ?_)))))))))))
   obtain ⟨y32, e33, h1⟩ := bnd h1
   refine st (c_ (cidxO (e := eDIntent) (y := y32) rfl rfl tv rfl rfl tv e33) (st (c_ (cp_ ⟨tv, tv⟩ rfl tv) ?_)))
   obtain ⟨y34, e35, h1⟩ := bnd h1
   refine st (sto_ (y' := (DIntent.mk p13 y34.undo)) rfl rfl tv rfl rfl rfl rfl e35 (nl rfl) rfl rfl rfl rfl (oe_ (wk_ ⟨[(0, .own 2097152 0 2 ((p12.set p14.toNat (DIntent.mk p13 y34.undo)).map eDIntent)), (1, iV p13), (5, iV p14)], [], []⟩ (fg ⟨(congrArg (fun z => some ((.own 2097152 0 2 z : V))) overlay_map), rfl, rfl, tv⟩ tv) (seq_ (reg_ (st (mv_ rfl tv (st (c_ (cp_ t3 rfl tv) (st (mv_ rfl tv (oe_ (wk_ ⟨[(0, .own 2097152 0 2 ((p12.set p14.toNat (DIntent.mk p13 y34.undo)).map eDIntent)), (1, iV (IntKind.i64.wrap (p13 + 1))), (5, iV p14)], [], []⟩ (fgk (by kernel_rfl)) (seq_ (reg_ (st (mv_ rfl tv (st (mv_ rfl tv (st (mv_ rfl tv (st (c_ (cp_ ⟨tv, tv, tv⟩ rfl (by decide)) (st (c_ (cp_ t3 rfl tv) ?_)))))))))))))))))))))))))
   obtain ⟨y36, e37, h1⟩ := bnd h1
   refine st (c_ (cidxO (e := eDIntent) (y := y36) rfl rfl tv rfl rfl tv e37) (st (c_ (cp_ ⟨tv, tv⟩ rfl tv) ?_)))
   obtain ⟨y38, e39, h1⟩ := bnd h1
   refine st (sto_ (y' := (DIntent.mk y38.lease ((((IntKind.i64.wrap (p13 + 1))).tmod 3) == 0))) rfl rfl tv rfl rfl rfl rfl e39 (nl rfl) rfl rfl rfl rfl (oe_ (wk_ ⟨[(0, .own 2097152 0 2 (((p12.set p14.toNat (DIntent.mk p13 y34.undo)).set p14.toNat (DIntent.mk y38.lease ((((IntKind.i64.wrap (p13 + 1))).tmod 3) == 0))).map eDIntent)), (1, iV (IntKind.i64.wrap (p13 + 1))), (5, iV p14)], [], []⟩ (fg ⟨(congrArg (fun z => some ((.own 2097152 0 2 z : V))) overlay_map), rfl, rfl, tv⟩ tv) (reg_ (st (mv_ rfl tv (st (c_ (cp_ t3 rfl tv) (st (mv_ rfl tv (oe_ (bn_ ?_))))))))))))
   obtain ⟨v40, e41, h1⟩ := bl h1
   refine wk_ ⟨[(0, .own 2097152 0 2 (v40.map eDIntent)), (1, iV (IntKind.i64.wrap ((IntKind.i64.wrap (p13 + 1)) + 1))), (5, iV p14)], [], []⟩ (fgk (by subst e41; kernel_rfl)) (reg_ (st (mv_ rfl tv (st (c_ (cp_ t3 rfl tv) (st (mv_ rfl tv (oe_ ?_))))))))
   obtain rfl := Option.some.inj h1
   exact hK1 _ rfl _ ⟨[(0, .own 2097152 0 2 (v40.map eDIntent)), (1, iV (IntKind.i64.wrap ((IntKind.i64.wrap (p13 + 1)) + 1))), (5, iV (IntKind.i64.wrap (p14 + 1)))], [], []⟩ (fgk (by kernel_rfl)) rfl
  ·replace h1 := inb c31 h1
   obtain rfl := Option.some.inj h1
   obtain rfl := hx1 _ rfl
   refine exQ rfl ?_
   exact hE1 _ ⟨[(0, .own 2097152 0 2 (p12.map eDIntent)), (1, iV p13)], [], []⟩ (fgk (by kernel_rfl)) ⟨_, _, rfl, rfl⟩

/- loop.example/g00149/laws.markVault -/
def c252_r0 : List Ins := [⟨some 2, .box (.t 0), none⟩,
⟨some 4, .p (.mv (.c (iV 0))), none⟩]
def c252_r1 : List Ins := [(iQ 5 (.fieldA (.t 2) 0)),
(iQ 6 (.load (.t 5) 3 true)),
(iQ 7 (.mv (.t 1))),
⟨some 8, .call 26 [(.t 6), (.t 7)], none⟩,
(iQ 1 (.mv (.t 8)))]
def c252_r2 : List Ins := [(iQ 9 (.fieldA (.t 2) 3)),
(iQ 10 (.load (.t 9) 1 false)),
(iQ 11 (.mv (.t 1))),
⟨some 12, .call 315 [(.t 10), (.t 11)], none⟩,
(iQ 1 (.mv (.t 12)))]
def c252_r3 : List Ins := [(iQ 13 (.fieldA (.t 2) 4)),
(iQ 14 (.load (.t 13) 1 false)),
(iQ 15 (.mv (.t 1))),
⟨some 16, .call 37 [(.t 14), (.t 15)], none⟩,
(iQ 1 (.mv (.t 16)))]
def c252_r4 : List Ins := [(iQ 17 (.mv (.t 1))),
(iQ 4 (.mv (.t 17)))]
def c252 : XFn := { np := 2, nt := 18, res := [.t 4], body := (.seq (.reg c252_r0) (.seq (.reg c252_r1) (.seq (.reg c252_r2) (.seq (.reg c252_r3) (.seq (.reg c252_r4) .ret))))) }
def K252 (C : CRel) : Prop := ∀ (a0 : DVault) (a1 : Int) (r : Int × (List DLease) × (List DIntent) × (List Int)), g252 a0 a1 = some r → C 252 ⟨[.agg [iV a0.table.clock, iV a0.table.next, .own 2097152 0 4 (a0.table.list_.map eDLease), .own 2097153 0 2 (a0.intents.map eDIntent), .own 2097154 0 1 (a0.accounts.map eI), .bool a0.sealed], iV a1], []⟩ ⟨iV r.1, [], [(0, 4, r.2.1.map eDLease), (0, 2, r.2.2.1.map eDIntent), (0, 1, r.2.2.2.map eI)]⟩
theorem F252 {C : CRel} (H26 : K26 C) (H37 : K37 C) (H315 : K315 C) (a0 : DVault) (a1 : Int) (r : Int × (List DLease) × (List DIntent) × (List Int)) (h0 : g252 a0 a1 = some r) : FnOK C c252 ⟨[.agg [iV a0.table.clock, iV a0.table.next, .own 2097152 0 4 (a0.table.list_.map eDLease), .own 2097153 0 2 (a0.intents.map eDIntent), .own 2097154 0 1 (a0.accounts.map eI), .bool a0.sealed], iV a1], []⟩ ⟨iV r.1, [], [(0, 4, r.2.1.map eDLease), (0, 2, r.2.2.1.map eDIntent), (0, 1, r.2.2.2.map eI)]⟩ := by
 refine fn_ (nl rfl) (seq_ (reg_ (st (box_ rfl tv rfl (st (mvc_ tv (oe_ (wk_ ⟨[(0, .agg [iV a0.table.clock, iV a0.table.next, .own 2097152 0 4 (a0.table.list_.map eDLease), .own 2097153 0 2 (a0.intents.map eDIntent), .own 2097154 0 1 (a0.accounts.map eI), .bool a0.sealed]), (1, iV a1), (2, .ptr 128 0)], [(128, [iV a0.table.clock, iV a0.table.next, .own 2097152 0 4 (a0.table.list_.map eDLease), .own 2097153 0 2 (a0.intents.map eDIntent), .own 2097154 0 1 (a0.accounts.map eI), .bool a0.sealed])], []⟩ (fgk (by kernel_rfl)) (seq_ (reg_ (st (c_ (cp_ ⟨tv, tv⟩ rfl tv) (st (c_ (v := .agg [iV a0.table.clock, iV a0.table.next, .own 2097152 0 4 (a0.table.list_.map eDLease)]) (cp_ ⟨tv, tv⟩ rfl (nl rfl)) (st (mv_ rfl tv ?_))))))))))))))))
 obtain ⟨r1, e2, h0⟩ := bnd h0
 obtain ⟨c3, h0⟩ := grd h0
 refine st (call1_ [] [2097152] [] false (H26 a0.table a1 r1 e2) ⟨tv, tv, tv⟩ (by kernel_rfl) (by kernel_rfl) (by kernel_rfl) (by kernel_rfl) (fun _ => and_ rfl (and_ (fl2 (fun _ => rfl)) rfl)) (sw ⟨[(0, .agg [iV a0.table.clock, iV a0.table.next, .own 2097152 0 4 (r1.2.map eDLease), .own 2097153 0 2 (a0.intents.map eDIntent), .own 2097154 0 1 (a0.accounts.map eI), .bool a0.sealed]), (2, .ptr 128 0), (8, iV r1.1)], [(128, [iV a0.table.clock, iV a0.table.next, .own 2097152 0 4 (r1.2.map eDLease), .own 2097153 0 2 (a0.intents.map eDIntent), .own 2097154 0 1 (a0.accounts.map eI), .bool a0.sealed])], []⟩ (fg ⟨(congrArg (fun z => some ((.agg [iV a0.table.clock, iV a0.table.next, z, .own 2097153 0 2 (a0.intents.map eDIntent), .own 2097154 0 1 (a0.accounts.map eI), .bool a0.sealed] : V))) (row_eq c3)), rfl, rfl, tv⟩ ⟨(congrArg (fun z => some (([iV a0.table.clock, iV a0.table.next, z, .own 2097153 0 2 (a0.intents.map eDIntent), .own 2097154 0 1 (a0.accounts.map eI), .bool a0.sealed] : List V))) (row_eq c3)), tv⟩) (mv_ rfl tv (oe_ (wk_ ⟨[(0, .agg [iV a0.table.clock, iV a0.table.next, .own 2097152 0 4 (r1.2.map eDLease), .own 2097153 0 2 (a0.intents.map eDIntent), .own 2097154 0 1 (a0.accounts.map eI), .bool a0.sealed]), (1, iV r1.1), (2, .ptr 128 0)], [(128, [iV a0.table.clock, iV a0.table.next, .own 2097152 0 4 (r1.2.map eDLease), .own 2097153 0 2 (a0.intents.map eDIntent), .own 2097154 0 1 (a0.accounts.map eI), .bool a0.sealed])], []⟩ (fgk (by kernel_rfl)) (seq_ (reg_ (st (c_ (cp_ ⟨tv, tv⟩ rfl tv) (st (c_ (cp_ ⟨tv, tv⟩ rfl (nl rfl)) (st (mv_ rfl tv ?_)))))))))))))
 obtain ⟨r4, e5, h0⟩ := bnd h0
 obtain ⟨c6, h0⟩ := grd h0
 refine st (call1_ [] [2097153] [] false (H315 a0.intents r1.1 r4 e5) ⟨tv, tv, tv⟩ (by kernel_rfl) (by kernel_rfl) (by kernel_rfl) (by kernel_rfl) (fun _ => and_ rfl (and_ (fl2 (fun _ => rfl)) rfl)) (sw ⟨[(0, .agg [iV a0.table.clock, iV a0.table.next, .own 2097152 0 4 (r1.2.map eDLease), .own 2097153 0 2 (r4.2.map eDIntent), .own 2097154 0 1 (a0.accounts.map eI), .bool a0.sealed]), (2, .ptr 128 0), (12, iV r4.1)], [(128, [iV a0.table.clock, iV a0.table.next, .own 2097152 0 4 (r1.2.map eDLease), .own 2097153 0 2 (r4.2.map eDIntent), .own 2097154 0 1 (a0.accounts.map eI), .bool a0.sealed])], []⟩ (fg ⟨(congrArg (fun z => some ((.agg [iV a0.table.clock, iV a0.table.next, .own 2097152 0 4 (r1.2.map eDLease), z, .own 2097154 0 1 (a0.accounts.map eI), .bool a0.sealed] : V))) (row_eq c6)), rfl, rfl, tv⟩ ⟨(congrArg (fun z => some (([iV a0.table.clock, iV a0.table.next, .own 2097152 0 4 (r1.2.map eDLease), z, .own 2097154 0 1 (a0.accounts.map eI), .bool a0.sealed] : List V))) (row_eq c6)), tv⟩) (mv_ rfl tv (oe_ (wk_ ⟨[(0, .agg [iV a0.table.clock, iV a0.table.next, .own 2097152 0 4 (r1.2.map eDLease), .own 2097153 0 2 (r4.2.map eDIntent), .own 2097154 0 1 (a0.accounts.map eI), .bool a0.sealed]), (1, iV r4.1), (2, .ptr 128 0)], [(128, [iV a0.table.clock, iV a0.table.next, .own 2097152 0 4 (r1.2.map eDLease), .own 2097153 0 2 (r4.2.map eDIntent), .own 2097154 0 1 (a0.accounts.map eI), .bool a0.sealed])], []⟩ (fgk (by kernel_rfl)) (seq_ (reg_ (st (c_ (cp_ ⟨tv, tv⟩ rfl tv) (st (c_ (cp_ ⟨tv, tv⟩ rfl (nl rfl)) (st (mv_ rfl tv ?_)))))))))))))
 obtain ⟨r7, e8, h0⟩ := bnd h0
 obtain ⟨c9, h0⟩ := grd h0
 refine st (call1_ [] [2097154] [] false (H37 a0.accounts r4.1 r7 e8) ⟨tv, tv, tv⟩ (by kernel_rfl) (by kernel_rfl) (by kernel_rfl) (by kernel_rfl) (fun _ => and_ rfl (and_ (fl2 (fun _ => rfl)) rfl)) (sw ⟨[(0, .agg [iV a0.table.clock, iV a0.table.next, .own 2097152 0 4 (r1.2.map eDLease), .own 2097153 0 2 (r4.2.map eDIntent), .own 2097154 0 1 (r7.2.map eI), .bool a0.sealed]), (16, iV r7.1)], [], []⟩ (fg ⟨(congrArg (fun z => some ((.agg [iV a0.table.clock, iV a0.table.next, .own 2097152 0 4 (r1.2.map eDLease), .own 2097153 0 2 (r4.2.map eDIntent), z, .bool a0.sealed] : V))) (row_eq c9)), rfl, tv⟩ tv) (mv_ rfl tv (oe_ (wk_ ⟨[(0, .agg [iV a0.table.clock, iV a0.table.next, .own 2097152 0 4 (r1.2.map eDLease), .own 2097153 0 2 (r4.2.map eDIntent), .own 2097154 0 1 (r7.2.map eI), .bool a0.sealed]), (1, iV r7.1)], [], []⟩ (fgk (by kernel_rfl)) (seq_ (reg_ (st (mv_ rfl tv (st (mv_ rfl tv (oe_ (wk_ ⟨[(0, .agg [iV a0.table.clock, iV a0.table.next, .own 2097152 0 4 (r1.2.map eDLease), .own 2097153 0 2 (r4.2.map eDIntent), .own 2097154 0 1 (r7.2.map eI), .bool a0.sealed]), (4, iV r7.1)], [], []⟩ (fgk (by kernel_rfl)) ?_)))))))))))))
 obtain rfl := Option.some.inj h0
 exact rt_ (ret_ rfl rfl rfl rfl rfl ⟨⟨rfl, mlen (fun _ => rfl)⟩, ⟨⟨rfl, mlen (fun _ => rfl)⟩, ⟨⟨rfl, mlen (fun _ => rfl)⟩, tv⟩⟩⟩)

/- loop.example/g00149/laws.markText -/
def c316_r0 : List Ins := [⟨some 2, .p (.mv (.c (.str []))), none⟩]
def c316_r1 : List Ins := [(iQ 4 (.mv (.t 0))),
⟨some 5, .p (.bin .leq (.t 4) (.c (iV 0))), none⟩]
def c316_r2 : List Ins := [⟨some 2, .p (.mv (.c (.str [109, 48]))), none⟩]
def c316_r3 : List Ins := [⟨some 3, .p (.mv (.c (.str []))), none⟩]
def c316_r4 : List Ins := [(iQ 6 (.mv (.t 0))),
⟨some 7, .p (.bin .gtr (.t 6) (.c (iV 0))), none⟩]
def c316_r5 : List Ins := [(iQ 8 (.mv (.t 0))),
⟨some 9, .p (.bin .rem (.t 8) (.c (iV 10))), none⟩,
⟨some 10, .p (.bin .add (.c (iV 48)) (.t 9)), none⟩,
(iQ 11 (.conv .u8 (.t 10))),
⟨some 12, .mkS 1 [(.int .u8 0)] 1 [(0, (.t 11))], none⟩,
(iQ 13 (.toStr (.t 12))),
(iQ 14 (.mv (.t 3))),
(iQ 15 (.bin .add (.t 13) (.t 14))),
(iQ 3 (.mv (.t 15)))]
def c316_r6 : List Ins := [(iQ 16 (.mv (.t 0))),
⟨some 17, .p (.bin .quo (.t 16) (.c (iV 10))), none⟩,
(iQ 0 (.mv (.t 17)))]
def c316_l0 : IR := (.seq (.seq (.reg c316_r4) (.ite (.t 7) .skip (.exit 0))) (.block 1 (.seq (.reg c316_r5) (.reg c316_r6))))
def c316_r7 : List Ins := [(iQ 18 (.mv (.t 3))),
⟨some 19, .p (.bin .add (.c (.str [109])) (.t 18)), none⟩,
(iQ 2 (.mv (.t 19)))]
def c316 : XFn := { np := 1, nt := 20, res := [.t 2], body := (.seq (.reg c316_r0) (.seq (.seq (.reg c316_r1) (.ite (.t 5) (.seq (.reg c316_r2) .ret) .skip)) (.seq (.reg c316_r3) (.seq (.block 0 (.loop c316_l0)) (.seq (.reg c316_r7) .ret))))) }
def K316 (C : CRel) : Prop := ∀ (a0 : Int) (r : (List UInt8)), g316 a0 = some r → C 316 ⟨[iV a0], []⟩ ⟨.str r, [], []⟩
theorem F316 {C : CRel}  (a0 : Int) (r : (List UInt8)) (h0 : g316 a0 = some r) : FnOK C c316 ⟨[iV a0], []⟩ ⟨.str r, [], []⟩ := by
 refine fn_ (nl rfl) (seq_ (reg_ (st (mvc_ tv (oe_ (wk_ ⟨[(0, iV a0)], [], []⟩ (fgk (by kernel_rfl)) (seq_ (seq_ (reg_ (st (mv_ rfl tv (st (c_ (cp_ t3 rfl tv) (oe_ (wk_ ⟨[(0, iV a0), (5, .bool (decide (a0 ≤ 0)))], [], []⟩ (fgk (by kernel_rfl)) (ite_ (cb := (decide (a0 ≤ 0))) rfl (fun c1 => ?_) (fun c1 => ?_)))))))))))))))))
 ·replace h0 := ip c1 h0
  refine seq_ (reg_ (st (mvc_ tv (oe_ (wk_ ⟨[(2, .str ([109, 48] : List UInt8))], [], []⟩ (fgk (by kernel_rfl)) ?_)))))
  obtain rfl := Option.some.inj h0
  exact rt_ (ret_ rfl rfl rfl rfl rfl tv)
 ·replace h0 := inb c1 h0
  refine sk_ (wk_ ⟨[(0, iV a0)], [], []⟩ (fgk (by kernel_rfl)) (seq_ (reg_ (st (mvc_ tv (oe_ (wk_ ⟨[(0, iV a0), (3, .str ([] : List UInt8))], [], []⟩ (fgk (by kernel_rfl)) (seq_ (block_ ?_)))))))))
  obtain ⟨r15, e16, h0⟩ := bnd h0
  refine loop_ (R := (fun S => ∃ p12 : List UInt8, p12 = r15 ∧ S = ⟨[(3, .str p12)], [], []⟩)) (g316_l0) (fun s S => match s with | (p6, p7) => S = ⟨[(0, iV p6), (3, .str p7)], [], []⟩) e16 ⟨[(0, iV a0), (3, .str ([] : List UInt8))], [], []⟩ (fgk (by kernel_rfl)) rfl 0 (fun _ => rfl) ?_ ?_
  ·rintro S _ hfg ⟨p12, rfl, rfl⟩
   refine wk_ ⟨[(3, .str p12)], [], []⟩ (fglk hfg (by kernel_rfl)) (seq_ (reg_ (st (mv_ rfl tv ?_))))
   obtain ⟨c17, h0⟩ := grd h0
   refine st (c_ (cp_ ⟨tv, tv, tv⟩ rfl c17) (st (mv_ rfl tv (oe_ (wk_ ⟨[(2, .str (([109] : List UInt8) ++ p12))], [], []⟩ (fgk (by kernel_rfl)) ?_)))))
   obtain rfl := Option.some.inj h0
   exact rt_ (ret_ rfl rfl rfl rfl rfl tv)
  ·rintro ⟨p6, p7⟩ o1 _ K1 rfl h1 hx1 hK1 hE1 hR1
   refine seq_ (seq_ (reg_ (st (mv_ rfl tv (st (c_ (cp_ t3 rfl tv) (oe_ (wk_ ⟨[(0, iV p6), (3, .str p7), (7, .bool (decide (p6 > 0)))], [], []⟩ (fgk (by kernel_rfl)) (ite_ (cb := (decide (p6 > 0))) rfl (fun c13 => ?_) (fun c13 => ?_))))))))))
   ·replace h1 := ip c13 h1
    refine sk_ (wk_ ⟨[(0, iV p6), (3, .str p7)], [], []⟩ (fgk (by kernel_rfl)) (block_ (seq_ (reg_ (st (mv_ rfl tv (st (c_ (cp_ ⟨tv, tv, tv⟩ rfl (by decide)) (st (c_ (cp_ t3 rfl tv) (st (c_ (cb8 (cp_ ⟨tv, tv⟩ rfl tv)) (st (mkS_ ⟨tv, tv⟩ ⟨⟨nl rfl, rfl, rfl⟩, tv⟩ (st (c_ (ctoStrO (s := ([b8 (IntKind.i64.wrap (48 + ((p6).tmod 10)))] : List UInt8)) rfl rfl tv) (st (mv_ rfl tv ?_))))))))))))))))))
    obtain ⟨c14, h1⟩ := grd h1
    refine st (c_ (cp_ ⟨tv, tv, tv⟩ rfl c14) (st (mv_ rfl tv (oe_ (wk_ ⟨[(0, iV p6), (3, .str (([b8 (IntKind.i64.wrap (48 + ((p6).tmod 10)))] : List UInt8) ++ p7))], [], []⟩ (fgk (by kernel_rfl)) (reg_ (st (mv_ rfl tv (st (c_ (cp_ ⟨tv, tv, tv⟩ rfl (by decide)) (st (mv_ rfl tv (oe_ (bn_ ?_))))))))))))))
    obtain rfl := Option.some.inj h1
    exact hK1 _ rfl _ ⟨[(0, iV (IntKind.i64.wrap ((p6).tdiv 10))), (3, .str (([b8 (IntKind.i64.wrap (48 + ((p6).tmod 10)))] : List UInt8) ++ p7))], [], []⟩ (fgk (by kernel_rfl)) rfl
   ·replace h1 := inb c13 h1
    obtain rfl := Option.some.inj h1
    obtain rfl := hx1 _ rfl
    refine exQ rfl ?_
    exact hE1 _ ⟨[(3, .str p7)], [], []⟩ (fgk (by kernel_rfl)) ⟨_, rfl, rfl⟩

/- loop.example/g00149/laws.markPairS -/
def c253_r0 : List Ins := [⟨some 4, .p (.mv (.c (iV 0))), none⟩]
def c253_r1 : List Ins := [⟨some 5, .p (.mv (.c (iV 0))), none⟩]
def c253_r2 : List Ins := [(iQ 6 (.mv (.t 5))),
(iQ 7 (.mv (.t 0))),
(iQ 8 (.len (.t 7))),
(iQ 9 (.bin .lss (.t 6) (.t 8)))]
def c253_r3 : List Ins := [(iQ 12 (.mv (.t 0))),
(iQ 13 (.mv (.t 5))),
(iQ 14 (.mv (.t 1))),
⟨some 15, .call 316 [(.t 14)], none⟩,
(iQ 16 (.idxA (.t 12) (.t 13) 2)),
(iQ 17 (.fieldA (.t 16) 0)),
⟨none, .store (.t 17) (.t 15) 1, none⟩]
def c253_r4 : List Ins := [(iQ 18 (.mv (.t 1))),
⟨some 19, .p (.bin .add (.t 18) (.c (iV 1))), none⟩,
(iQ 1 (.mv (.t 19)))]
def c253_r5 : List Ins := [(iQ 20 (.mv (.t 0))),
(iQ 21 (.mv (.t 5))),
(iQ 22 (.mv (.t 1))),
⟨some 23, .call 316 [(.t 22)], none⟩,
(iQ 24 (.idxA (.t 20) (.t 21) 2)),
(iQ 25 (.fieldA (.t 24) 1)),
⟨none, .store (.t 25) (.t 23) 1, none⟩]
def c253_r6 : List Ins := [(iQ 26 (.mv (.t 1))),
⟨some 27, .p (.bin .add (.t 26) (.c (iV 1))), none⟩,
(iQ 1 (.mv (.t 27)))]
def c253_r7 : List Ins := [(iQ 10 (.mv (.t 5))),
⟨some 11, .p (.bin .add (.t 10) (.c (iV 1))), none⟩,
(iQ 5 (.mv (.t 11)))]
def c253_l0 : IR := (.seq (.seq (.reg c253_r2) (.ite (.t 9) .skip (.exit 0))) (.seq (.block 1 (.seq (.reg c253_r3) (.seq (.reg c253_r4) (.seq (.reg c253_r5) (.reg c253_r6))))) (.reg c253_r7)))
def c253_r8 : List Ins := [(iQ 28 (.mv (.t 1))),
(iQ 4 (.mv (.t 28)))]
def c253 : XFn := { np := 2, nt := 29, res := [.t 4], body := (.seq (.reg c253_r0) (.seq (.seq (.reg c253_r1) (.block 0 (.loop c253_l0))) (.seq (.reg c253_r8) .ret))) }
def K253 (C : CRel) : Prop := ∀ (a0 : List DPair) (a1 : Int) (r : Int × (List DPair)), g253 a0 a1 = some r → C 253 ⟨[.own 2097152 0 2 (a0.map eDPair), iV a1], []⟩ ⟨iV r.1, [], [(0, 2, r.2.map eDPair)]⟩
theorem F253 {C : CRel} (H316 : K316 C) (a0 : List DPair) (a1 : Int) (r : Int × (List DPair)) (h0 : g253 a0 a1 = some r) : FnOK C c253 ⟨[.own 2097152 0 2 (a0.map eDPair), iV a1], []⟩ ⟨iV r.1, [], [(0, 2, r.2.map eDPair)]⟩ := by
 refine fn_ (nl rfl) (seq_ (reg_ (st (mvc_ tv (oe_ (wk_ ⟨[(0, .own 2097152 0 2 (a0.map eDPair)), (1, iV a1)], [], []⟩ (fgk (by kernel_rfl)) (seq_ (seq_ (reg_ (st (mvc_ tv (oe_ (wk_ ⟨[(0, .own 2097152 0 2 (a0.map eDPair)), (1, iV a1), (5, iV 0)], [], []⟩ (fgk (by kernel_rfl)) (block_ ?_))))))))))))))
 obtain ⟨r54, e55, h0⟩ := bnd h0
 refine loop_ (R := (fun S => ∃ p37 : List DPair, ∃ p38 : Int, (p37, p38) = r54 ∧ S = ⟨[(0, .own 2097152 0 2 (p37.map eDPair)), (1, iV p38)], [], []⟩)) (g253_l0) (fun s S => match s with | (p16, p17, p18) => S = ⟨[(0, .own 2097152 0 2 (p16.map eDPair)), (1, iV p17), (5, iV p18)], [], []⟩) e55 ⟨[(0, .own 2097152 0 2 (a0.map eDPair)), (1, iV a1), (5, iV 0)], [], []⟩ (fgk (by kernel_rfl)) rfl 0 (fun _ => rfl) ?_ ?_
 ·rintro S _ hfg ⟨p37, p38, rfl, rfl⟩
  refine wk_ ⟨[(0, .own 2097152 0 2 (p37.map eDPair)), (1, iV p38)], [], []⟩ (fglk hfg (by kernel_rfl)) (seq_ (reg_ (st (mv_ rfl tv (st (mv_ rfl tv (oe_ (wk_ ⟨[(0, .own 2097152 0 2 (p37.map eDPair)), (4, iV p38)], [], []⟩ (fgk (by kernel_rfl)) ?_))))))))
  obtain rfl := Option.some.inj h0
  exact rt_ (ret_ rfl rfl rfl rfl rfl ⟨⟨rfl, mlen (fun _ => rfl)⟩, tv⟩)
 ·rintro ⟨p16, p17, p18⟩ o1 _ K1 rfl h1 hx1 hK1 hE1 hR1
  refine seq_ (seq_ (reg_ (st (mv_ rfl tv (st (mv_ rfl tv (st (c_ (clenO (e := eDPair) (l0 := p16) rfl rfl tv) (st (c_ (cp_ t3 rfl tv) (oe_ (wk_ ⟨[(0, .own 2097152 0 2 (p16.map eDPair)), (1, iV p17), (5, iV p18), (9, .bool (decide (p18 < (p16.length : Int))))], [], []⟩ (fgk (by kernel_rfl)) (ite_ (cb := (decide (p18 < (p16.length : Int)))) rfl (fun c39 => ?_) (fun c39 => ?_))))))))))))))
  ·replace h1 := ip c39 h1
   refine sk_ (wk_ ⟨[(0, .own 2097152 0 2 (p16.map eDPair)), (1, iV p17), (5, iV p18)], [], []⟩ (fgk (by kernel_rfl)) (seq_ (block_ (seq_ (reg_ (st (mv_ rfl tv (st (mv_ rfl tv (st (mv_ rfl tv ?_)))))))))))
   obtain ⟨r40, e41, h1⟩ := bnd h1
   refine st (call0_ (r := .str r40) false (H316 p17 r40 e41) ⟨tv, tv⟩ rfl rfl (fun _ => rfl) ?_)
   obtain ⟨y42, e43, h1⟩ := bnd h1
   refine st (c_ (cidxO (e := eDPair) (y := y42) rfl rfl tv rfl rfl tv e43) (st (c_ (cp_ ⟨tv, tv⟩ rfl tv) ?_)))
   obtain ⟨y44, e45, h1⟩ := bnd h1
   refine st (sto_ (y' := (DPair.mk r40 y44.value)) rfl rfl tv rfl rfl rfl rfl e45 (nl rfl) rfl rfl rfl rfl (oe_ (wk_ ⟨[(0, .own 2097152 0 2 ((p16.set p18.toNat (DPair.mk r40 y44.value)).map eDPair)), (1, iV p17), (5, iV p18)], [], []⟩ (fg ⟨(congrArg (fun z => some ((.own 2097152 0 2 z : V))) overlay_map), rfl, rfl, tv⟩ tv) (seq_ (reg_ (st (mv_ rfl tv (st (c_ (cp_ t3 rfl tv) (st (mv_ rfl tv (oe_ (wk_ ⟨[(0, .own 2097152 0 2 ((p16.set p18.toNat (DPair.mk r40 y44.value)).map eDPair)), (1, iV (IntKind.i64.wrap (p17 + 1))), (5, iV p18)], [], []⟩ (fgk (by kernel_rfl)) (seq_ (reg_ (st (mv_ rfl tv (st (mv_ rfl tv (st (mv_ rfl tv ?_)))))))))))))))))))))
   obtain ⟨r46, e47, h1⟩ := bnd h1
   refine st (call0_ (r := .str r46) false (H316 (IntKind.i64.wrap (p17 + 1)) r46 e47) ⟨tv, tv⟩ rfl rfl (fun _ => rfl) ?_)
   obtain ⟨y48, e49, h1⟩ := bnd h1
   refine st (c_ (cidxO (e := eDPair) (y := y48) rfl rfl tv rfl rfl tv e49) (st (c_ (cp_ ⟨tv, tv⟩ rfl tv) ?_)))
   obtain ⟨y50, e51, h1⟩ := bnd h1
   refine st (sto_ (y' := (DPair.mk y50.key r46)) rfl rfl tv rfl rfl rfl rfl e51 (nl rfl) rfl rfl rfl rfl (oe_ (wk_ ⟨[(0, .own 2097152 0 2 (((p16.set p18.toNat (DPair.mk r40 y44.value)).set p18.toNat (DPair.mk y50.key r46)).map eDPair)), (1, iV (IntKind.i64.wrap (p17 + 1))), (5, iV p18)], [], []⟩ (fg ⟨(congrArg (fun z => some ((.own 2097152 0 2 z : V))) overlay_map), rfl, rfl, tv⟩ tv) (reg_ (st (mv_ rfl tv (st (c_ (cp_ t3 rfl tv) (st (mv_ rfl tv (oe_ (bn_ ?_))))))))))))
   obtain ⟨v52, e53, h1⟩ := bl h1
   refine wk_ ⟨[(0, .own 2097152 0 2 (v52.map eDPair)), (1, iV (IntKind.i64.wrap ((IntKind.i64.wrap (p17 + 1)) + 1))), (5, iV p18)], [], []⟩ (fgk (by subst e53; kernel_rfl)) (reg_ (st (mv_ rfl tv (st (c_ (cp_ t3 rfl tv) (st (mv_ rfl tv (oe_ ?_))))))))
   obtain rfl := Option.some.inj h1
   exact hK1 _ rfl _ ⟨[(0, .own 2097152 0 2 (v52.map eDPair)), (1, iV (IntKind.i64.wrap ((IntKind.i64.wrap (p17 + 1)) + 1))), (5, iV (IntKind.i64.wrap (p18 + 1)))], [], []⟩ (fgk (by kernel_rfl)) rfl
  ·replace h1 := inb c39 h1
   obtain rfl := Option.some.inj h1
   obtain rfl := hx1 _ rfl
   refine exQ rfl ?_
   exact hE1 _ ⟨[(0, .own 2097152 0 2 (p16.map eDPair)), (1, iV p17)], [], []⟩ (fgk (by kernel_rfl)) ⟨_, _, rfl, rfl⟩

/- loop.example/g00149/laws.szPair -/
def c317_r0 : List Ins := [⟨some 2, .box (.t 0), none⟩,
⟨some 4, .p (.mv (.c (iV 0))), none⟩]
def c317_r1 : List Ins := [(iQ 5 (.mv (.t 1))),
(iQ 6 (.fieldA (.t 2) 0)),
(iQ 7 (.load (.t 6) 1 false)),
(iQ 8 (.lenS (.t 7))),
(iQ 9 (.bin .sub (.t 5) (.t 8))),
(iQ 1 (.mv (.t 9)))]
def c317_r2 : List Ins := [(iQ 10 (.mv (.t 1))),
⟨some 11, .p (.bin .lss (.t 10) (.c (iV 0))), none⟩]
def c317_r3 : List Ins := [⟨some 4, .p (.mv (.c (iV (-1)))), none⟩]
def c317_r4 : List Ins := [(iQ 12 (.mv (.t 1))),
(iQ 13 (.fieldA (.t 2) 1)),
(iQ 14 (.load (.t 13) 1 false)),
(iQ 15 (.lenS (.t 14))),
(iQ 16 (.bin .sub (.t 12) (.t 15))),
(iQ 1 (.mv (.t 16)))]
def c317_r5 : List Ins := [(iQ 17 (.mv (.t 1))),
⟨some 18, .p (.bin .lss (.t 17) (.c (iV 0))), none⟩]
def c317_r6 : List Ins := [⟨some 4, .p (.mv (.c (iV (-1)))), none⟩]
def c317_r7 : List Ins := [(iQ 19 (.mv (.t 1))),
(iQ 4 (.mv (.t 19)))]
def c317 : XFn := { np := 2, nt := 20, res := [.t 4], body := (.seq (.reg c317_r0) (.seq (.reg c317_r1) (.seq (.seq (.reg c317_r2) (.ite (.t 11) (.seq (.reg c317_r3) .ret) .skip)) (.seq (.reg c317_r4) (.seq (.seq (.reg c317_r5) (.ite (.t 18) (.seq (.reg c317_r6) .ret) .skip)) (.seq (.reg c317_r7) .ret)))))) }
def K317 (C : CRel) : Prop := ∀ (a0 : DPair) (a1 : Int) (r : Int), g317 a0 a1 = some r → C 317 ⟨[.agg (eDPair a0), iV a1], []⟩ ⟨iV r, [], []⟩
theorem F317 {C : CRel}  (a0 : DPair) (a1 : Int) (r : Int) (h0 : g317 a0 a1 = some r) : FnOK C c317 ⟨[.agg (eDPair a0), iV a1], []⟩ ⟨iV r, [], []⟩ := by
 refine fn_ (nl rfl) (seq_ (reg_ (st (box_ rfl tv rfl (st (mvc_ tv (oe_ (wk_ ⟨[(1, iV a1), (2, .ptr 128 0)], [(128, [.str a0.key, .str a0.value])], []⟩ (fgk (by kernel_rfl)) (seq_ (reg_ (st (mv_ rfl tv (st (c_ (cp_ ⟨tv, tv⟩ rfl tv) (st (c_ (cp_ ⟨tv, tv⟩ rfl (nl rfl)) (st (c_ (cp_ ⟨tv, tv⟩ rfl tv) (st (c_ (cp_ t3 rfl tv) (st (mv_ rfl tv (oe_ (wk_ ⟨[(1, iV (IntKind.i64.wrap (a1 - (a0.key.length : Int)))), (2, .ptr 128 0)], [(128, [.str a0.key, .str a0.value])], []⟩ (fgk (by kernel_rfl)) (seq_ (seq_ (reg_ (st (mv_ rfl tv (st (c_ (cp_ t3 rfl tv) (oe_ (wk_ ⟨[(1, iV (IntKind.i64.wrap (a1 - (a0.key.length : Int)))), (2, .ptr 128 0), (11, .bool (decide ((IntKind.i64.wrap (a1 - (a0.key.length : Int))) < 0)))], [(128, [.str a0.key, .str a0.value])], []⟩ (fgk (by kernel_rfl)) (ite_ (cb := (decide ((IntKind.i64.wrap (a1 - (a0.key.length : Int))) < 0))) rfl (fun c1 => ?_) (fun c1 => ?_)))))))))))))))))))))))))))))))))))
 ·replace h0 := ip c1 h0
  refine seq_ (reg_ (st (mvc_ tv (oe_ (wk_ ⟨[(4, iV (-1))], [], []⟩ (fgk (by kernel_rfl)) ?_)))))
  obtain rfl := Option.some.inj h0
  exact rt_ (ret_ rfl rfl rfl rfl rfl tv)
 ·replace h0 := inb c1 h0
  refine sk_ (wk_ ⟨[(1, iV (IntKind.i64.wrap (a1 - (a0.key.length : Int)))), (2, .ptr 128 0)], [(128, [.str a0.key, .str a0.value])], []⟩ (fgk (by kernel_rfl)) (seq_ (reg_ (st (mv_ rfl tv (st (c_ (cp_ ⟨tv, tv⟩ rfl tv) (st (c_ (cp_ ⟨tv, tv⟩ rfl (nl rfl)) (st (c_ (cp_ ⟨tv, tv⟩ rfl tv) (st (c_ (cp_ t3 rfl tv) (st (mv_ rfl tv (oe_ ?_))))))))))))))))
  obtain ⟨v2, e3, h0⟩ := bl h0
  refine wk_ ⟨[(1, iV v2)], [], []⟩ (fgk (by subst e3; kernel_rfl)) (seq_ (seq_ (reg_ (st (mv_ rfl tv (st (c_ (cp_ t3 rfl tv) (oe_ (wk_ ⟨[(1, iV v2), (18, .bool (decide (v2 < 0)))], [], []⟩ (fgk (by kernel_rfl)) (ite_ (cb := (decide (v2 < 0))) rfl (fun c4 => ?_) (fun c4 => ?_)))))))))))
  ·replace h0 := ip c4 h0
   refine seq_ (reg_ (st (mvc_ tv (oe_ (wk_ ⟨[(4, iV (-1))], [], []⟩ (fgk (by kernel_rfl)) ?_)))))
   obtain rfl := Option.some.inj h0
   exact rt_ (ret_ rfl rfl rfl rfl rfl tv)
  ·replace h0 := inb c4 h0
   refine sk_ (wk_ ⟨[(1, iV v2)], [], []⟩ (fgk (by kernel_rfl)) (seq_ (reg_ (st (mv_ rfl tv (st (mv_ rfl tv (oe_ (wk_ ⟨[(4, iV v2)], [], []⟩ (fgk (by kernel_rfl)) ?_)))))))))
   obtain rfl := Option.some.inj h0
   exact rt_ (ret_ rfl rfl rfl rfl rfl tv)

/- loop.example/g00149/laws.szPairS -/
def c255_r0 : List Ins := [⟨some 4, .p (.mv (.c (iV 0))), none⟩]
def c255_r1 : List Ins := [(iQ 6 (.mv (.t 1))),
(iQ 7 (.mv (.t 0))),
(iQ 8 (.len (.t 7))),
(iQ 9 (.bin .sub (.t 6) (.t 8))),
(iQ 1 (.mv (.t 9)))]
def c255_r2 : List Ins := [(iQ 10 (.mv (.t 1))),
⟨some 11, .p (.bin .lss (.t 10) (.c (iV 0))), none⟩]
def c255_r3 : List Ins := [⟨some 4, .p (.mv (.c (iV (-1)))), none⟩]
def c255_r4 : List Ins := [⟨some 5, .p (.mv (.c (iV 0))), none⟩]
def c255_r5 : List Ins := [(iQ 12 (.mv (.t 5))),
(iQ 13 (.mv (.t 0))),
(iQ 14 (.len (.t 13))),
(iQ 15 (.bin .lss (.t 12) (.t 14)))]
def c255_r6 : List Ins := [(iQ 18 (.mv (.t 0))),
(iQ 19 (.mv (.t 5))),
(iQ 20 (.idxA (.t 18) (.t 19) 2)),
(iQ 21 (.load (.t 20) 2 true)),
(iQ 22 (.mv (.t 1))),
⟨some 23, .call 317 [(.t 21), (.t 22)], none⟩,
(iQ 1 (.mv (.t 23)))]
def c255_r7 : List Ins := [(iQ 24 (.mv (.t 1))),
⟨some 25, .p (.bin .lss (.t 24) (.c (iV 0))), none⟩]
def c255_r8 : List Ins := [⟨some 4, .p (.mv (.c (iV (-1)))), none⟩]
def c255_r9 : List Ins := [(iQ 16 (.mv (.t 5))),
⟨some 17, .p (.bin .add (.t 16) (.c (iV 1))), none⟩,
(iQ 5 (.mv (.t 17)))]
def c255_l0 : IR := (.seq (.seq (.reg c255_r5) (.ite (.t 15) .skip (.exit 0))) (.seq (.block 1 (.seq (.reg c255_r6) (.seq (.reg c255_r7) (.ite (.t 25) (.seq (.reg c255_r8) .ret) .skip)))) (.reg c255_r9)))
def c255_r10 : List Ins := [(iQ 26 (.mv (.t 1))),
(iQ 4 (.mv (.t 26)))]
def c255 : XFn := { np := 2, nt := 27, res := [.t 4], body := (.seq (.reg c255_r0) (.seq (.reg c255_r1) (.seq (.seq (.reg c255_r2) (.ite (.t 11) (.seq (.reg c255_r3) .ret) .skip)) (.seq (.seq (.reg c255_r4) (.block 0 (.loop c255_l0))) (.seq (.reg c255_r10) .ret))))) }
def K255 (C : CRel) : Prop := ∀ (a0 : List DPair) (a1 : Int) (r : Int), g255 a0 a1 = some r → C 255 ⟨[.lst 2 (a0.map eDPair), iV a1], []⟩ ⟨iV r, [], []⟩
theorem F255 {C : CRel} (H317 : K317 C) (a0 : List DPair) (a1 : Int) (r : Int) (h0 : g255 a0 a1 = some r) : FnOK C c255 ⟨[.lst 2 (a0.map eDPair), iV a1], []⟩ ⟨iV r, [], []⟩ := by
 refine fn_ (nl rfl) (seq_ (reg_ (st (mvc_ tv (oe_ (wk_ ⟨[(0, .lst 2 (a0.map eDPair)), (1, iV a1)], [], []⟩ (fgk (by kernel_rfl)) (seq_ (reg_ (st (mv_ rfl tv (st (mv_ rfl tv (st (c_ (clenL (e := eDPair) (l0 := a0) rfl rfl tv) (st (c_ (cp_ t3 rfl tv) (st (mv_ rfl tv (oe_ (wk_ ⟨[(0, .lst 2 (a0.map eDPair)), (1, iV (IntKind.i64.wrap (a1 - (a0.length : Int))))], [], []⟩ (fgk (by kernel_rfl)) (seq_ (seq_ (reg_ (st (mv_ rfl tv (st (c_ (cp_ t3 rfl tv) (oe_ (wk_ ⟨[(0, .lst 2 (a0.map eDPair)), (1, iV (IntKind.i64.wrap (a1 - (a0.length : Int)))), (11, .bool (decide ((IntKind.i64.wrap (a1 - (a0.length : Int))) < 0)))], [], []⟩ (fgk (by kernel_rfl)) (ite_ (cb := (decide ((IntKind.i64.wrap (a1 - (a0.length : Int))) < 0))) rfl (fun c1 => ?_) (fun c1 => ?_)))))))))))))))))))))))))))))))
 ·replace h0 := ip c1 h0
  refine seq_ (reg_ (st (mvc_ tv (oe_ (wk_ ⟨[(4, iV (-1))], [], []⟩ (fgk (by kernel_rfl)) ?_)))))
  obtain rfl := Option.some.inj h0
  exact rt_ (ret_ rfl rfl rfl rfl rfl tv)
 ·replace h0 := inb c1 h0
  refine sk_ (wk_ ⟨[(0, .lst 2 (a0.map eDPair)), (1, iV (IntKind.i64.wrap (a1 - (a0.length : Int))))], [], []⟩ (fgk (by kernel_rfl)) (seq_ (seq_ (reg_ (st (mvc_ tv (oe_ (wk_ ⟨[(0, .lst 2 (a0.map eDPair)), (1, iV (IntKind.i64.wrap (a1 - (a0.length : Int)))), (5, iV 0)], [], []⟩ (fgk (by kernel_rfl)) (block_ ?_)))))))))
  obtain ⟨r25, e26, h0⟩ := bnd h0
  refine loop_ (R := (fun S => ∃ p18 : Int, .inl p18 = r25 ∧ S = ⟨[(1, iV p18)], [], []⟩)) (g255_l0 a0) (fun s S => match s with | (p8, p9) => S = ⟨[(0, .lst 2 (a0.map eDPair)), (1, iV p8), (5, iV p9)], [], []⟩) e26 ⟨[(0, .lst 2 (a0.map eDPair)), (1, iV (IntKind.i64.wrap (a1 - (a0.length : Int)))), (5, iV 0)], [], []⟩ (fgk (by kernel_rfl)) rfl 0 (fun _ => rfl) ?_ ?_
  ·rintro S _ hfg ⟨p18, rfl, rfl⟩
   refine wk_ ⟨[(1, iV p18)], [], []⟩ (fglk hfg (by kernel_rfl)) (seq_ (reg_ (st (mv_ rfl tv (st (mv_ rfl tv (oe_ (wk_ ⟨[(4, iV p18)], [], []⟩ (fgk (by kernel_rfl)) ?_))))))))
   obtain rfl := Option.some.inj h0
   exact rt_ (ret_ rfl rfl rfl rfl rfl tv)
  ·rintro ⟨p8, p9⟩ o1 _ K1 rfl h1 hx1 hK1 hE1 hR1
   refine seq_ (seq_ (reg_ (st (mv_ rfl tv (st (mv_ rfl tv (st (c_ (clenL (e := eDPair) (l0 := a0) rfl rfl tv) (st (c_ (cp_ t3 rfl tv) (oe_ (wk_ ⟨[(0, .lst 2 (a0.map eDPair)), (1, iV p8), (5, iV p9), (15, .bool (decide (p9 < (a0.length : Int))))], [], []⟩ (fgk (by kernel_rfl)) (ite_ (cb := (decide (p9 < (a0.length : Int)))) rfl (fun c19 => ?_) (fun c19 => ?_))))))))))))))
   ·replace h1 := ip c19 h1
    refine sk_ (wk_ ⟨[(0, .lst 2 (a0.map eDPair)), (1, iV p8), (5, iV p9)], [], []⟩ (fgk (by kernel_rfl)) (seq_ (block_ (seq_ (reg_ (st (mv_ rfl tv (st (mv_ rfl tv ?_)))))))))
    obtain ⟨y20, e21, h1⟩ := bnd h1
    refine st (c_ (cidxL (e := eDPair) (y := y20) rfl rfl tv rfl rfl tv e21) (st (c_ (v := .agg (eDPair y20)) (cp_ ⟨tv, tv⟩ rfl (nl rfl)) (st (mv_ rfl tv ?_)))))
    obtain ⟨r22, e23, h1⟩ := bnd h1
    refine st (call0_ (r := iV r22) false (H317 y20 p8 r22 e23) ⟨tv, tv, tv⟩ rfl rfl (fun _ => rfl) (st (mv_ rfl tv (oe_ (wk_ ⟨[(0, .lst 2 (a0.map eDPair)), (1, iV r22), (5, iV p9)], [], []⟩ (fgk (by kernel_rfl)) (seq_ (reg_ (st (mv_ rfl tv (st (c_ (cp_ t3 rfl tv) (oe_ (wk_ ⟨[(0, .lst 2 (a0.map eDPair)), (1, iV r22), (5, iV p9), (25, .bool (decide (r22 < 0)))], [], []⟩ (fgk (by kernel_rfl)) (ite_ (cb := (decide (r22 < 0))) rfl (fun c24 => ?_) (fun c24 => ?_)))))))))))))))
    ·replace h1 := ip c24 h1
     refine seq_ (reg_ (st (mvc_ tv (oe_ (wk_ ⟨[(4, iV (-1))], [], []⟩ (fgk (by kernel_rfl)) ?_)))))
     obtain rfl := Option.some.inj h1
     obtain rfl := hx1 _ rfl
     obtain rfl := Option.some.inj h0
     exact rt_ (hR1 _ (ret_ rfl rfl rfl rfl rfl tv))
    ·replace h1 := inb c24 h1
     refine sk_ (bn_ (wk_ ⟨[(0, .lst 2 (a0.map eDPair)), (1, iV r22), (5, iV p9)], [], []⟩ (fgk (by kernel_rfl)) (reg_ (st (mv_ rfl tv (st (c_ (cp_ t3 rfl tv) (st (mv_ rfl tv (oe_ ?_))))))))))
     obtain rfl := Option.some.inj h1
     exact hK1 _ rfl _ ⟨[(0, .lst 2 (a0.map eDPair)), (1, iV r22), (5, iV (IntKind.i64.wrap (p9 + 1)))], [], []⟩ (fgk (by kernel_rfl)) rfl
   ·replace h1 := inb c19 h1
    obtain rfl := Option.some.inj h1
    obtain rfl := hx1 _ rfl
    refine exQ rfl ?_
    exact hE1 _ ⟨[(1, iV p8)], [], []⟩ (fgk (by kernel_rfl)) ⟨_, rfl, rfl⟩

/- loop.example/g00149/spec.l01In -/
def c56_r0 : List Ins := [⟨some 6, .p (.mv (.c (.bool false))), none⟩]
def c56_r1 : List Ins := [(iQ 7 (.mv (.t 0))),
(iQ 8 (.mv (.t 1))),
(iQ 9 (.bin .geq (.t 7) (.t 8))),
(iQ 10 (.mv (.t 9))),
⟨some 11, .p (.mv (.t 0)), some (10, true)⟩,
⟨some 12, .p (.mv (.t 2)), some (10, true)⟩,
⟨some 13, .p (.bin .leq (.t 11) (.t 12)), some (10, true)⟩,
⟨some 14, .pick (.t 10) (.t 13) (.c (.bool false)), none⟩,
(iQ 6 (.mv (.t 14)))]
def c56 : XFn := { np := 3, nt := 15, res := [.t 6], body := (.seq (.reg c56_r0) (.seq (.reg c56_r1) .ret)) }
def K56 (C : CRel) : Prop := ∀ (a0 : Int) (a1 : Int) (a2 : Int) (r : Bool), g56 a0 a1 a2 = some r → C 56 ⟨[iV a0, iV a1, iV a2], []⟩ ⟨.bool r, [], []⟩
theorem F56 {C : CRel}  (a0 : Int) (a1 : Int) (a2 : Int) (r : Bool) (h0 : g56 a0 a1 a2 = some r) : FnOK C c56 ⟨[iV a0, iV a1, iV a2], []⟩ ⟨.bool r, [], []⟩ := by
 refine fn_ (nl rfl) (seq_ (reg_ (st (mvc_ tv (oe_ (wk_ ⟨[(0, iV a0), (1, iV a1), (2, iV a2)], [], []⟩ (fgk (by kernel_rfl)) (seq_ (reg_ (st (mv_ rfl tv (st (mv_ rfl tv (st (c_ (cp_ t3 rfl tv) (st (mv_ rfl tv (st (pg_ (u := iV a0) rfl (fun hg => (cmv (v := iV a0) rfl tv)) (st (pg_ (u := iV a2) rfl (fun hg => (cmv (v := iV a2) rfl tv)) (st (pg_ (u := .bool (decide (a0 ≤ a2))) rfl (fun hg => (cp_ ⟨(fun _ => hg), (fun _ => hg), tv⟩ rfl tv)) (st (pick_ rfl rfl rfl (fun h => eqt h) tv rfl (st (mv_ rfl tv (oe_ (wk_ ⟨[(6, .bool (bif (decide (a0 ≥ a1)) then (decide (a0 ≤ a2)) else false))], [], []⟩ (fgk (by kernel_rfl)) ?_))))))))))))))))))))))))))))
 obtain rfl := Option.some.inj h0
 exact rt_ (ret_ rfl rfl rfl rfl rfl tv)

/- loop.example/g00149/spec.TableOK -/
def c18_r0 : List Ins := [⟨some 1, .box (.t 0), none⟩,
⟨some 2, .p (.mv (.c (.bool false))), none⟩]
def c18_r1 : List Ins := [(iQ 5 (.fieldA (.t 1) 0)),
(iQ 6 (.load (.t 5) 1 false)),
⟨some 7, .p (.bin .lss (.t 6) (.c (iV 0))), none⟩,
(iQ 8 (.mv (.t 7))),
⟨some 9, .p (.fieldA (.t 1) 1), some (8, false)⟩,
⟨some 10, .p (.load (.t 9) 1 false), some (8, false)⟩,
⟨some 11, .call 56 [(.t 10), (.c (iV 1)), (.c (iV 1000000))], some (8, false)⟩,
⟨some 12, .p (.un .not (.t 11)), some (8, false)⟩,
⟨some 13, .pick (.t 8) (.c (.bool true)) (.t 12), none⟩,
(iQ 14 (.mv (.t 13))),
⟨some 15, .p (.fieldA (.t 1) 2), some (14, false)⟩,
⟨some 16, .p (.load (.t 15) 1 false), some (14, false)⟩,
⟨some 17, .p (.len (.t 16)), some (14, false)⟩,
⟨some 18, .p (.bin .gtr (.t 17) (.c (iV 40))), some (14, false)⟩,
⟨some 19, .pick (.t 14) (.c (.bool true)) (.t 18), none⟩]
def c18_r2 : List Ins := [⟨some 2, .p (.mv (.c (.bool false))), none⟩]
def c18_r3 : List Ins := [⟨some 3, .p (.mv (.c (iV 0))), none⟩]
def c18_r4 : List Ins := [(iQ 20 (.mv (.t 3))),
(iQ 21 (.fieldA (.t 1) 2)),
(iQ 22 (.load (.t 21) 1 false)),
(iQ 23 (.len (.t 22))),
(iQ 24 (.bin .lss (.t 20) (.t 23)))]
def c18_r5 : List Ins := [(iQ 27 (.fieldA (.t 1) 2)),
(iQ 28 (.load (.t 27) 1 false)),
(iQ 29 (.mv (.t 3))),
(iQ 30 (.idxA (.t 28) (.t 29) 4)),
(iQ 31 (.load (.t 30) 4 true)),
⟨some 4, .alloc [(iV 0), (iV 0), (iV 0), (.bool false)], none⟩,
⟨none, .store (.t 4) (.t 31) 4, none⟩]
def c18_r6 : DP := (.take (iQ 32 (.fieldA (.t 4) 0))
(.take (iQ 33 (.load (.t 32) 1 false))
(.take (iQ 34 (.fieldA (.t 1) 1))
(.take (iQ 35 (.load (.t 34) 1 false))
(.take ⟨some 36, .p (.bin .sub (.t 35) (.c (iV 1))), none⟩
(.alt [] ⟨some 37, .call 56 [(.t 33), (.c (iV 1)), (.t 36)], none⟩
(.take (iQ 38 (.un .not (.t 37)))
(.take (iQ 39 (.mv (.t 38)))
(.take ⟨some 40, .p (.mv (.t 3)), some (39, false)⟩
(.take ⟨some 41, .p (.bin .gtr (.t 40) (.c (iV 0))), some (39, false)⟩
(.take ⟨some 42, .p (.mv (.t 41)), some (39, false)⟩
(.take ⟨some 43, .p (.fieldA (.t 1) 2), some (42, true)⟩
(.take ⟨some 44, .p (.load (.t 43) 1 false), some (42, true)⟩
(.take ⟨some 45, .p (.mv (.t 3)), some (42, true)⟩
(.take ⟨some 46, .p (.bin .sub (.t 45) (.c (iV 1))), some (42, true)⟩
(.take ⟨some 47, .p (.idxA (.t 44) (.t 46) 4), some (42, true)⟩
(.take ⟨some 48, .p (.fieldA (.t 47) 0), some (42, true)⟩
(.take ⟨some 49, .p (.load (.t 48) 1 false), some (42, true)⟩
(.take ⟨some 50, .p (.fieldA (.t 4) 0), some (42, true)⟩
(.take ⟨some 51, .p (.load (.t 50) 1 false), some (42, true)⟩
(.take ⟨some 52, .p (.bin .geq (.t 49) (.t 51)), some (42, true)⟩
(.take ⟨some 53, .pick (.t 42) (.t 52) (.c (.bool false)), some (39, false)⟩
(.take ⟨some 54, .pick (.t 39) (.c (.bool true)) (.t 53), none⟩
(.take (iQ 55 (.mv (.t 54)))
(.take ⟨some 56, .p (.fieldA (.t 4) 1), some (55, false)⟩
(.take ⟨some 57, .p (.load (.t 56) 1 false), some (55, false)⟩
(.take ⟨some 58, .p (.bin .lss (.t 57) (.c (iV 0))), some (55, false)⟩
(.take ⟨some 59, .pick (.t 55) (.c (.bool true)) (.t 58), none⟩
(.take (iQ 60 (.mv (.t 59)))
(.take ⟨some 61, .p (.fieldA (.t 4) 1), some (60, false)⟩
(.take ⟨some 62, .p (.load (.t 61) 1 false), some (60, false)⟩
(.take ⟨some 63, .p (.fieldA (.t 4) 2), some (60, false)⟩
(.take ⟨some 64, .p (.load (.t 63) 1 false), some (60, false)⟩
(.take ⟨some 65, .p (.bin .gtr (.t 62) (.t 64)), some (60, false)⟩
(.take ⟨some 66, .pick (.t 60) (.c (.bool true)) (.t 65), none⟩
(.take (iQ 67 (.mv (.t 66)))
(.take ⟨some 68, .p (.fieldA (.t 4) 3), some (67, false)⟩
(.take ⟨some 69, .p (.load (.t 68) 1 false), some (67, false)⟩
(.take ⟨some 70, .p (.un .not (.t 69)), some (67, false)⟩
(.take ⟨some 71, .p (.mv (.t 70)), some (67, false)⟩
(.take ⟨some 72, .p (.fieldA (.t 4) 1), some (71, true)⟩
(.take ⟨some 73, .p (.load (.t 72) 1 false), some (71, true)⟩
(.take ⟨some 74, .p (.fieldA (.t 1) 0), some (71, true)⟩
(.take ⟨some 75, .p (.load (.t 74) 1 false), some (71, true)⟩
(.take ⟨some 76, .p (.bin .leq (.t 73) (.t 75)), some (71, true)⟩
(.take ⟨some 77, .pick (.t 71) (.t 76) (.c (.bool false)), some (67, false)⟩
(.take ⟨some 78, .pick (.t 67) (.c (.bool true)) (.t 77), none⟩
.fin)))))))))))))))))))))))))))))))))))))))))
.stop))))))
def c18_r7 : List Ins := [⟨some 2, .p (.mv (.c (.bool false))), none⟩]
def c18_r8 : List Ins := [(iQ 25 (.mv (.t 3))),
⟨some 26, .p (.bin .add (.t 25) (.c (iV 1))), none⟩,
(iQ 3 (.mv (.t 26)))]
def c18_l0 : IR := (.seq (.seq (.reg c18_r4) (.ite (.t 24) .skip (.exit 0))) (.seq (.block 1 (.seq (.reg c18_r5) (.seq (.draw c18_r6) (.ite (.t 78) (.seq (.reg c18_r7) .ret) .skip)))) (.reg c18_r8)))
def c18_r9 : List Ins := [⟨some 2, .p (.mv (.c (.bool true))), none⟩]
def c18 : XFn := { np := 1, nt := 79, res := [.t 2], body := (.seq (.reg c18_r0) (.seq (.seq (.reg c18_r1) (.ite (.t 19) (.seq (.reg c18_r2) .ret) .skip)) (.seq (.seq (.reg c18_r3) (.block 0 (.loop c18_l0))) (.seq (.reg c18_r9) .ret)))) }
def K18 (C : CRel) : Prop := ∀ (a0 : DTable) (r : Bool), g18 a0 = some r → C 18 ⟨[.agg (eDTable a0)], []⟩ ⟨.bool r, [], []⟩
theorem F18 {C : CRel} (H56 : K56 C) (a0 : DTable) (r : Bool) (h0 : g18 a0 = some r) : FnOK C c18 ⟨[.agg (eDTable a0)], []⟩ ⟨.bool r, [], []⟩ := by
 refine fn_ (nl rfl) (seq_ (reg_ (st (box_ rfl tv rfl (st (mvc_ tv (oe_ (wk_ ⟨[(1, .ptr 64 0)], [(64, [iV a0.clock, iV a0.next, .lst 4 (a0.list_.map eDLease)])], []⟩ (fgk (by kernel_rfl)) (seq_ (seq_ (reg_ (st (c_ (cp_ ⟨tv, tv⟩ rfl tv) (st (c_ (cp_ ⟨tv, tv⟩ rfl (nl rfl)) (st (c_ (cp_ t3 rfl tv) (st (mv_ rfl tv (st (pg_ (u := .ptr 64 1) rfl (fun hg => (cp_ ⟨tv, tv⟩ rfl tv)) (st (pg_ (u := iV a0.next) rfl (fun hg => (cp_ ⟨(fun _ => hg), tv⟩ rfl (nl rfl))) ?_)))))))))))))))))))))))
 obtain ⟨r1, e2, h0⟩ := bnd h0
 refine st (callg_ (r := .bool r1) rfl false (fun hg => H56 a0.next 1 1000000 r1 (ip hg e2)) ⟨(fun hg => hg), tv, tv, tv⟩ (fun _ => rfl) (fun _ => rfl) (fun _ => rfl) (fun h => nomatch h) (st (pg_ (u := .bool (!r1)) rfl (fun hg => (cp_ ⟨(fun _ => hg), tv⟩ rfl tv)) (st (pick_ rfl rfl rfl tv (fun h => eqf h) rfl (st (mv_ rfl tv (st (pg_ (u := .ptr 64 2) rfl (fun hg => (cp_ ⟨tv, tv⟩ rfl tv)) (st (pg_ (u := .lst 4 (a0.list_.map eDLease)) rfl (fun hg => (cp_ ⟨(fun _ => hg), tv⟩ rfl (nl rfl))) (sw ⟨[(1, .ptr 64 0), (14, .bool (bif (decide (a0.clock < 0)) then true else (!r1))), (16, .may ((bif (decide (a0.clock < 0)) then true else (!r1)) == false) (.lst 4 (a0.list_.map eDLease)))], [(64, [iV a0.clock, iV a0.next, .lst 4 (a0.list_.map eDLease)])], []⟩ (fgk (by kernel_rfl)) (pg_ (u := iV (a0.list_.length : Int)) rfl (fun hg => (clenL (e := eDLease) (l0 := a0.list_) rfl rfl (fun _ => hg))) (st (pg_ (u := .bool (decide ((a0.list_.length : Int) > 40))) rfl (fun hg => (cp_ ⟨(fun _ => hg), tv, tv⟩ rfl tv)) (st (pick_ rfl rfl rfl tv (fun h => eqf h) rfl (oe_ ?_))))))))))))))))))
 obtain ⟨v3, e4, h0⟩ := bl h0
 refine wk_ ⟨[(1, .ptr 64 0), (19, .bool v3)], [(64, [iV a0.clock, iV a0.next, .lst 4 (a0.list_.map eDLease)])], []⟩ (fgk (by subst e4; kernel_rfl)) (ite_ (cb := v3) rfl (fun c5 => ?_) (fun c5 => ?_))
 ·replace h0 := ip c5 h0
  refine seq_ (reg_ (st (mvc_ tv (oe_ (wk_ ⟨[(2, .bool false)], [], []⟩ (fgk (by kernel_rfl)) ?_)))))
  obtain rfl := Option.some.inj h0
  exact rt_ (ret_ rfl rfl rfl rfl rfl tv)
 ·replace h0 := inb c5 h0
  refine sk_ (wk_ ⟨[(1, .ptr 64 0)], [(64, [iV a0.clock, iV a0.next, .lst 4 (a0.list_.map eDLease)])], []⟩ (fgk (by kernel_rfl)) (seq_ (seq_ (reg_ (st (mvc_ tv (oe_ (wk_ ⟨[(1, .ptr 64 0), (3, iV 0)], [(64, [iV a0.clock, iV a0.next, .lst 4 (a0.list_.map eDLease)])], []⟩ (fgk (by kernel_rfl)) (block_ ?_)))))))))
  obtain ⟨r38, e39, h0⟩ := bnd h0
  refine loop_ (R := (fun S => .inl () = r38 ∧ S = ⟨[], [], []⟩)) (g18_l0 a0) (fun s S => match s with | p16 => S = ⟨[(1, .ptr 64 0), (3, iV p16)], [(64, [iV a0.clock, iV a0.next, .lst 4 (a0.list_.map eDLease)])], []⟩) e39 ⟨[(1, .ptr 64 0), (3, iV 0)], [(64, [iV a0.clock, iV a0.next, .lst 4 (a0.list_.map eDLease)])], []⟩ (fgk (by kernel_rfl)) rfl 0 (fun _ => rfl) ?_ ?_
  ·rintro S _ hfg ⟨rfl, rfl⟩
   refine wk_ ⟨[], [], []⟩ (fglk hfg (by kernel_rfl)) (seq_ (reg_ (st (mvc_ tv (oe_ (wk_ ⟨[(2, .bool true)], [], []⟩ (fgk (by kernel_rfl)) ?_))))))
   obtain rfl := Option.some.inj h0
   exact rt_ (ret_ rfl rfl rfl rfl rfl tv)
  ·rintro p16 o1 _ K1 rfl h1 hx1 hK1 hE1 hR1
   refine seq_ (seq_ (reg_ (st (mv_ rfl tv (st (c_ (cp_ ⟨tv, tv⟩ rfl tv) (st (c_ (cp_ ⟨tv, tv⟩ rfl (nl rfl)) (st (c_ (clenL (e := eDLease) (l0 := a0.list_) rfl rfl tv) (st (c_ (cp_ t3 rfl tv) (oe_ (wk_ ⟨[(1, .ptr 64 0), (3, iV p16), (24, .bool (decide (p16 < (a0.list_.length : Int))))], [(64, [iV a0.clock, iV a0.next, .lst 4 (a0.list_.map eDLease)])], []⟩ (fgk (by kernel_rfl)) (ite_ (cb := (decide (p16 < (a0.list_.length : Int)))) rfl (fun c28 => ?_) (fun c28 => ?_))))))))))))))))
   ·replace h1 := ip c28 h1
    refine sk_ (wk_ ⟨[(1, .ptr 64 0), (3, iV p16)], [(64, [iV a0.clock, iV a0.next, .lst 4 (a0.list_.map eDLease)])], []⟩ (fgk (by kernel_rfl)) (seq_ (block_ (seq_ (reg_ (st (c_ (cp_ ⟨tv, tv⟩ rfl tv) (st (c_ (cp_ ⟨tv, tv⟩ rfl (nl rfl)) (st (mv_ rfl tv ?_)))))))))))
    obtain ⟨y29, e30, h1⟩ := bnd h1
    refine st (c_ (cidxL (e := eDLease) (y := y29) rfl rfl tv rfl rfl tv e30) (st (c_ (v := .agg (eDLease y29)) (cp_ ⟨tv, tv⟩ rfl (nl rfl)) (st (alloc_ (st (stp_ rfl rfl tv rfl rfl rfl (nl rfl) (oe_ (wk_ ⟨[(1, .ptr 64 0), (3, iV p16), (4, .ptr 256 0)], [(64, [iV a0.clock, iV a0.next, .lst 4 (a0.list_.map eDLease)]), (256, [iV y29.id, iV y29.until_, iV y29.cap, .bool y29.queued])], []⟩ (fgk (by kernel_rfl)) (seq_ ?_))))))))))
    obtain ⟨r31, e32, h1⟩ := bnd h1
    obtain ⟨y33, e34, h1⟩ := bnd h1
    refine draw_ (dtake tv (c_ (cp_ ⟨tv, tv⟩ rfl tv) (⟨tv, (dtake tv (c_ (cp_ ⟨tv, tv⟩ rfl (nl rfl)) (⟨tv, (dtake tv (c_ (cp_ ⟨tv, tv⟩ rfl tv) (⟨tv, (dtake tv (c_ (cp_ ⟨tv, tv⟩ rfl (nl rfl)) (⟨tv, (dtake tv (c_ (cp_ t3 rfl tv) (⟨tv, (dalt (call0_ (r := .bool r31) false (H56 y29.id 1 (IntKind.i64.wrap (a0.next - 1)) r31 e32) ⟨tv, tv, tv, tv⟩ rfl rfl (fun _ => rfl) (dkw ⟨[(1, .ptr 64 0), (3, iV p16), (4, .ptr 256 0), (37, .bool r31)], [(64, [iV a0.clock, iV a0.next, .lst 4 (a0.list_.map eDLease)]), (256, [iV y29.id, iV y29.until_, iV y29.cap, .bool y29.queued])], []⟩ (fgk (by kernel_rfl)) ⟨[], tv, tv, (dtake tv (c_ (cp_ ⟨tv, tv⟩ rfl tv) (⟨tv, (dtake tv (mv_ rfl tv (⟨tv, (dtake tv (pg_ (u := iV p16) rfl (fun hg => (cmv (v := iV p16) rfl tv)) (⟨tv, (dtake tv (pg_ (u := .bool (decide (p16 > 0))) rfl (fun hg => (cp_ ⟨(fun _ => hg), tv, tv⟩ rfl tv)) (⟨tv, (dtake tv (pg_ (u := .bool (decide (p16 > 0))) rfl (fun hg => (cmv (v := .may ((!r31) == false) (.bool (decide (p16 > 0)))) rfl (fun _ => hg))) (⟨tv, (dtake tv (pg_ (u := .ptr 64 2) rfl (fun hg => (cp_ ⟨tv, tv⟩ rfl tv)) (⟨tv, (dtake tv (pg_ (u := .lst 4 (a0.list_.map eDLease)) rfl (fun hg => (cp_ ⟨(fun _ => hg), tv⟩ rfl (nl rfl))) (⟨tv, (dtake tv (pg_ (u := iV p16) rfl (fun hg => (cmv (v := iV p16) rfl tv)) (⟨tv, (dtake tv (pg_ (u := iV (IntKind.i64.wrap (p16 - 1))) rfl (fun hg => (cp_ ⟨(fun _ => hg), tv, tv⟩ rfl tv)) (⟨tv, ?_⟩)))⟩)))⟩)))⟩)))⟩)))⟩)))⟩)))⟩)))⟩)))⟩)) dstop)⟩)))⟩)))⟩)))⟩)))⟩)))
    refine dtake tv (pg_ (u := .iptr [iV y33.id, iV y33.until_, iV y33.cap, .bool y33.queued]) rfl (fun hg => (cidxL (e := eDLease) (y := y33) rfl rfl (fun _ => hg) rfl rfl (fun _ => hg) (ip hg e34))) (⟨tv, (dtake tv (pg_ (u := .iptr [iV y33.id, iV y33.until_, iV y33.cap, .bool y33.queued]) rfl (fun hg => (cp_ ⟨(fun _ => hg), tv⟩ rfl (nl rfl))) (⟨tv, (dtake tv (pg_ (u := iV y33.id) rfl (fun hg => (cp_ ⟨(fun _ => hg), tv⟩ rfl (nl rfl))) (⟨tv, (dtake tv (pg_ (u := .ptr 256 0) rfl (fun hg => (cp_ ⟨tv, tv⟩ rfl tv)) (⟨tv, (dtake tv (pg_ (u := iV y29.id) rfl (fun hg => (cp_ ⟨(fun _ => hg), tv⟩ rfl (nl rfl))) (⟨tv, (dtake tv (pg_ (u := .bool (decide (y33.id ≥ y29.id))) rfl (fun hg => (cp_ ⟨(fun _ => hg), (fun _ => hg), tv⟩ rfl tv)) (⟨tv, (dtake tv (pickg_ (u := .bool (bif (decide (p16 > 0)) then (decide (y33.id ≥ y29.id)) else false)) rfl (fun hg => cpick rfl rfl (fun _ => hg) rfl rfl (fun h => and_ hg (eqt h)) tv rfl) (⟨tv, (dtake tv (pick_ rfl rfl rfl tv (fun h => eqf h) rfl (⟨tv, (dtake tv (mv_ rfl tv (⟨tv, (dtake tv (pg_ (u := .ptr 256 1) rfl (fun hg => (cp_ ⟨tv, tv⟩ rfl tv)) (⟨tv, (dtake tv (pg_ (u := iV y29.until_) rfl (fun hg => (cp_ ⟨(fun _ => hg), tv⟩ rfl (nl rfl))) (⟨tv, (dtake tv (pg_ (u := .bool (decide (y29.until_ < 0))) rfl (fun hg => (cp_ ⟨(fun _ => hg), tv, tv⟩ rfl tv)) (⟨tv, (dtake tv (pick_ rfl rfl rfl tv (fun h => eqf h) rfl (⟨tv, (dtake tv (mv_ rfl tv (⟨tv, (dtake tv (pg_ (u := .ptr 256 1) rfl (fun hg => (cp_ ⟨tv, tv⟩ rfl tv)) (⟨tv, (dtake tv (pg_ (u := iV y29.until_) rfl (fun hg => (cp_ ⟨(fun _ => hg), tv⟩ rfl (nl rfl))) ?_))⟩)))⟩)))⟩)))⟩)))⟩)))⟩)))⟩)))⟩)))⟩)))⟩)))⟩)))⟩)))⟩)))⟩)))⟩))
    refine ⟨tv, (dtake tv (pg_ (u := .ptr 256 2) rfl (fun hg => (cp_ ⟨tv, tv⟩ rfl tv)) (⟨tv, (dtake tv (pg_ (u := iV y29.cap) rfl (fun hg => (cp_ ⟨(fun _ => hg), tv⟩ rfl (nl rfl))) (⟨tv, (dtake tv (pg_ (u := .bool (decide (y29.until_ > y29.cap))) rfl (fun hg => (cp_ ⟨(fun _ => hg), (fun _ => hg), tv⟩ rfl tv)) (⟨tv, (dtake tv (pick_ rfl rfl rfl tv (fun h => eqf h) rfl (⟨tv, (dtake tv (mv_ rfl tv (⟨tv, (dtake tv (pg_ (u := .ptr 256 3) rfl (fun hg => (cp_ ⟨tv, tv⟩ rfl tv)) (⟨tv, (dtake tv (pg_ (u := .bool y29.queued) rfl (fun hg => (cp_ ⟨(fun _ => hg), tv⟩ rfl (nl rfl))) (⟨tv, (dtake tv (pg_ (u := .bool (!y29.queued)) rfl (fun hg => (cp_ ⟨(fun _ => hg), tv⟩ rfl tv)) (⟨tv, (dtake tv (pg_ (u := .bool (!y29.queued)) rfl (fun hg => (cmv (v := .may ((bif (bif (bif (!r31) then true else (bif (decide (p16 > 0)) then (decide (y33.id ≥ y29.id)) else false)) then true else (decide (y29.until_ < 0))) then true else (decide (y29.until_ > y29.cap))) == false) (.bool (!y29.queued))) rfl (fun _ => hg))) (⟨tv, (dtake tv (pg_ (u := .ptr 256 1) rfl (fun hg => (cp_ ⟨tv, tv⟩ rfl tv)) (⟨tv, (dtake tv (pg_ (u := iV y29.until_) rfl (fun hg => (cp_ ⟨(fun _ => hg), tv⟩ rfl (nl rfl))) (⟨tv, (dtake tv (pg_ (u := .ptr 64 0) rfl (fun hg => (cp_ ⟨tv, tv⟩ rfl tv)) (⟨tv, (dtake tv (pg_ (u := iV a0.clock) rfl (fun hg => (cp_ ⟨(fun _ => hg), tv⟩ rfl (nl rfl))) (⟨tv, (dtake tv (pg_ (u := .bool (decide (y29.until_ ≤ a0.clock))) rfl (fun hg => (cp_ ⟨(fun _ => hg), (fun _ => hg), tv⟩ rfl tv)) (⟨tv, (dtake tv (pickg_ (u := .bool (bif (!y29.queued) then (decide (y29.until_ ≤ a0.clock)) else false)) rfl (fun hg => cpick rfl rfl (fun _ => hg) rfl rfl (fun h => and_ hg (eqt h)) tv rfl) (⟨tv, ?_⟩)))⟩)))⟩)))⟩)))⟩)))⟩)))⟩)))⟩)))⟩)))⟩)))⟩)))⟩)))⟩)))⟩)))⟩)))⟩
    refine dtake tv (pick_ rfl rfl rfl tv (fun h => eqf h) rfl (⟨tv, (dfin ?_)⟩))
    obtain ⟨v35, e36, h1⟩ := bl h1
    refine wk_ ⟨[(1, .ptr 64 0), (3, iV p16), (78, .bool v35)], [(64, [iV a0.clock, iV a0.next, .lst 4 (a0.list_.map eDLease)])], []⟩ (fgk (by subst e36; kernel_rfl)) (ite_ (cb := v35) rfl (fun c37 => ?_) (fun c37 => ?_))
    ·replace h1 := ip c37 h1
     refine seq_ (reg_ (st (mvc_ tv (oe_ (wk_ ⟨[(2, .bool false)], [], []⟩ (fgk (by kernel_rfl)) ?_)))))
     obtain rfl := Option.some.inj h1
     obtain rfl := hx1 _ rfl
     obtain rfl := Option.some.inj h0
     exact rt_ (hR1 _ (ret_ rfl rfl rfl rfl rfl tv))
    ·replace h1 := inb c37 h1
     refine sk_ (bn_ (wk_ ⟨[(1, .ptr 64 0), (3, iV p16)], [(64, [iV a0.clock, iV a0.next, .lst 4 (a0.list_.map eDLease)])], []⟩ (fgk (by kernel_rfl)) (reg_ (st (mv_ rfl tv (st (c_ (cp_ t3 rfl tv) (st (mv_ rfl tv (oe_ ?_))))))))))
     obtain rfl := Option.some.inj h1
     exact hK1 _ rfl _ ⟨[(1, .ptr 64 0), (3, iV (IntKind.i64.wrap (p16 + 1)))], [(64, [iV a0.clock, iV a0.next, .lst 4 (a0.list_.map eDLease)])], []⟩ (fgk (by kernel_rfl)) rfl
   ·replace h1 := inb c28 h1
    obtain rfl := Option.some.inj h1
    obtain rfl := hx1 _ rfl
    refine exQ rfl ?_
    exact hE1 _ ⟨[], [], []⟩ (fgk (by kernel_rfl)) ⟨rfl, rfl⟩

/- loop.example/g00149/spec.l09Rising -/
def c85_r0 : List Ins := [⟨some 4, .p (.mv (.c (.bool false))), none⟩]
def c85_r1 : List Ins := [⟨some 5, .p (.mv (.c (iV 0))), none⟩]
def c85_r2 : List Ins := [(iQ 6 (.mv (.t 5))),
(iQ 7 (.mv (.t 0))),
(iQ 8 (.len (.t 7))),
(iQ 9 (.bin .lss (.t 6) (.t 8)))]
def c85_r3 : DP := (.take (iQ 12 (.mv (.t 0)))
(.take (iQ 13 (.mv (.t 5)))
(.take (iQ 14 (.idxA (.t 12) (.t 13) 1))
(.take (iQ 15 (.load (.t 14) 1 false))
(.take (iQ 16 (.mv (.t 1)))
(.take ⟨some 17, .p (.bin .sub (.t 16) (.c (iV 1))), none⟩
(.alt [] ⟨some 18, .call 56 [(.t 15), (.c (iV 1)), (.t 17)], none⟩
(.take (iQ 19 (.un .not (.t 18)))
(.take (iQ 20 (.mv (.t 19)))
(.take ⟨some 21, .p (.mv (.t 5)), some (20, false)⟩
(.take ⟨some 22, .p (.bin .gtr (.t 21) (.c (iV 0))), some (20, false)⟩
(.take ⟨some 23, .p (.mv (.t 22)), some (20, false)⟩
(.take ⟨some 24, .p (.mv (.t 0)), some (23, true)⟩
(.take ⟨some 25, .p (.mv (.t 5)), some (23, true)⟩
(.take ⟨some 26, .p (.bin .sub (.t 25) (.c (iV 1))), some (23, true)⟩
(.take ⟨some 27, .p (.idxA (.t 24) (.t 26) 1), some (23, true)⟩
(.take ⟨some 28, .p (.load (.t 27) 1 false), some (23, true)⟩
(.take ⟨some 29, .p (.mv (.t 0)), some (23, true)⟩
(.take ⟨some 30, .p (.mv (.t 5)), some (23, true)⟩
(.take ⟨some 31, .p (.idxA (.t 29) (.t 30) 1), some (23, true)⟩
(.take ⟨some 32, .p (.load (.t 31) 1 false), some (23, true)⟩
(.take ⟨some 33, .p (.bin .geq (.t 28) (.t 32)), some (23, true)⟩
(.take ⟨some 34, .pick (.t 23) (.t 33) (.c (.bool false)), some (20, false)⟩
(.take ⟨some 35, .pick (.t 20) (.c (.bool true)) (.t 34), none⟩
.fin)))))))))))))))))
.stop)))))))
def c85_r4 : List Ins := [⟨some 4, .p (.mv (.c (.bool false))), none⟩]
def c85_r5 : List Ins := [(iQ 10 (.mv (.t 5))),
⟨some 11, .p (.bin .add (.t 10) (.c (iV 1))), none⟩,
(iQ 5 (.mv (.t 11)))]
def c85_l0 : IR := (.seq (.seq (.reg c85_r2) (.ite (.t 9) .skip (.exit 0))) (.seq (.block 1 (.seq (.draw c85_r3) (.ite (.t 35) (.seq (.reg c85_r4) .ret) .skip))) (.reg c85_r5)))
def c85_r6 : List Ins := [⟨some 4, .p (.mv (.c (.bool true))), none⟩]
def c85 : XFn := { np := 2, nt := 36, res := [.t 4], body := (.seq (.reg c85_r0) (.seq (.seq (.reg c85_r1) (.block 0 (.loop c85_l0))) (.seq (.reg c85_r6) .ret))) }
def K85 (C : CRel) : Prop := ∀ (a0 : List Int) (a1 : Int) (r : Bool), g85 a0 a1 = some r → C 85 ⟨[.lst 1 (a0.map eI), iV a1], []⟩ ⟨.bool r, [], []⟩
theorem F85 {C : CRel} (H56 : K56 C) (a0 : List Int) (a1 : Int) (r : Bool) (h0 : g85 a0 a1 = some r) : FnOK C c85 ⟨[.lst 1 (a0.map eI), iV a1], []⟩ ⟨.bool r, [], []⟩ := by
 refine fn_ (nl rfl) (seq_ (reg_ (st (mvc_ tv (oe_ (wk_ ⟨[(0, .lst 1 (a0.map eI)), (1, iV a1)], [], []⟩ (fgk (by kernel_rfl)) (seq_ (seq_ (reg_ (st (mvc_ tv (oe_ (wk_ ⟨[(0, .lst 1 (a0.map eI)), (1, iV a1), (5, iV 0)], [], []⟩ (fgk (by kernel_rfl)) (block_ ?_))))))))))))))
 obtain ⟨r39, e40, h0⟩ := bnd h0
 refine loop_ (R := (fun S => .inl () = r39 ∧ S = ⟨[], [], []⟩)) (g85_l0 a0 a1) (fun s S => match s with | p13 => S = ⟨[(0, .lst 1 (a0.map eI)), (1, iV a1), (5, iV p13)], [], []⟩) e40 ⟨[(0, .lst 1 (a0.map eI)), (1, iV a1), (5, iV 0)], [], []⟩ (fgk (by kernel_rfl)) rfl 0 (fun _ => rfl) ?_ ?_
 ·rintro S _ hfg ⟨rfl, rfl⟩
  refine wk_ ⟨[], [], []⟩ (fglk hfg (by kernel_rfl)) (seq_ (reg_ (st (mvc_ tv (oe_ (wk_ ⟨[(4, .bool true)], [], []⟩ (fgk (by kernel_rfl)) ?_))))))
  obtain rfl := Option.some.inj h0
  exact rt_ (ret_ rfl rfl rfl rfl rfl tv)
 ·rintro p13 o1 _ K1 rfl h1 hx1 hK1 hE1 hR1
  refine seq_ (seq_ (reg_ (st (mv_ rfl tv (st (mv_ rfl tv (st (c_ (clenL (e := eI) (l0 := a0) rfl rfl tv) (st (c_ (cp_ t3 rfl tv) (oe_ (wk_ ⟨[(0, .lst 1 (a0.map eI)), (1, iV a1), (5, iV p13), (9, .bool (decide (p13 < (a0.length : Int))))], [], []⟩ (fgk (by kernel_rfl)) (ite_ (cb := (decide (p13 < (a0.length : Int)))) rfl (fun c27 => ?_) (fun c27 => ?_))))))))))))))
  ·replace h1 := ip c27 h1
   refine sk_ (wk_ ⟨[(0, .lst 1 (a0.map eI)), (1, iV a1), (5, iV p13)], [], []⟩ (fgk (by kernel_rfl)) (seq_ (block_ (seq_ ?_))))
   obtain ⟨y28, e29, h1⟩ := bnd h1
   obtain ⟨r30, e31, h1⟩ := bnd h1
   obtain ⟨y32, e33, h1⟩ := bnd h1
   obtain ⟨y34, e35, h1⟩ := bnd h1
   refine draw_ (dtake tv (mv_ rfl tv (⟨tv, (dtake tv (mv_ rfl tv (⟨tv, (dtake tv (c_ (cidxL (e := eI) (y := y28) rfl rfl tv rfl rfl tv e29) (⟨tv, (dtake tv (c_ (cp_ ⟨tv, tv⟩ rfl (nl rfl)) (⟨tv, (dtake tv (mv_ rfl tv (⟨tv, (dtake tv (c_ (cp_ t3 rfl tv) (⟨tv, (dalt (call0_ (r := .bool r30) false (H56 y28 1 (IntKind.i64.wrap (a1 - 1)) r30 e31) ⟨tv, tv, tv, tv⟩ rfl rfl (fun _ => rfl) (dkw ⟨[(0, .lst 1 (a0.map eI)), (1, iV a1), (5, iV p13), (18, .bool r30)], [], []⟩ (fgk (by kernel_rfl)) ⟨[], tv, tv, (dtake tv (c_ (cp_ ⟨tv, tv⟩ rfl tv) (⟨tv, (dtake tv (mv_ rfl tv (⟨tv, (dtake tv (pg_ (u := iV p13) rfl (fun hg => (cmv (v := iV p13) rfl tv)) (⟨tv, (dtake tv (pg_ (u := .bool (decide (p13 > 0))) rfl (fun hg => (cp_ ⟨(fun _ => hg), tv, tv⟩ rfl tv)) (⟨tv, (dtake tv (pg_ (u := .bool (decide (p13 > 0))) rfl (fun hg => (cmv (v := .may ((!r30) == false) (.bool (decide (p13 > 0)))) rfl (fun _ => hg))) (⟨tv, (dtake tv (pg_ (u := .lst 1 (a0.map eI)) rfl (fun hg => (cmv (v := .lst 1 (a0.map eI)) rfl tv)) (⟨tv, (dtake tv (pg_ (u := iV p13) rfl (fun hg => (cmv (v := iV p13) rfl tv)) (⟨tv, (dtake tv (pg_ (u := iV (IntKind.i64.wrap (p13 - 1))) rfl (fun hg => (cp_ ⟨(fun _ => hg), tv, tv⟩ rfl tv)) (⟨tv, ?_⟩)))⟩)))⟩)))⟩)))⟩)))⟩)))⟩)))⟩)))⟩)) dstop)⟩)))⟩)))⟩)))⟩)))⟩)))⟩)))
   refine dtake tv (pg_ (u := .iptr [iV y32]) rfl (fun hg => (cidxL (e := eI) (y := y32) rfl rfl (fun _ => hg) rfl rfl (fun _ => hg) (ip hg e33))) (⟨tv, (dtake tv (pg_ (u := iV y32) rfl (fun hg => (cp_ ⟨(fun _ => hg), tv⟩ rfl (nl rfl))) (⟨tv, (dtake tv (pg_ (u := .lst 1 (a0.map eI)) rfl (fun hg => (cmv (v := .lst 1 (a0.map eI)) rfl tv)) (⟨tv, (dtake tv (pg_ (u := iV p13) rfl (fun hg => (cmv (v := iV p13) rfl tv)) (⟨tv, (dtake tv (pg_ (u := .iptr [iV y34]) rfl (fun hg => (cidxL (e := eI) (y := y34) rfl rfl (fun _ => hg) rfl rfl (fun _ => hg) (ip hg e35))) (⟨tv, (dtake tv (pg_ (u := iV y34) rfl (fun hg => (cp_ ⟨(fun _ => hg), tv⟩ rfl (nl rfl))) (⟨tv, (dtake tv (pg_ (u := .bool (decide (y32 ≥ y34))) rfl (fun hg => (cp_ ⟨(fun _ => hg), (fun _ => hg), tv⟩ rfl tv)) (⟨tv, (dtake tv (pickg_ (u := .bool (bif (decide (p13 > 0)) then (decide (y32 ≥ y34)) else false)) rfl (fun hg => cpick rfl rfl (fun _ => hg) rfl rfl (fun h => and_ hg (eqt h)) tv rfl) (⟨tv, (dtake tv (pick_ rfl rfl rfl tv (fun h => eqf h) rfl (⟨tv, (dfin ?_)⟩)))⟩)))⟩)))⟩)))⟩)))⟩)))⟩)))⟩)))⟩))
   obtain ⟨v36, e37, h1⟩ := bl h1
   refine wk_ ⟨[(0, .lst 1 (a0.map eI)), (1, iV a1), (5, iV p13), (35, .bool v36)], [], []⟩ (fgk (by subst e37; kernel_rfl)) (ite_ (cb := v36) rfl (fun c38 => ?_) (fun c38 => ?_))
   ·replace h1 := ip c38 h1
    refine seq_ (reg_ (st (mvc_ tv (oe_ (wk_ ⟨[(4, .bool false)], [], []⟩ (fgk (by kernel_rfl)) ?_)))))
    obtain rfl := Option.some.inj h1
    obtain rfl := hx1 _ rfl
    obtain rfl := Option.some.inj h0
    exact rt_ (hR1 _ (ret_ rfl rfl rfl rfl rfl tv))
   ·replace h1 := inb c38 h1
    refine sk_ (bn_ (wk_ ⟨[(0, .lst 1 (a0.map eI)), (1, iV a1), (5, iV p13)], [], []⟩ (fgk (by kernel_rfl)) (reg_ (st (mv_ rfl tv (st (c_ (cp_ t3 rfl tv) (st (mv_ rfl tv (oe_ ?_))))))))))
    obtain rfl := Option.some.inj h1
    exact hK1 _ rfl _ ⟨[(0, .lst 1 (a0.map eI)), (1, iV a1), (5, iV (IntKind.i64.wrap (p13 + 1)))], [], []⟩ (fgk (by kernel_rfl)) rfl
  ·replace h1 := inb c27 h1
   obtain rfl := Option.some.inj h1
   obtain rfl := hx1 _ rfl
   refine exQ rfl ?_
   exact hE1 _ ⟨[], [], []⟩ (fgk (by kernel_rfl)) ⟨rfl, rfl⟩

/- loop.example/g00149/spec.l08Find -/
def c92_r0 : List Ins := [⟨some 2, .box (.t 0), none⟩,
⟨some 4, .p (.mv (.c (iV 0))), none⟩]
def c92_r1 : List Ins := [⟨some 5, .p (.mv (.c (iV 0))), none⟩]
def c92_r2 : List Ins := [(iQ 6 (.mv (.t 5))),
(iQ 7 (.fieldA (.t 2) 2)),
(iQ 8 (.load (.t 7) 1 false)),
(iQ 9 (.len (.t 8))),
(iQ 10 (.bin .lss (.t 6) (.t 9)))]
def c92_r3 : List Ins := [(iQ 13 (.fieldA (.t 2) 2)),
(iQ 14 (.load (.t 13) 1 false)),
(iQ 15 (.mv (.t 5))),
(iQ 16 (.idxA (.t 14) (.t 15) 4)),
(iQ 17 (.fieldA (.t 16) 0)),
(iQ 18 (.load (.t 17) 1 false)),
(iQ 19 (.mv (.t 1))),
(iQ 20 (.bin .eql (.t 18) (.t 19)))]
def c92_r4 : List Ins := [(iQ 21 (.mv (.t 5))),
(iQ 4 (.mv (.t 21)))]
def c92_r5 : List Ins := [(iQ 11 (.mv (.t 5))),
⟨some 12, .p (.bin .add (.t 11) (.c (iV 1))), none⟩,
(iQ 5 (.mv (.t 12)))]
def c92_l0 : IR := (.seq (.seq (.reg c92_r2) (.ite (.t 10) .skip (.exit 0))) (.seq (.block 1 (.seq (.reg c92_r3) (.ite (.t 20) (.seq (.reg c92_r4) .ret) .skip))) (.reg c92_r5)))
def c92_r6 : List Ins := [⟨some 4, .p (.mv (.c (iV (-1)))), none⟩]
def c92 : XFn := { np := 2, nt := 22, res := [.t 4], body := (.seq (.reg c92_r0) (.seq (.seq (.reg c92_r1) (.block 0 (.loop c92_l0))) (.seq (.reg c92_r6) .ret))) }
def K92 (C : CRel) : Prop := ∀ (a0 : DTable) (a1 : Int) (r : Int), g92 a0 a1 = some r → C 92 ⟨[.agg (eDTable a0), iV a1], []⟩ ⟨iV r, [], []⟩
theorem F92 {C : CRel}  (a0 : DTable) (a1 : Int) (r : Int) (h0 : g92 a0 a1 = some r) : FnOK C c92 ⟨[.agg (eDTable a0), iV a1], []⟩ ⟨iV r, [], []⟩ := by
 refine fn_ (nl rfl) (seq_ (reg_ (st (box_ rfl tv rfl (st (mvc_ tv (oe_ (wk_ ⟨[(1, iV a1), (2, .ptr 128 0)], [(128, [iV a0.clock, iV a0.next, .lst 4 (a0.list_.map eDLease)])], []⟩ (fgk (by kernel_rfl)) (seq_ (seq_ (reg_ (st (mvc_ tv (oe_ (wk_ ⟨[(1, iV a1), (2, .ptr 128 0), (5, iV 0)], [(128, [iV a0.clock, iV a0.next, .lst 4 (a0.list_.map eDLease)])], []⟩ (fgk (by kernel_rfl)) (block_ ?_))))))))))))))))
 obtain ⟨r15, e16, h0⟩ := bnd h0
 refine loop_ (R := (fun S => .inl () = r15 ∧ S = ⟨[], [], []⟩)) (g92_l0 a0 a1) (fun s S => match s with | p5 => S = ⟨[(1, iV a1), (2, .ptr 128 0), (5, iV p5)], [(128, [iV a0.clock, iV a0.next, .lst 4 (a0.list_.map eDLease)])], []⟩) e16 ⟨[(1, iV a1), (2, .ptr 128 0), (5, iV 0)], [(128, [iV a0.clock, iV a0.next, .lst 4 (a0.list_.map eDLease)])], []⟩ (fgk (by kernel_rfl)) rfl 0 (fun _ => rfl) ?_ ?_
 ·rintro S _ hfg ⟨rfl, rfl⟩
  refine wk_ ⟨[], [], []⟩ (fglk hfg (by kernel_rfl)) (seq_ (reg_ (st (mvc_ tv (oe_ (wk_ ⟨[(4, iV (-1))], [], []⟩ (fgk (by kernel_rfl)) ?_))))))
  obtain rfl := Option.some.inj h0
  exact rt_ (ret_ rfl rfl rfl rfl rfl tv)
 ·rintro p5 o1 _ K1 rfl h1 hx1 hK1 hE1 hR1
  refine seq_ (seq_ (reg_ (st (mv_ rfl tv (st (c_ (cp_ ⟨tv, tv⟩ rfl tv) (st (c_ (cp_ ⟨tv, tv⟩ rfl (nl rfl)) (st (c_ (clenL (e := eDLease) (l0 := a0.list_) rfl rfl tv) (st (c_ (cp_ t3 rfl tv) (oe_ (wk_ ⟨[(1, iV a1), (2, .ptr 128 0), (5, iV p5), (10, .bool (decide (p5 < (a0.list_.length : Int))))], [(128, [iV a0.clock, iV a0.next, .lst 4 (a0.list_.map eDLease)])], []⟩ (fgk (by kernel_rfl)) (ite_ (cb := (decide (p5 < (a0.list_.length : Int)))) rfl (fun c11 => ?_) (fun c11 => ?_))))))))))))))))
  ·replace h1 := ip c11 h1
   refine sk_ (wk_ ⟨[(1, iV a1), (2, .ptr 128 0), (5, iV p5)], [(128, [iV a0.clock, iV a0.next, .lst 4 (a0.list_.map eDLease)])], []⟩ (fgk (by kernel_rfl)) (seq_ (block_ (seq_ (reg_ (st (c_ (cp_ ⟨tv, tv⟩ rfl tv) (st (c_ (cp_ ⟨tv, tv⟩ rfl (nl rfl)) (st (mv_ rfl tv ?_)))))))))))
   obtain ⟨y12, e13, h1⟩ := bnd h1
   refine st (c_ (cidxL (e := eDLease) (y := y12) rfl rfl tv rfl rfl tv e13) (st (c_ (cp_ ⟨tv, tv⟩ rfl (nl rfl)) (st (c_ (cp_ ⟨tv, tv⟩ rfl (nl rfl)) (st (mv_ rfl tv (st (c_ (cp_ t3 rfl tv) (oe_ (wk_ ⟨[(1, iV a1), (2, .ptr 128 0), (5, iV p5), (20, .bool (y12.id == a1))], [(128, [iV a0.clock, iV a0.next, .lst 4 (a0.list_.map eDLease)])], []⟩ (fgk (by kernel_rfl)) (ite_ (cb := (y12.id == a1)) rfl (fun c14 => ?_) (fun c14 => ?_)))))))))))))
   ·replace h1 := ip c14 h1
    refine seq_ (reg_ (st (mv_ rfl tv (st (mv_ rfl tv (oe_ (wk_ ⟨[(4, iV p5)], [], []⟩ (fgk (by kernel_rfl)) ?_)))))))
    obtain rfl := Option.some.inj h1
    obtain rfl := hx1 _ rfl
    obtain rfl := Option.some.inj h0
    exact rt_ (hR1 _ (ret_ rfl rfl rfl rfl rfl tv))
   ·replace h1 := inb c14 h1
    refine sk_ (bn_ (wk_ ⟨[(1, iV a1), (2, .ptr 128 0), (5, iV p5)], [(128, [iV a0.clock, iV a0.next, .lst 4 (a0.list_.map eDLease)])], []⟩ (fgk (by kernel_rfl)) (reg_ (st (mv_ rfl tv (st (c_ (cp_ t3 rfl tv) (st (mv_ rfl tv (oe_ ?_))))))))))
    obtain rfl := Option.some.inj h1
    exact hK1 _ rfl _ ⟨[(1, iV a1), (2, .ptr 128 0), (5, iV (IntKind.i64.wrap (p5 + 1)))], [(128, [iV a0.clock, iV a0.next, .lst 4 (a0.list_.map eDLease)])], []⟩ (fgk (by kernel_rfl)) rfl
  ·replace h1 := inb c11 h1
   obtain rfl := Option.some.inj h1
   obtain rfl := hx1 _ rfl
   refine exQ rfl ?_
   exact hE1 _ ⟨[], [], []⟩ (fgk (by kernel_rfl)) ⟨rfl, rfl⟩

/- loop.example/g00149/spec.l09Intent -/
def c124_r0 : List Ins := [⟨some 2, .box (.t 0), none⟩,
⟨some 4, .p (.mv (.c (iV 0))), none⟩]
def c124_r1 : List Ins := [⟨some 5, .p (.mv (.c (iV 0))), none⟩]
def c124_r2 : List Ins := [(iQ 6 (.mv (.t 5))),
(iQ 7 (.fieldA (.t 2) 3)),
(iQ 8 (.load (.t 7) 1 false)),
(iQ 9 (.len (.t 8))),
(iQ 10 (.bin .lss (.t 6) (.t 9)))]
def c124_r3 : List Ins := [(iQ 13 (.fieldA (.t 2) 3)),
(iQ 14 (.load (.t 13) 1 false)),
(iQ 15 (.mv (.t 5))),
(iQ 16 (.idxA (.t 14) (.t 15) 2)),
(iQ 17 (.fieldA (.t 16) 0)),
(iQ 18 (.load (.t 17) 1 false)),
(iQ 19 (.mv (.t 1))),
(iQ 20 (.bin .eql (.t 18) (.t 19)))]
def c124_r4 : List Ins := [(iQ 21 (.mv (.t 5))),
(iQ 4 (.mv (.t 21)))]
def c124_r5 : List Ins := [(iQ 11 (.mv (.t 5))),
⟨some 12, .p (.bin .add (.t 11) (.c (iV 1))), none⟩,
(iQ 5 (.mv (.t 12)))]
def c124_l0 : IR := (.seq (.seq (.reg c124_r2) (.ite (.t 10) .skip (.exit 0))) (.seq (.block 1 (.seq (.reg c124_r3) (.ite (.t 20) (.seq (.reg c124_r4) .ret) .skip))) (.reg c124_r5)))
def c124_r6 : List Ins := [⟨some 4, .p (.mv (.c (iV (-1)))), none⟩]
def c124 : XFn := { np := 2, nt := 22, res := [.t 4], body := (.seq (.reg c124_r0) (.seq (.seq (.reg c124_r1) (.block 0 (.loop c124_l0))) (.seq (.reg c124_r6) .ret))) }
def K124 (C : CRel) : Prop := ∀ (a0 : DVault) (a1 : Int) (r : Int), g124 a0 a1 = some r → C 124 ⟨[.agg (eDVault a0), iV a1], []⟩ ⟨iV r, [], []⟩
theorem F124 {C : CRel}  (a0 : DVault) (a1 : Int) (r : Int) (h0 : g124 a0 a1 = some r) : FnOK C c124 ⟨[.agg (eDVault a0), iV a1], []⟩ ⟨iV r, [], []⟩ := by
 refine fn_ (nl rfl) (seq_ (reg_ (st (box_ rfl tv rfl (st (mvc_ tv (oe_ (wk_ ⟨[(1, iV a1), (2, .ptr 128 0)], [(128, [iV a0.table.clock, iV a0.table.next, .lst 4 (a0.table.list_.map eDLease), .lst 2 (a0.intents.map eDIntent), .lst 1 (a0.accounts.map eI), .bool a0.sealed])], []⟩ (fgk (by kernel_rfl)) (seq_ (seq_ (reg_ (st (mvc_ tv (oe_ (wk_ ⟨[(1, iV a1), (2, .ptr 128 0), (5, iV 0)], [(128, [iV a0.table.clock, iV a0.table.next, .lst 4 (a0.table.list_.map eDLease), .lst 2 (a0.intents.map eDIntent), .lst 1 (a0.accounts.map eI), .bool a0.sealed])], []⟩ (fgk (by kernel_rfl)) (block_ ?_))))))))))))))))
 obtain ⟨r15, e16, h0⟩ := bnd h0
 refine loop_ (R := (fun S => .inl () = r15 ∧ S = ⟨[], [], []⟩)) (g124_l0 a0 a1) (fun s S => match s with | p5 => S = ⟨[(1, iV a1), (2, .ptr 128 0), (5, iV p5)], [(128, [iV a0.table.clock, iV a0.table.next, .lst 4 (a0.table.list_.map eDLease), .lst 2 (a0.intents.map eDIntent), .lst 1 (a0.accounts.map eI), .bool a0.sealed])], []⟩) e16 ⟨[(1, iV a1), (2, .ptr 128 0), (5, iV 0)], [(128, [iV a0.table.clock, iV a0.table.next, .lst 4 (a0.table.list_.map eDLease), .lst 2 (a0.intents.map eDIntent), .lst 1 (a0.accounts.map eI), .bool a0.sealed])], []⟩ (fgk (by kernel_rfl)) rfl 0 (fun _ => rfl) ?_ ?_
 ·rintro S _ hfg ⟨rfl, rfl⟩
  refine wk_ ⟨[], [], []⟩ (fglk hfg (by kernel_rfl)) (seq_ (reg_ (st (mvc_ tv (oe_ (wk_ ⟨[(4, iV (-1))], [], []⟩ (fgk (by kernel_rfl)) ?_))))))
  obtain rfl := Option.some.inj h0
  exact rt_ (ret_ rfl rfl rfl rfl rfl tv)
 ·rintro p5 o1 _ K1 rfl h1 hx1 hK1 hE1 hR1
  refine seq_ (seq_ (reg_ (st (mv_ rfl tv (st (c_ (cp_ ⟨tv, tv⟩ rfl tv) (st (c_ (cp_ ⟨tv, tv⟩ rfl (nl rfl)) (st (c_ (clenL (e := eDIntent) (l0 := a0.intents) rfl rfl tv) (st (c_ (cp_ t3 rfl tv) (oe_ (wk_ ⟨[(1, iV a1), (2, .ptr 128 0), (5, iV p5), (10, .bool (decide (p5 < (a0.intents.length : Int))))], [(128, [iV a0.table.clock, iV a0.table.next, .lst 4 (a0.table.list_.map eDLease), .lst 2 (a0.intents.map eDIntent), .lst 1 (a0.accounts.map eI), .bool a0.sealed])], []⟩ (fgk (by kernel_rfl)) (ite_ (cb := (decide (p5 < (a0.intents.length : Int)))) rfl (fun c11 => ?_) (fun c11 => ?_))))))))))))))))
  ·replace h1 := ip c11 h1
   refine sk_ (wk_ ⟨[(1, iV a1), (2, .ptr 128 0), (5, iV p5)], [(128, [iV a0.table.clock, iV a0.table.next, .lst 4 (a0.table.list_.map eDLease), .lst 2 (a0.intents.map eDIntent), .lst 1 (a0.accounts.map eI), .bool a0.sealed])], []⟩ (fgk (by kernel_rfl)) (seq_ (block_ (seq_ (reg_ (st (c_ (cp_ ⟨tv, tv⟩ rfl tv) (st (c_ (cp_ ⟨tv, tv⟩ rfl (nl rfl)) (st (mv_ rfl tv ?_)))))))))))
   obtain ⟨y12, e13, h1⟩ := bnd h1
   refine st (c_ (cidxL (e := eDIntent) (y := y12) rfl rfl tv rfl rfl tv e13) (st (c_ (cp_ ⟨tv, tv⟩ rfl (nl rfl)) (st (c_ (cp_ ⟨tv, tv⟩ rfl (nl rfl)) (st (mv_ rfl tv (st (c_ (cp_ t3 rfl tv) (oe_ (wk_ ⟨[(1, iV a1), (2, .ptr 128 0), (5, iV p5), (20, .bool (y12.lease == a1))], [(128, [iV a0.table.clock, iV a0.table.next, .lst 4 (a0.table.list_.map eDLease), .lst 2 (a0.intents.map eDIntent), .lst 1 (a0.accounts.map eI), .bool a0.sealed])], []⟩ (fgk (by kernel_rfl)) (ite_ (cb := (y12.lease == a1)) rfl (fun c14 => ?_) (fun c14 => ?_)))))))))))))
   ·replace h1 := ip c14 h1
    refine seq_ (reg_ (st (mv_ rfl tv (st (mv_ rfl tv (oe_ (wk_ ⟨[(4, iV p5)], [], []⟩ (fgk (by kernel_rfl)) ?_)))))))
    obtain rfl := Option.some.inj h1
    obtain rfl := hx1 _ rfl
    obtain rfl := Option.some.inj h0
    exact rt_ (hR1 _ (ret_ rfl rfl rfl rfl rfl tv))
   ·replace h1 := inb c14 h1
    refine sk_ (bn_ (wk_ ⟨[(1, iV a1), (2, .ptr 128 0), (5, iV p5)], [(128, [iV a0.table.clock, iV a0.table.next, .lst 4 (a0.table.list_.map eDLease), .lst 2 (a0.intents.map eDIntent), .lst 1 (a0.accounts.map eI), .bool a0.sealed])], []⟩ (fgk (by kernel_rfl)) (reg_ (st (mv_ rfl tv (st (c_ (cp_ t3 rfl tv) (st (mv_ rfl tv (oe_ ?_))))))))))
    obtain rfl := Option.some.inj h1
    exact hK1 _ rfl _ ⟨[(1, iV a1), (2, .ptr 128 0), (5, iV (IntKind.i64.wrap (p5 + 1)))], [(128, [iV a0.table.clock, iV a0.table.next, .lst 4 (a0.table.list_.map eDLease), .lst 2 (a0.intents.map eDIntent), .lst 1 (a0.accounts.map eI), .bool a0.sealed])], []⟩ (fgk (by kernel_rfl)) rfl
  ·replace h1 := inb c11 h1
   obtain rfl := Option.some.inj h1
   obtain rfl := hx1 _ rfl
   refine exQ rfl ?_
   exact hE1 _ ⟨[], [], []⟩ (fgk (by kernel_rfl)) ⟨rfl, rfl⟩
end Go.Ev
