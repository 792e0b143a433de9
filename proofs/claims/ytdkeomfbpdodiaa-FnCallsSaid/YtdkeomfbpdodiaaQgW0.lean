/- The walks of functions: the code comes to the answers that QgD tells. Written by a program of ours. -/
import Derived.Test.YtdkeomfbpdodiaaQgD
set_option linter.all false
set_option maxHeartbeats 4000000
set_option linter.unusedVariables false
set_option maxRecDepth 100000
namespace Go.Ev
theorem tv : True := True.intro
abbrev iQ (n : Nat) (o : PU) : Ins := ⟨some n, .p o, none⟩
abbrev iV (n : Int) : V := .int .i64 n
theorem nl {a b : Nat} (h : Nat.ble a b = true) : a ≤ b := Nat.le_of_ble_eq_true h
theorem t3 : True ∧ True ∧ True := ⟨trivial, trivial, trivial⟩

/- loop.example/g00149/laws.at -/
def c40_r0 : List Ins := [⟨some 6, .p (.mv (.c (iV 0))), none⟩]
def c40_r1 : List Ins := [(iQ 7 (.mv (.t 2))),
⟨some 8, .p (.bin .leq (.t 7) (.c (iV 1))), none⟩]
def c40_r2 : List Ins := [⟨some 6, .p (.mv (.c (iV 0))), none⟩]
def c40_r3 : List Ins := [(iQ 9 (.mv (.t 0))),
(iQ 10 (.len (.t 9))),
⟨some 11, .p (.bin .eql (.t 10) (.c (iV 0))), none⟩]
def c40_r4 : List Ins := [(iQ 12 (.mv (.t 1))),
⟨some 13, .p (.bin .mul (.t 12) (.c (iV 7))), none⟩,
(iQ 14 (.mv (.t 2))),
(iQ 15 (.bin .rem (.t 13) (.t 14))),
(iQ 6 (.mv (.t 15)))]
def c40_r5 : DP := (.take (iQ 16 (.mv (.t 0)))
(.take (iQ 17 (.mv (.t 1)))
(.take (iQ 18 (.mv (.t 0)))
(.take (iQ 19 (.len (.t 18)))
(.take (iQ 20 (.bin .rem (.t 17) (.t 19)))
(.take (iQ 21 (.idxA (.t 16) (.t 20) 1))
(.take (iQ 22 (.load (.t 21) 1 false))
(.take (iQ 23 (.conv .i64 (.t 22)))
(.take ⟨some 24, .p (.bin .mul (.t 23) (.c (iV 31))), none⟩
(.take (iQ 25 (.mv (.t 0)))
(.take (iQ 26 (.mv (.t 1)))
(.take ⟨some 27, .p (.bin .add (.t 26) (.c (iV 1))), none⟩
(.take (iQ 28 (.mv (.t 0)))
(.take (iQ 29 (.len (.t 28)))
(.take (iQ 30 (.bin .rem (.t 27) (.t 29)))
(.take (iQ 31 (.idxA (.t 25) (.t 30) 1))
(.take (iQ 32 (.load (.t 31) 1 false))
(.take (iQ 33 (.conv .i64 (.t 32)))
(.take (iQ 34 (.bin .add (.t 24) (.t 33)))
(.take (iQ 35 (.mv (.t 1)))
(.take (iQ 36 (.mv (.t 0)))
(.take (iQ 37 (.len (.t 36)))
(.take (iQ 38 (.bin .quo (.t 35) (.t 37)))
(.take (iQ 39 (.bin .add (.t 34) (.t 38)))
(.take (iQ 40 (.mv (.t 2)))
(.take (iQ 41 (.bin .rem (.t 39) (.t 40)))
(.take (iQ 6 (.mv (.t 41)))
.fin)))))))))))))))))))))))))))
def c40 : XFn := { np := 3, nt := 42, res := [.t 6], body := (.seq (.reg c40_r0) (.seq (.seq (.reg c40_r1) (.ite (.t 8) (.seq (.reg c40_r2) .ret) .skip)) (.seq (.seq (.reg c40_r3) (.ite (.t 11) (.seq (.reg c40_r4) .ret) .skip)) (.seq (.draw c40_r5) .ret)))) }
def K40 (C : CRel) : Prop := ∀ (a0 : List UInt8) (a1 : Int) (a2 : Int) (r : Int), g40 a0 a1 a2 = some r → C 40 ⟨[.lst 1 (a0.map eU8), iV a1, iV a2], []⟩ ⟨iV r, [], []⟩
theorem F40 {C : CRel}  (a0 : List UInt8) (a1 : Int) (a2 : Int) (r : Int) (h0 : g40 a0 a1 a2 = some r) : FnOK C c40 ⟨[.lst 1 (a0.map eU8), iV a1, iV a2], []⟩ ⟨iV r, [], []⟩ := by
 refine fn_ (nl rfl) (seq_ (reg_ (st (mvc_ tv (oe_ (wk_ ⟨[(0, .lst 1 (a0.map eU8)), (1, iV a1), (2, iV a2)], [], []⟩ (fgk (by kernel_rfl)) (seq_ (seq_ (reg_ (st (mv_ rfl tv (st (c_ (cp_ t3 rfl tv) (oe_ (wk_ ⟨[(0, .lst 1 (a0.map eU8)), (1, iV a1), (2, iV a2), (8, .bool (decide (a2 ≤ 1)))], [], []⟩ (fgk (by kernel_rfl)) (ite_ (cb := (decide (a2 ≤ 1))) rfl (fun c1 => ?_) (fun c1 => ?_)))))))))))))))))
 ·replace h0 := ip c1 h0
  refine seq_ (reg_ (st (mvc_ tv (oe_ (wk_ ⟨[(6, iV 0)], [], []⟩ (fgk (by kernel_rfl)) ?_)))))
  obtain rfl := Option.some.inj h0
  exact rt_ (ret_ rfl rfl rfl rfl rfl tv)
 ·replace h0 := inb c1 h0
  refine sk_ (wk_ ⟨[(0, .lst 1 (a0.map eU8)), (1, iV a1), (2, iV a2)], [], []⟩ (fgk (by kernel_rfl)) (seq_ (seq_ (reg_ (st (mv_ rfl tv (st (c_ (clenL (e := eU8) (l0 := a0) rfl rfl tv) (st (c_ (cp_ t3 rfl tv) (oe_ (wk_ ⟨[(0, .lst 1 (a0.map eU8)), (1, iV a1), (2, iV a2), (11, .bool ((a0.length : Int) == 0))], [], []⟩ (fgk (by kernel_rfl)) (ite_ (cb := ((a0.length : Int) == 0)) rfl (fun c2 => ?_) (fun c2 => ?_))))))))))))))
  ·replace h0 := ip c2 h0
   refine seq_ (reg_ (st (mv_ rfl tv (st (c_ (cp_ t3 rfl tv) (st (mv_ rfl tv ?_)))))))
   obtain ⟨c3, h0⟩ := grd h0
   refine st (c_ (cp_ ⟨tv, tv, tv⟩ rfl c3) (st (mv_ rfl tv (oe_ (wk_ ⟨[(6, iV (((IntKind.i64.wrap (a1 * 7))).tmod a2))], [], []⟩ (fgk (by kernel_rfl)) ?_)))))
   obtain rfl := Option.some.inj h0
   exact rt_ (ret_ rfl rfl rfl rfl rfl tv)
  ·replace h0 := inb c2 h0
   refine sk_ (wk_ ⟨[(0, .lst 1 (a0.map eU8)), (1, iV a1), (2, iV a2)], [], []⟩ (fgk (by kernel_rfl)) (seq_ ?_))
   obtain ⟨c4, h0⟩ := grd h0
   obtain ⟨y5, e6, h0⟩ := bnd h0
   obtain ⟨y7, e8, h0⟩ := bnd h0
   obtain ⟨c9, h0⟩ := grd h0
   refine draw_ (dtake tv (mv_ rfl tv (⟨tv, (dtake tv (mv_ rfl tv (⟨tv, (dtake tv (mv_ rfl tv (⟨tv, (dtake tv (c_ (clenL (e := eU8) (l0 := a0) rfl rfl tv) (⟨tv, (dtake tv (c_ (cp_ ⟨tv, tv, tv⟩ rfl c4) (⟨tv, (dtake tv (c_ (cidxL (e := eU8) (y := y5) rfl rfl tv rfl rfl tv e6) (⟨tv, (dtake tv (c_ (cp_ ⟨tv, tv⟩ rfl (nl rfl)) (⟨tv, (dtake tv (c_ (cp_ ⟨tv, tv⟩ rfl tv) (⟨tv, (dtake tv (c_ (cp_ t3 rfl tv) (⟨tv, (dtake tv (mv_ rfl tv (⟨tv, (dtake tv (mv_ rfl tv (⟨tv, (dtake tv (c_ (cp_ t3 rfl tv) (⟨tv, (dtake tv (mv_ rfl tv (⟨tv, (dtake tv (c_ (clenL (e := eU8) (l0 := a0) rfl rfl tv) (⟨tv, (dtake tv (c_ (cp_ ⟨tv, tv, tv⟩ rfl c4) (⟨tv, ?_⟩)))⟩)))⟩)))⟩)))⟩)))⟩)))⟩)))⟩)))⟩)))⟩)))⟩)))⟩)))⟩)))⟩)))⟩)))
   refine dtake tv (c_ (cidxL (e := eU8) (y := y7) rfl rfl tv rfl rfl tv e8) (⟨tv, (dtake tv (c_ (cp_ ⟨tv, tv⟩ rfl (nl rfl)) (⟨tv, (dtake tv (c_ (cp_ ⟨tv, tv⟩ rfl tv) (⟨tv, (dtake tv (c_ (cp_ t3 rfl tv) (⟨tv, (dtake tv (mv_ rfl tv (⟨tv, (dtake tv (mv_ rfl tv (⟨tv, (dtake tv (c_ (clenL (e := eU8) (l0 := a0) rfl rfl tv) (⟨tv, (dtake tv (c_ (cp_ ⟨tv, tv, tv⟩ rfl c4) (⟨tv, (dtake tv (c_ (cp_ t3 rfl tv) (⟨tv, (dtake tv (mv_ rfl tv (⟨tv, (dtake tv (c_ (cp_ ⟨tv, tv, tv⟩ rfl c9) (⟨tv, (dtake tv (mv_ rfl tv (⟨tv, (dfin ?_)⟩)))⟩)))⟩)))⟩)))⟩)))⟩)))⟩)))⟩)))⟩)))⟩)))⟩)))⟩))
   obtain ⟨v10, e11, h0⟩ := bl h0
   refine wk_ ⟨[(6, iV v10)], [], []⟩ (fgk (by subst e11; kernel_rfl)) ?_
   obtain rfl := Option.some.inj h0
   exact rt_ (ret_ rfl rfl rfl rfl rfl tv)

/- loop.example/g00149/spec.l01In -/
def c56_r0 : List Ins := [⟨some 6, .p (.mv (.c (.bool false))), none⟩]
def c56_r1 : List Ins := [(iQ 7 (.mv (.t 0))),
(iQ 8 (.mv (.t 1))),
(iQ 9 (.bin .geq (.t 7) (.t 8))),
(iQ 10 (.mv (.t 9))),
⟨some 11, .p (.mv (.t 0)), some (10, true)⟩,
⟨some 12, .p (.mv (.t 2)), some (10, true)⟩,
⟨some 13, .p (.bin .leq (.t 11) (.t 12)), some (10, true)⟩,
⟨some 14, .pick (.t 10) (.t 13) (.c (.bool false)), none⟩,
(iQ 6 (.mv (.t 14)))]
def c56 : XFn := { np := 3, nt := 15, res := [.t 6], body := (.seq (.reg c56_r0) (.seq (.reg c56_r1) .ret)) }
def K56 (C : CRel) : Prop := ∀ (a0 : Int) (a1 : Int) (a2 : Int) (r : Bool), g56 a0 a1 a2 = some r → C 56 ⟨[iV a0, iV a1, iV a2], []⟩ ⟨.bool r, [], []⟩
theorem F56 {C : CRel}  (a0 : Int) (a1 : Int) (a2 : Int) (r : Bool) (h0 : g56 a0 a1 a2 = some r) : FnOK C c56 ⟨[iV a0, iV a1, iV a2], []⟩ ⟨.bool r, [], []⟩ := by
 refine fn_ (nl rfl) (seq_ (reg_ (st (mvc_ tv (oe_ (wk_ ⟨[(0, iV a0), (1, iV a1), (2, iV a2)], [], []⟩ (fgk (by kernel_rfl)) (seq_ (reg_ (st (mv_ rfl tv (st (mv_ rfl tv (st (c_ (cp_ t3 rfl tv) (st (mv_ rfl tv (st (pg_ (u := iV a0) rfl (fun hg => (cmv (v := iV a0) rfl tv)) (st (pg_ (u := iV a2) rfl (fun hg => (cmv (v := iV a2) rfl tv)) (st (pg_ (u := .bool (decide (a0 ≤ a2))) rfl (fun hg => (cp_ ⟨(fun _ => hg), (fun _ => hg), tv⟩ rfl tv)) (st (pick_ rfl rfl rfl (fun h => eqt h) tv rfl (st (mv_ rfl tv (oe_ (wk_ ⟨[(6, .bool (bif (decide (a0 ≥ a1)) then (decide (a0 ≤ a2)) else false))], [], []⟩ (fgk (by kernel_rfl)) ?_))))))))))))))))))))))))))))
 obtain rfl := Option.some.inj h0
 exact rt_ (ret_ rfl rfl rfl rfl rfl tv)

/- loop.example/g00149/spec.l09Rising -/
def c85_r0 : List Ins := [⟨some 4, .p (.mv (.c (.bool false))), none⟩]
def c85_r1 : List Ins := [⟨some 5, .p (.mv (.c (iV 0))), none⟩]
def c85_r2 : List Ins := [(iQ 6 (.mv (.t 5))),
(iQ 7 (.mv (.t 0))),
(iQ 8 (.len (.t 7))),
(iQ 9 (.bin .lss (.t 6) (.t 8)))]
def c85_r3 : DP := (.take (iQ 12 (.mv (.t 0)))
(.take (iQ 13 (.mv (.t 5)))
(.take (iQ 14 (.idxA (.t 12) (.t 13) 1))
(.take (iQ 15 (.load (.t 14) 1 false))
(.take (iQ 16 (.mv (.t 1)))
(.take ⟨some 17, .p (.bin .sub (.t 16) (.c (iV 1))), none⟩
(.alt [] ⟨some 18, .call 56 [(.t 15), (.c (iV 1)), (.t 17)], none⟩
(.take (iQ 19 (.un .not (.t 18)))
(.take (iQ 20 (.mv (.t 19)))
(.take ⟨some 21, .p (.mv (.t 5)), some (20, false)⟩
(.take ⟨some 22, .p (.bin .gtr (.t 21) (.c (iV 0))), some (20, false)⟩
(.take ⟨some 23, .p (.mv (.t 22)), some (20, false)⟩
(.take ⟨some 24, .p (.mv (.t 0)), some (23, true)⟩
(.take ⟨some 25, .p (.mv (.t 5)), some (23, true)⟩
(.take ⟨some 26, .p (.bin .sub (.t 25) (.c (iV 1))), some (23, true)⟩
(.take ⟨some 27, .p (.idxA (.t 24) (.t 26) 1), some (23, true)⟩
(.take ⟨some 28, .p (.load (.t 27) 1 false), some (23, true)⟩
(.take ⟨some 29, .p (.mv (.t 0)), some (23, true)⟩
(.take ⟨some 30, .p (.mv (.t 5)), some (23, true)⟩
(.take ⟨some 31, .p (.idxA (.t 29) (.t 30) 1), some (23, true)⟩
(.take ⟨some 32, .p (.load (.t 31) 1 false), some (23, true)⟩
(.take ⟨some 33, .p (.bin .geq (.t 28) (.t 32)), some (23, true)⟩
(.take ⟨some 34, .pick (.t 23) (.t 33) (.c (.bool false)), some (20, false)⟩
(.take ⟨some 35, .pick (.t 20) (.c (.bool true)) (.t 34), none⟩
.fin)))))))))))))))))
.stop)))))))
def c85_r4 : List Ins := [⟨some 4, .p (.mv (.c (.bool false))), none⟩]
def c85_r5 : List Ins := [(iQ 10 (.mv (.t 5))),
⟨some 11, .p (.bin .add (.t 10) (.c (iV 1))), none⟩,
(iQ 5 (.mv (.t 11)))]
def c85_l0 : IR := (.seq (.seq (.reg c85_r2) (.ite (.t 9) .skip (.exit 0))) (.seq (.block 1 (.seq (.draw c85_r3) (.ite (.t 35) (.seq (.reg c85_r4) .ret) .skip))) (.reg c85_r5)))
def c85_r6 : List Ins := [⟨some 4, .p (.mv (.c (.bool true))), none⟩]
def c85 : XFn := { np := 2, nt := 36, res := [.t 4], body := (.seq (.reg c85_r0) (.seq (.seq (.reg c85_r1) (.block 0 (.loop c85_l0))) (.seq (.reg c85_r6) .ret))) }
def K85 (C : CRel) : Prop := ∀ (a0 : List Int) (a1 : Int) (r : Bool), g85 a0 a1 = some r → C 85 ⟨[.lst 1 (a0.map eI), iV a1], []⟩ ⟨.bool r, [], []⟩
theorem F85 {C : CRel} (H56 : K56 C) (a0 : List Int) (a1 : Int) (r : Bool) (h0 : g85 a0 a1 = some r) : FnOK C c85 ⟨[.lst 1 (a0.map eI), iV a1], []⟩ ⟨.bool r, [], []⟩ := by
 refine fn_ (nl rfl) (seq_ (reg_ (st (mvc_ tv (oe_ (wk_ ⟨[(0, .lst 1 (a0.map eI)), (1, iV a1)], [], []⟩ (fgk (by kernel_rfl)) (seq_ (seq_ (reg_ (st (mvc_ tv (oe_ (wk_ ⟨[(0, .lst 1 (a0.map eI)), (1, iV a1), (5, iV 0)], [], []⟩ (fgk (by kernel_rfl)) (block_ ?_))))))))))))))
 obtain ⟨r39, e40, h0⟩ := bnd h0
 refine loop_ (R := (fun S => .inl () = r39 ∧ S = ⟨[], [], []⟩)) (g85_l0 a0 a1) (fun s S => match s with | p13 => S = ⟨[(0, .lst 1 (a0.map eI)), (1, iV a1), (5, iV p13)], [], []⟩) e40 ⟨[(0, .lst 1 (a0.map eI)), (1, iV a1), (5, iV 0)], [], []⟩ (fgk (by kernel_rfl)) rfl 0 (fun _ => rfl) ?_ ?_
 ·rintro S _ hfg ⟨rfl, rfl⟩
  refine wk_ ⟨[], [], []⟩ (fglk hfg (by kernel_rfl)) (seq_ (reg_ (st (mvc_ tv (oe_ (wk_ ⟨[(4, .bool true)], [], []⟩ (fgk (by kernel_rfl)) ?_))))))
  obtain rfl := Option.some.inj h0
  exact rt_ (ret_ rfl rfl rfl rfl rfl tv)
 ·rintro p13 o1 _ K1 rfl h1 hx1 hK1 hE1 hR1
  refine seq_ (seq_ (reg_ (st (mv_ rfl tv (st (mv_ rfl tv (st (c_ (clenL (e := eI) (l0 := a0) rfl rfl tv) (st (c_ (cp_ t3 rfl tv) (oe_ (wk_ ⟨[(0, .lst 1 (a0.map eI)), (1, iV a1), (5, iV p13), (9, .bool (decide (p13 < (a0.length : Int))))], [], []⟩ (fgk (by kernel_rfl)) (ite_ (cb := (decide (p13 < (a0.length : Int)))) rfl (fun c27 => ?_) (fun c27 => ?_))))))))))))))
  ·replace h1 := ip c27 h1
   refine sk_ (wk_ ⟨[(0, .lst 1 (a0.map eI)), (1, iV a1), (5, iV p13)], [], []⟩ (fgk (by kernel_rfl)) (seq_ (block_ (seq_ ?_))))
   obtain ⟨y28, e29, h1⟩ := bnd h1
   obtain ⟨r30, e31, h1⟩ := bnd h1
   obtain ⟨y32, e33, h1⟩ := bnd h1
   obtain ⟨y34, e35, h1⟩ := bnd h1
   refine draw_ (dtake tv (mv_ rfl tv (⟨tv, (dtake tv (mv_ rfl tv (⟨tv, (dtake tv (c_ (cidxL (e := eI) (y := y28) rfl rfl tv rfl rfl tv e29) (⟨tv, (dtake tv (c_ (cp_ ⟨tv, tv⟩ rfl (nl rfl)) (⟨tv, (dtake tv (mv_ rfl tv (⟨tv, (dtake tv (c_ (cp_ t3 rfl tv) (⟨tv, (dalt (call0_ (r := .bool r30) false (H56 y28 1 (IntKind.i64.wrap (a1 - 1)) r30 e31) ⟨tv, tv, tv, tv⟩ rfl rfl (fun _ => rfl) (dkw ⟨[(0, .lst 1 (a0.map eI)), (1, iV a1), (5, iV p13), (18, .bool r30)], [], []⟩ (fgk (by kernel_rfl)) ⟨[], tv, tv, (dtake tv (c_ (cp_ ⟨tv, tv⟩ rfl tv) (⟨tv, (dtake tv (mv_ rfl tv (⟨tv, (dtake tv (pg_ (u := iV p13) rfl (fun hg => (cmv (v := iV p13) rfl tv)) (⟨tv, (dtake tv (pg_ (u := .bool (decide (p13 > 0))) rfl (fun hg => (cp_ ⟨(fun _ => hg), tv, tv⟩ rfl tv)) (⟨tv, (dtake tv (pg_ (u := .bool (decide (p13 > 0))) rfl (fun hg => (cmv (v := .may ((!r30) == false) (.bool (decide (p13 > 0)))) rfl (fun _ => hg))) (⟨tv, (dtake tv (pg_ (u := .lst 1 (a0.map eI)) rfl (fun hg => (cmv (v := .lst 1 (a0.map eI)) rfl tv)) (⟨tv, (dtake tv (pg_ (u := iV p13) rfl (fun hg => (cmv (v := iV p13) rfl tv)) (⟨tv, (dtake tv (pg_ (u := iV (IntKind.i64.wrap (p13 - 1))) rfl (fun hg => (cp_ ⟨(fun _ => hg), tv, tv⟩ rfl tv)) (⟨tv, ?_⟩)))⟩)))⟩)))⟩)))⟩)))⟩)))⟩)))⟩)))⟩)) dstop)⟩)))⟩)))⟩)))⟩)))⟩)))⟩)))
   refine dtake tv (pg_ (u := .iptr [iV y32]) rfl (fun hg => (cidxL (e := eI) (y := y32) rfl rfl (fun _ => hg) rfl rfl (fun _ => hg) (ip hg e33))) (⟨tv, (dtake tv (pg_ (u := iV y32) rfl (fun hg => (cp_ ⟨(fun _ => hg), tv⟩ rfl (nl rfl))) (⟨tv, (dtake tv (pg_ (u := .lst 1 (a0.map eI)) rfl (fun hg => (cmv (v := .lst 1 (a0.map eI)) rfl tv)) (⟨tv, (dtake tv (pg_ (u := iV p13) rfl (fun hg => (cmv (v := iV p13) rfl tv)) (⟨tv, (dtake tv (pg_ (u := .iptr [iV y34]) rfl (fun hg => (cidxL (e := eI) (y := y34) rfl rfl (fun _ => hg) rfl rfl (fun _ => hg) (ip hg e35))) (⟨tv, (dtake tv (pg_ (u := iV y34) rfl (fun hg => (cp_ ⟨(fun _ => hg), tv⟩ rfl (nl rfl))) (⟨tv, (dtake tv (pg_ (u := .bool (decide (y32 ≥ y34))) rfl (fun hg => (cp_ ⟨(fun _ => hg), (fun _ => hg), tv⟩ rfl tv)) (⟨tv, (dtake tv (pickg_ (u := .bool (bif (decide (p13 > 0)) then (decide (y32 ≥ y34)) else false)) rfl (fun hg => cpick rfl rfl (fun _ => hg) rfl rfl (fun h => and_ hg (eqt h)) tv rfl) (⟨tv, (dtake tv (pick_ rfl rfl rfl tv (fun h => eqf h) rfl (⟨tv, (dfin ?_)⟩)))⟩)))⟩)))⟩)))⟩)))⟩)))⟩)))⟩)))⟩))
   obtain ⟨v36, e37, h1⟩ := bl h1
   refine wk_ ⟨[(0, .lst 1 (a0.map eI)), (1, iV a1), (5, iV p13), (35, .bool v36)], [], []⟩ (fgk (by subst e37; kernel_rfl)) (ite_ (cb := v36) rfl (fun c38 => ?_) (fun c38 => ?_))
   ·replace h1 := ip c38 h1
    refine seq_ (reg_ (st (mvc_ tv (oe_ (wk_ ⟨[(4, .bool false)], [], []⟩ (fgk (by kernel_rfl)) ?_)))))
    obtain rfl := Option.some.inj h1
    obtain rfl := hx1 _ rfl
    obtain rfl := Option.some.inj h0
    exact rt_ (hR1 _ (ret_ rfl rfl rfl rfl rfl tv))
   ·replace h1 := inb c38 h1
    refine sk_ (bn_ (wk_ ⟨[(0, .lst 1 (a0.map eI)), (1, iV a1), (5, iV p13)], [], []⟩ (fgk (by kernel_rfl)) (reg_ (st (mv_ rfl tv (st (c_ (cp_ t3 rfl tv) (st (mv_ rfl tv (oe_ ?_))))))))))
    obtain rfl := Option.some.inj h1
    exact hK1 _ rfl _ ⟨[(0, .lst 1 (a0.map eI)), (1, iV a1), (5, iV (IntKind.i64.wrap (p13 + 1)))], [], []⟩ (fgk (by kernel_rfl)) rfl
  ·replace h1 := inb c27 h1
   obtain rfl := Option.some.inj h1
   obtain rfl := hx1 _ rfl
   refine exQ rfl ?_
   exact hE1 _ ⟨[], [], []⟩ (fgk (by kernel_rfl)) ⟨rfl, rfl⟩

/- loop.example/g00149/spec.l09Call -/
def c86_r0 : List Ins := [⟨some 8, .nilS 1, none⟩,
⟨some 9, .p (.mv (.c (iV 0))), none⟩]
def c86_r1 : List Ins := [(iQ 13 (.mv (.t 3))),
⟨some 14, .p (.bin .eql (.t 13) (.c (iV 1))), none⟩]
def c86_r2 : List Ins := [(iQ 15 (.mv (.t 0))),
(iQ 8 (.mv (.t 15))),
⟨some 9, .p (.mv (.c (iV 13))), none⟩]
def c86_r3 : List Ins := [⟨some 16, .mkS 1 [(iV 0)] 0 [], none⟩,
(iQ 10 (.mv (.t 16)))]
def c86_r4 : List Ins := [⟨some 11, .p (.mv (.c (iV 0))), none⟩]
def c86_r5 : List Ins := [(iQ 17 (.mv (.t 11))),
(iQ 18 (.mv (.t 0))),
(iQ 19 (.len (.t 18))),
(iQ 20 (.bin .lss (.t 17) (.t 19))),
(iQ 21 (.mv (.t 20))),
⟨some 22, .p (.mv (.t 0)), some (21, true)⟩,
⟨some 23, .p (.mv (.t 11)), some (21, true)⟩,
⟨some 24, .p (.idxA (.t 22) (.t 23) 1), some (21, true)⟩,
⟨some 25, .p (.load (.t 24) 1 false), some (21, true)⟩,
⟨some 26, .p (.mv (.t 1)), some (21, true)⟩,
⟨some 27, .p (.bin .lss (.t 25) (.t 26)), some (21, true)⟩,
⟨some 28, .pick (.t 21) (.t 27) (.c (.bool false)), none⟩]
def c86_r6 : List Ins := [(iQ 31 (.mv (.t 10))),
(iQ 32 (.mv (.t 0))),
(iQ 33 (.mv (.t 11))),
(iQ 34 (.idxA (.t 32) (.t 33) 1)),
(iQ 35 (.load (.t 34) 1 false)),
⟨some 36, .mkS 1 [(iV 0)] 1 [(0, (.t 35))], none⟩,
⟨some 37, .app 1 8 (.t 31) (.t 36), none⟩,
(iQ 10 (.mv (.t 37)))]
def c86_r7 : List Ins := [(iQ 29 (.mv (.t 11))),
⟨some 30, .p (.bin .add (.t 29) (.c (iV 1))), none⟩,
(iQ 11 (.mv (.t 30)))]
def c86_l0 : IR := (.seq (.seq (.reg c86_r5) (.ite (.t 28) .skip (.exit 0))) (.seq (.block 1 (.reg c86_r6)) (.reg c86_r7)))
def c86_r8 : List Ins := [(iQ 38 (.mv (.t 10))),
(iQ 39 (.len (.t 38))),
(iQ 12 (.mv (.t 39)))]
def c86_r9 : List Ins := [(iQ 40 (.mv (.t 2)))]
def c86_r10 : List Ins := [(iQ 41 (.mv (.t 10))),
(iQ 42 (.mv (.t 1))),
⟨some 43, .mkS 1 [(iV 0)] 1 [(0, (.t 42))], none⟩,
⟨some 44, .app 1 8 (.t 41) (.t 43), none⟩,
(iQ 10 (.mv (.t 44)))]
def c86_r11 : List Ins := [(iQ 45 (.mv (.t 12))),
(iQ 46 (.mv (.t 0))),
(iQ 47 (.len (.t 46))),
(iQ 48 (.bin .lss (.t 45) (.t 47))),
(iQ 49 (.mv (.t 48))),
⟨some 50, .p (.mv (.t 0)), some (49, true)⟩,
⟨some 51, .p (.mv (.t 12)), some (49, true)⟩,
⟨some 52, .p (.idxA (.t 50) (.t 51) 1), some (49, true)⟩,
⟨some 53, .p (.load (.t 52) 1 false), some (49, true)⟩,
⟨some 54, .p (.mv (.t 1)), some (49, true)⟩,
⟨some 55, .p (.bin .eql (.t 53) (.t 54)), some (49, true)⟩,
⟨some 56, .pick (.t 49) (.t 55) (.c (.bool false)), none⟩]
def c86_r12 : List Ins := [(iQ 57 (.mv (.t 12))),
⟨some 58, .p (.bin .add (.t 57) (.c (iV 1))), none⟩,
(iQ 12 (.mv (.t 58)))]
def c86_r13 : List Ins := [(iQ 59 (.mv (.t 10))),
(iQ 60 (.mv (.t 0))),
(iQ 61 (.mv (.t 12))),
⟨some 62, .p (.slice (.t 60) (some (.t 61)) none 1), none⟩,
⟨some 63, .app 1 8 (.t 59) (.t 62), none⟩,
(iQ 10 (.mv (.t 63)))]
def c86_r14 : List Ins := [(iQ 64 (.mv (.t 3))),
⟨some 65, .p (.bin .eql (.t 64) (.c (iV 2))), none⟩]
def c86_r15 : List Ins := [(iQ 66 (.mv (.t 10))),
(iQ 8 (.mv (.t 66))),
⟨some 9, .p (.mv (.c (iV 15))), none⟩]
def c86_r16 : List Ins := [(iQ 67 (.mv (.t 10))),
(iQ 8 (.mv (.t 67))),
⟨some 9, .p (.mv (.c (iV 0))), none⟩]
def c86 : XFn := { np := 4, nt := 68, res := [.t 8, .t 9], body := (.seq (.reg c86_r0) (.seq (.seq (.reg c86_r1) (.ite (.t 14) (.seq (.reg c86_r2) .ret) .skip)) (.seq (.reg c86_r3) (.seq (.seq (.reg c86_r4) (.block 0 (.loop c86_l0))) (.seq (.reg c86_r8) (.seq (.seq (.reg c86_r9) (.ite (.t 40) (.reg c86_r10) .skip)) (.seq (.seq (.reg c86_r11) (.ite (.t 56) (.reg c86_r12) .skip)) (.seq (.reg c86_r13) (.seq (.seq (.reg c86_r14) (.ite (.t 65) (.seq (.reg c86_r15) .ret) .skip)) (.seq (.reg c86_r16) .ret)))))))))) }
def K86 (C : CRel) : Prop := ∀ (a0 : List Int) (a1 : Int) (a2 : Bool) (a3 : Int) (r : (List Int) × Int), g86 a0 a1 a2 a3 = some r → C 86 ⟨[.lst 1 (a0.map eI), iV a1, .bool a2, iV a3], []⟩ ⟨.tup [.lst 1 (r.1.map eI), iV r.2], [], []⟩
theorem F86 {C : CRel}  (a0 : List Int) (a1 : Int) (a2 : Bool) (a3 : Int) (r : (List Int) × Int) (h0 : g86 a0 a1 a2 a3 = some r) : FnOK C c86 ⟨[.lst 1 (a0.map eI), iV a1, .bool a2, iV a3], []⟩ ⟨.tup [.lst 1 (r.1.map eI), iV r.2], [], []⟩ := by
 refine fn_ (nl rfl) (seq_ (reg_ (st (nilS_ (st (mvc_ tv (oe_ (wk_ ⟨[(0, .lst 1 (a0.map eI)), (1, iV a1), (2, .bool a2), (3, iV a3)], [], []⟩ (fgk (by kernel_rfl)) (seq_ (seq_ (reg_ (st (mv_ rfl tv (st (c_ (cp_ t3 rfl tv) (oe_ (wk_ ⟨[(0, .lst 1 (a0.map eI)), (1, iV a1), (2, .bool a2), (3, iV a3), (14, .bool (a3 == 1))], [], []⟩ (fgk (by kernel_rfl)) (ite_ (cb := (a3 == 1)) rfl (fun c1 => ?_) (fun c1 => ?_)))))))))))))))))))
 ·replace h0 := ip c1 h0
  refine seq_ (reg_ (st (mv_ rfl tv (st (mv_ rfl tv (st (mvc_ tv (oe_ (wk_ ⟨[(8, .lst 1 (a0.map eI)), (9, iV 13)], [], []⟩ (fgk (by kernel_rfl)) ?_)))))))))
  obtain rfl := Option.some.inj h0
  exact rt_ (ret_ rfl rfl rfl rfl rfl tv)
 ·replace h0 := inb c1 h0
  refine sk_ (wk_ ⟨[(0, .lst 1 (a0.map eI)), (1, iV a1), (2, .bool a2), (3, iV a3)], [], []⟩ (fgk (by kernel_rfl)) (seq_ (reg_ (st (mkS_ tv tv (st (mv_ rfl tv (oe_ (wk_ ⟨[(0, .lst 1 (a0.map eI)), (1, iV a1), (2, .bool a2), (3, iV a3), (10, .own 1024 0 1 (([] : List Int).map eI))], [], []⟩ (fgk (by kernel_rfl)) (seq_ (seq_ (reg_ (st (mvc_ tv (oe_ (wk_ ⟨[(0, .lst 1 (a0.map eI)), (1, iV a1), (2, .bool a2), (3, iV a3), (10, .own 1024 0 1 (([] : List Int).map eI)), (11, iV 0)], [], []⟩ (fgk (by kernel_rfl)) (block_ ?_)))))))))))))))))
  obtain ⟨r31, e32, h0⟩ := bnd h0
  refine loop_ (R := (fun S => ∃ p22 : List Int, p22 = r31 ∧ S = ⟨[(0, .lst 1 (a0.map eI)), (1, iV a1), (2, .bool a2), (3, iV a3), (10, .own 1024 0 1 (p22.map eI))], [], []⟩)) (g86_l0 a0 a1) (fun s S => match s with | (p10, p11) => S = ⟨[(0, .lst 1 (a0.map eI)), (1, iV a1), (2, .bool a2), (3, iV a3), (10, .own 1024 0 1 (p10.map eI)), (11, iV p11)], [], []⟩) e32 ⟨[(0, .lst 1 (a0.map eI)), (1, iV a1), (2, .bool a2), (3, iV a3), (10, .own 1024 0 1 (([] : List Int).map eI)), (11, iV 0)], [], []⟩ (fgk (by kernel_rfl)) rfl 0 (fun _ => rfl) ?_ ?_
  ·rintro S _ hfg ⟨p22, rfl, rfl⟩
   refine wk_ ⟨[(0, .lst 1 (a0.map eI)), (1, iV a1), (2, .bool a2), (3, iV a3), (10, .own 1024 0 1 (p22.map eI))], [], []⟩ (fglk hfg (by kernel_rfl)) (seq_ (reg_ (st (mv_ rfl tv (st (c_ (clenO (e := eI) (l0 := p22) rfl rfl tv) (st (mv_ rfl tv (oe_ (wk_ ⟨[(0, .lst 1 (a0.map eI)), (1, iV a1), (2, .bool a2), (3, iV a3), (10, .own 1024 0 1 (p22.map eI)), (12, iV (p22.length : Int))], [], []⟩ (fgk (by kernel_rfl)) (seq_ (seq_ (reg_ (st (mv_ rfl tv (oe_ (wk_ ⟨[(0, .lst 1 (a0.map eI)), (1, iV a1), (3, iV a3), (10, .own 1024 0 1 (p22.map eI)), (12, iV (p22.length : Int)), (40, .bool a2)], [], []⟩ (fgk (by kernel_rfl)) (iteJ (cb := a2) (fun S => ∃ p35 : List Int, S = ⟨[(0, .lst 1 (a0.map eI)), (1, iV a1), (3, iV a3), (10, .own 1024 0 1 (p35.map eI)), (12, iV (p22.length : Int))], [], []⟩ ∧ g86_j0 a0 a1 a3 p22 p35 = some r) rfl ?_ (fun c49 J48 => ?_) (fun c49 J48 => ?_)))))))))))))))))))
   ·rintro _ ⟨p35, rfl, h0⟩
    refine wk_ ⟨[(0, .lst 1 (a0.map eI)), (1, iV a1), (3, iV a3), (10, .own 1024 0 1 (p35.map eI)), (12, iV (p22.length : Int))], [], []⟩ (fgk (by kernel_rfl)) (seq_ (seq_ (reg_ (st (mv_ rfl tv (st (mv_ rfl tv (st (c_ (clenL (e := eI) (l0 := a0) rfl rfl tv) (st (c_ (cp_ t3 rfl tv) (st (mv_ rfl tv (st (pg_ (u := .lst 1 (a0.map eI)) rfl (fun hg => (cmv (v := .lst 1 (a0.map eI)) rfl tv)) (st (pg_ (u := iV (p22.length : Int)) rfl (fun hg => (cmv (v := iV (p22.length : Int)) rfl tv)) ?_)))))))))))))))))
    obtain ⟨y36, e37, h0⟩ := bnd h0
    refine st (pg_ (u := .iptr [iV y36]) rfl (fun hg => (cidxL (e := eI) (y := y36) rfl rfl (fun _ => hg) rfl rfl (fun _ => hg) (ip hg e37))) (st (pg_ (u := iV y36) rfl (fun hg => (cp_ ⟨(fun _ => hg), tv⟩ rfl (nl rfl))) (st (pg_ (u := iV a1) rfl (fun hg => (cmv (v := iV a1) rfl tv)) (st (pg_ (u := .bool (y36 == a1)) rfl (fun hg => (cp_ ⟨(fun _ => hg), (fun _ => hg), tv⟩ rfl tv)) (st (pick_ rfl rfl rfl (fun h => eqt h) tv rfl (oe_ ?_))))))))))
    obtain ⟨v38, e39, h0⟩ := bl h0
    refine wk_ ⟨[(0, .lst 1 (a0.map eI)), (3, iV a3), (10, .own 1024 0 1 (p35.map eI)), (12, iV (p22.length : Int)), (56, .bool v38)], [], []⟩ (fgk (by subst e39; kernel_rfl)) (iteJ (cb := v38) (fun S => ∃ p41 : Int, S = ⟨[(0, .lst 1 (a0.map eI)), (3, iV a3), (10, .own 1024 0 1 (p35.map eI)), (12, iV p41)], [], []⟩ ∧ g86_j1 a0 a3 p35 p41 = some r) rfl ?_ (fun c47 J46 => ?_) (fun c47 J46 => ?_))
    ·rintro _ ⟨p41, rfl, h0⟩
     refine wk_ ⟨[(0, .lst 1 (a0.map eI)), (3, iV a3), (10, .own 1024 0 1 (p35.map eI)), (12, iV p41)], [], []⟩ (fgk (by kernel_rfl)) (seq_ (reg_ (st (mv_ rfl tv (st (mv_ rfl tv (st (mv_ rfl tv ?_))))))))
     obtain ⟨s42, e43, h0⟩ := bnd h0
     refine st (c_ (csliceL (e := eI) (y := s42) rfl rfl tv ⟨tv, tv⟩ rfl rfl e43) ?_)
     obtain ⟨c44, h0⟩ := grd h0
     refine st (app_ (e := eI) (l0 := p35) (l1 := s42) rfl rfl tv rfl (by decide) c44 (st (mv_ rfl tv (oe_ (wk_ ⟨[(3, iV a3), (10, .own 1024 0 1 ((p35 ++ s42).map eI))], [], []⟩ (fgk (by kernel_rfl)) (seq_ (seq_ (reg_ (st (mv_ rfl tv (st (c_ (cp_ t3 rfl tv) (oe_ (wk_ ⟨[(10, .own 1024 0 1 ((p35 ++ s42).map eI)), (65, .bool (a3 == 2))], [], []⟩ (fgk (by kernel_rfl)) (ite_ (cb := (a3 == 2)) rfl (fun c45 => ?_) (fun c45 => ?_))))))))))))))))
     ·replace h0 := ip c45 h0
      refine seq_ (reg_ (st (mv_ rfl tv (st (mv_ rfl tv (st (mvc_ tv (oe_ (wk_ ⟨[(8, .lst 1 ((p35 ++ s42).map eI)), (9, iV 15)], [], []⟩ (fgzk [1024] (by kernel_rfl)) ?_)))))))))
      obtain rfl := Option.some.inj h0
      exact rt_ (ret_ rfl rfl rfl rfl rfl tv)
     ·replace h0 := inb c45 h0
      refine sk_ (wk_ ⟨[(10, .own 1024 0 1 ((p35 ++ s42).map eI))], [], []⟩ (fgk (by kernel_rfl)) (seq_ (reg_ (st (mv_ rfl tv (st (mv_ rfl tv (st (mvc_ tv (oe_ (wk_ ⟨[(8, .lst 1 ((p35 ++ s42).map eI)), (9, iV 0)], [], []⟩ (fgzk [1024] (by kernel_rfl)) ?_)))))))))))
      obtain rfl := Option.some.inj h0
      exact rt_ (ret_ rfl rfl rfl rfl rfl tv)
    ·replace h0 := ip c47 h0
     refine reg_ (st (mv_ rfl tv (st (c_ (cp_ t3 rfl tv) (st (mv_ rfl tv (oe_ ?_)))))))
     exact J46 _ ⟨[(0, .lst 1 (a0.map eI)), (3, iV a3), (10, .own 1024 0 1 (p35.map eI)), (12, iV (IntKind.i64.wrap ((p22.length : Int) + 1)))], [], []⟩ (fgk (by kernel_rfl)) ⟨_, rfl, h0⟩
    ·replace h0 := inb c47 h0
     refine sk_ ?_
     exact J46 _ ⟨[(0, .lst 1 (a0.map eI)), (3, iV a3), (10, .own 1024 0 1 (p35.map eI)), (12, iV (p22.length : Int))], [], []⟩ (fgk (by kernel_rfl)) ⟨_, rfl, h0⟩
   ·replace h0 := ip c49 h0
    refine reg_ (st (mv_ rfl tv (st (mv_ rfl tv (st (mkS_ ⟨tv, tv⟩ ⟨⟨nl rfl, rfl, rfl⟩, tv⟩ ?_))))))
    obtain ⟨c50, h0⟩ := grd h0
    refine st (app_ (e := eI) (l0 := p22) (l1 := ([a1] : List Int)) rfl rfl tv rfl (by decide) c50 (st (mv_ rfl tv (oe_ ?_))))
    exact J48 _ ⟨[(0, .lst 1 (a0.map eI)), (1, iV a1), (3, iV a3), (10, .own 1024 0 1 ((p22 ++ ([a1] : List Int)).map eI)), (12, iV (p22.length : Int))], [], []⟩ (fgk (by kernel_rfl)) ⟨_, rfl, h0⟩
   ·replace h0 := inb c49 h0
    refine sk_ ?_
    exact J48 _ ⟨[(0, .lst 1 (a0.map eI)), (1, iV a1), (3, iV a3), (10, .own 1024 0 1 (p22.map eI)), (12, iV (p22.length : Int))], [], []⟩ (fgk (by kernel_rfl)) ⟨_, rfl, h0⟩
  ·rintro ⟨p10, p11⟩ o1 _ K1 rfl h1 hx1 hK1 hE1 hR1
   refine seq_ (seq_ (reg_ (st (mv_ rfl tv (st (mv_ rfl tv (st (c_ (clenL (e := eI) (l0 := a0) rfl rfl tv) (st (c_ (cp_ t3 rfl tv) (st (mv_ rfl tv (st (pg_ (u := .lst 1 (a0.map eI)) rfl (fun hg => (cmv (v := .lst 1 (a0.map eI)) rfl tv)) (st (pg_ (u := iV p11) rfl (fun hg => (cmv (v := iV p11) rfl tv)) ?_))))))))))))))))
   obtain ⟨y23, e24, h1⟩ := bnd h1
   refine st (pg_ (u := .iptr [iV y23]) rfl (fun hg => (cidxL (e := eI) (y := y23) rfl rfl (fun _ => hg) rfl rfl (fun _ => hg) (ip hg e24))) (st (pg_ (u := iV y23) rfl (fun hg => (cp_ ⟨(fun _ => hg), tv⟩ rfl (nl rfl))) (st (pg_ (u := iV a1) rfl (fun hg => (cmv (v := iV a1) rfl tv)) (st (pg_ (u := .bool (decide (y23 < a1))) rfl (fun hg => (cp_ ⟨(fun _ => hg), (fun _ => hg), tv⟩ rfl tv)) (st (pick_ rfl rfl rfl (fun h => eqt h) tv rfl (oe_ ?_))))))))))
   obtain ⟨v25, e26, h1⟩ := bl h1
   refine wk_ ⟨[(0, .lst 1 (a0.map eI)), (1, iV a1), (2, .bool a2), (3, iV a3), (10, .own 1024 0 1 (p10.map eI)), (11, iV p11), (28, .bool v25)], [], []⟩ (fgk (by subst e26; kernel_rfl)) (ite_ (cb := v25) rfl (fun c27 => ?_) (fun c27 => ?_))
   ·replace h1 := ip c27 h1
    refine sk_ (wk_ ⟨[(0, .lst 1 (a0.map eI)), (1, iV a1), (2, .bool a2), (3, iV a3), (10, .own 1024 0 1 (p10.map eI)), (11, iV p11)], [], []⟩ (fgk (by kernel_rfl)) (seq_ (block_ (reg_ (st (mv_ rfl tv (st (mv_ rfl tv (st (mv_ rfl tv ?_))))))))))
    obtain ⟨y28, e29, h1⟩ := bnd h1
    refine st (c_ (cidxL (e := eI) (y := y28) rfl rfl tv rfl rfl tv e29) (st (c_ (cp_ ⟨tv, tv⟩ rfl (nl rfl)) (st (mkS_ ⟨tv, tv⟩ ⟨⟨nl rfl, rfl, rfl⟩, tv⟩ ?_)))))
    obtain ⟨c30, h1⟩ := grd h1
    refine st (app_ (e := eI) (l0 := p10) (l1 := ([y28] : List Int)) rfl rfl tv rfl (by decide) c30 (st (mv_ rfl tv (oe_ (bn_ (wk_ ⟨[(0, .lst 1 (a0.map eI)), (1, iV a1), (2, .bool a2), (3, iV a3), (10, .own 1024 0 1 ((p10 ++ ([y28] : List Int)).map eI)), (11, iV p11)], [], []⟩ (fgk (by kernel_rfl)) (reg_ (st (mv_ rfl tv (st (c_ (cp_ t3 rfl tv) (st (mv_ rfl tv (oe_ ?_))))))))))))))
    obtain rfl := Option.some.inj h1
    exact hK1 _ rfl _ ⟨[(0, .lst 1 (a0.map eI)), (1, iV a1), (2, .bool a2), (3, iV a3), (10, .own 1024 0 1 ((p10 ++ ([y28] : List Int)).map eI)), (11, iV (IntKind.i64.wrap (p11 + 1)))], [], []⟩ (fgk (by kernel_rfl)) rfl
   ·replace h1 := inb c27 h1
    obtain rfl := Option.some.inj h1
    obtain rfl := hx1 _ rfl
    refine exQ rfl ?_
    exact hE1 _ ⟨[(0, .lst 1 (a0.map eI)), (1, iV a1), (2, .bool a2), (3, iV a3), (10, .own 1024 0 1 (p10.map eI))], [], []⟩ (fgk (by kernel_rfl)) ⟨_, rfl, rfl⟩

/- loop.example/g00149/spec.CallTarget -/
def c42_r0 : List Ins := [⟨some 8, .nilS 1, none⟩,
⟨some 9, .p (.mv (.c (iV 0))), none⟩]
def c42_r1 : List Ins := [(iQ 12 (.mv (.t 0))),
(iQ 13 (.len (.t 12))),
⟨some 14, .p (.bin .gtr (.t 13) (.c (iV 4096))), none⟩]
def c42_r2 : List Ins := [⟨some 15, .mkS 1 [(iV 0)] 0 [], none⟩,
(iQ 8 (.mv (.t 15))),
⟨some 9, .p (.mv (.c (iV 2))), none⟩]
def c42_r3 : List Ins := [(iQ 16 (.mv (.t 0))),
⟨some 17, .call 85 [(.t 16), (.c (iV 1000001))], none⟩,
(iQ 18 (.un .not (.t 17))),
(iQ 19 (.mv (.t 18))),
⟨some 20, .p (.mv (.t 1)), some (19, false)⟩,
⟨some 21, .call 56 [(.t 20), (.c (iV 1)), (.c (iV 1000000))], some (19, false)⟩,
⟨some 22, .p (.un .not (.t 21)), some (19, false)⟩,
⟨some 23, .pick (.t 19) (.c (.bool true)) (.t 22), none⟩]
def c42_r4 : List Ins := [⟨some 24, .mkS 1 [(iV 0)] 0 [], none⟩,
(iQ 8 (.mv (.t 24))),
⟨some 9, .p (.mv (.c (iV 1))), none⟩]
def c42_r5 : List Ins := [(iQ 25 (.mv (.t 3))),
⟨some 26, .call 56 [(.t 25), (.c (iV 0)), (.c (iV 2))], none⟩,
(iQ 27 (.un .not (.t 26)))]
def c42_r6 : List Ins := [⟨some 28, .mkS 1 [(iV 0)] 0 [], none⟩,
(iQ 8 (.mv (.t 28))),
⟨some 9, .p (.mv (.c (iV 4))), none⟩]
def c42_r7 : List Ins := [(iQ 30 (.mv (.t 0))),
(iQ 31 (.mv (.t 1))),
(iQ 32 (.mv (.t 2))),
(iQ 33 (.mv (.t 3))),
⟨some 34, .call 86 [(.t 30), (.t 31), (.t 32), (.t 33)], none⟩,
(iQ 29 (.mv (.t 34))),
(iQ 35 (.ext (.t 29) 0)),
(iQ 36 (.ext (.t 29) 1)),
(iQ 10 (.mv (.t 35))),
(iQ 11 (.mv (.t 36)))]
def c42_r8 : List Ins := [⟨some 37, .mkS 1 [(iV 0)] 0 [], none⟩,
(iQ 38 (.mv (.t 10))),
⟨some 39, .app 1 8 (.t 37) (.t 38), none⟩,
(iQ 40 (.mv (.t 11))),
(iQ 8 (.mv (.t 39))),
(iQ 9 (.mv (.t 40)))]
def c42 : XFn := { np := 4, nt := 41, res := [.t 8, .t 9], body := (.seq (.reg c42_r0) (.seq (.seq (.reg c42_r1) (.ite (.t 14) (.seq (.reg c42_r2) .ret) .skip)) (.seq (.seq (.reg c42_r3) (.ite (.t 23) (.seq (.reg c42_r4) .ret) .skip)) (.seq (.seq (.reg c42_r5) (.ite (.t 27) (.seq (.reg c42_r6) .ret) .skip)) (.seq (.reg c42_r7) (.seq (.reg c42_r8) .ret)))))) }
def K42 (C : CRel) : Prop := ∀ (a0 : List Int) (a1 : Int) (a2 : Bool) (a3 : Int) (r : (List Int) × Int), g42 a0 a1 a2 a3 = some r → C 42 ⟨[.lst 1 (a0.map eI), iV a1, .bool a2, iV a3], []⟩ ⟨.tup [.own 0 0 1 (r.1.map eI), iV r.2], [], []⟩
theorem F42 {C : CRel} (H56 : K56 C) (H85 : K85 C) (H86 : K86 C) (a0 : List Int) (a1 : Int) (a2 : Bool) (a3 : Int) (r : (List Int) × Int) (h0 : g42 a0 a1 a2 a3 = some r) : FnOK C c42 ⟨[.lst 1 (a0.map eI), iV a1, .bool a2, iV a3], []⟩ ⟨.tup [.own 0 0 1 (r.1.map eI), iV r.2], [], []⟩ := by
 refine fn_ (nl rfl) (seq_ (reg_ (st (nilS_ (st (mvc_ tv (oe_ (wk_ ⟨[(0, .lst 1 (a0.map eI)), (1, iV a1), (2, .bool a2), (3, iV a3)], [], []⟩ (fgk (by kernel_rfl)) (seq_ (seq_ (reg_ (st (mv_ rfl tv (st (c_ (clenL (e := eI) (l0 := a0) rfl rfl tv) (st (c_ (cp_ t3 rfl tv) (oe_ (wk_ ⟨[(0, .lst 1 (a0.map eI)), (1, iV a1), (2, .bool a2), (3, iV a3), (14, .bool (decide ((a0.length : Int) > 4096)))], [], []⟩ (fgk (by kernel_rfl)) (ite_ (cb := (decide ((a0.length : Int) > 4096))) rfl (fun c1 => ?_) (fun c1 => ?_)))))))))))))))))))))
 ·replace h0 := ip c1 h0
  refine seq_ (reg_ (st (mkS_ tv tv (st (mv_ rfl tv (st (mvc_ tv (oe_ (wk_ ⟨[(8, .own 960 0 1 (([] : List Int).map eI)), (9, iV 2)], [], []⟩ (fgk (by kernel_rfl)) ?_)))))))))
  obtain rfl := Option.some.inj h0
  exact rt_ (ret_ rfl rfl rfl rfl rfl tv)
 ·replace h0 := inb c1 h0
  refine sk_ (wk_ ⟨[(0, .lst 1 (a0.map eI)), (1, iV a1), (2, .bool a2), (3, iV a3)], [], []⟩ (fgk (by kernel_rfl)) (seq_ (seq_ (reg_ (st (mv_ rfl tv ?_))))))
  obtain ⟨r2, e3, h0⟩ := bnd h0
  refine st (call0_ (r := .bool r2) false (H85 a0 1000001 r2 e3) ⟨tv, tv, tv⟩ rfl rfl (fun _ => rfl) (st (c_ (cp_ ⟨tv, tv⟩ rfl tv) (st (mv_ rfl tv (st (pg_ (u := iV a1) rfl (fun hg => (cmv (v := iV a1) rfl tv)) ?_)))))))
  obtain ⟨r4, e5, h0⟩ := bnd h0
  refine sw ⟨[(0, .lst 1 (a0.map eI)), (1, iV a1), (2, .bool a2), (3, iV a3), (19, .bool (!r2)), (20, .may ((!r2) == false) (iV a1))], [], []⟩ (fgk (by kernel_rfl)) (callg_ (r := .bool r4) rfl false (fun hg => H56 a1 1 1000000 r4 (ip hg e5)) ⟨(fun hg => hg), tv, tv, tv⟩ (fun _ => rfl) (fun _ => rfl) (fun _ => rfl) (fun h => nomatch h) (st (pg_ (u := .bool (!r4)) rfl (fun hg => (cp_ ⟨(fun _ => hg), tv⟩ rfl tv)) (st (pick_ rfl rfl rfl tv (fun h => eqf h) rfl (oe_ (wk_ ⟨[(0, .lst 1 (a0.map eI)), (1, iV a1), (2, .bool a2), (3, iV a3), (23, .bool (bif (!r2) then true else (!r4)))], [], []⟩ (fgk (by kernel_rfl)) (ite_ (cb := (bif (!r2) then true else (!r4))) rfl (fun c6 => ?_) (fun c6 => ?_)))))))))
  ·replace h0 := ip c6 h0
   refine seq_ (reg_ (st (mkS_ tv tv (st (mv_ rfl tv (st (mvc_ tv (oe_ (wk_ ⟨[(8, .own 1536 0 1 (([] : List Int).map eI)), (9, iV 1)], [], []⟩ (fgk (by kernel_rfl)) ?_)))))))))
   obtain rfl := Option.some.inj h0
   exact rt_ (ret_ rfl rfl rfl rfl rfl tv)
  ·replace h0 := inb c6 h0
   refine sk_ (wk_ ⟨[(0, .lst 1 (a0.map eI)), (1, iV a1), (2, .bool a2), (3, iV a3)], [], []⟩ (fgk (by kernel_rfl)) (seq_ (seq_ (reg_ (st (mv_ rfl tv ?_))))))
   obtain ⟨r7, e8, h0⟩ := bnd h0
   refine st (call0_ (r := .bool r7) false (H56 a3 0 2 r7 e8) ⟨tv, tv, tv, tv⟩ rfl rfl (fun _ => rfl) (st (c_ (cp_ ⟨tv, tv⟩ rfl tv) (oe_ (wk_ ⟨[(0, .lst 1 (a0.map eI)), (1, iV a1), (2, .bool a2), (3, iV a3), (27, .bool (!r7))], [], []⟩ (fgk (by kernel_rfl)) (ite_ (cb := (!r7)) rfl (fun c9 => ?_) (fun c9 => ?_)))))))
   ·replace h0 := ip c9 h0
    refine seq_ (reg_ (st (mkS_ tv tv (st (mv_ rfl tv (st (mvc_ tv (oe_ (wk_ ⟨[(8, .own 1792 0 1 (([] : List Int).map eI)), (9, iV 4)], [], []⟩ (fgk (by kernel_rfl)) ?_)))))))))
    obtain rfl := Option.some.inj h0
    exact rt_ (ret_ rfl rfl rfl rfl rfl tv)
   ·replace h0 := inb c9 h0
    refine sk_ (wk_ ⟨[(0, .lst 1 (a0.map eI)), (1, iV a1), (2, .bool a2), (3, iV a3)], [], []⟩ (fgk (by kernel_rfl)) (seq_ (reg_ (st (mv_ rfl tv (st (mv_ rfl tv (st (mv_ rfl tv (st (mv_ rfl tv ?_)))))))))))
    obtain ⟨r10, e11, h0⟩ := bnd h0
    refine st (call0_ (r := .tup [.lst 1 (r10.1.map eI), iV r10.2]) true (H86 a0 a1 a2 a3 r10 e11) ⟨tv, tv, tv, tv, tv⟩ rfl rfl (fun h => nomatch h) (st (mv_ rfl tv (st (c_ (cp_ ⟨tv, tv⟩ rfl tv) (st (c_ (cp_ ⟨tv, tv⟩ rfl tv) (st (mv_ rfl tv (st (mv_ rfl tv (oe_ (wk_ ⟨[(10, .lst 1 (r10.1.map eI)), (11, iV r10.2)], [], []⟩ (fgk (by kernel_rfl)) (seq_ (reg_ (st (mkS_ tv tv (st (mv_ rfl tv ?_)))))))))))))))))))
    obtain ⟨c12, h0⟩ := grd h0
    refine st (app_ (e := eI) (l0 := ([] : List Int)) (l1 := r10.1) rfl rfl tv rfl (by decide) c12 (st (mv_ rfl tv (st (mv_ rfl tv (st (mv_ rfl tv (oe_ (wk_ ⟨[(8, .own 2368 0 1 ((([] : List Int) ++ r10.1).map eI)), (9, iV r10.2)], [], []⟩ (fgk (by kernel_rfl)) ?_)))))))))
    obtain rfl := Option.some.inj h0
    exact rt_ (ret_ rfl rfl rfl rfl rfl tv)

/- loop.example/g00149/impl.within -/
def c63_r0 : List Ins := [⟨some 6, .p (.mv (.c (.bool false))), none⟩]
def c63_r1 : List Ins := [(iQ 7 (.mv (.t 1))),
(iQ 8 (.mv (.t 0))),
(iQ 9 (.bin .leq (.t 7) (.t 8))),
(iQ 10 (.mv (.t 9))),
⟨some 11, .p (.mv (.t 0)), some (10, true)⟩,
⟨some 12, .p (.mv (.t 2)), some (10, true)⟩,
⟨some 13, .p (.bin .leq (.t 11) (.t 12)), some (10, true)⟩,
⟨some 14, .pick (.t 10) (.t 13) (.c (.bool false)), none⟩,
(iQ 6 (.mv (.t 14)))]
def c63 : XFn := { np := 3, nt := 15, res := [.t 6], body := (.seq (.reg c63_r0) (.seq (.reg c63_r1) .ret)) }
def K63 (C : CRel) : Prop := ∀ (a0 : Int) (a1 : Int) (a2 : Int) (r : Bool), g63 a0 a1 a2 = some r → C 63 ⟨[iV a0, iV a1, iV a2], []⟩ ⟨.bool r, [], []⟩
theorem F63 {C : CRel}  (a0 : Int) (a1 : Int) (a2 : Int) (r : Bool) (h0 : g63 a0 a1 a2 = some r) : FnOK C c63 ⟨[iV a0, iV a1, iV a2], []⟩ ⟨.bool r, [], []⟩ := by
 refine fn_ (nl rfl) (seq_ (reg_ (st (mvc_ tv (oe_ (wk_ ⟨[(0, iV a0), (1, iV a1), (2, iV a2)], [], []⟩ (fgk (by kernel_rfl)) (seq_ (reg_ (st (mv_ rfl tv (st (mv_ rfl tv (st (c_ (cp_ t3 rfl tv) (st (mv_ rfl tv (st (pg_ (u := iV a0) rfl (fun hg => (cmv (v := iV a0) rfl tv)) (st (pg_ (u := iV a2) rfl (fun hg => (cmv (v := iV a2) rfl tv)) (st (pg_ (u := .bool (decide (a0 ≤ a2))) rfl (fun hg => (cp_ ⟨(fun _ => hg), (fun _ => hg), tv⟩ rfl tv)) (st (pick_ rfl rfl rfl (fun h => eqt h) tv rfl (st (mv_ rfl tv (oe_ (wk_ ⟨[(6, .bool (bif (decide (a1 ≤ a0)) then (decide (a0 ≤ a2)) else false))], [], []⟩ (fgk (by kernel_rfl)) ?_))))))))))))))))))))))))))))
 obtain rfl := Option.some.inj h0
 exact rt_ (ret_ rfl rfl rfl rfl rfl tv)

/- loop.example/g00149/impl.isSerial -/
def c58_r0 : List Ins := [⟨some 2, .p (.mv (.c (.bool false))), none⟩]
def c58_r1 : List Ins := [(iQ 3 (.mv (.t 0))),
⟨some 4, .call 63 [(.t 3), (.c (iV 1)), (.c (iV 1000000))], none⟩,
(iQ 2 (.mv (.t 4)))]
def c58 : XFn := { np := 1, nt := 5, res := [.t 2], body := (.seq (.reg c58_r0) (.seq (.reg c58_r1) .ret)) }
def K58 (C : CRel) : Prop := ∀ (a0 : Int) (r : Bool), g58 a0 = some r → C 58 ⟨[iV a0], []⟩ ⟨.bool r, [], []⟩
theorem F58 {C : CRel} (H63 : K63 C) (a0 : Int) (r : Bool) (h0 : g58 a0 = some r) : FnOK C c58 ⟨[iV a0], []⟩ ⟨.bool r, [], []⟩ := by
 refine fn_ (nl rfl) (seq_ (reg_ (st (mvc_ tv (oe_ (wk_ ⟨[(0, iV a0)], [], []⟩ (fgk (by kernel_rfl)) (seq_ (reg_ (st (mv_ rfl tv ?_))))))))))
 obtain ⟨r1, e2, h0⟩ := bnd h0
 refine st (call0_ (r := .bool r1) false (H63 a0 1 1000000 r1 e2) ⟨tv, tv, tv, tv⟩ rfl rfl (fun _ => rfl) (st (mv_ rfl tv (oe_ (wk_ ⟨[(2, .bool r1)], [], []⟩ (fgk (by kernel_rfl)) ?_)))))
 obtain rfl := Option.some.inj h0
 exact rt_ (ret_ rfl rfl rfl rfl rfl tv)

/- loop.example/g00149/impl.rises -/
def c59_r0 : List Ins := [⟨some 6, .p (.mv (.c (.bool false))), none⟩]
def c59_r1 : List Ins := [(iQ 9 (.mv (.t 0))),
(iQ 10 (.len (.t 9))),
⟨some 11, .p (.mv (.c (iV 0))), none⟩]
def c59_r2 : List Ins := [(iQ 12 (.bin .lss (.t 11) (.t 10)))]
def c59_r3 : List Ins := [(iQ 13 (.mv (.t 11))),
(iQ 14 (.idxA (.t 9) (.t 11) 1)),
(iQ 15 (.load (.t 14) 1 false)),
(iQ 7 (.mv (.t 13))),
(iQ 8 (.mv (.t 15)))]
def c59_r4 : List Ins := [(iQ 16 (.mv (.t 8))),
(iQ 17 (.mv (.t 1))),
(iQ 18 (.mv (.t 2))),
⟨some 19, .call 63 [(.t 16), (.t 17), (.t 18)], none⟩,
(iQ 20 (.un .not (.t 19))),
(iQ 21 (.mv (.t 20))),
⟨some 22, .p (.mv (.t 7)), some (21, false)⟩,
⟨some 23, .p (.bin .gtr (.t 22) (.c (iV 0))), some (21, false)⟩,
⟨some 24, .p (.mv (.t 23)), some (21, false)⟩,
⟨some 25, .p (.mv (.t 0)), some (24, true)⟩,
⟨some 26, .p (.mv (.t 7)), some (24, true)⟩,
⟨some 27, .p (.bin .sub (.t 26) (.c (iV 1))), some (24, true)⟩,
⟨some 28, .p (.idxA (.t 25) (.t 27) 1), some (24, true)⟩,
⟨some 29, .p (.load (.t 28) 1 false), some (24, true)⟩,
⟨some 30, .p (.mv (.t 8)), some (24, true)⟩,
⟨some 31, .p (.bin .geq (.t 29) (.t 30)), some (24, true)⟩,
⟨some 32, .pick (.t 24) (.t 31) (.c (.bool false)), some (21, false)⟩,
⟨some 33, .pick (.t 21) (.c (.bool true)) (.t 32), none⟩]
def c59_r5 : List Ins := [⟨some 6, .p (.mv (.c (.bool false))), none⟩]
def c59_r6 : List Ins := [⟨some 34, .p (.bin .add (.t 11) (.c (iV 1))), none⟩,
(iQ 11 (.mv (.t 34)))]
def c59_l0 : IR := (.seq (.reg c59_r2) (.seq (.ite (.t 12) .skip (.exit 0)) (.seq (.block 1 (.seq (.reg c59_r3) (.seq (.reg c59_r4) (.ite (.t 33) (.seq (.reg c59_r5) .ret) .skip)))) (.reg c59_r6))))
def c59_r7 : List Ins := [⟨some 6, .p (.mv (.c (.bool true))), none⟩]
def c59 : XFn := { np := 3, nt := 35, res := [.t 6], body := (.seq (.reg c59_r0) (.seq (.seq (.reg c59_r1) (.block 0 (.loop c59_l0))) (.seq (.reg c59_r7) .ret))) }
def K59 (C : CRel) : Prop := ∀ (a0 : List Int) (a1 : Int) (a2 : Int) (r : Bool), g59 a0 a1 a2 = some r → C 59 ⟨[.lst 1 (a0.map eI), iV a1, iV a2], []⟩ ⟨.bool r, [], []⟩
theorem F59 {C : CRel} (H63 : K63 C) (a0 : List Int) (a1 : Int) (a2 : Int) (r : Bool) (h0 : g59 a0 a1 a2 = some r) : FnOK C c59 ⟨[.lst 1 (a0.map eI), iV a1, iV a2], []⟩ ⟨.bool r, [], []⟩ := by
 refine fn_ (nl rfl) (seq_ (reg_ (st (mvc_ tv (oe_ (wk_ ⟨[(0, .lst 1 (a0.map eI)), (1, iV a1), (2, iV a2)], [], []⟩ (fgk (by kernel_rfl)) (seq_ (seq_ (reg_ (st (mv_ rfl tv (st (c_ (clenL (e := eI) (l0 := a0) rfl rfl tv) (st (mvc_ tv (oe_ (wk_ ⟨[(0, .lst 1 (a0.map eI)), (1, iV a1), (2, iV a2), (9, .lst 1 (a0.map eI)), (10, iV (a0.length : Int)), (11, iV 0)], [], []⟩ (fgk (by kernel_rfl)) (block_ ?_))))))))))))))))))
 obtain ⟨r33, e34, h0⟩ := bnd h0
 refine loop_ (R := (fun S => .inl () = r33 ∧ S = ⟨[], [], []⟩)) (g59_l0 a0 a1 a2) (fun s S => match s with | p11 => S = ⟨[(0, .lst 1 (a0.map eI)), (1, iV a1), (2, iV a2), (9, .lst 1 (a0.map eI)), (10, iV (a0.length : Int)), (11, iV p11)], [], []⟩) e34 ⟨[(0, .lst 1 (a0.map eI)), (1, iV a1), (2, iV a2), (9, .lst 1 (a0.map eI)), (10, iV (a0.length : Int)), (11, iV 0)], [], []⟩ (fgk (by kernel_rfl)) rfl 0 (fun _ => rfl) ?_ ?_
 ·rintro S _ hfg ⟨rfl, rfl⟩
  refine wk_ ⟨[], [], []⟩ (fglk hfg (by kernel_rfl)) (seq_ (reg_ (st (mvc_ tv (oe_ (wk_ ⟨[(6, .bool true)], [], []⟩ (fgk (by kernel_rfl)) ?_))))))
  obtain rfl := Option.some.inj h0
  exact rt_ (ret_ rfl rfl rfl rfl rfl tv)
 ·rintro p11 o1 _ K1 rfl h1 hx1 hK1 hE1 hR1
  refine seq_ (reg_ (st (c_ (cp_ t3 rfl tv) (oe_ (wk_ ⟨[(0, .lst 1 (a0.map eI)), (1, iV a1), (2, iV a2), (9, .lst 1 (a0.map eI)), (10, iV (a0.length : Int)), (11, iV p11), (12, .bool (decide (p11 < (a0.length : Int))))], [], []⟩ (fgk (by kernel_rfl)) (seq_ (ite_ (cb := (decide (p11 < (a0.length : Int)))) rfl (fun c23 => ?_) (fun c23 => ?_))))))))
  ·replace h1 := ip c23 h1
   refine sk_ (wk_ ⟨[(0, .lst 1 (a0.map eI)), (1, iV a1), (2, iV a2), (9, .lst 1 (a0.map eI)), (10, iV (a0.length : Int)), (11, iV p11)], [], []⟩ (fgk (by kernel_rfl)) (seq_ (block_ (seq_ (reg_ (st (mv_ rfl tv ?_)))))))
   obtain ⟨y24, e25, h1⟩ := bnd h1
   refine st (c_ (cidxL (e := eI) (y := y24) rfl rfl tv rfl rfl tv e25) (st (c_ (cp_ ⟨tv, tv⟩ rfl (nl rfl)) (st (mv_ rfl tv (st (mv_ rfl tv (oe_ (wk_ ⟨[(0, .lst 1 (a0.map eI)), (1, iV a1), (2, iV a2), (7, iV p11), (8, iV y24), (9, .lst 1 (a0.map eI)), (10, iV (a0.length : Int)), (11, iV p11)], [], []⟩ (fgk (by kernel_rfl)) (seq_ (reg_ (st (mv_ rfl tv (st (mv_ rfl tv (st (mv_ rfl tv ?_)))))))))))))))))
   obtain ⟨r26, e27, h1⟩ := bnd h1
   refine st (call0_ (r := .bool r26) false (H63 y24 a1 a2 r26 e27) ⟨tv, tv, tv, tv⟩ rfl rfl (fun _ => rfl) (st (c_ (cp_ ⟨tv, tv⟩ rfl tv) (st (mv_ rfl tv (st (pg_ (u := iV p11) rfl (fun hg => (cmv (v := iV p11) rfl tv)) (st (pg_ (u := .bool (decide (p11 > 0))) rfl (fun hg => (cp_ ⟨(fun _ => hg), tv, tv⟩ rfl tv)) (st (pg_ (u := .bool (decide (p11 > 0))) rfl (fun hg => (cmv (v := .may ((!r26) == false) (.bool (decide (p11 > 0)))) rfl (fun _ => hg))) (st (pg_ (u := .lst 1 (a0.map eI)) rfl (fun hg => (cmv (v := .lst 1 (a0.map eI)) rfl tv)) (st (pg_ (u := iV p11) rfl (fun hg => (cmv (v := iV p11) rfl tv)) (st (pg_ (u := iV (IntKind.i64.wrap (p11 - 1))) rfl (fun hg => (cp_ ⟨(fun _ => hg), tv, tv⟩ rfl tv)) ?_)))))))))))))))))
   obtain ⟨y28, e29, h1⟩ := bnd h1
   refine sw ⟨[(0, .lst 1 (a0.map eI)), (1, iV a1), (2, iV a2), (8, iV y24), (9, .lst 1 (a0.map eI)), (10, iV (a0.length : Int)), (11, iV p11), (21, .bool (!r26)), (24, .may ((!r26) == false) (.bool (decide (p11 > 0)))), (25, .may (((!r26) == false) && ((decide (p11 > 0)) == true)) (.lst 1 (a0.map eI))), (27, .may (((!r26) == false) && ((decide (p11 > 0)) == true)) (iV (IntKind.i64.wrap (p11 - 1))))], [], []⟩ (fgk (by kernel_rfl)) (pg_ (u := .iptr [iV y28]) rfl (fun hg => (cidxL (e := eI) (y := y28) rfl rfl (fun _ => hg) rfl rfl (fun _ => hg) (ip hg e29))) (st (pg_ (u := iV y28) rfl (fun hg => (cp_ ⟨(fun _ => hg), tv⟩ rfl (nl rfl))) (st (pg_ (u := iV y24) rfl (fun hg => (cmv (v := iV y24) rfl tv)) (st (pg_ (u := .bool (decide (y28 ≥ y24))) rfl (fun hg => (cp_ ⟨(fun _ => hg), (fun _ => hg), tv⟩ rfl tv)) (st (pickg_ (u := .bool (bif (decide (p11 > 0)) then (decide (y28 ≥ y24)) else false)) rfl (fun hg => cpick rfl rfl (fun _ => hg) rfl rfl (fun h => and_ hg (eqt h)) tv rfl) (st (pick_ rfl rfl rfl tv (fun h => eqf h) rfl (oe_ ?_))))))))))))
   obtain ⟨v30, e31, h1⟩ := bl h1
   refine wk_ ⟨[(0, .lst 1 (a0.map eI)), (1, iV a1), (2, iV a2), (9, .lst 1 (a0.map eI)), (10, iV (a0.length : Int)), (11, iV p11), (33, .bool v30)], [], []⟩ (fgk (by subst e31; kernel_rfl)) (ite_ (cb := v30) rfl (fun c32 => ?_) (fun c32 => ?_))
   ·replace h1 := ip c32 h1
    refine seq_ (reg_ (st (mvc_ tv (oe_ (wk_ ⟨[(6, .bool false)], [], []⟩ (fgk (by kernel_rfl)) ?_)))))
    obtain rfl := Option.some.inj h1
    obtain rfl := hx1 _ rfl
    obtain rfl := Option.some.inj h0
    exact rt_ (hR1 _ (ret_ rfl rfl rfl rfl rfl tv))
   ·replace h1 := inb c32 h1
    refine sk_ (bn_ (wk_ ⟨[(0, .lst 1 (a0.map eI)), (1, iV a1), (2, iV a2), (9, .lst 1 (a0.map eI)), (10, iV (a0.length : Int)), (11, iV p11)], [], []⟩ (fgk (by kernel_rfl)) (reg_ (st (c_ (cp_ t3 rfl tv) (st (mv_ rfl tv (oe_ ?_))))))))
    obtain rfl := Option.some.inj h1
    exact hK1 _ rfl _ ⟨[(0, .lst 1 (a0.map eI)), (1, iV a1), (2, iV a2), (9, .lst 1 (a0.map eI)), (10, iV (a0.length : Int)), (11, iV (IntKind.i64.wrap (p11 + 1)))], [], []⟩ (fgk (by kernel_rfl)) rfl
  ·replace h1 := inb c23 h1
   obtain rfl := Option.some.inj h1
   obtain rfl := hx1 _ rfl
   refine exQ rfl ?_
   exact hE1 _ ⟨[], [], []⟩ (fgk (by kernel_rfl)) ⟨rfl, rfl⟩

/- loop.example/g00149/impl.isList[int] -/
def c87_r0 : List Ins := [⟨some 2, .p (.mv (.c (.bool false))), none⟩]
def c87_r1 : List Ins := [(iQ 3 (.mv (.t 0))),
(iQ 4 (.len (.t 3))),
⟨some 5, .p (.bin .leq (.t 4) (.c (iV 4096))), none⟩,
(iQ 2 (.mv (.t 5)))]
def c87 : XFn := { np := 1, nt := 6, res := [.t 2], body := (.seq (.reg c87_r0) (.seq (.reg c87_r1) .ret)) }
def K87 (C : CRel) : Prop := ∀ (a0 : List Int) (r : Bool), g87 a0 = some r → C 87 ⟨[.lst 1 (a0.map eI)], []⟩ ⟨.bool r, [], []⟩
theorem F87 {C : CRel}  (a0 : List Int) (r : Bool) (h0 : g87 a0 = some r) : FnOK C c87 ⟨[.lst 1 (a0.map eI)], []⟩ ⟨.bool r, [], []⟩ := by
 refine fn_ (nl rfl) (seq_ (reg_ (st (mvc_ tv (oe_ (wk_ ⟨[(0, .lst 1 (a0.map eI))], [], []⟩ (fgk (by kernel_rfl)) (seq_ (reg_ (st (mv_ rfl tv (st (c_ (clenL (e := eI) (l0 := a0) rfl rfl tv) (st (c_ (cp_ t3 rfl tv) (st (mv_ rfl tv (oe_ (wk_ ⟨[(2, .bool (decide ((a0.length : Int) ≤ 4096)))], [], []⟩ (fgk (by kernel_rfl)) ?_))))))))))))))))))
 obtain rfl := Option.some.inj h0
 exact rt_ (ret_ rfl rfl rfl rfl rfl tv)

/- loop.example/g00149/impl.isFate -/
def c88_r0 : List Ins := [⟨some 2, .p (.mv (.c (.bool false))), none⟩]
def c88_r1 : List Ins := [(iQ 3 (.mv (.t 0))),
⟨some 4, .call 63 [(.t 3), (.c (iV 0)), (.c (iV 2))], none⟩,
(iQ 2 (.mv (.t 4)))]
def c88 : XFn := { np := 1, nt := 5, res := [.t 2], body := (.seq (.reg c88_r0) (.seq (.reg c88_r1) .ret)) }
def K88 (C : CRel) : Prop := ∀ (a0 : Int) (r : Bool), g88 a0 = some r → C 88 ⟨[iV a0], []⟩ ⟨.bool r, [], []⟩
theorem F88 {C : CRel} (H63 : K63 C) (a0 : Int) (r : Bool) (h0 : g88 a0 = some r) : FnOK C c88 ⟨[iV a0], []⟩ ⟨.bool r, [], []⟩ := by
 refine fn_ (nl rfl) (seq_ (reg_ (st (mvc_ tv (oe_ (wk_ ⟨[(0, iV a0)], [], []⟩ (fgk (by kernel_rfl)) (seq_ (reg_ (st (mv_ rfl tv ?_))))))))))
 obtain ⟨r1, e2, h0⟩ := bnd h0
 refine st (call0_ (r := .bool r1) false (H63 a0 0 2 r1 e2) ⟨tv, tv, tv, tv⟩ rfl rfl (fun _ => rfl) (st (mv_ rfl tv (oe_ (wk_ ⟨[(2, .bool r1)], [], []⟩ (fgk (by kernel_rfl)) ?_)))))
 obtain rfl := Option.some.inj h0
 exact rt_ (ret_ rfl rfl rfl rfl rfl tv)

/- slices.Clone[[]int,int] -/
def c120_r0 : List Ins := [⟨some 2, .nilS 1, none⟩]
def c120_r1 : List Ins := [(iQ 3 (.mv (.t 0))),
⟨some 4, .isnil (.t 3) false, none⟩]
def c120_r2 : List Ins := [⟨some 2, .nilS 1, none⟩]
def c120_r3 : List Ins := [⟨some 5, .mkS 1 [(iV 0)] 0 [], none⟩,
(iQ 6 (.mv (.t 0))),
⟨some 7, .app 1 8 (.t 5) (.t 6), none⟩,
(iQ 2 (.mv (.t 7)))]
def c120 : XFn := { np := 1, nt := 8, res := [.t 2], body := (.seq (.reg c120_r0) (.seq (.seq (.reg c120_r1) (.ite (.t 4) (.seq (.reg c120_r2) .ret) .skip)) (.seq (.reg c120_r3) .ret))) }
def K120 (C : CRel) : Prop := ∀ (a0 : List Int) (r : List Int), g120 a0 = some r → C 120 ⟨[.lst 1 (a0.map eI)], []⟩ ⟨.own 0 0 1 (r.map eI), [], []⟩
theorem F120 {C : CRel} (a0 : List Int) (r : List Int) (h0 : g120 a0 = some r) : FnOK C c120 ⟨[.lst 1 (a0.map eI)], []⟩ ⟨.own 0 0 1 (r.map eI), [], []⟩ := by
 refine fn_ (nl rfl) ?_
 obtain ⟨hc, h0⟩ := grd h0
 obtain rfl := Option.some.inj h0
 refine seq_ (reg_ (st (nilS_ (oe_ (wk_ ⟨[(0, .lst 1 (a0.map eI))], [], []⟩ (fg ⟨rfl, tv⟩ tv) (seq_ (seq_ (reg_ (st (mv_ rfl tv (st (isnilL (e := eI) (l0 := a0) rfl fun b hb => (oe_ (w0_ (ite_ (cb := b) rfl (fun h => ?_) (fun h => ?_))))))))))))))))
 ·obtain rfl := hb h
  refine seq_ (reg_ (st (nilS_ (oe_ (w0_ ?_)))))
  refine rt_ (ret_ rfl rfl rfl rfl rfl tv)
 ·refine sk_ ?_
  refine wk_ ⟨[(0, .lst 1 (a0.map eI))], [], []⟩ (fg ⟨rfl, tv⟩ tv) (seq_ (reg_ (st (mkS_ tv tv (st (mv_ rfl tv (st (app_ (e := eI) (l0 := ([] : List Int)) (l1 := a0) rfl rfl tv rfl (by decide) ?_ ?_))))))))
  rotate_left
  refine st (mv_ rfl tv (oe_ (w0_ ?_)))
  refine rt_ (ret_ rfl rfl rfl rfl rfl tv)
  have := Nat.mul_le_mul_right 8 hc
  exact Nat.le_trans this (by decide)

/- cmp.isNaN[int] -/
def c136_r0 : List Ins := [⟨some 2, .p (.mv (.c (.bool false))), none⟩]
def c136_r1 : List Ins := [(iQ 3 (.mv (.t 0))),
(iQ 4 (.mv (.t 0))),
(iQ 5 (.bin .neq (.t 3) (.t 4))),
(iQ 2 (.mv (.t 5)))]
def c136 : XFn := { np := 1, nt := 6, res := [.t 2], body := (.seq (.reg c136_r0) (.seq (.reg c136_r1) .ret)) }
def K136 (C : CRel) : Prop := ∀ (a0 : Int) (r : Bool), g136 a0 = some r → C 136 ⟨[iV a0], []⟩ ⟨.bool r, [], []⟩
theorem F136 {C : CRel}  (a0 : Int) (r : Bool) (h0 : g136 a0 = some r) : FnOK C c136 ⟨[iV a0], []⟩ ⟨.bool r, [], []⟩ := by
 refine fn_ (nl rfl) (seq_ (reg_ (st (mvc_ tv (oe_ (wk_ ⟨[(0, iV a0)], [], []⟩ (fgk (by kernel_rfl)) (seq_ (reg_ (st (mv_ rfl tv (st (mv_ rfl tv (st (c_ (cp_ t3 rfl tv) (st (mv_ rfl tv (oe_ (wk_ ⟨[(2, .bool (a0 != a0))], [], []⟩ (fgk (by kernel_rfl)) ?_))))))))))))))))))
 obtain rfl := Option.some.inj h0
 exact rt_ (ret_ rfl rfl rfl rfl rfl tv)

/- cmp.Less[int] -/
def c140_r0 : List Ins := [⟨some 4, .p (.mv (.c (.bool false))), none⟩]
def c140_r1 : List Ins := [(iQ 5 (.mv (.t 0))),
⟨some 6, .call 136 [(.t 5)], none⟩,
(iQ 7 (.mv (.t 6))),
⟨some 8, .p (.mv (.t 1)), some (7, true)⟩,
⟨some 9, .call 136 [(.t 8)], some (7, true)⟩,
⟨some 10, .p (.un .not (.t 9)), some (7, true)⟩,
⟨some 11, .pick (.t 7) (.t 10) (.c (.bool false)), none⟩,
(iQ 12 (.mv (.t 11))),
⟨some 13, .p (.mv (.t 0)), some (12, false)⟩,
⟨some 14, .p (.mv (.t 1)), some (12, false)⟩,
⟨some 15, .p (.bin .lss (.t 13) (.t 14)), some (12, false)⟩,
⟨some 16, .pick (.t 12) (.c (.bool true)) (.t 15), none⟩,
(iQ 4 (.mv (.t 16)))]
def c140 : XFn := { np := 2, nt := 17, res := [.t 4], body := (.seq (.reg c140_r0) (.seq (.reg c140_r1) .ret)) }
def K140 (C : CRel) : Prop := ∀ (a0 : Int) (a1 : Int) (r : Bool), g140 a0 a1 = some r → C 140 ⟨[iV a0, iV a1], []⟩ ⟨.bool r, [], []⟩
theorem F140 {C : CRel} (H136 : K136 C) (a0 : Int) (a1 : Int) (r : Bool) (h0 : g140 a0 a1 = some r) : FnOK C c140 ⟨[iV a0, iV a1], []⟩ ⟨.bool r, [], []⟩ := by
 refine fn_ (nl rfl) (seq_ (reg_ (st (mvc_ tv (oe_ (wk_ ⟨[(0, iV a0), (1, iV a1)], [], []⟩ (fgk (by kernel_rfl)) (seq_ (reg_ (st (mv_ rfl tv ?_))))))))))
 obtain ⟨r1, e2, h0⟩ := bnd h0
 refine st (call0_ (r := .bool r1) false (H136 a0 r1 e2) ⟨tv, tv⟩ rfl rfl (fun _ => rfl) (st (mv_ rfl tv (st (pg_ (u := iV a1) rfl (fun hg => (cmv (v := iV a1) rfl tv)) ?_)))))
 obtain ⟨r3, e4, h0⟩ := bnd h0
 refine sw ⟨[(0, iV a0), (1, iV a1), (7, .bool r1), (8, .may (r1 == true) (iV a1))], [], []⟩ (fgk (by kernel_rfl)) (callg_ (r := .bool r3) rfl false (fun hg => H136 a1 r3 (ip hg e4)) ⟨(fun hg => hg), tv⟩ (fun _ => rfl) (fun _ => rfl) (fun _ => rfl) (fun h => nomatch h) (st (pg_ (u := .bool (!r3)) rfl (fun hg => (cp_ ⟨(fun _ => hg), tv⟩ rfl tv)) (st (pick_ rfl rfl rfl (fun h => eqt h) tv rfl (st (mv_ rfl tv (st (pg_ (u := iV a0) rfl (fun hg => (cmv (v := iV a0) rfl tv)) (st (pg_ (u := iV a1) rfl (fun hg => (cmv (v := iV a1) rfl tv)) (st (pg_ (u := .bool (decide (a0 < a1))) rfl (fun hg => (cp_ ⟨(fun _ => hg), (fun _ => hg), tv⟩ rfl tv)) (st (pick_ rfl rfl rfl tv (fun h => eqf h) rfl (st (mv_ rfl tv (oe_ ?_))))))))))))))))))
 obtain ⟨v5, e6, h0⟩ := bl h0
 refine wk_ ⟨[(4, .bool v5)], [], []⟩ (fgk (by subst e6; kernel_rfl)) ?_
 obtain rfl := Option.some.inj h0
 exact rt_ (ret_ rfl rfl rfl rfl rfl tv)

/- slices.isNaN[int] -/
def c141_r0 : List Ins := [⟨some 2, .p (.mv (.c (.bool false))), none⟩]
def c141_r1 : List Ins := [(iQ 3 (.mv (.t 0))),
(iQ 4 (.mv (.t 0))),
(iQ 5 (.bin .neq (.t 3) (.t 4))),
(iQ 2 (.mv (.t 5)))]
def c141 : XFn := { np := 1, nt := 6, res := [.t 2], body := (.seq (.reg c141_r0) (.seq (.reg c141_r1) .ret)) }
def K141 (C : CRel) : Prop := ∀ (a0 : Int) (r : Bool), g141 a0 = some r → C 141 ⟨[iV a0], []⟩ ⟨.bool r, [], []⟩
theorem F141 {C : CRel}  (a0 : Int) (r : Bool) (h0 : g141 a0 = some r) : FnOK C c141 ⟨[iV a0], []⟩ ⟨.bool r, [], []⟩ := by
 refine fn_ (nl rfl) (seq_ (reg_ (st (mvc_ tv (oe_ (wk_ ⟨[(0, iV a0)], [], []⟩ (fgk (by kernel_rfl)) (seq_ (reg_ (st (mv_ rfl tv (st (mv_ rfl tv (st (c_ (cp_ t3 rfl tv) (st (mv_ rfl tv (oe_ (wk_ ⟨[(2, .bool (a0 != a0))], [], []⟩ (fgk (by kernel_rfl)) ?_))))))))))))))))))
 obtain rfl := Option.some.inj h0
 exact rt_ (ret_ rfl rfl rfl rfl rfl tv)

/- slices.BinarySearch[[]int,int] -/
def c121_r0 : List Ins := [⟨some 4, .p (.mv (.c (iV 0))), none⟩,
⟨some 5, .p (.mv (.c (.bool false))), none⟩]
def c121_r1 : List Ins := [(iQ 10 (.mv (.t 0))),
(iQ 11 (.len (.t 10))),
(iQ 6 (.mv (.t 11)))]
def c121_r2 : List Ins := [(iQ 12 (.mv (.t 6))),
⟨some 7, .p (.mv (.c (iV 0))), none⟩,
(iQ 8 (.mv (.t 12)))]
def c121_r3 : List Ins := [(iQ 13 (.mv (.t 7))),
(iQ 14 (.mv (.t 8))),
(iQ 15 (.bin .lss (.t 13) (.t 14)))]
def c121_r4 : List Ins := [(iQ 16 (.mv (.t 7))),
(iQ 17 (.mv (.t 8))),
(iQ 18 (.bin .add (.t 16) (.t 17))),
(iQ 19 (.conv .u64 (.t 18))),
⟨some 20, .p (.bin .shr (.t 19) (.c (.int .u64 1))), none⟩,
(iQ 21 (.conv .i64 (.t 20))),
(iQ 9 (.mv (.t 21)))]
def c121_r5 : List Ins := [(iQ 22 (.mv (.t 0))),
(iQ 23 (.mv (.t 9))),
(iQ 24 (.idxA (.t 22) (.t 23) 1)),
(iQ 25 (.load (.t 24) 1 false)),
(iQ 26 (.mv (.t 1))),
⟨some 27, .call 140 [(.t 25), (.t 26)], none⟩]
def c121_r6 : List Ins := [(iQ 28 (.mv (.t 9))),
⟨some 29, .p (.bin .add (.t 28) (.c (iV 1))), none⟩,
(iQ 7 (.mv (.t 29)))]
def c121_r7 : List Ins := [(iQ 30 (.mv (.t 9))),
(iQ 8 (.mv (.t 30)))]
def c121_l0 : IR := (.seq (.seq (.reg c121_r3) (.ite (.t 15) .skip (.exit 0))) (.block 1 (.seq (.reg c121_r4) (.seq (.reg c121_r5) (.ite (.t 27) (.reg c121_r6) (.reg c121_r7))))))
def c121_r8 : List Ins := [(iQ 31 (.mv (.t 7))),
(iQ 32 (.mv (.t 7))),
(iQ 33 (.mv (.t 6))),
(iQ 34 (.bin .lss (.t 32) (.t 33))),
(iQ 35 (.mv (.t 34))),
⟨some 36, .p (.mv (.t 0)), some (35, true)⟩,
⟨some 37, .p (.mv (.t 7)), some (35, true)⟩,
⟨some 38, .p (.idxA (.t 36) (.t 37) 1), some (35, true)⟩,
⟨some 39, .p (.load (.t 38) 1 false), some (35, true)⟩,
⟨some 40, .p (.mv (.t 1)), some (35, true)⟩,
⟨some 41, .p (.bin .eql (.t 39) (.t 40)), some (35, true)⟩,
⟨some 42, .p (.mv (.t 41)), some (35, true)⟩,
⟨some 43, .p (.mv (.t 0)), some (42, false)⟩,
⟨some 44, .p (.mv (.t 7)), some (42, false)⟩,
⟨some 45, .p (.idxA (.t 43) (.t 44) 1), some (42, false)⟩,
⟨some 46, .p (.load (.t 45) 1 false), some (42, false)⟩,
⟨some 47, .call 141 [(.t 46)], some (42, false)⟩,
⟨some 48, .p (.mv (.t 47)), some (42, false)⟩,
⟨some 49, .p (.mv (.t 1)), some (48, true)⟩,
⟨some 50, .call 141 [(.t 49)], some (48, true)⟩,
⟨some 51, .pick (.t 48) (.t 50) (.c (.bool false)), some (42, false)⟩,
⟨some 52, .pick (.t 42) (.c (.bool true)) (.t 51), some (35, true)⟩,
⟨some 53, .pick (.t 35) (.t 52) (.c (.bool false)), none⟩,
(iQ 4 (.mv (.t 31))),
(iQ 5 (.mv (.t 53)))]
def c121 : XFn := { np := 2, nt := 54, res := [.t 4, .t 5], body := (.seq (.reg c121_r0) (.seq (.reg c121_r1) (.seq (.reg c121_r2) (.seq (.block 0 (.loop c121_l0)) (.seq (.reg c121_r8) .ret))))) }
def K121 (C : CRel) : Prop := ∀ (a0 : List Int) (a1 : Int) (r : Int × Bool), g121 a0 a1 = some r → C 121 ⟨[.lst 1 (a0.map eI), iV a1], []⟩ ⟨.tup [iV r.1, .bool r.2], [], []⟩
theorem F121 {C : CRel} (H140 : K140 C) (H141 : K141 C) (a0 : List Int) (a1 : Int) (r : Int × Bool) (h0 : g121 a0 a1 = some r) : FnOK C c121 ⟨[.lst 1 (a0.map eI), iV a1], []⟩ ⟨.tup [iV r.1, .bool r.2], [], []⟩ := by
 refine fn_ (nl rfl) (seq_ (reg_ (st (mvc_ tv (st (mvc_ tv (oe_ (wk_ ⟨[(0, .lst 1 (a0.map eI)), (1, iV a1)], [], []⟩ (fgk (by kernel_rfl)) (seq_ (reg_ (st (mv_ rfl tv (st (c_ (clenL (e := eI) (l0 := a0) rfl rfl tv) (st (mv_ rfl tv (oe_ (wk_ ⟨[(0, .lst 1 (a0.map eI)), (1, iV a1), (6, iV (a0.length : Int))], [], []⟩ (fgk (by kernel_rfl)) (seq_ (reg_ (st (mv_ rfl tv (st (mvc_ tv (st (mv_ rfl tv (oe_ (wk_ ⟨[(0, .lst 1 (a0.map eI)), (1, iV a1), (6, iV (a0.length : Int)), (7, iV 0), (8, iV (a0.length : Int))], [], []⟩ (fgk (by kernel_rfl)) (seq_ (block_ ?_))))))))))))))))))))))))))))))
 obtain ⟨r30, e31, h0⟩ := bnd h0
 refine loop_ (R := (fun S => ∃ p21 : Int, p21 = r30 ∧ S = ⟨[(0, .lst 1 (a0.map eI)), (1, iV a1), (6, iV (a0.length : Int)), (7, iV p21)], [], []⟩)) (g121_l0 a0 a1) (fun s S => match s with | (p9, p10) => S = ⟨[(0, .lst 1 (a0.map eI)), (1, iV a1), (6, iV (a0.length : Int)), (7, iV p9), (8, iV p10)], [], []⟩) e31 ⟨[(0, .lst 1 (a0.map eI)), (1, iV a1), (6, iV (a0.length : Int)), (7, iV 0), (8, iV (a0.length : Int))], [], []⟩ (fgk (by kernel_rfl)) rfl 0 (fun _ => rfl) ?_ ?_
 ·rintro S _ hfg ⟨p21, rfl, rfl⟩
  refine wk_ ⟨[(0, .lst 1 (a0.map eI)), (1, iV a1), (6, iV (a0.length : Int)), (7, iV p21)], [], []⟩ (fglk hfg (by kernel_rfl)) (seq_ (reg_ (st (mv_ rfl tv (st (mv_ rfl tv (st (mv_ rfl tv (st (c_ (cp_ t3 rfl tv) (st (mv_ rfl tv (st (pg_ (u := .lst 1 (a0.map eI)) rfl (fun hg => (cmv (v := .lst 1 (a0.map eI)) rfl tv)) (st (pg_ (u := iV p21) rfl (fun hg => (cmv (v := iV p21) rfl tv)) ?_))))))))))))))))
  obtain ⟨y32, e33, h0⟩ := bnd h0
  refine st (pg_ (u := .iptr [iV y32]) rfl (fun hg => (cidxL (e := eI) (y := y32) rfl rfl (fun _ => hg) rfl rfl (fun _ => hg) (ip hg e33))) (st (pg_ (u := iV y32) rfl (fun hg => (cp_ ⟨(fun _ => hg), tv⟩ rfl (nl rfl))) (st (pg_ (u := iV a1) rfl (fun hg => (cmv (v := iV a1) rfl tv)) (st (pg_ (u := .bool (y32 == a1)) rfl (fun hg => (cp_ ⟨(fun _ => hg), (fun _ => hg), tv⟩ rfl tv)) (st (pg_ (u := .bool (y32 == a1)) rfl (fun hg => (cmv (v := .may ((decide (p21 < (a0.length : Int))) == true) (.bool (y32 == a1))) rfl (fun _ => hg))) (st (pg_ (u := .lst 1 (a0.map eI)) rfl (fun hg => (cmv (v := .lst 1 (a0.map eI)) rfl tv)) (st (pg_ (u := iV p21) rfl (fun hg => (cmv (v := iV p21) rfl tv)) ?_)))))))))))))
  obtain ⟨y34, e35, h0⟩ := bnd h0
  refine st (pg_ (u := .iptr [iV y34]) rfl (fun hg => (cidxL (e := eI) (y := y34) rfl rfl (fun _ => hg) rfl rfl (fun _ => hg) (ip hg e35))) (sw ⟨[(1, iV a1), (31, iV p21), (35, .bool (decide (p21 < (a0.length : Int)))), (42, .may ((decide (p21 < (a0.length : Int))) == true) (.bool (y32 == a1))), (45, .may (((decide (p21 < (a0.length : Int))) == true) && ((y32 == a1) == false)) (.iptr [iV y34]))], [], []⟩ (fgk (by kernel_rfl)) (pg_ (u := iV y34) rfl (fun hg => (cp_ ⟨(fun _ => hg), tv⟩ rfl (nl rfl))) ?_)))
  obtain ⟨r36, e37, h0⟩ := bnd h0
  refine st (callg_ (r := .bool r36) rfl false (fun hg => H141 y34 r36 (ip hg e37)) ⟨(fun hg => hg), tv⟩ (fun _ => rfl) (fun _ => rfl) (fun _ => rfl) (fun h => nomatch h) (st (pg_ (u := .bool r36) rfl (fun hg => (cmv (v := .may (((decide (p21 < (a0.length : Int))) == true) && ((y32 == a1) == false)) (.bool r36)) rfl (fun _ => hg))) (st (pg_ (u := iV a1) rfl (fun hg => (cmv (v := iV a1) rfl tv)) ?_)))))
  obtain ⟨r38, e39, h0⟩ := bnd h0
  refine sw ⟨[(31, iV p21), (35, .bool (decide (p21 < (a0.length : Int)))), (42, .may ((decide (p21 < (a0.length : Int))) == true) (.bool (y32 == a1))), (48, .may (((decide (p21 < (a0.length : Int))) == true) && ((y32 == a1) == false)) (.bool r36)), (49, .may ((((decide (p21 < (a0.length : Int))) == true) && ((y32 == a1) == false)) && (r36 == true)) (iV a1))], [], []⟩ (fgk (by kernel_rfl)) (callg_ (r := .bool r38) rfl false (fun hg => H141 a1 r38 (ip hg e39)) ⟨(fun hg => hg), tv⟩ (fun _ => rfl) (fun _ => rfl) (fun _ => rfl) (fun h => nomatch h) (st (pickg_ (u := .bool (bif r36 then r38 else false)) rfl (fun hg => cpick rfl rfl (fun _ => hg) rfl rfl (fun h => and_ hg (eqt h)) tv rfl) (st (pickg_ (u := .bool (bif (y32 == a1) then true else (bif r36 then r38 else false))) rfl (fun hg => cpick rfl rfl (fun _ => hg) rfl rfl tv (fun h => and_ hg (eqf h)) rfl) (st (pick_ rfl rfl rfl (fun h => eqt h) tv rfl (st (mv_ rfl tv (st (mv_ rfl tv (oe_ ?_))))))))))))
  obtain ⟨v40, e41, h0⟩ := bl h0
  refine wk_ ⟨[(4, iV p21), (5, .bool v40)], [], []⟩ (fgk (by subst e41; kernel_rfl)) ?_
  obtain rfl := Option.some.inj h0
  exact rt_ (ret_ rfl rfl rfl rfl rfl tv)
 ·rintro ⟨p9, p10⟩ o1 _ K1 rfl h1 hx1 hK1 hE1 hR1
  refine seq_ (seq_ (reg_ (st (mv_ rfl tv (st (mv_ rfl tv (st (c_ (cp_ t3 rfl tv) (oe_ (wk_ ⟨[(0, .lst 1 (a0.map eI)), (1, iV a1), (6, iV (a0.length : Int)), (7, iV p9), (8, iV p10), (15, .bool (decide (p9 < p10)))], [], []⟩ (fgk (by kernel_rfl)) (ite_ (cb := (decide (p9 < p10))) rfl (fun c22 => ?_) (fun c22 => ?_))))))))))))
  ·replace h1 := ip c22 h1
   refine sk_ (wk_ ⟨[(0, .lst 1 (a0.map eI)), (1, iV a1), (6, iV (a0.length : Int)), (7, iV p9), (8, iV p10)], [], []⟩ (fgk (by kernel_rfl)) (block_ (seq_ (reg_ (st (mv_ rfl tv (st (mv_ rfl tv (st (c_ (cp_ t3 rfl tv) (st (c_ (cp_ ⟨tv, tv⟩ rfl tv) (st (c_ (cp_ ⟨tv, tv, tv⟩ rfl (by decide)) (st (c_ (cp_ ⟨tv, tv⟩ rfl tv) (st (mv_ rfl tv (oe_ ?_)))))))))))))))))))
   obtain ⟨v23, e24, h1⟩ := bl h1
   refine wk_ ⟨[(0, .lst 1 (a0.map eI)), (1, iV a1), (6, iV (a0.length : Int)), (7, iV p9), (8, iV p10), (9, iV v23)], [], []⟩ (fgk (by subst e24; kernel_rfl)) (seq_ (reg_ (st (mv_ rfl tv (st (mv_ rfl tv ?_))))))
   obtain ⟨y25, e26, h1⟩ := bnd h1
   refine st (c_ (cidxL (e := eI) (y := y25) rfl rfl tv rfl rfl tv e26) (st (c_ (cp_ ⟨tv, tv⟩ rfl (nl rfl)) (st (mv_ rfl tv ?_)))))
   obtain ⟨r27, e28, h1⟩ := bnd h1
   refine st (call0_ (r := .bool r27) false (H140 y25 a1 r27 e28) ⟨tv, tv, tv⟩ rfl rfl (fun _ => rfl) (oe_ (wk_ ⟨[(0, .lst 1 (a0.map eI)), (1, iV a1), (6, iV (a0.length : Int)), (7, iV p9), (8, iV p10), (9, iV v23), (27, .bool r27)], [], []⟩ (fgk (by kernel_rfl)) (ite_ (cb := r27) rfl (fun c29 => ?_) (fun c29 => ?_)))))
   ·replace h1 := ip c29 h1
    refine reg_ (st (mv_ rfl tv (st (c_ (cp_ t3 rfl tv) (st (mv_ rfl tv (oe_ (bn_ ?_))))))))
    obtain rfl := Option.some.inj h1
    exact hK1 _ rfl _ ⟨[(0, .lst 1 (a0.map eI)), (1, iV a1), (6, iV (a0.length : Int)), (7, iV (IntKind.i64.wrap (v23 + 1))), (8, iV p10)], [], []⟩ (fgk (by kernel_rfl)) rfl
   ·replace h1 := inb c29 h1
    refine reg_ (st (mv_ rfl tv (st (mv_ rfl tv (oe_ (bn_ ?_))))))
    obtain rfl := Option.some.inj h1
    exact hK1 _ rfl _ ⟨[(0, .lst 1 (a0.map eI)), (1, iV a1), (6, iV (a0.length : Int)), (7, iV p9), (8, iV v23)], [], []⟩ (fgk (by kernel_rfl)) rfl
  ·replace h1 := inb c22 h1
   obtain rfl := Option.some.inj h1
   obtain rfl := hx1 _ rfl
   refine exQ rfl ?_
   exact hE1 _ ⟨[(0, .lst 1 (a0.map eI)), (1, iV a1), (6, iV (a0.length : Int)), (7, iV p9)], [], []⟩ (fgk (by kernel_rfl)) ⟨_, rfl, rfl⟩

/- slices.Insert[[]int,int] -/
def c122_r0 : List Ins := [⟨some 6, .nilS 1, none⟩]
def c122_r1 : List Ins := [(iQ 10 (.mv (.t 0))),
(iQ 11 (.mv (.t 1))),
⟨some 12, .p (.slice (.t 10) (some (.t 11)) none 1), none⟩]
def c122_r2 : List Ins := [(iQ 13 (.mv (.t 2))),
(iQ 14 (.len (.t 13))),
(iQ 7 (.mv (.t 14)))]
def c122_r3 : List Ins := [(iQ 15 (.mv (.t 7))),
⟨some 16, .p (.bin .eql (.t 15) (.c (iV 0))), none⟩]
def c122_r4 : List Ins := [(iQ 17 (.mv (.t 0))),
(iQ 6 (.mv (.t 17)))]
def c122_r5 : List Ins := [(iQ 18 (.mv (.t 0))),
(iQ 19 (.len (.t 18))),
(iQ 8 (.mv (.t 19)))]
def c122_r6 : List Ins := [(iQ 20 (.mv (.t 1))),
(iQ 21 (.mv (.t 8))),
(iQ 22 (.bin .eql (.t 20) (.t 21)))]
def c122_r7 : List Ins := [(iQ 23 (.mv (.t 0))),
(iQ 24 (.mv (.t 2))),
⟨some 25, .app 1 8 (.t 23) (.t 24), none⟩,
(iQ 6 (.mv (.t 25)))]
def c122_r8 : List Ins := [(iQ 26 (.mv (.t 8))),
(iQ 27 (.mv (.t 7))),
(iQ 28 (.bin .add (.t 26) (.t 27))),
(iQ 29 (.mv (.t 0))),
⟨some 30, .cap (.t 29), none⟩,
(iQ 31 (.bin .gtr (.t 28) (.t 30)))]
def c122_r9 : List Ins := [(iQ 32 (.mv (.t 0))),
(iQ 33 (.mv (.t 1))),
⟨some 34, .p (.slice (.t 32) none (some (.t 33)) 1), none⟩,
(iQ 35 (.mv (.t 8))),
(iQ 36 (.mv (.t 7))),
(iQ 37 (.bin .add (.t 35) (.t 36))),
(iQ 38 (.mv (.t 1))),
(iQ 39 (.bin .sub (.t 37) (.t 38))),
⟨some 40, .appz 1 8 [(iV 0)] (.t 34) (.t 39), none⟩,
(iQ 9 (.mv (.t 40)))]
def c122_r10 : List Ins := [(iQ 41 (.mv (.t 9))),
(iQ 42 (.mv (.t 1))),
⟨some 43, .p (.slice (.t 41) (some (.t 42)) none 1), none⟩,
(iQ 44 (.mv (.t 2))),
⟨some 45, .copy 1 (.t 43) (.t 44), none⟩]
def c122_r11 : DP := (.take (iQ 46 (.mv (.t 9)))
(.take (iQ 47 (.mv (.t 1)))
(.take (iQ 48 (.mv (.t 7)))
(.take (iQ 49 (.bin .add (.t 47) (.t 48)))
(.take ⟨some 50, .p (.slice (.t 46) (some (.t 49)) none 1), none⟩
(.take (iQ 51 (.mv (.t 0)))
(.take (iQ 52 (.mv (.t 1)))
(.take ⟨some 53, .p (.slice (.t 51) (some (.t 52)) none 1), none⟩
(.alt [] ⟨some 54, .copy 1 (.t 50) (.t 53), none⟩
.fin
.stop)))))))))
def c122_r12 : List Ins := [(iQ 55 (.mv (.t 9))),
(iQ 6 (.mv (.t 55)))]
def c122_r13 : List Ins := [(iQ 56 (.mv (.t 0))),
(iQ 57 (.mv (.t 8))),
(iQ 58 (.mv (.t 7))),
(iQ 59 (.bin .add (.t 57) (.t 58))),
⟨some 60, .p (.slice (.t 56) none (some (.t 59)) 1), none⟩,
(iQ 0 (.mv (.t 60)))]
def c122_r14 : List Ins := [(iQ 61 (.mv (.t 2))),
(iQ 62 (.mv (.t 0))),
(iQ 63 (.mv (.t 1))),
(iQ 64 (.mv (.t 7))),
(iQ 65 (.bin .add (.t 63) (.t 64))),
⟨some 66, .p (.slice (.t 62) (some (.t 65)) none 1), none⟩,
(iQ 67 (.ovl (.t 61) (.t 66))),
(iQ 68 (.un .not (.t 67)))]
def c122_r15 : DP := (.take (iQ 69 (.mv (.t 0)))
(.take (iQ 70 (.mv (.t 1)))
(.take (iQ 71 (.mv (.t 7)))
(.take (iQ 72 (.bin .add (.t 70) (.t 71)))
(.take ⟨some 73, .p (.slice (.t 69) (some (.t 72)) none 1), none⟩
(.take (iQ 74 (.mv (.t 0)))
(.take (iQ 75 (.mv (.t 1)))
(.take ⟨some 76, .p (.slice (.t 74) (some (.t 75)) none 1), none⟩
(.alt [] ⟨some 77, .copy 1 (.t 73) (.t 76), none⟩
.fin
.stop)))))))))
def c122_r16 : List Ins := [(iQ 78 (.mv (.t 0))),
(iQ 79 (.mv (.t 1))),
⟨some 80, .p (.slice (.t 78) (some (.t 79)) none 1), none⟩,
(iQ 81 (.mv (.t 2))),
⟨some 82, .copy 1 (.t 80) (.t 81), none⟩]
def c122_r17 : List Ins := [(iQ 83 (.mv (.t 0))),
(iQ 6 (.mv (.t 83)))]
def c122_r18 : List Ins := [(iQ 84 (.mv (.t 0))),
(iQ 85 (.mv (.t 8))),
⟨some 86, .p (.slice (.t 84) (some (.t 85)) none 1), none⟩,
(iQ 87 (.mv (.t 2))),
⟨some 88, .copy 1 (.t 86) (.t 87), none⟩]
def c122_r19 : List Ins := [(iQ 89 (.mv (.t 0))),
(iQ 90 (.mv (.t 1))),
⟨some 91, .p (.slice (.t 89) (some (.t 90)) none 1), none⟩,
(iQ 92 (.mv (.t 7))),
⟨some 93, .call 143 [(.t 91), (.t 92)], none⟩]
def c122_r20 : List Ins := [(iQ 94 (.mv (.t 0))),
(iQ 6 (.mv (.t 94)))]
def c122 : XFn := { np := 3, nt := 95, res := [.t 6], body := (.seq (.reg c122_r0) (.seq (.reg c122_r1) (.seq (.reg c122_r2) (.seq (.seq (.reg c122_r3) (.ite (.t 16) (.seq (.reg c122_r4) .ret) .skip)) (.seq (.reg c122_r5) (.seq (.seq (.reg c122_r6) (.ite (.t 22) (.seq (.reg c122_r7) .ret) .skip)) (.seq (.seq (.reg c122_r8) (.ite (.t 31) (.seq (.reg c122_r9) (.seq (.reg c122_r10) (.seq (.draw c122_r11) (.seq (.reg c122_r12) .ret)))) .skip)) (.seq (.reg c122_r13) (.seq (.seq (.reg c122_r14) (.ite (.t 68) (.seq (.draw c122_r15) (.seq (.reg c122_r16) (.seq (.reg c122_r17) .ret))) .skip)) (.seq (.reg c122_r18) (.seq (.reg c122_r19) (.seq (.reg c122_r20) .ret)))))))))))) }
def K122 (C : CRel) : Prop := ∀ (a0 : List Int) (a1 : Int) (a2 : List Int) (r : (List Int) × (List Int)), g122 a0 a1 a2 = some r → C 122 ⟨[.own 1024000 0 1 (a0.map eI), iV a1, .own 2097152 0 1 (a2.map eI)], []⟩ ⟨.own 0 0 1 (r.1.map eI), [], [(0, 1, r.2.map eI)]⟩
theorem F122 {C : CRel} (a0 : List Int) (a1 : Int) (a2 : List Int) (r : (List Int) × (List Int)) (h0 : g122 a0 a1 a2 = some r) : FnOK C c122 ⟨[.own 1024000 0 1 (a0.map eI), iV a1, .own 2097152 0 1 (a2.map eI)], []⟩ ⟨.own 0 0 1 (r.1.map eI), [], [(0, 1, r.2.map eI)]⟩ := by
 refine fn_ (nl rfl) ?_
 obtain ⟨⟨hb, hpos, hl⟩, h0⟩ := grd h0
 obtain rfl := Option.some.inj h0
 obtain ⟨i, rfl⟩ := Int.eq_ofNat_of_zero_le hb.1
 have hi : i ≤ a0.length := by omega
 rw [show ((i : Nat) : Int).toNat = i from rfl]
 have hbyte : (a0.length + a2.length) * 8 ≤ 140737488355328 := Nat.le_trans (Nat.mul_le_mul_right 8 hl) (by decide)
 have hsm : a0.length + a2.length ≤ 140737488355328 := by omega
 have w1 : IntKind.i64.wrap ((a0.length : Int) + (a2.length : Int)) = ((a0.length + a2.length : Nat) : Int) := wrapN _ (by omega) (by omega)
 have w2 : IntKind.i64.wrap ((i : Int) + (a2.length : Int)) = ((i + a2.length : Nat) : Int) := wrapN _ (by omega) (by omega)
 have w3 : IntKind.i64.wrap (((a0.length + a2.length : Nat) : Int) - (i : Int)) = ((a0.length + a2.length - i : Nat) : Int) := wrapN _ (by omega) (by omega)
 refine seq_ (reg_ (st (nilS_ (oe_ (wk_ ⟨[(0, .own 1024000 0 1 (a0.map eI)), (1, iV i), (2, .own 2097152 0 1 (a2.map eI))], [], []⟩ (fg ⟨rfl, rfl, rfl, tv⟩ tv) (seq_ (reg_ (st (mv_ rfl tv (st (mv_ rfl tv (st (c_ (csliceO (e := eI) (y := a0.drop i) rfl rfl tv ⟨tv, tv⟩ rfl rfl (slcD a0 i hi)) (oe_ (wk_ ⟨[(0, .own 1024000 0 1 (a0.map eI)), (1, iV i), (2, .own 2097152 0 1 (a2.map eI))], [], []⟩ (fg ⟨rfl, rfl, rfl, tv⟩ tv) (seq_ (reg_ (st (mv_ rfl tv (st (c_ (clenO (e := eI) (l0 := a2) rfl rfl tv) (st (mv_ rfl tv (oe_ (wk_ ⟨[(0, .own 1024000 0 1 (a0.map eI)), (1, iV i), (2, .own 2097152 0 1 (a2.map eI)), (7, iV (a2.length : Int))], [], []⟩ (fg ⟨rfl, rfl, rfl, rfl, tv⟩ tv) (seq_ (seq_ (reg_ (st (mv_ rfl tv (st (c_ (cp_ t3 rfl tv) (oe_ (w0_ (ite_ (cb := (a2.length : Int) == 0) rfl (fun h => absurd (eq_of_beq h) (by omega)) (fun _ => (sk_ (wk_ ⟨[(0, .own 1024000 0 1 (a0.map eI)), (1, iV i), (2, .own 2097152 0 1 (a2.map eI)), (7, iV (a2.length : Int))], [], []⟩ (fg ⟨rfl, rfl, rfl, rfl, tv⟩ tv) (seq_ (reg_ ?_))))))))))))))))))))))))))))))))))))))))
 refine st (mv_ rfl tv (st (c_ (clenO (e := eI) (l0 := a0) rfl rfl tv) (st (mv_ rfl tv (oe_ (wk_ ⟨[(0, .own 1024000 0 1 (a0.map eI)), (1, iV i), (2, .own 2097152 0 1 (a2.map eI)), (7, iV (a2.length : Int)), (8, iV (a0.length : Int))], [], []⟩ (fg ⟨rfl, rfl, rfl, rfl, rfl, tv⟩ tv) (seq_ (seq_ (reg_ (st (mv_ rfl tv (st (mv_ rfl tv (st (c_ (cp_ t3 rfl tv) (oe_ (w0_ (ite_ (cb := (i : Int) == (a0.length : Int)) rfl (fun h => ?_) (fun h => ?_))))))))))))))))))))
 ·have e1 : i = a0.length := by have := eq_of_beq h; omega
  subst e1
  rw [List.take_length, List.drop_length, List.append_nil]
  refine seq_ (reg_ (st (mv_ rfl tv (st (mv_ rfl tv (st (app_ (e := eI) (l0 := a0) (l1 := a2) rfl rfl tv rfl (show (1024000 : Nat) < 1048576 by decide) hbyte (st (mv_ rfl tv (oe_ (wk_ ⟨[(6, .own 1024000 0 1 ((a0 ++ a2).map eI)), (2, .own 2097152 0 1 (a2.map eI))], [], []⟩ (fg ⟨rfl, rfl, tv⟩ tv) ?_)))))))))))
  exact rt_ (ret_ rfl rfl rfl rfl rfl ⟨⟨rfl, mlen (fun _ => rfl)⟩, tv⟩)
 have hlt : i < a0.length := by
  have : (i : Int) ≠ (a0.length : Int) := fun h1 => by rw [h1] at h; simp at h
  omega
 have hemp : a0.map eI ≠ [] := fun e1 => by
  have := congrArg List.length e1
  simp at this
  subst this
  simp at hlt
 have hemp2 : a2.map eI ≠ [] := fun e1 => by
  have := congrArg List.length e1
  simp at this
  subst this
  simp at hpos
 refine sk_ (wk_ ⟨[(0, .own 1024000 0 1 (a0.map eI)), (1, iV i), (2, .own 2097152 0 1 (a2.map eI)), (7, iV (a2.length : Int)), (8, iV (a0.length : Int))], [], []⟩ (fg ⟨rfl, rfl, rfl, rfl, rfl, tv⟩ tv) (seq_ (seq_ (reg_ (st (mv_ rfl tv (st (mv_ rfl tv (st (c_ (cp_ (v := iV ((a0.length + a2.length : Nat) : Int)) ⟨tv, tv, tv⟩ (congrArg (fun z => some (True, V.int .i64 z)) w1) tv) (st (mv_ rfl tv (st (cap_ (e := eI) (l0 := a0) rfl fun c hc => (st (c_ (cp_ t3 rfl tv) (oe_ ?_)))))))))))))))))
 refine wk_ ⟨[(31, .bool (decide (((a0.length + a2.length : Nat) : Int) > (c : Int)))), (0, .own 1024000 0 1 (a0.map eI)), (1, iV i), (2, .own 2097152 0 1 (a2.map eI)), (7, iV (a2.length : Int)), (8, iV (a0.length : Int))], [], [(0, xcap + (c : Int))]⟩
  (fgc ⟨rfl, rfl, rfl, rfl, rfl, rfl, tv⟩ tv ⟨.inr (.inr ⟨29, xcap + (c : Int), _, _, 0, _, 0, _, rfl, rfl, hemp, rfl, hemp, .inr ⟨rfl, rfl⟩⟩), tv⟩) ?_
 refine ite_ (cb := decide (((a0.length + a2.length : Nat) : Int) > (c : Int))) rfl (fun hgt => ?_) (fun hle => ?_)
 ·have hgt' : c < a0.length + a2.length := by have := of_decide_eq_true hgt; omega
  refine seq_ (reg_ (st (mv_ rfl tv (st (mv_ rfl tv (st (c_ (csliceO (e := eI) (y := a0.take i) rfl rfl tv ⟨tv, tv⟩ rfl rfl (by rw [show (none : Option Int).getD 0 = ((0 : Nat) : Int) from rfl]; exact slcN a0 0 i (by omega) (by omega))) (st (mv_ rfl tv (st (mv_ rfl tv (st (c_ (cp_ (v := iV ((a0.length + a2.length : Nat) : Int)) ⟨tv, tv, tv⟩ (congrArg (fun z => some (True, V.int .i64 z)) w1) tv) (st (mv_ rfl tv (st (c_ (cp_ (v := iV ((a0.length + a2.length - i : Nat) : Int)) ⟨tv, tv, tv⟩ (congrArg (fun z => some (True, V.int .i64 z)) w3) tv) (st (appzx_ (e := eI) (l0 := a0.take i) (c := xcap + (c : Int) - 0) (t := 1024000) (default : Int) rfl rfl rfl (by decide) (Int.natCast_nonneg _) ?_ rfl (by omega) ?_ ?_)))))))))))))))))))
  ·have e1 : (a0.take i).length + (a0.length + a2.length - i) = a0.length + a2.length := by simp; omega
   have := Int.ofNat_le.2 hbyte
   rw [Int.natCast_mul] at this
   rw [← Int.natCast_add, e1]
   exact this
  ·have e1 : (a0.take i).length = i := by simp; omega
   rw [e1]; omega
  rw [show ((a0.length + a2.length - i : Nat) : Int).toNat = a0.length + a2.length - i from rfl]
  refine st (mv_ rfl tv (oe_ (wk_ ⟨[(9, .own 2560 0 1 ((a0.take i ++ List.replicate (a0.length + a2.length - i) (default : Int)).map eI)), (0, .own 1024000 0 1 (a0.map eI)), (1, iV i), (2, .own 2097152 0 1 (a2.map eI)), (7, iV (a2.length : Int))], [], []⟩ (fg ⟨rfl, rfl, rfl, rfl, rfl, tv⟩ tv) ?_)))
  generalize hR : a0.take i ++ List.replicate (a0.length + a2.length - i) (default : Int) = R
  have hRl : R.length = a0.length + a2.length := by rw [← hR]; simp; omega
  have hRt : R.take i = a0.take i := by rw [← hR, List.take_append_of_le_length (by simp; omega), List.take_take, Nat.min_self]
  refine seq_ (reg_ (st (mv_ rfl tv (st (mv_ rfl tv (st (c_ (csliceO (e := eI) (y := R.drop i) rfl rfl tv ⟨tv, tv⟩ rfl rfl (slcD R i (by omega))) (st (mv_ rfl tv (st (copy_ (e := eI) (l0 := R.drop i) (l1 := a2) (t := 2560) rfl rfl tv rfl (oe_ (wk_ ⟨[(9, .own 2560 0 1 ((ovl R i (a2.take (R.drop i).length)).map eI)), (0, .own 1024000 0 1 (a0.map eI)), (1, iV i), (2, .own 2097152 0 1 (a2.map eI)), (7, iV (a2.length : Int))], [], []⟩ (fg ⟨congrArg (fun z => some (V.own 2560 0 1 z)) (overlay_ovl (off := 0)), rfl, rfl, rfl, rfl, tv⟩ tv) ?_)))))))))))))
  have hR2l : (ovl R i (a2.take (R.drop i).length)).length = a0.length + a2.length := by rw [ovl_len, hRl]
  generalize hR2 : ovl R i (a2.take (R.drop i).length) = R2 at hR2l
  refine seq_ (draw_ (dtake tv (mv_ rfl tv (⟨tv, (dtake tv (mv_ rfl tv (⟨tv, (dtake tv (mv_ rfl tv (⟨tv, (dtake tv (c_ (cp_ (v := iV ((i + a2.length : Nat) : Int)) ⟨tv, tv, tv⟩ (congrArg (fun z => some (True, V.int .i64 z)) w2) tv) (⟨tv, (dtake tv (c_ (csliceO (e := eI) (y := R2.drop (i + a2.length)) rfl rfl tv ⟨tv, tv⟩ rfl rfl (slcD R2 (i + a2.length) (by omega))) (⟨tv, (dtake tv (mv_ rfl tv (⟨tv, (dtake tv (mv_ rfl tv (⟨tv, (dtake tv (c_ (csliceO (e := eI) (y := a0.drop i) rfl rfl tv ⟨tv, tv⟩ rfl rfl (slcD a0 i hi)) (⟨tv, (dalt (copy_ (e := eI) (l0 := R2.drop (i + a2.length)) (l1 := a0.drop i) (t := 2560) rfl rfl tv rfl (dk0 ⟨[], tv, tv, (dfin ?_)⟩)) dstop)⟩)))⟩)))⟩)))⟩)))⟩)))⟩)))⟩)))⟩))))
  have hfin : ovl R2 (i + a2.length) ((a0.drop i).take (R2.drop (i + a2.length)).length) = a0.take i ++ a2 ++ a0.drop i := by
   rw [← hR2]
   exact ovl_ins hRl hRt hi
  refine wk_ ⟨[(9, .own 2560 0 1 ((a0.take i ++ a2 ++ a0.drop i).map eI)), (2, .own 2097152 0 1 (a2.map eI))], [], []⟩ (fg ⟨(congrArg (fun z => some (V.own 2560 0 1 z)) (overlay_ovl (off := 0))).trans (congrArg (fun z => some (V.own 2560 0 1 (z.map eI))) hfin), rfl, tv⟩ tv) (seq_ (reg_ (st (mv_ rfl tv (st (mv_ rfl tv (oe_ (w0_ ?_))))))))
  exact rt_ (ret_ rfl rfl rfl rfl rfl ⟨⟨rfl, mlen (fun _ => rfl)⟩, tv⟩)
 ·have hle' : a0.length + a2.length ≤ c := by have := of_decide_eq_false hle; omega
  refine sk_ ?_
  refine wk_ ⟨[(0, .own 1024000 0 1 (a0.map eI)), (1, iV i), (2, .own 2097152 0 1 (a2.map eI)), (7, iV (a2.length : Int)), (8, iV (a0.length : Int))], [], [(0, xcap + (c : Int))]⟩
   (fgc ⟨rfl, rfl, rfl, rfl, rfl, tv⟩ tv ⟨.inl ⟨_, rfl, .inl rfl⟩, tv⟩) ?_
  refine seq_ (reg_ (st (mv_ rfl tv (st (mv_ rfl tv (st (mv_ rfl tv (st (c_ (cp_ (v := iV ((a0.length + a2.length : Nat) : Int)) ⟨tv, tv, tv⟩ (congrArg (fun z => some (True, V.int .i64 z)) w1) tv) (st (c_ (sliceUp (e := eI) (l0 := a0) (t := 1024000) (sz := 1) (H := a0.length + a2.length) (c := xcap + (c : Int)) rfl rfl (Nat.le_add_right _ _) (show (0 : Nat) < 1 by decide) rfl (by rw [lowC_x]; omega)) (st (mv_ rfl tv (oe_ ?_))))))))))))))
  rw [Nat.add_sub_cancel_left]
  have hA0 : (a0.map some ++ List.replicate a2.length none).length = a0.length + a2.length := by simp
  have hA1 : (a0.map some ++ List.replicate a2.length none).take i = (a0.take i).map some := by rw [List.take_append_of_le_length (by simpa using hi), List.map_take]
  have hA2 : ((a0.map some ++ List.replicate a2.length none).drop i).take (a0.length - i) = (a0.drop i).map some := by
   rw [List.drop_append_of_le_length (by simpa using hi), ← List.map_drop, List.take_append_of_le_length (by simp), List.take_of_length_le (by simp)]
  generalize (a0.map some ++ List.replicate a2.length none : List (Option (Int))) = A at hA0 hA1 hA2
  refine wk_ ⟨[(0, .own 1024000 0 1 (A.map (eo eI 1))), (1, iV i), (2, .own 2097152 0 1 (a2.map eI)), (7, iV (a2.length : Int)), (8, iV (a0.length : Int))], [], []⟩ (fg ⟨rfl, rfl, rfl, rfl, rfl, tv⟩ tv) (seq_ (seq_ (reg_ (st (mv_ rfl tv (st (mv_ rfl tv (st (mv_ rfl tv (st (mv_ rfl tv (st (c_ (cp_ (v := iV ((i + a2.length : Nat) : Int)) ⟨tv, tv, tv⟩ (congrArg (fun z => some (True, V.int .i64 z)) w2) tv) (st (c_ (csliceO (e := eo eI 1) (y := A.drop (i + a2.length)) rfl rfl tv ⟨tv, tv⟩ rfl rfl (slcD A (i + a2.length) (by omega))) (st (c_ (covl rfl rfl (by decide) hemp2 (fun e1 => ?_)) ?_)))))))))))))))))
  ·have := congrArg List.length e1
   simp at this
   omega
  refine st (c_ (cp_ ⟨tv, tv⟩ rfl tv) (oe_ (wk_ ⟨[(68, .bool true), (0, .own 1024000 0 1 (A.map (eo eI 1))), (1, iV i), (2, .own 2097152 0 1 (a2.map eI)), (7, iV (a2.length : Int)), (8, iV (a0.length : Int))], [], []⟩ (fg ⟨rfl, rfl, rfl, rfl, rfl, rfl, tv⟩ tv) (ite_ (cb := true) rfl (fun _ => (seq_ (draw_ (dtake tv (mv_ rfl tv (⟨tv, (dtake tv (mv_ rfl tv (⟨tv, (dtake tv (mv_ rfl tv (⟨tv, (dtake tv (c_ (cp_ (v := iV ((i + a2.length : Nat) : Int)) ⟨tv, tv, tv⟩ (congrArg (fun z => some (True, V.int .i64 z)) w2) tv) (⟨tv, (dtake tv (c_ (csliceO (e := eo eI 1) (y := A.drop (i + a2.length)) rfl rfl tv ⟨tv, tv⟩ rfl rfl (slcD A (i + a2.length) (by omega))) (⟨tv, (dtake tv (mv_ rfl tv (⟨tv, (dtake tv (mv_ rfl tv (⟨tv, (dtake tv (c_ (csliceO (e := eo eI 1) (y := A.drop i) rfl rfl tv ⟨tv, tv⟩ rfl rfl (slcD A i (by omega))) (⟨tv, (dalt (copy_ (e := eo eI 1) (l0 := A.drop (i + a2.length)) (l1 := A.drop i) (t := 1024000) rfl rfl tv rfl (dk0 ⟨[], tv, tv, (dfin ?_)⟩)) dstop)⟩)))⟩)))⟩)))⟩)))⟩)))⟩)))⟩)))⟩)))))) (fun h => by cases h)))))
  have hB : (A.drop i).take (A.drop (i + a2.length)).length = (a0.drop i).map some := by
   rw [← hA2]; congr 1; simp; omega
  rw [hB]
  refine wk_ ⟨[(0, .own 1024000 0 1 ((ovl A (i + a2.length) ((a0.drop i).map some)).map (eo eI 1))), (1, iV i), (2, .own 2097152 0 1 (a2.map eI))], [], []⟩ (fg ⟨congrArg (fun z => some (V.own 1024000 0 1 z)) (overlay_ovl (off := 0)), rfl, rfl, tv⟩ tv) ?_
  have hR2l : (ovl A (i + a2.length) ((a0.drop i).map some)).length = a0.length + a2.length := by rw [ovl_len, hA0]
  have hfin : ovl (ovl A (i + a2.length) ((a0.drop i).map some)) i (a2.map some) = (a0.take i ++ a2 ++ a0.drop i).map some := ovl_ins2 hA0 hA1 hi
  generalize ovl A (i + a2.length) ((a0.drop i).map some) = R2 at hR2l hfin
  refine seq_ (reg_ (st (mv_ rfl tv (st (mv_ rfl tv (st (c_ (csliceO (e := eo eI 1) (y := R2.drop i) rfl rfl tv ⟨tv, tv⟩ rfl rfl (slcD R2 i (by omega))) (st (mv_ rfl tv (st (copy_ (e := eo eI 1) (l0 := R2.drop i) (l1 := a2.map some) (t := 1024000) rfl rfl tv (congrArg (fun z => some (1, z)) (eo_some a2)) (oe_ ?_))))))))))))
  have hT : (a2.map some).take (R2.drop i).length = a2.map some := List.take_of_length_le (by simp; omega)
  rw [hT]
  refine wk_ ⟨[(0, .own 1024000 0 1 ((a0.take i ++ a2 ++ a0.drop i).map eI)), (2, .own 2097152 0 1 (a2.map eI))], [], []⟩
   (fg ⟨(congrArg (fun z => some (V.own 1024000 0 1 z)) (overlay_ovl (off := 0))).trans (congrArg (fun z => some (V.own 1024000 0 1 z)) ((congrArg (List.map (eo eI 1)) hfin).trans (eo_some _).symm)), rfl, tv⟩ tv) ?_
  refine seq_ (reg_ (st (mv_ rfl tv (st (mv_ rfl tv (oe_ (w0_ ?_)))))))
  exact rt_ (ret_ rfl rfl rfl rfl rfl ⟨⟨rfl, mlen (fun _ => rfl)⟩, tv⟩)


/- slices.Delete[[]int,int] -/
def c123_r0 : List Ins := [⟨some 6, .nilS 1, none⟩]
def c123_r1 : List Ins := [(iQ 8 (.mv (.t 0))),
(iQ 9 (.mv (.t 1))),
(iQ 10 (.mv (.t 2))),
(iQ 11 (.mv (.t 0))),
(iQ 12 (.len (.t 11))),
⟨some 13, .chk3 (.t 8) (.t 9) (.t 10) (.t 12), none⟩]
def c123_r2 : List Ins := [(iQ 14 (.mv (.t 1))),
(iQ 15 (.mv (.t 2))),
(iQ 16 (.bin .eql (.t 14) (.t 15)))]
def c123_r3 : List Ins := [(iQ 17 (.mv (.t 0))),
(iQ 6 (.mv (.t 17)))]
def c123_r4 : List Ins := [(iQ 18 (.mv (.t 0))),
(iQ 19 (.len (.t 18))),
(iQ 7 (.mv (.t 19)))]
def c123_r5 : DP := (.take (iQ 20 (.mv (.t 0)))
(.take (iQ 21 (.mv (.t 1)))
(.take ⟨some 22, .p (.slice (.t 20) none (some (.t 21)) 1), none⟩
(.take (iQ 23 (.mv (.t 0)))
(.take (iQ 24 (.mv (.t 2)))
(.take ⟨some 25, .p (.slice (.t 23) (some (.t 24)) none 1), none⟩
(.alt [] ⟨some 26, .app 1 8 (.t 22) (.t 25), none⟩
(.alt [] (iQ 0 (.mv (.t 26)))
.fin
.stop)
.stop)))))))
def c123_r6 : List Ins := [(iQ 27 (.mv (.t 0))),
(iQ 28 (.mv (.t 0))),
(iQ 29 (.len (.t 28))),
(iQ 30 (.mv (.t 7))),
⟨some 31, .p (.slice (.t 27) (some (.t 29)) (some (.t 30)) 1), none⟩,
⟨none, .clear 1 [(iV 0)] (.t 31), none⟩]
def c123_r7 : List Ins := [(iQ 32 (.mv (.t 0))),
(iQ 6 (.mv (.t 32)))]
def c123 : XFn := { np := 3, nt := 33, res := [.t 6], body := (.seq (.reg c123_r0) (.seq (.reg c123_r1) (.seq (.seq (.reg c123_r2) (.ite (.t 16) (.seq (.reg c123_r3) .ret) .skip)) (.seq (.reg c123_r4) (.seq (.draw c123_r5) (.seq (.reg c123_r6) (.seq (.reg c123_r7) .ret))))))) }
def K123 (C : CRel) : Prop := ∀ (a0 : List Int) (a1 : Int) (a2 : Int) (r : List Int), g123 a0 a1 a2 = some r → C 123 ⟨[.own 1024000 0 1 (a0.map eI), iV a1, iV a2], []⟩ ⟨.own 0 0 1 (r.map eI), [], []⟩
theorem F123 {C : CRel} (a0 : List Int) (a1 : Int) (a2 : Int) (r : List Int) (h0 : g123 a0 a1 a2 = some r) : FnOK C c123 ⟨[.own 1024000 0 1 (a0.map eI), iV a1, iV a2], []⟩ ⟨.own 0 0 1 (r.map eI), [], []⟩ := by
 refine fn_ (nl rfl) ?_
 obtain ⟨⟨hb, hl⟩, h0⟩ := grd h0
 obtain rfl := Option.some.inj h0
 obtain ⟨i, rfl⟩ := Int.eq_ofNat_of_zero_le hb.1
 obtain ⟨j, rfl⟩ := Int.eq_ofNat_of_zero_le (Int.le_trans hb.1 hb.2.1)
 have hij : i ≤ j := by omega
 have hx63 : (a0.length : Int) < xcap := by have := hl; simp only [xcap]; omega
 have hj : j ≤ a0.length := by omega
 rw [show ((i : Nat) : Int).toNat = i from rfl, show ((j : Nat) : Int).toNat = j from rfl]
 refine seq_ (reg_ (st (nilS_ (oe_ (wk_ ⟨[(0, .own 1024000 0 1 (a0.map eI)), (1, iV i), (2, iV j)], [], []⟩ (fg ⟨rfl, rfl, rfl, tv⟩ tv) (seq_ (reg_ (st (mv_ rfl tv (st (mv_ rfl tv (st (mv_ rfl tv (st (mv_ rfl tv (st (c_ (clenO (e := eI) (l0 := a0) rfl rfl tv) (st (chk3O (e := eI) (l0 := a0) rfl rfl rfl rfl ⟨by omega, by omega, by omega, Int.le_refl _⟩ (oe_ (wk_ ⟨[(0, .own 1024000 0 1 (a0.map eI)), (1, iV i), (2, iV j)], [], []⟩ (fg ⟨rfl, rfl, rfl, tv⟩ tv) (seq_ (seq_ (reg_ (st (mv_ rfl tv (st (mv_ rfl tv (st (c_ (cp_ t3 rfl tv) (oe_ (w0_ (ite_ (cb := (i : Int) == (j : Int)) rfl (fun h => ?_) (fun h => ?_))))))))))))))))))))))))))))))))))
 ·have e1 : i = j := by have := eq_of_beq h; omega
  subst e1
  rw [List.take_append_drop]
  refine seq_ (reg_ (st (mv_ rfl tv (st (mv_ rfl tv (oe_ (w0_ ?_)))))))
  exact rt_ (ret_ rfl rfl rfl rfl rfl tv)
 ·have hne : i ≠ j := fun e1 => by subst e1; simp at h
  have hemp : a0.map eI ≠ [] := fun e1 => by
   have := congrArg List.length e1
   simp at this
   subst this
   simp at hj
   omega
  refine sk_ (wk_ ⟨[(0, .own 1024000 0 1 (a0.map eI)), (1, iV i), (2, iV j)], [], []⟩ (fg ⟨rfl, rfl, rfl, tv⟩ tv) (seq_ (reg_ (st (mv_ rfl tv (st (c_ (clenO (e := eI) (l0 := a0) rfl rfl tv) (st (mv_ rfl tv (oe_ (wk_ ⟨[(0, .own 1024000 0 1 (a0.map eI)), (1, iV i), (2, iV j), (7, iV (a0.length : Int))], [], [(0, (a0.length : Int))]⟩ (fgc ⟨rfl, rfl, rfl, rfl, tv⟩ tv ⟨.inr (.inl ⟨_, _, _, _, rfl, hemp, by simp, hx63⟩), tv⟩) (seq_ (draw_ (dtake tv (mv_ rfl tv (⟨tv, (dtake tv (mv_ rfl tv (⟨tv, (dtake tv (c_ (csliceO (e := eI) (y := a0.take i) rfl rfl tv ⟨tv, tv⟩ rfl rfl (by rw [show (none : Option Int).getD 0 = ((0 : Nat) : Int) from rfl]; exact slcN a0 0 i (by omega) (by omega))) (⟨tv, (dtake tv (mv_ rfl tv (⟨tv, (dtake tv (mv_ rfl tv (⟨tv, (dtake tv (c_ (csliceO (e := eI) (y := a0.drop j) rfl rfl tv ⟨tv, tv⟩ rfl rfl (slcD a0 j hj)) (⟨tv, (dalt (appc_ (e := eI) (l0 := a0.take i) (l1 := a0.drop j) (t := 1024000) (sz := 1) (vy := .own 1024000 (0 + j) 1 ((a0.drop j).map eI)) (c := (a0.length : Int) - 0) rfl rfl tv rfl (show (1024000 : Nat) < 1048576 by decide) ?_ rfl ?_ ?_) dstop)⟩)))⟩)))⟩)))⟩)))⟩)))⟩))))))))))))))))
  ·have : (a0.take i).length + (a0.drop j).length ≤ a0.length := by simp; omega
   exact Nat.le_trans (Nat.mul_le_mul_right 8 this) (Nat.le_trans (Nat.mul_le_mul_right 8 hl) (by decide))
  ·rw [lowC_lt (show (a0.length : Int) - 0 < xcap by omega)]; simp; omega
  refine dk0 ⟨[], tv, tv, (dalt (mv_ rfl tv (dk0 ⟨[], tv, tv, (dfin ?_)⟩)) dstop)⟩
  generalize hR : a0.take i ++ a0.drop j = R
  have hRl : R.length ≤ a0.length := by rw [← hR]; simp; omega
  refine wk_ ⟨[(0, .own 1024000 0 1 (R.map eI)), (7, iV (a0.length : Int))], [], [(0, (a0.length : Int) - 0)]⟩ (fgc ⟨rfl, rfl, tv⟩ tv ⟨.inl ⟨_, rfl, .inl rfl⟩, tv⟩) (seq_ (reg_ (st (mv_ rfl tv (st (mv_ rfl tv (st (c_ (clenO (e := eI) (l0 := R) rfl rfl tv) (st (mv_ rfl tv (st (c_ (sliceRoom (e := eI) (R := R) (t := 1024000) (sz := 1) (L := R.length) (H := a0.length) (c := (a0.length : Int) - 0) rfl rfl rfl rfl hRl (show (0 : Nat) < 1 by decide) rfl (by rw [lowC_lt (show (a0.length : Int) - 0 < xcap by omega)]; omega)) (st (clearAt_ rfl (oe_ (wk_ ⟨[(0, .own 1024000 0 1 (R.map eI))], [], []⟩ (fg ⟨past1 (Nat.le_refl _), tv⟩ tv) (seq_ (reg_ (st (mv_ rfl tv (st (mv_ rfl tv (oe_ (w0_ ?_))))))))))))))))))))))))
  exact rt_ (ret_ rfl rfl rfl rfl rfl tv)

/- loop.example/g00149/impl.call -/
def c89_r0 : List Ins := [⟨some 8, .nilS 1, none⟩,
⟨some 9, .p (.mv (.c (iV 0))), none⟩]
def c89_r1 : List Ins := [(iQ 13 (.mv (.t 0))),
⟨some 14, .call 120 [(.t 13)], none⟩,
(iQ 10 (.mv (.t 14)))]
def c89_r2 : List Ins := [(iQ 15 (.mv (.t 3))),
⟨some 16, .p (.bin .eql (.t 15) (.c (iV 1))), none⟩]
def c89_r3 : List Ins := [(iQ 17 (.mv (.t 10))),
(iQ 8 (.mv (.t 17))),
⟨some 9, .p (.mv (.c (iV 13))), none⟩]
def c89_r4 : List Ins := [(iQ 19 (.mv (.t 10))),
(iQ 20 (.mv (.t 1))),
⟨some 21, .call 121 [(.t 19), (.t 20)], none⟩,
(iQ 18 (.mv (.t 21))),
(iQ 22 (.ext (.t 18) 0)),
(iQ 23 (.ext (.t 18) 1)),
(iQ 11 (.mv (.t 22))),
(iQ 12 (.mv (.t 23)))]
def c89_r5 : List Ins := [(iQ 25 (.mv (.t 2))),
(iQ 26 (.mv (.t 25))),
⟨some 27, .p (.mv (.t 12)), some (26, true)⟩,
⟨some 28, .p (.un .not (.t 27)), some (26, true)⟩,
⟨some 29, .pick (.t 26) (.t 28) (.c (.bool false)), none⟩,
(iQ 24 (.mv (.t 29)))]
def c89_r6 : List Ins := [(iQ 30 (.mv (.t 10))),
(iQ 31 (.mv (.t 11))),
(iQ 32 (.mv (.t 1))),
⟨some 33, .mkS 1 [(iV 0)] 1 [(0, (.t 32))], none⟩,
⟨some 34, .call 122 [(.t 30), (.t 31), (.t 33)], none⟩,
(iQ 10 (.mv (.t 34)))]
def c89_r7 : List Ins := [(iQ 36 (.mv (.t 2))),
(iQ 37 (.un .not (.t 36))),
(iQ 38 (.mv (.t 37))),
⟨some 39, .p (.mv (.t 12)), some (38, true)⟩,
⟨some 40, .pick (.t 38) (.t 39) (.c (.bool false)), none⟩,
(iQ 35 (.mv (.t 40)))]
def c89_r8 : List Ins := [(iQ 41 (.mv (.t 10))),
(iQ 42 (.mv (.t 11))),
(iQ 43 (.mv (.t 11))),
⟨some 44, .p (.bin .add (.t 43) (.c (iV 1))), none⟩,
⟨some 45, .call 123 [(.t 41), (.t 42), (.t 44)], none⟩,
(iQ 10 (.mv (.t 45)))]
def c89_r9 : List Ins := [(iQ 46 (.mv (.t 3))),
⟨some 47, .p (.bin .eql (.t 46) (.c (iV 2))), none⟩]
def c89_r10 : List Ins := [(iQ 48 (.mv (.t 10))),
(iQ 8 (.mv (.t 48))),
⟨some 9, .p (.mv (.c (iV 15))), none⟩]
def c89_r11 : List Ins := [(iQ 49 (.mv (.t 10))),
(iQ 8 (.mv (.t 49))),
⟨some 9, .p (.mv (.c (iV 0))), none⟩]
def c89 : XFn := { np := 4, nt := 50, res := [.t 8, .t 9], body := (.seq (.reg c89_r0) (.seq (.reg c89_r1) (.seq (.seq (.reg c89_r2) (.ite (.t 16) (.seq (.reg c89_r3) .ret) .skip)) (.seq (.reg c89_r4) (.seq (.block 0 (.seq (.reg c89_r5) (.ite (.t 24) (.reg c89_r6) (.seq (.reg c89_r7) (.ite (.t 35) (.reg c89_r8) .skip))))) (.seq (.seq (.reg c89_r9) (.ite (.t 47) (.seq (.reg c89_r10) .ret) .skip)) (.seq (.reg c89_r11) .ret))))))) }
def K89 (C : CRel) : Prop := ∀ (a0 : List Int) (a1 : Int) (a2 : Bool) (a3 : Int) (r : (List Int) × Int), g89 a0 a1 a2 a3 = some r → C 89 ⟨[.lst 1 (a0.map eI), iV a1, .bool a2, iV a3], []⟩ ⟨.tup [.own 0 0 1 (r.1.map eI), iV r.2], [], []⟩
theorem F89 {C : CRel} (H120 : K120 C) (H121 : K121 C) (H122 : K122 C) (H123 : K123 C) (a0 : List Int) (a1 : Int) (a2 : Bool) (a3 : Int) (r : (List Int) × Int) (h0 : g89 a0 a1 a2 a3 = some r) : FnOK C c89 ⟨[.lst 1 (a0.map eI), iV a1, .bool a2, iV a3], []⟩ ⟨.tup [.own 0 0 1 (r.1.map eI), iV r.2], [], []⟩ := by
 refine fn_ (nl rfl) (seq_ (reg_ (st (nilS_ (st (mvc_ tv (oe_ (wk_ ⟨[(0, .lst 1 (a0.map eI)), (1, iV a1), (2, .bool a2), (3, iV a3)], [], []⟩ (fgk (by kernel_rfl)) (seq_ (reg_ (st (mv_ rfl tv ?_))))))))))))
 obtain ⟨r1, e2, h0⟩ := bnd h0
 refine st (call0_ (r := .own 0 0 1 (r1.map eI)) false (H120 a0 r1 e2) ⟨tv, tv⟩ rfl rfl (fun _ => (and_ (fl1 (fun _ => rfl)) rfl)) (st (mv_ rfl tv (oe_ (wk_ ⟨[(1, iV a1), (2, .bool a2), (3, iV a3), (10, .own 896 0 1 (r1.map eI))], [], []⟩ (fgk (by kernel_rfl)) (seq_ (seq_ (reg_ (st (mv_ rfl tv (st (c_ (cp_ t3 rfl tv) (oe_ (wk_ ⟨[(1, iV a1), (2, .bool a2), (3, iV a3), (10, .own 896 0 1 (r1.map eI)), (16, .bool (a3 == 1))], [], []⟩ (fgk (by kernel_rfl)) (ite_ (cb := (a3 == 1)) rfl (fun c3 => ?_) (fun c3 => ?_))))))))))))))))
 ·replace h0 := ip c3 h0
  refine seq_ (reg_ (st (mv_ rfl tv (st (mv_ rfl tv (st (mvc_ tv (oe_ (wk_ ⟨[(8, .own 896 0 1 (r1.map eI)), (9, iV 13)], [], []⟩ (fgk (by kernel_rfl)) ?_)))))))))
  obtain rfl := Option.some.inj h0
  exact rt_ (ret_ rfl rfl rfl rfl rfl tv)
 ·replace h0 := inb c3 h0
  refine sk_ (wk_ ⟨[(1, iV a1), (2, .bool a2), (3, iV a3), (10, .own 896 0 1 (r1.map eI))], [], []⟩ (fgk (by kernel_rfl)) (seq_ (reg_ (st (mv_ rfl tv (st (mv_ rfl tv ?_)))))))
  obtain ⟨r4, e5, h0⟩ := bnd h0
  refine st (call0_ (r := .tup [iV r4.1, .bool r4.2]) false (H121 r1 a1 r4 e5) ⟨tv, tv, tv⟩ rfl rfl (fun _ => rfl) (st (mv_ rfl tv (st (c_ (cp_ ⟨tv, tv⟩ rfl tv) (st (c_ (cp_ ⟨tv, tv⟩ rfl tv) (st (mv_ rfl tv (st (mv_ rfl tv (oe_ (wk_ ⟨[(1, iV a1), (2, .bool a2), (3, iV a3), (10, .own 896 0 1 (r1.map eI)), (11, iV r4.1), (12, .bool r4.2)], [], []⟩ (fgk (by kernel_rfl)) (seq_ (blockJ (fun S => ∃ p13 : List Int, S = ⟨[(3, iV a3), (10, .own 2176 0 1 (p13.map eI))], [], []⟩ ∧ g89_j0 a3 p13 = some r) ?_ (fun J15 => ?_))))))))))))))))
  ·rintro _ ⟨p13, rfl, h0⟩
   refine wk_ ⟨[(3, iV a3), (10, .own 2176 0 1 (p13.map eI))], [], []⟩ (fgk (by kernel_rfl)) (seq_ (seq_ (reg_ (st (mv_ rfl tv (st (c_ (cp_ t3 rfl tv) (oe_ (wk_ ⟨[(10, .own 2176 0 1 (p13.map eI)), (47, .bool (a3 == 2))], [], []⟩ (fgk (by kernel_rfl)) (ite_ (cb := (a3 == 2)) rfl (fun c14 => ?_) (fun c14 => ?_)))))))))))
   ·replace h0 := ip c14 h0
    refine seq_ (reg_ (st (mv_ rfl tv (st (mv_ rfl tv (st (mvc_ tv (oe_ (wk_ ⟨[(8, .own 2176 0 1 (p13.map eI)), (9, iV 15)], [], []⟩ (fgk (by kernel_rfl)) ?_)))))))))
    obtain rfl := Option.some.inj h0
    exact rt_ (ret_ rfl rfl rfl rfl rfl tv)
   ·replace h0 := inb c14 h0
    refine sk_ (wk_ ⟨[(10, .own 2176 0 1 (p13.map eI))], [], []⟩ (fgk (by kernel_rfl)) (seq_ (reg_ (st (mv_ rfl tv (st (mv_ rfl tv (st (mvc_ tv (oe_ (wk_ ⟨[(8, .own 2176 0 1 (p13.map eI)), (9, iV 0)], [], []⟩ (fgk (by kernel_rfl)) ?_)))))))))))
    obtain rfl := Option.some.inj h0
    exact rt_ (ret_ rfl rfl rfl rfl rfl tv)
  ·refine seq_ ?_
   refine reg_ (st (mv_ rfl tv (st (mv_ rfl tv (st (pg_ (u := .bool r4.2) rfl (fun hg => (cmv (v := .bool r4.2) rfl tv)) (st (pg_ (u := .bool (!r4.2)) rfl (fun hg => (cp_ ⟨(fun _ => hg), tv⟩ rfl tv)) (st (pick_ rfl rfl rfl (fun h => eqt h) tv rfl (st (mv_ rfl tv (oe_ (wk_ ⟨[(1, iV a1), (2, .bool a2), (3, iV a3), (10, .own 896 0 1 (r1.map eI)), (11, iV r4.1), (12, .bool r4.2), (24, .bool (bif a2 then (!r4.2) else false))], [], []⟩ (fgk (by kernel_rfl)) (ite_ (cb := (bif a2 then (!r4.2) else false)) rfl (fun c16 => ?_) (fun c16 => ?_))))))))))))))))
   ·replace h0 := ip c16 h0
    refine reg_ (st (mv_ rfl tv (st (mv_ rfl tv (st (mv_ rfl tv (st (mkS_ ⟨tv, tv⟩ ⟨⟨nl rfl, rfl, rfl⟩, tv⟩ ?_))))))))
    obtain ⟨r17, e18, h0⟩ := bnd h0
    obtain ⟨c19, h0⟩ := grd h0
    refine st (call1_ [] [2112] [896] false (H122 r1 r4.1 ([a1] : List Int) r17 e18) ⟨tv, tv, tv, tv⟩ (by kernel_rfl) (by kernel_rfl) (by kernel_rfl) (by kernel_rfl) (fun _ => and_ (and_ (fl1 (fun _ => rfl)) rfl) (and_ (fl2 (fun _ => rfl)) rfl)) (sw ⟨[(3, iV a3), (34, .own 2176 0 1 (r17.1.map eI))], [], []⟩ (fgk (by kernel_rfl)) (mv_ rfl tv (oe_ (bn_ ?_)))))
    exact J15 _ ⟨[(3, iV a3), (10, .own 2176 0 1 (r17.1.map eI))], [], []⟩ (fgk (by kernel_rfl)) ⟨_, rfl, h0⟩
   ·replace h0 := inb c16 h0
    refine seq_ (reg_ (st (mv_ rfl tv (st (c_ (cp_ ⟨tv, tv⟩ rfl tv) (st (mv_ rfl tv (st (pg_ (u := .bool r4.2) rfl (fun hg => (cmv (v := .bool r4.2) rfl tv)) (st (pick_ rfl rfl rfl (fun h => eqt h) tv rfl (st (mv_ rfl tv (oe_ (wk_ ⟨[(3, iV a3), (10, .own 896 0 1 (r1.map eI)), (11, iV r4.1), (35, .bool (bif (!a2) then r4.2 else false))], [], []⟩ (fgk (by kernel_rfl)) (ite_ (cb := (bif (!a2) then r4.2 else false)) rfl (fun c20 => ?_) (fun c20 => ?_)))))))))))))))))
    ·replace h0 := ip c20 h0
     refine reg_ (st (mv_ rfl tv (st (mv_ rfl tv (st (mv_ rfl tv (st (c_ (cp_ t3 rfl tv) ?_))))))))
     obtain ⟨r21, e22, h0⟩ := bnd h0
     refine st (call1_ [] [] [896] false (H123 r1 r4.1 (IntKind.i64.wrap (r4.1 + 1)) r21 e22) ⟨tv, tv, tv, tv⟩ (by kernel_rfl) (by kernel_rfl) (by kernel_rfl) (by kernel_rfl) (fun _ => and_ (and_ (fl1 (fun _ => rfl)) rfl) rfl) (sw ⟨[(3, iV a3), (45, .own 2880 0 1 (r21.map eI))], [], []⟩ (fgk (by kernel_rfl)) (mv_ rfl tv (oe_ (bn_ ?_)))))
     exact J15 _ ⟨[(3, iV a3), (10, .own 2176 0 1 (r21.map eI))], [], []⟩ (fgsk [] [(2880, 2176)] rfl (by kernel_rfl)) ⟨_, rfl, h0⟩
    ·replace h0 := inb c20 h0
     refine sk_ (bn_ ?_)
     exact J15 _ ⟨[(3, iV a3), (10, .own 2176 0 1 (r1.map eI))], [], []⟩ (fgsk [] [(896, 2176)] rfl (by kernel_rfl)) ⟨_, rfl, h0⟩

/- loop.example/g00149/impl.CallTarget -/
def c44_r0 : List Ins := [⟨some 8, .nilS 1, none⟩,
⟨some 9, .p (.mv (.c (iV 0))), none⟩]
def c44_r1 : List Ins := [(iQ 11 (.mv (.t 0))),
⟨some 12, .call 87 [(.t 11)], none⟩,
(iQ 13 (.un .not (.t 12))),
(iQ 10 (.mv (.t 13)))]
def c44_r2 : List Ins := [⟨some 8, .nilS 1, none⟩,
⟨some 9, .p (.mv (.c (iV 2))), none⟩]
def c44_r3 : List Ins := [(iQ 15 (.mv (.t 0))),
⟨some 16, .call 59 [(.t 15), (.c (iV 1)), (.c (iV 1000000))], none⟩,
(iQ 17 (.un .not (.t 16))),
(iQ 18 (.mv (.t 17))),
⟨some 19, .p (.mv (.t 1)), some (18, false)⟩,
⟨some 20, .call 58 [(.t 19)], some (18, false)⟩,
⟨some 21, .p (.un .not (.t 20)), some (18, false)⟩,
⟨some 22, .pick (.t 18) (.c (.bool true)) (.t 21), none⟩,
(iQ 14 (.mv (.t 22)))]
def c44_r4 : List Ins := [⟨some 8, .nilS 1, none⟩,
⟨some 9, .p (.mv (.c (iV 1))), none⟩]
def c44_r5 : List Ins := [(iQ 24 (.mv (.t 3))),
⟨some 25, .call 88 [(.t 24)], none⟩,
(iQ 26 (.un .not (.t 25))),
(iQ 23 (.mv (.t 26)))]
def c44_r6 : List Ins := [⟨some 8, .nilS 1, none⟩,
⟨some 9, .p (.mv (.c (iV 4))), none⟩]
def c44_r7 : List Ins := [(iQ 27 (.mv (.t 0))),
(iQ 28 (.mv (.t 1))),
(iQ 29 (.mv (.t 2))),
(iQ 30 (.mv (.t 3))),
⟨some 31, .call 89 [(.t 27), (.t 28), (.t 29), (.t 30)], none⟩,
(iQ 32 (.ext (.t 31) 0)),
(iQ 33 (.ext (.t 31) 1)),
(iQ 8 (.mv (.t 32))),
(iQ 9 (.mv (.t 33)))]
def c44 : XFn := { np := 4, nt := 34, res := [.t 8, .t 9], body := (.seq (.reg c44_r0) (.seq (.block 0 (.seq (.reg c44_r1) (.ite (.t 10) (.seq (.reg c44_r2) .ret) (.seq (.reg c44_r3) (.ite (.t 14) (.seq (.reg c44_r4) .ret) (.seq (.reg c44_r5) (.ite (.t 23) (.seq (.reg c44_r6) .ret) .skip))))))) (.seq (.reg c44_r7) .ret))) }
def K44 (C : CRel) : Prop := ∀ (a0 : List Int) (a1 : Int) (a2 : Bool) (a3 : Int) (r : (List Int) × Int), g44 a0 a1 a2 a3 = some r → C 44 ⟨[.lst 1 (a0.map eI), iV a1, .bool a2, iV a3], []⟩ ⟨.tup [.own 0 0 1 (r.1.map eI), iV r.2], [], []⟩
theorem F44 {C : CRel} (H58 : K58 C) (H59 : K59 C) (H87 : K87 C) (H88 : K88 C) (H89 : K89 C) (a0 : List Int) (a1 : Int) (a2 : Bool) (a3 : Int) (r : (List Int) × Int) (h0 : g44 a0 a1 a2 a3 = some r) : FnOK C c44 ⟨[.lst 1 (a0.map eI), iV a1, .bool a2, iV a3], []⟩ ⟨.tup [.own 0 0 1 (r.1.map eI), iV r.2], [], []⟩ := by
 refine fn_ (nl rfl) (seq_ (reg_ (st (nilS_ (st (mvc_ tv (oe_ (wk_ ⟨[(0, .lst 1 (a0.map eI)), (1, iV a1), (2, .bool a2), (3, iV a3)], [], []⟩ (fgk (by kernel_rfl)) (seq_ (block_ (seq_ (reg_ (st (mv_ rfl tv ?_))))))))))))))
 obtain ⟨r1, e2, h0⟩ := bnd h0
 refine st (call0_ (r := .bool r1) false (H87 a0 r1 e2) ⟨tv, tv⟩ rfl rfl (fun _ => rfl) (st (c_ (cp_ ⟨tv, tv⟩ rfl tv) (st (mv_ rfl tv (oe_ (wk_ ⟨[(0, .lst 1 (a0.map eI)), (1, iV a1), (2, .bool a2), (3, iV a3), (10, .bool (!r1))], [], []⟩ (fgk (by kernel_rfl)) (ite_ (cb := (!r1)) rfl (fun c3 => ?_) (fun c3 => ?_)))))))))
 ·replace h0 := ip c3 h0
  refine seq_ (reg_ (st (nilS_ (st (mvc_ tv (oe_ (wk_ ⟨[(8, .own 512 0 1 ([].map eI)), (9, iV 2)], [], []⟩ (fgk (by kernel_rfl)) ?_)))))))
  obtain rfl := Option.some.inj h0
  exact rt_ (ret_ rfl rfl rfl rfl rfl tv)
 ·replace h0 := inb c3 h0
  refine seq_ (reg_ (st (mv_ rfl tv ?_)))
  obtain ⟨r4, e5, h0⟩ := bnd h0
  refine st (call0_ (r := .bool r4) false (H59 a0 1 1000000 r4 e5) ⟨tv, tv, tv, tv⟩ rfl rfl (fun _ => rfl) (st (c_ (cp_ ⟨tv, tv⟩ rfl tv) (st (mv_ rfl tv (st (pg_ (u := iV a1) rfl (fun hg => (cmv (v := iV a1) rfl tv)) ?_)))))))
  obtain ⟨r6, e7, h0⟩ := bnd h0
  refine sw ⟨[(0, .lst 1 (a0.map eI)), (1, iV a1), (2, .bool a2), (3, iV a3), (18, .bool (!r4)), (19, .may ((!r4) == false) (iV a1))], [], []⟩ (fgk (by kernel_rfl)) (callg_ (r := .bool r6) rfl false (fun hg => H58 a1 r6 (ip hg e7)) ⟨(fun hg => hg), tv⟩ (fun _ => rfl) (fun _ => rfl) (fun _ => rfl) (fun h => nomatch h) (st (pg_ (u := .bool (!r6)) rfl (fun hg => (cp_ ⟨(fun _ => hg), tv⟩ rfl tv)) (st (pick_ rfl rfl rfl tv (fun h => eqf h) rfl (st (mv_ rfl tv (oe_ (wk_ ⟨[(0, .lst 1 (a0.map eI)), (1, iV a1), (2, .bool a2), (3, iV a3), (14, .bool (bif (!r4) then true else (!r6)))], [], []⟩ (fgk (by kernel_rfl)) (ite_ (cb := (bif (!r4) then true else (!r6))) rfl (fun c8 => ?_) (fun c8 => ?_)))))))))))
  ·replace h0 := ip c8 h0
   refine seq_ (reg_ (st (nilS_ (st (mvc_ tv (oe_ (wk_ ⟨[(8, .own 512 0 1 ([].map eI)), (9, iV 1)], [], []⟩ (fgk (by kernel_rfl)) ?_)))))))
   obtain rfl := Option.some.inj h0
   exact rt_ (ret_ rfl rfl rfl rfl rfl tv)
  ·replace h0 := inb c8 h0
   refine seq_ (reg_ (st (mv_ rfl tv ?_)))
   obtain ⟨r9, e10, h0⟩ := bnd h0
   refine st (call0_ (r := .bool r9) false (H88 a3 r9 e10) ⟨tv, tv⟩ rfl rfl (fun _ => rfl) (st (c_ (cp_ ⟨tv, tv⟩ rfl tv) (st (mv_ rfl tv (oe_ (wk_ ⟨[(0, .lst 1 (a0.map eI)), (1, iV a1), (2, .bool a2), (3, iV a3), (23, .bool (!r9))], [], []⟩ (fgk (by kernel_rfl)) (ite_ (cb := (!r9)) rfl (fun c11 => ?_) (fun c11 => ?_)))))))))
   ·replace h0 := ip c11 h0
    refine seq_ (reg_ (st (nilS_ (st (mvc_ tv (oe_ (wk_ ⟨[(8, .own 512 0 1 ([].map eI)), (9, iV 4)], [], []⟩ (fgk (by kernel_rfl)) ?_)))))))
    obtain rfl := Option.some.inj h0
    exact rt_ (ret_ rfl rfl rfl rfl rfl tv)
   ·replace h0 := inb c11 h0
    refine sk_ (bn_ (wk_ ⟨[(0, .lst 1 (a0.map eI)), (1, iV a1), (2, .bool a2), (3, iV a3)], [], []⟩ (fgk (by kernel_rfl)) (seq_ (reg_ (st (mv_ rfl tv (st (mv_ rfl tv (st (mv_ rfl tv (st (mv_ rfl tv ?_))))))))))))
    obtain ⟨r12, e13, h0⟩ := bnd h0
    refine st (call0_ (r := .tup [.own 0 0 1 (r12.1.map eI), iV r12.2]) false (H89 a0 a1 a2 a3 r12 e13) ⟨tv, tv, tv, tv, tv⟩ rfl rfl (fun _ => (and_ (fl1 (fun _ => rfl)) (and_ rfl rfl))) (st (c_ (cp_ ⟨tv, tv⟩ rfl tv) (st (c_ (cp_ ⟨tv, tv⟩ rfl tv) (st (mv_ rfl tv (st (mv_ rfl tv (oe_ (wk_ ⟨[(8, .own 1984 0 1 (r12.1.map eI)), (9, iV r12.2)], [], []⟩ (fgk (by kernel_rfl)) ?_)))))))))))
    obtain rfl := Option.some.inj h0
    exact rt_ (ret_ rfl rfl rfl rfl rfl tv)

/- loop.example/g00149/spec.l09Act -/
def c100_r0 : List Ins := [⟨some 1, .box (.t 0), none⟩,
⟨some 2, .p (.mv (.c (.bool false))), none⟩]
def c100_r1 : List Ins := [(iQ 4 (.fieldA (.t 1) 5)),
(iQ 5 (.load (.t 4) 1 false)),
(iQ 6 (.len (.t 5))),
⟨some 7, .p (.bin .gtr (.t 6) (.c (iV 4096))), none⟩,
(iQ 8 (.mv (.t 7))),
⟨some 9, .p (.fieldA (.t 1) 6), some (8, false)⟩,
⟨some 10, .p (.load (.t 9) 1 false), some (8, false)⟩,
⟨some 11, .call 56 [(.t 10), (.c (iV 0)), (.c (iV 2))], some (8, false)⟩,
⟨some 12, .p (.un .not (.t 11)), some (8, false)⟩,
⟨some 13, .pick (.t 8) (.c (.bool true)) (.t 12), none⟩]
def c100_r2 : List Ins := [⟨some 2, .p (.mv (.c (.bool false))), none⟩]
def c100_r3 : List Ins := [⟨some 3, .p (.mv (.c (iV 0))), none⟩]
def c100_r4 : List Ins := [(iQ 14 (.mv (.t 3))),
(iQ 15 (.fieldA (.t 1) 5)),
(iQ 16 (.load (.t 15) 1 false)),
(iQ 17 (.len (.t 16))),
(iQ 18 (.bin .lss (.t 14) (.t 17)))]
def c100_r5 : List Ins := [(iQ 21 (.fieldA (.t 1) 5)),
(iQ 22 (.load (.t 21) 1 false)),
(iQ 23 (.mv (.t 3))),
(iQ 24 (.idxA (.t 22) (.t 23) 1)),
(iQ 25 (.load (.t 24) 1 false)),
⟨some 26, .call 56 [(.t 25), (.c (iV 0)), (.c (iV 2))], none⟩,
(iQ 27 (.un .not (.t 26)))]
def c100_r6 : List Ins := [⟨some 2, .p (.mv (.c (.bool false))), none⟩]
def c100_r7 : List Ins := [(iQ 19 (.mv (.t 3))),
⟨some 20, .p (.bin .add (.t 19) (.c (iV 1))), none⟩,
(iQ 3 (.mv (.t 20)))]
def c100_l0 : IR := (.seq (.seq (.reg c100_r4) (.ite (.t 18) .skip (.exit 0))) (.seq (.block 1 (.seq (.reg c100_r5) (.ite (.t 27) (.seq (.reg c100_r6) .ret) .skip))) (.reg c100_r7)))
def c100_r8 : List Ins := [⟨some 2, .p (.mv (.c (.bool true))), none⟩]
def c100 : XFn := { np := 1, nt := 28, res := [.t 2], body := (.seq (.reg c100_r0) (.seq (.seq (.reg c100_r1) (.ite (.t 13) (.seq (.reg c100_r2) .ret) .skip)) (.seq (.seq (.reg c100_r3) (.block 0 (.loop c100_l0))) (.seq (.reg c100_r8) .ret)))) }
def K100 (C : CRel) : Prop := ∀ (a0 : DVaultAct) (r : Bool), g100 a0 = some r → C 100 ⟨[.agg (eDVaultAct a0)], []⟩ ⟨.bool r, [], []⟩
theorem F100 {C : CRel} (H56 : K56 C) (a0 : DVaultAct) (r : Bool) (h0 : g100 a0 = some r) : FnOK C c100 ⟨[.agg (eDVaultAct a0)], []⟩ ⟨.bool r, [], []⟩ := by
 refine fn_ (nl rfl) (seq_ (reg_ (st (box_ rfl tv rfl (st (mvc_ tv (oe_ (wk_ ⟨[(1, .ptr 64 0)], [(64, [iV a0.kind, iV a0.id, iV a0.ttl, iV a0.most, iV a0.clock, .lst 1 (a0.fates.map eI), iV a0.stop])], []⟩ (fgk (by kernel_rfl)) (seq_ (seq_ (reg_ (st (c_ (cp_ ⟨tv, tv⟩ rfl tv) (st (c_ (cp_ ⟨tv, tv⟩ rfl (nl rfl)) (st (c_ (clenL (e := eI) (l0 := a0.fates) rfl rfl tv) (st (c_ (cp_ t3 rfl tv) (st (mv_ rfl tv (st (pg_ (u := .ptr 64 6) rfl (fun hg => (cp_ ⟨tv, tv⟩ rfl tv)) (st (pg_ (u := iV a0.stop) rfl (fun hg => (cp_ ⟨(fun _ => hg), tv⟩ rfl (nl rfl))) ?_)))))))))))))))))))))))))
 obtain ⟨r1, e2, h0⟩ := bnd h0
 refine sw ⟨[(1, .ptr 64 0), (8, .bool (decide ((a0.fates.length : Int) > 4096))), (10, .may ((decide ((a0.fates.length : Int) > 4096)) == false) (iV a0.stop))], [(64, [iV a0.kind, iV a0.id, iV a0.ttl, iV a0.most, iV a0.clock, .lst 1 (a0.fates.map eI), iV a0.stop])], []⟩ (fgk (by kernel_rfl)) (callg_ (r := .bool r1) rfl false (fun hg => H56 a0.stop 0 2 r1 (ip hg e2)) ⟨(fun hg => hg), tv, tv, tv⟩ (fun _ => rfl) (fun _ => rfl) (fun _ => rfl) (fun h => nomatch h) (st (pg_ (u := .bool (!r1)) rfl (fun hg => (cp_ ⟨(fun _ => hg), tv⟩ rfl tv)) (st (pick_ rfl rfl rfl tv (fun h => eqf h) rfl (oe_ (wk_ ⟨[(1, .ptr 64 0), (13, .bool (bif (decide ((a0.fates.length : Int) > 4096)) then true else (!r1)))], [(64, [iV a0.kind, iV a0.id, iV a0.ttl, iV a0.most, iV a0.clock, .lst 1 (a0.fates.map eI), iV a0.stop])], []⟩ (fgk (by kernel_rfl)) (ite_ (cb := (bif (decide ((a0.fates.length : Int) > 4096)) then true else (!r1))) rfl (fun c3 => ?_) (fun c3 => ?_)))))))))
 ·replace h0 := ip c3 h0
  refine seq_ (reg_ (st (mvc_ tv (oe_ (wk_ ⟨[(2, .bool false)], [], []⟩ (fgk (by kernel_rfl)) ?_)))))
  obtain rfl := Option.some.inj h0
  exact rt_ (ret_ rfl rfl rfl rfl rfl tv)
 ·replace h0 := inb c3 h0
  refine sk_ (wk_ ⟨[(1, .ptr 64 0)], [(64, [iV a0.kind, iV a0.id, iV a0.ttl, iV a0.most, iV a0.clock, .lst 1 (a0.fates.map eI), iV a0.stop])], []⟩ (fgk (by kernel_rfl)) (seq_ (seq_ (reg_ (st (mvc_ tv (oe_ (wk_ ⟨[(1, .ptr 64 0), (3, iV 0)], [(64, [iV a0.kind, iV a0.id, iV a0.ttl, iV a0.most, iV a0.clock, .lst 1 (a0.fates.map eI), iV a0.stop])], []⟩ (fgk (by kernel_rfl)) (block_ ?_)))))))))
  obtain ⟨r24, e25, h0⟩ := bnd h0
  refine loop_ (R := (fun S => .inl () = r24 ∧ S = ⟨[], [], []⟩)) (g100_l0 a0) (fun s S => match s with | p10 => S = ⟨[(1, .ptr 64 0), (3, iV p10)], [(64, [iV a0.kind, iV a0.id, iV a0.ttl, iV a0.most, iV a0.clock, .lst 1 (a0.fates.map eI), iV a0.stop])], []⟩) e25 ⟨[(1, .ptr 64 0), (3, iV 0)], [(64, [iV a0.kind, iV a0.id, iV a0.ttl, iV a0.most, iV a0.clock, .lst 1 (a0.fates.map eI), iV a0.stop])], []⟩ (fgk (by kernel_rfl)) rfl 0 (fun _ => rfl) ?_ ?_
  ·rintro S _ hfg ⟨rfl, rfl⟩
   refine wk_ ⟨[], [], []⟩ (fglk hfg (by kernel_rfl)) (seq_ (reg_ (st (mvc_ tv (oe_ (wk_ ⟨[(2, .bool true)], [], []⟩ (fgk (by kernel_rfl)) ?_))))))
   obtain rfl := Option.some.inj h0
   exact rt_ (ret_ rfl rfl rfl rfl rfl tv)
  ·rintro p10 o1 _ K1 rfl h1 hx1 hK1 hE1 hR1
   refine seq_ (seq_ (reg_ (st (mv_ rfl tv (st (c_ (cp_ ⟨tv, tv⟩ rfl tv) (st (c_ (cp_ ⟨tv, tv⟩ rfl (nl rfl)) (st (c_ (clenL (e := eI) (l0 := a0.fates) rfl rfl tv) (st (c_ (cp_ t3 rfl tv) (oe_ (wk_ ⟨[(1, .ptr 64 0), (3, iV p10), (18, .bool (decide (p10 < (a0.fates.length : Int))))], [(64, [iV a0.kind, iV a0.id, iV a0.ttl, iV a0.most, iV a0.clock, .lst 1 (a0.fates.map eI), iV a0.stop])], []⟩ (fgk (by kernel_rfl)) (ite_ (cb := (decide (p10 < (a0.fates.length : Int)))) rfl (fun c18 => ?_) (fun c18 => ?_))))))))))))))))
   ·replace h1 := ip c18 h1
    refine sk_ (wk_ ⟨[(1, .ptr 64 0), (3, iV p10)], [(64, [iV a0.kind, iV a0.id, iV a0.ttl, iV a0.most, iV a0.clock, .lst 1 (a0.fates.map eI), iV a0.stop])], []⟩ (fgk (by kernel_rfl)) (seq_ (block_ (seq_ (reg_ (st (c_ (cp_ ⟨tv, tv⟩ rfl tv) (st (c_ (cp_ ⟨tv, tv⟩ rfl (nl rfl)) (st (mv_ rfl tv ?_)))))))))))
    obtain ⟨y19, e20, h1⟩ := bnd h1
    refine st (c_ (cidxL (e := eI) (y := y19) rfl rfl tv rfl rfl tv e20) (st (c_ (cp_ ⟨tv, tv⟩ rfl (nl rfl)) ?_)))
    obtain ⟨r21, e22, h1⟩ := bnd h1
    refine st (call0_ (r := .bool r21) false (H56 y19 0 2 r21 e22) ⟨tv, tv, tv, tv⟩ rfl rfl (fun _ => rfl) (st (c_ (cp_ ⟨tv, tv⟩ rfl tv) (oe_ (wk_ ⟨[(1, .ptr 64 0), (3, iV p10), (27, .bool (!r21))], [(64, [iV a0.kind, iV a0.id, iV a0.ttl, iV a0.most, iV a0.clock, .lst 1 (a0.fates.map eI), iV a0.stop])], []⟩ (fgk (by kernel_rfl)) (ite_ (cb := (!r21)) rfl (fun c23 => ?_) (fun c23 => ?_)))))))
    ·replace h1 := ip c23 h1
     refine seq_ (reg_ (st (mvc_ tv (oe_ (wk_ ⟨[(2, .bool false)], [], []⟩ (fgk (by kernel_rfl)) ?_)))))
     obtain rfl := Option.some.inj h1
     obtain rfl := hx1 _ rfl
     obtain rfl := Option.some.inj h0
     exact rt_ (hR1 _ (ret_ rfl rfl rfl rfl rfl tv))
    ·replace h1 := inb c23 h1
     refine sk_ (bn_ (wk_ ⟨[(1, .ptr 64 0), (3, iV p10)], [(64, [iV a0.kind, iV a0.id, iV a0.ttl, iV a0.most, iV a0.clock, .lst 1 (a0.fates.map eI), iV a0.stop])], []⟩ (fgk (by kernel_rfl)) (reg_ (st (mv_ rfl tv (st (c_ (cp_ t3 rfl tv) (st (mv_ rfl tv (oe_ ?_))))))))))
     obtain rfl := Option.some.inj h1
     exact hK1 _ rfl _ ⟨[(1, .ptr 64 0), (3, iV (IntKind.i64.wrap (p10 + 1)))], [(64, [iV a0.kind, iV a0.id, iV a0.ttl, iV a0.most, iV a0.clock, .lst 1 (a0.fates.map eI), iV a0.stop])], []⟩ (fgk (by kernel_rfl)) rfl
   ·replace h1 := inb c18 h1
    obtain rfl := Option.some.inj h1
    obtain rfl := hx1 _ rfl
    refine exQ rfl ?_
    exact hE1 _ ⟨[], [], []⟩ (fgk (by kernel_rfl)) ⟨rfl, rfl⟩

/- loop.example/g00149/spec.l08Find -/
def c92_r0 : List Ins := [⟨some 2, .box (.t 0), none⟩,
⟨some 4, .p (.mv (.c (iV 0))), none⟩]
def c92_r1 : List Ins := [⟨some 5, .p (.mv (.c (iV 0))), none⟩]
def c92_r2 : List Ins := [(iQ 6 (.mv (.t 5))),
(iQ 7 (.fieldA (.t 2) 2)),
(iQ 8 (.load (.t 7) 1 false)),
(iQ 9 (.len (.t 8))),
(iQ 10 (.bin .lss (.t 6) (.t 9)))]
def c92_r3 : List Ins := [(iQ 13 (.fieldA (.t 2) 2)),
(iQ 14 (.load (.t 13) 1 false)),
(iQ 15 (.mv (.t 5))),
(iQ 16 (.idxA (.t 14) (.t 15) 4)),
(iQ 17 (.fieldA (.t 16) 0)),
(iQ 18 (.load (.t 17) 1 false)),
(iQ 19 (.mv (.t 1))),
(iQ 20 (.bin .eql (.t 18) (.t 19)))]
def c92_r4 : List Ins := [(iQ 21 (.mv (.t 5))),
(iQ 4 (.mv (.t 21)))]
def c92_r5 : List Ins := [(iQ 11 (.mv (.t 5))),
⟨some 12, .p (.bin .add (.t 11) (.c (iV 1))), none⟩,
(iQ 5 (.mv (.t 12)))]
def c92_l0 : IR := (.seq (.seq (.reg c92_r2) (.ite (.t 10) .skip (.exit 0))) (.seq (.block 1 (.seq (.reg c92_r3) (.ite (.t 20) (.seq (.reg c92_r4) .ret) .skip))) (.reg c92_r5)))
def c92_r6 : List Ins := [⟨some 4, .p (.mv (.c (iV (-1)))), none⟩]
def c92 : XFn := { np := 2, nt := 22, res := [.t 4], body := (.seq (.reg c92_r0) (.seq (.seq (.reg c92_r1) (.block 0 (.loop c92_l0))) (.seq (.reg c92_r6) .ret))) }
def K92 (C : CRel) : Prop := ∀ (a0 : DTable) (a1 : Int) (r : Int), g92 a0 a1 = some r → C 92 ⟨[.agg (eDTable a0), iV a1], []⟩ ⟨iV r, [], []⟩
theorem F92 {C : CRel}  (a0 : DTable) (a1 : Int) (r : Int) (h0 : g92 a0 a1 = some r) : FnOK C c92 ⟨[.agg (eDTable a0), iV a1], []⟩ ⟨iV r, [], []⟩ := by
 refine fn_ (nl rfl) (seq_ (reg_ (st (box_ rfl tv rfl (st (mvc_ tv (oe_ (wk_ ⟨[(1, iV a1), (2, .ptr 128 0)], [(128, [iV a0.clock, iV a0.next, .lst 4 (a0.list_.map eDLease)])], []⟩ (fgk (by kernel_rfl)) (seq_ (seq_ (reg_ (st (mvc_ tv (oe_ (wk_ ⟨[(1, iV a1), (2, .ptr 128 0), (5, iV 0)], [(128, [iV a0.clock, iV a0.next, .lst 4 (a0.list_.map eDLease)])], []⟩ (fgk (by kernel_rfl)) (block_ ?_))))))))))))))))
 obtain ⟨r15, e16, h0⟩ := bnd h0
 refine loop_ (R := (fun S => .inl () = r15 ∧ S = ⟨[], [], []⟩)) (g92_l0 a0 a1) (fun s S => match s with | p5 => S = ⟨[(1, iV a1), (2, .ptr 128 0), (5, iV p5)], [(128, [iV a0.clock, iV a0.next, .lst 4 (a0.list_.map eDLease)])], []⟩) e16 ⟨[(1, iV a1), (2, .ptr 128 0), (5, iV 0)], [(128, [iV a0.clock, iV a0.next, .lst 4 (a0.list_.map eDLease)])], []⟩ (fgk (by kernel_rfl)) rfl 0 (fun _ => rfl) ?_ ?_
 ·rintro S _ hfg ⟨rfl, rfl⟩
  refine wk_ ⟨[], [], []⟩ (fglk hfg (by kernel_rfl)) (seq_ (reg_ (st (mvc_ tv (oe_ (wk_ ⟨[(4, iV (-1))], [], []⟩ (fgk (by kernel_rfl)) ?_))))))
  obtain rfl := Option.some.inj h0
  exact rt_ (ret_ rfl rfl rfl rfl rfl tv)
 ·rintro p5 o1 _ K1 rfl h1 hx1 hK1 hE1 hR1
  refine seq_ (seq_ (reg_ (st (mv_ rfl tv (st (c_ (cp_ ⟨tv, tv⟩ rfl tv) (st (c_ (cp_ ⟨tv, tv⟩ rfl (nl rfl)) (st (c_ (clenL (e := eDLease) (l0 := a0.list_) rfl rfl tv) (st (c_ (cp_ t3 rfl tv) (oe_ (wk_ ⟨[(1, iV a1), (2, .ptr 128 0), (5, iV p5), (10, .bool (decide (p5 < (a0.list_.length : Int))))], [(128, [iV a0.clock, iV a0.next, .lst 4 (a0.list_.map eDLease)])], []⟩ (fgk (by kernel_rfl)) (ite_ (cb := (decide (p5 < (a0.list_.length : Int)))) rfl (fun c11 => ?_) (fun c11 => ?_))))))))))))))))
  ·replace h1 := ip c11 h1
   refine sk_ (wk_ ⟨[(1, iV a1), (2, .ptr 128 0), (5, iV p5)], [(128, [iV a0.clock, iV a0.next, .lst 4 (a0.list_.map eDLease)])], []⟩ (fgk (by kernel_rfl)) (seq_ (block_ (seq_ (reg_ (st (c_ (cp_ ⟨tv, tv⟩ rfl tv) (st (c_ (cp_ ⟨tv, tv⟩ rfl (nl rfl)) (st (mv_ rfl tv ?_)))))))))))
   obtain ⟨y12, e13, h1⟩ := bnd h1
   refine st (c_ (cidxL (e := eDLease) (y := y12) rfl rfl tv rfl rfl tv e13) (st (c_ (cp_ ⟨tv, tv⟩ rfl (nl rfl)) (st (c_ (cp_ ⟨tv, tv⟩ rfl (nl rfl)) (st (mv_ rfl tv (st (c_ (cp_ t3 rfl tv) (oe_ (wk_ ⟨[(1, iV a1), (2, .ptr 128 0), (5, iV p5), (20, .bool (y12.id == a1))], [(128, [iV a0.clock, iV a0.next, .lst 4 (a0.list_.map eDLease)])], []⟩ (fgk (by kernel_rfl)) (ite_ (cb := (y12.id == a1)) rfl (fun c14 => ?_) (fun c14 => ?_)))))))))))))
   ·replace h1 := ip c14 h1
    refine seq_ (reg_ (st (mv_ rfl tv (st (mv_ rfl tv (oe_ (wk_ ⟨[(4, iV p5)], [], []⟩ (fgk (by kernel_rfl)) ?_)))))))
    obtain rfl := Option.some.inj h1
    obtain rfl := hx1 _ rfl
    obtain rfl := Option.some.inj h0
    exact rt_ (hR1 _ (ret_ rfl rfl rfl rfl rfl tv))
   ·replace h1 := inb c14 h1
    refine sk_ (bn_ (wk_ ⟨[(1, iV a1), (2, .ptr 128 0), (5, iV p5)], [(128, [iV a0.clock, iV a0.next, .lst 4 (a0.list_.map eDLease)])], []⟩ (fgk (by kernel_rfl)) (reg_ (st (mv_ rfl tv (st (c_ (cp_ t3 rfl tv) (st (mv_ rfl tv (oe_ ?_))))))))))
    obtain rfl := Option.some.inj h1
    exact hK1 _ rfl _ ⟨[(1, iV a1), (2, .ptr 128 0), (5, iV (IntKind.i64.wrap (p5 + 1)))], [(128, [iV a0.clock, iV a0.next, .lst 4 (a0.list_.map eDLease)])], []⟩ (fgk (by kernel_rfl)) rfl
  ·replace h1 := inb c11 h1
   obtain rfl := Option.some.inj h1
   obtain rfl := hx1 _ rfl
   refine exQ rfl ?_
   exact hE1 _ ⟨[], [], []⟩ (fgk (by kernel_rfl)) ⟨rfl, rfl⟩

/- loop.example/g00149/spec.l08Copy -/
def c111_r0 : List Ins := [⟨some 1, .box (.t 0), none⟩,
⟨some 2, .alloc [(iV 0), (iV 0), (.own 131 0 4 [])], none⟩]
def c111_r1 : List Ins := [⟨some 3, .mkS 4 [(iV 0), (iV 0), (iV 0), (.bool false)] 0 [], none⟩,
(iQ 4 (.fieldA (.t 1) 2)),
(iQ 5 (.load (.t 4) 1 false)),
⟨some 6, .app 4 32 (.t 3) (.t 5), none⟩,
(iQ 7 (.fieldA (.t 1) 2)),
⟨none, .store (.t 7) (.t 6) 1, none⟩]
def c111_r2 : List Ins := [(iQ 8 (.load (.t 1) 3 true)),
⟨none, .store (.t 2) (.t 8) 3, none⟩]
def c111 : XFn := { np := 1, nt := 9, res := [.cell 2 3 true], body := (.seq (.reg c111_r0) (.seq (.reg c111_r1) (.seq (.reg c111_r2) .ret))) }
def K111 (C : CRel) : Prop := ∀ (a0 : DTable) (r : DTable), g111 a0 = some r → C 111 ⟨[.agg (eDTable a0)], []⟩ ⟨.agg [iV r.clock, iV r.next, .own 0 0 4 (r.list_.map eDLease)], [], []⟩
theorem F111 {C : CRel}  (a0 : DTable) (r : DTable) (h0 : g111 a0 = some r) : FnOK C c111 ⟨[.agg (eDTable a0)], []⟩ ⟨.agg [iV r.clock, iV r.next, .own 0 0 4 (r.list_.map eDLease)], [], []⟩ := by
 refine fn_ (nl rfl) (seq_ (reg_ (st (box_ rfl tv rfl (st (alloc_ (oe_ (wk_ ⟨[(1, .ptr 64 0), (2, .ptr 128 0)], [(64, [iV a0.clock, iV a0.next, .lst 4 (a0.list_.map eDLease)]), (128, [iV 0, iV 0, .own 131 0 4 (([] : List DLease).map eDLease)])], []⟩ (fgk (by kernel_rfl)) (seq_ (reg_ (st (mkS_ tv tv (st (c_ (cp_ ⟨tv, tv⟩ rfl tv) (st (c_ (cp_ ⟨tv, tv⟩ rfl (nl rfl)) ?_))))))))))))))))
 obtain ⟨c1, h0⟩ := grd h0
 refine st (app_ (e := eDLease) (l0 := ([] : List DLease)) (l1 := a0.list_) rfl rfl tv rfl (by decide) c1 (st (c_ (cp_ ⟨tv, tv⟩ rfl tv) (st (stp_ rfl rfl tv rfl rfl rfl (nl rfl) (oe_ (wk_ ⟨[(1, .ptr 64 0), (2, .ptr 128 0)], [(64, [iV a0.clock, iV a0.next, .own 192 0 4 ((([] : List DLease) ++ a0.list_).map eDLease)]), (128, [iV 0, iV 0, .own 131 0 4 (([] : List DLease).map eDLease)])], []⟩ (fgk (by kernel_rfl)) (seq_ (reg_ (st (c_ (v := .agg [iV a0.clock, iV a0.next, .own 192 0 4 ((([] : List DLease) ++ a0.list_).map eDLease)]) (cp_ ⟨tv, tv⟩ rfl (nl rfl)) (st (stp_ rfl rfl tv rfl rfl rfl (nl rfl) (oe_ (wk_ ⟨[(2, .ptr 128 0)], [(128, [iV a0.clock, iV a0.next, .own 192 0 4 ((([] : List DLease) ++ a0.list_).map eDLease)])], []⟩ (fgk (by kernel_rfl)) ?_)))))))))))))))
 obtain rfl := Option.some.inj h0
 exact rt_ (ret_ rfl rfl rfl rfl rfl tv)

/- loop.example/g00149/spec.l08Revoke -/
def c74_r0 : List Ins := [⟨some 2, .box (.t 0), none⟩,
⟨some 4, .alloc [(iV 0), (iV 0), (.own 259 0 4 [])], none⟩,
⟨some 5, .p (.mv (.c (iV 0))), none⟩]
def c74_r1 : List Ins := [(iQ 8 (.load (.t 2) 3 true)),
(iQ 9 (.mv (.t 1))),
⟨some 10, .call 92 [(.t 8), (.t 9)], none⟩,
(iQ 6 (.mv (.t 10)))]
def c74_r2 : List Ins := [(iQ 11 (.mv (.t 6))),
⟨some 12, .p (.bin .lss (.t 11) (.c (iV 0))), none⟩]
def c74_r3 : List Ins := [(iQ 13 (.load (.t 2) 3 true)),
⟨none, .store (.t 4) (.t 13) 3, none⟩,
⟨some 5, .p (.mv (.c (iV 5))), none⟩]
def c74_r4 : List Ins := [(iQ 14 (.load (.t 2) 3 true)),
⟨some 15, .call 111 [(.t 14)], none⟩,
⟨some 7, .alloc [(iV 0), (iV 0), (.own 451 0 4 [])], none⟩,
⟨none, .store (.t 7) (.t 15) 3, none⟩]
def c74_r5 : List Ins := [(iQ 16 (.fieldA (.t 7) 2)),
(iQ 17 (.load (.t 16) 1 false)),
(iQ 18 (.mv (.t 6))),
(iQ 19 (.idxA (.t 17) (.t 18) 4)),
(iQ 20 (.fieldA (.t 19) 3)),
⟨none, .store (.t 20) (.c (.bool true)) 1, none⟩]
def c74_r6 : List Ins := [(iQ 21 (.load (.t 7) 3 true)),
⟨none, .store (.t 4) (.t 21) 3, none⟩,
⟨some 5, .p (.mv (.c (iV 0))), none⟩]
def c74 : XFn := { np := 2, nt := 22, res := [.cell 4 3 true, .t 5], body := (.seq (.reg c74_r0) (.seq (.reg c74_r1) (.seq (.seq (.reg c74_r2) (.ite (.t 12) (.seq (.reg c74_r3) .ret) .skip)) (.seq (.reg c74_r4) (.seq (.reg c74_r5) (.seq (.reg c74_r6) .ret)))))) }
def K74 (C : CRel) : Prop := ∀ (a0 : DTable) (a1 : Int) (r : DTable × Int), g74 a0 a1 = some r → C 74 ⟨[.agg (eDTable a0), iV a1], []⟩ ⟨.tup [.agg [iV r.1.clock, iV r.1.next, .lst 4 (r.1.list_.map eDLease)], iV r.2], [], []⟩
theorem F74 {C : CRel} (H92 : K92 C) (H111 : K111 C) (a0 : DTable) (a1 : Int) (r : DTable × Int) (h0 : g74 a0 a1 = some r) : FnOK C c74 ⟨[.agg (eDTable a0), iV a1], []⟩ ⟨.tup [.agg [iV r.1.clock, iV r.1.next, .lst 4 (r.1.list_.map eDLease)], iV r.2], [], []⟩ := by
 refine fn_ (nl rfl) (seq_ (reg_ (st (box_ rfl tv rfl (st (alloc_ (st (mvc_ tv (oe_ (wk_ ⟨[(1, iV a1), (2, .ptr 128 0), (4, .ptr 256 0)], [(128, [iV a0.clock, iV a0.next, .lst 4 (a0.list_.map eDLease)]), (256, [iV 0, iV 0, .own 259 0 4 (([] : List DLease).map eDLease)])], []⟩ (fgk (by kernel_rfl)) (seq_ (reg_ (st (c_ (v := .agg (eDTable a0)) (cp_ ⟨tv, tv⟩ rfl (nl rfl)) (st (mv_ rfl tv ?_))))))))))))))))
 obtain ⟨r1, e2, h0⟩ := bnd h0
 refine st (call0_ (r := iV r1) false (H92 a0 a1 r1 e2) ⟨tv, tv, tv⟩ rfl rfl (fun _ => rfl) (st (mv_ rfl tv (oe_ (wk_ ⟨[(2, .ptr 128 0), (4, .ptr 256 0), (6, iV r1)], [(128, [iV a0.clock, iV a0.next, .lst 4 (a0.list_.map eDLease)]), (256, [iV 0, iV 0, .own 259 0 4 (([] : List DLease).map eDLease)])], []⟩ (fgk (by kernel_rfl)) (seq_ (seq_ (reg_ (st (mv_ rfl tv (st (c_ (cp_ t3 rfl tv) (oe_ (wk_ ⟨[(2, .ptr 128 0), (4, .ptr 256 0), (6, iV r1), (12, .bool (decide (r1 < 0)))], [(128, [iV a0.clock, iV a0.next, .lst 4 (a0.list_.map eDLease)]), (256, [iV 0, iV 0, .own 259 0 4 (([] : List DLease).map eDLease)])], []⟩ (fgk (by kernel_rfl)) (ite_ (cb := (decide (r1 < 0))) rfl (fun c3 => ?_) (fun c3 => ?_))))))))))))))))
 ·replace h0 := ip c3 h0
  refine seq_ (reg_ (st (c_ (v := .agg (eDTable a0)) (cp_ ⟨tv, tv⟩ rfl (nl rfl)) (st (stp_ rfl rfl tv rfl rfl rfl (nl rfl) (st (mvc_ tv (oe_ (wk_ ⟨[(4, .ptr 256 0), (5, iV 5)], [(256, [iV a0.clock, iV a0.next, .lst 4 (a0.list_.map eDLease)])], []⟩ (fgk (by kernel_rfl)) ?_)))))))))
  obtain rfl := Option.some.inj h0
  exact rt_ (ret_ rfl rfl rfl rfl rfl tv)
 ·replace h0 := inb c3 h0
  refine sk_ (wk_ ⟨[(2, .ptr 128 0), (4, .ptr 256 0), (6, iV r1)], [(128, [iV a0.clock, iV a0.next, .lst 4 (a0.list_.map eDLease)]), (256, [iV 0, iV 0, .own 259 0 4 (([] : List DLease).map eDLease)])], []⟩ (fgk (by kernel_rfl)) (seq_ (reg_ (st (c_ (v := .agg (eDTable a0)) (cp_ ⟨tv, tv⟩ rfl (nl rfl)) ?_)))))
  obtain ⟨r4, e5, h0⟩ := bnd h0
  refine st (call0_ (r := .agg [iV r4.clock, iV r4.next, .own 0 0 4 (r4.list_.map eDLease)]) false (H111 a0 r4 e5) ⟨tv, tv⟩ rfl rfl (fun _ => (and_ rfl (and_ rfl (and_ (fl1 (fun _ => rfl)) rfl)))) (st (alloc_ (st (stp_ rfl rfl tv rfl rfl rfl (nl rfl) (oe_ (wk_ ⟨[(4, .ptr 256 0), (6, iV r1), (7, .ptr 448 0)], [(256, [iV 0, iV 0, .own 259 0 4 (([] : List DLease).map eDLease)]), (448, [iV r4.clock, iV r4.next, .own 960 0 4 (r4.list_.map eDLease)])], []⟩ (fgk (by kernel_rfl)) (seq_ (reg_ (st (c_ (cp_ ⟨tv, tv⟩ rfl tv) (st (c_ (cp_ ⟨tv, tv⟩ rfl (nl rfl)) (st (mv_ rfl tv ?_)))))))))))))))
  obtain ⟨y6, e7, h0⟩ := bnd h0
  refine st (c_ (cidxO (e := eDLease) (y := y6) rfl rfl tv rfl rfl tv e7) (st (c_ (cp_ ⟨tv, tv⟩ rfl tv) ?_)))
  obtain ⟨y8, e9, h0⟩ := bnd h0
  refine st (sto_ (y' := (DLease.mk y8.id y8.until_ y8.cap true)) rfl rfl tv rfl rfl rfl rfl e9 (nl rfl) rfl rfl rfl rfl (oe_ (wk_ ⟨[(4, .ptr 256 0), (7, .ptr 448 0)], [(256, [iV 0, iV 0, .own 259 0 4 (([] : List DLease).map eDLease)]), (448, [iV r4.clock, iV r4.next, .own 960 0 4 ((r4.list_.set r1.toNat (DLease.mk y8.id y8.until_ y8.cap true)).map eDLease)])], []⟩ (fg ⟨rfl, rfl, tv⟩ ⟨rfl, (congrArg (fun z => some (([iV r4.clock, iV r4.next, .own 960 0 4 z] : List V))) overlay_map), tv⟩) (seq_ (reg_ (st (c_ (v := .agg [iV r4.clock, iV r4.next, .own 960 0 4 ((r4.list_.set r1.toNat (DLease.mk y8.id y8.until_ y8.cap true)).map eDLease)]) (cp_ ⟨tv, tv⟩ rfl (nl rfl)) (st (stp_ rfl rfl tv rfl rfl rfl (nl rfl) (st (mvc_ tv (oe_ (wk_ ⟨[(4, .ptr 256 0), (5, iV 0)], [(256, [iV r4.clock, iV r4.next, .lst 4 ((r4.list_.set r1.toNat (DLease.mk y8.id y8.until_ y8.cap true)).map eDLease)])], []⟩ (fgzk [960] (by kernel_rfl)) ?_)))))))))))))
  obtain rfl := Option.some.inj h0
  exact rt_ (ret_ rfl rfl rfl rfl rfl tv)

/- loop.example/g00149/spec.l08Later -/
def c53_r0 : List Ins := [⟨some 4, .p (.mv (.c (iV 0))), none⟩]
def c53_r1 : List Ins := [(iQ 5 (.mv (.t 0))),
(iQ 6 (.mv (.t 1))),
⟨some 7, .p (.bin .sub (.c (iV 9223372036854775807)) (.t 6)), none⟩,
(iQ 8 (.bin .gtr (.t 5) (.t 7)))]
def c53_r2 : List Ins := [⟨some 4, .p (.mv (.c (iV 9223372036854775807))), none⟩]
def c53_r3 : List Ins := [(iQ 9 (.mv (.t 0))),
(iQ 10 (.mv (.t 1))),
(iQ 11 (.bin .add (.t 9) (.t 10))),
(iQ 4 (.mv (.t 11)))]
def c53 : XFn := { np := 2, nt := 12, res := [.t 4], body := (.seq (.reg c53_r0) (.seq (.seq (.reg c53_r1) (.ite (.t 8) (.seq (.reg c53_r2) .ret) .skip)) (.seq (.reg c53_r3) .ret))) }
def K53 (C : CRel) : Prop := ∀ (a0 : Int) (a1 : Int) (r : Int), g53 a0 a1 = some r → C 53 ⟨[iV a0, iV a1], []⟩ ⟨iV r, [], []⟩
theorem F53 {C : CRel}  (a0 : Int) (a1 : Int) (r : Int) (h0 : g53 a0 a1 = some r) : FnOK C c53 ⟨[iV a0, iV a1], []⟩ ⟨iV r, [], []⟩ := by
 refine fn_ (nl rfl) (seq_ (reg_ (st (mvc_ tv (oe_ (wk_ ⟨[(0, iV a0), (1, iV a1)], [], []⟩ (fgk (by kernel_rfl)) (seq_ (seq_ (reg_ (st (mv_ rfl tv (st (mv_ rfl tv (st (c_ (cp_ t3 rfl tv) (st (c_ (cp_ t3 rfl tv) (oe_ (wk_ ⟨[(0, iV a0), (1, iV a1), (8, .bool (decide (a0 > (IntKind.i64.wrap (9223372036854775807 - a1)))))], [], []⟩ (fgk (by kernel_rfl)) (ite_ (cb := (decide (a0 > (IntKind.i64.wrap (9223372036854775807 - a1))))) rfl (fun c1 => ?_) (fun c1 => ?_)))))))))))))))))))))
 ·replace h0 := ip c1 h0
  refine seq_ (reg_ (st (mvc_ tv (oe_ (wk_ ⟨[(4, iV 9223372036854775807)], [], []⟩ (fgk (by kernel_rfl)) ?_)))))
  obtain rfl := Option.some.inj h0
  exact rt_ (ret_ rfl rfl rfl rfl rfl tv)
 ·replace h0 := inb c1 h0
  refine sk_ (wk_ ⟨[(0, iV a0), (1, iV a1)], [], []⟩ (fgk (by kernel_rfl)) (seq_ (reg_ (st (mv_ rfl tv (st (mv_ rfl tv (st (c_ (cp_ t3 rfl tv) (st (mv_ rfl tv (oe_ (wk_ ⟨[(4, iV (IntKind.i64.wrap (a0 + a1)))], [], []⟩ (fgk (by kernel_rfl)) ?_)))))))))))))
  obtain rfl := Option.some.inj h0
  exact rt_ (ret_ rfl rfl rfl rfl rfl tv)

/- loop.example/g00149/spec.l08Renew -/
def c79_r0 : List Ins := [⟨some 3, .box (.t 0), none⟩,
⟨some 6, .alloc [(iV 0), (iV 0), (.own 387 0 4 [])], none⟩,
⟨some 7, .p (.mv (.c (iV 0))), none⟩]
def c79_r1 : List Ins := [(iQ 10 (.load (.t 3) 3 true)),
(iQ 11 (.mv (.t 1))),
⟨some 12, .call 92 [(.t 10), (.t 11)], none⟩,
(iQ 8 (.mv (.t 12)))]
def c79_r2 : List Ins := [(iQ 14 (.mv (.t 2))),
⟨some 15, .p (.bin .lss (.t 14) (.c (iV 1))), none⟩,
(iQ 13 (.mv (.t 15)))]
def c79_r3 : List Ins := [(iQ 16 (.load (.t 3) 3 true)),
⟨none, .store (.t 6) (.t 16) 3, none⟩,
⟨some 7, .p (.mv (.c (iV 4))), none⟩]
def c79_r4 : List Ins := [(iQ 18 (.mv (.t 8))),
⟨some 19, .p (.bin .lss (.t 18) (.c (iV 0))), none⟩,
(iQ 17 (.mv (.t 19)))]
def c79_r5 : List Ins := [(iQ 20 (.load (.t 3) 3 true)),
⟨none, .store (.t 6) (.t 20) 3, none⟩,
⟨some 7, .p (.mv (.c (iV 5))), none⟩]
def c79_r6 : List Ins := [(iQ 22 (.fieldA (.t 3) 2)),
(iQ 23 (.load (.t 22) 1 false)),
(iQ 24 (.mv (.t 8))),
(iQ 25 (.idxA (.t 23) (.t 24) 4)),
(iQ 26 (.fieldA (.t 25) 3)),
(iQ 27 (.load (.t 26) 1 false)),
(iQ 21 (.mv (.t 27)))]
def c79_r7 : List Ins := [(iQ 28 (.load (.t 3) 3 true)),
⟨none, .store (.t 6) (.t 28) 3, none⟩,
⟨some 7, .p (.mv (.c (iV 13))), none⟩]
def c79_r8 : List Ins := [(iQ 29 (.load (.t 3) 3 true)),
⟨some 30, .call 111 [(.t 29)], none⟩,
⟨some 9, .alloc [(iV 0), (iV 0), (.own 579 0 4 [])], none⟩,
⟨none, .store (.t 9) (.t 30) 3, none⟩]
def c79_r9 : DP := (.take (iQ 31 (.fieldA (.t 9) 2))
(.take (iQ 32 (.load (.t 31) 1 false))
(.take (iQ 33 (.mv (.t 8)))
(.take (iQ 34 (.fieldA (.t 9) 2))
(.take (iQ 35 (.load (.t 34) 1 false))
(.take (iQ 36 (.mv (.t 8)))
(.take (iQ 37 (.idxA (.t 35) (.t 36) 4))
(.take (iQ 38 (.fieldA (.t 37) 2))
(.take (iQ 39 (.load (.t 38) 1 false))
(.take (iQ 40 (.fieldA (.t 3) 0))
(.take (iQ 41 (.load (.t 40) 1 false))
(.take (iQ 42 (.mv (.t 2)))
(.alt [(iQ 39 (.load (.t 38) 1 false)), (iQ 38 (.fieldA (.t 37) 2)), (iQ 37 (.idxA (.t 35) (.t 36) 4)), (iQ 36 (.mv (.t 8))), (iQ 35 (.load (.t 34) 1 false)), (iQ 34 (.fieldA (.t 9) 2)), (iQ 33 (.mv (.t 8))), (iQ 32 (.load (.t 31) 1 false)), (iQ 31 (.fieldA (.t 9) 2))] ⟨some 43, .call 53 [(.t 41), (.t 42)], none⟩
(.take (iQ 44 (.mn (.t 39) (.t 43)))
(.take (iQ 45 (.idxA (.t 32) (.t 33) 4))
(.take (iQ 46 (.fieldA (.t 45) 1))
(.alt [] ⟨none, .store (.t 46) (.t 44) 1, none⟩
.fin
.stop))))
.stop)))))))))))))
def c79_r10 : List Ins := [(iQ 47 (.load (.t 9) 3 true)),
⟨none, .store (.t 6) (.t 47) 3, none⟩,
⟨some 7, .p (.mv (.c (iV 0))), none⟩]
def c79 : XFn := { np := 3, nt := 48, res := [.cell 6 3 true, .t 7], body := (.seq (.reg c79_r0) (.seq (.reg c79_r1) (.seq (.block 0 (.seq (.reg c79_r2) (.ite (.t 13) (.seq (.reg c79_r3) .ret) (.seq (.reg c79_r4) (.ite (.t 17) (.seq (.reg c79_r5) .ret) (.seq (.reg c79_r6) (.ite (.t 21) (.seq (.reg c79_r7) .ret) .skip))))))) (.seq (.reg c79_r8) (.seq (.draw c79_r9) (.seq (.reg c79_r10) .ret)))))) }
def K79 (C : CRel) : Prop := ∀ (a0 : DTable) (a1 : Int) (a2 : Int) (r : DTable × Int), g79 a0 a1 a2 = some r → C 79 ⟨[.agg (eDTable a0), iV a1, iV a2], []⟩ ⟨.tup [.agg [iV r.1.clock, iV r.1.next, .lst 4 (r.1.list_.map eDLease)], iV r.2], [], []⟩
theorem F79 {C : CRel} (H53 : K53 C) (H92 : K92 C) (H111 : K111 C) (a0 : DTable) (a1 : Int) (a2 : Int) (r : DTable × Int) (h0 : g79 a0 a1 a2 = some r) : FnOK C c79 ⟨[.agg (eDTable a0), iV a1, iV a2], []⟩ ⟨.tup [.agg [iV r.1.clock, iV r.1.next, .lst 4 (r.1.list_.map eDLease)], iV r.2], [], []⟩ := by
 refine fn_ (nl rfl) (seq_ (reg_ (st (box_ rfl tv rfl (st (alloc_ (st (mvc_ tv (oe_ (wk_ ⟨[(1, iV a1), (2, iV a2), (3, .ptr 192 0), (6, .ptr 384 0)], [(192, [iV a0.clock, iV a0.next, .lst 4 (a0.list_.map eDLease)]), (384, [iV 0, iV 0, .own 387 0 4 (([] : List DLease).map eDLease)])], []⟩ (fgk (by kernel_rfl)) (seq_ (reg_ (st (c_ (v := .agg (eDTable a0)) (cp_ ⟨tv, tv⟩ rfl (nl rfl)) (st (mv_ rfl tv ?_))))))))))))))))
 obtain ⟨r1, e2, h0⟩ := bnd h0
 refine st (call0_ (r := iV r1) false (H92 a0 a1 r1 e2) ⟨tv, tv, tv⟩ rfl rfl (fun _ => rfl) (st (mv_ rfl tv (oe_ (wk_ ⟨[(2, iV a2), (3, .ptr 192 0), (6, .ptr 384 0), (8, iV r1)], [(192, [iV a0.clock, iV a0.next, .lst 4 (a0.list_.map eDLease)]), (384, [iV 0, iV 0, .own 387 0 4 (([] : List DLease).map eDLease)])], []⟩ (fgk (by kernel_rfl)) (seq_ (block_ (seq_ (reg_ (st (mv_ rfl tv (st (c_ (cp_ t3 rfl tv) (st (mv_ rfl tv (oe_ (wk_ ⟨[(2, iV a2), (3, .ptr 192 0), (6, .ptr 384 0), (8, iV r1), (13, .bool (decide (a2 < 1)))], [(192, [iV a0.clock, iV a0.next, .lst 4 (a0.list_.map eDLease)]), (384, [iV 0, iV 0, .own 387 0 4 (([] : List DLease).map eDLease)])], []⟩ (fgk (by kernel_rfl)) (ite_ (cb := (decide (a2 < 1))) rfl (fun c3 => ?_) (fun c3 => ?_)))))))))))))))))))
 ·replace h0 := ip c3 h0
  refine seq_ (reg_ (st (c_ (v := .agg (eDTable a0)) (cp_ ⟨tv, tv⟩ rfl (nl rfl)) (st (stp_ rfl rfl tv rfl rfl rfl (nl rfl) (st (mvc_ tv (oe_ (wk_ ⟨[(6, .ptr 384 0), (7, iV 4)], [(384, [iV a0.clock, iV a0.next, .lst 4 (a0.list_.map eDLease)])], []⟩ (fgk (by kernel_rfl)) ?_)))))))))
  obtain rfl := Option.some.inj h0
  exact rt_ (ret_ rfl rfl rfl rfl rfl tv)
 ·replace h0 := inb c3 h0
  refine seq_ (reg_ (st (mv_ rfl tv (st (c_ (cp_ t3 rfl tv) (st (mv_ rfl tv (oe_ (wk_ ⟨[(2, iV a2), (3, .ptr 192 0), (6, .ptr 384 0), (8, iV r1), (17, .bool (decide (r1 < 0)))], [(192, [iV a0.clock, iV a0.next, .lst 4 (a0.list_.map eDLease)]), (384, [iV 0, iV 0, .own 387 0 4 (([] : List DLease).map eDLease)])], []⟩ (fgk (by kernel_rfl)) (ite_ (cb := (decide (r1 < 0))) rfl (fun c4 => ?_) (fun c4 => ?_)))))))))))
  ·replace h0 := ip c4 h0
   refine seq_ (reg_ (st (c_ (v := .agg (eDTable a0)) (cp_ ⟨tv, tv⟩ rfl (nl rfl)) (st (stp_ rfl rfl tv rfl rfl rfl (nl rfl) (st (mvc_ tv (oe_ (wk_ ⟨[(6, .ptr 384 0), (7, iV 5)], [(384, [iV a0.clock, iV a0.next, .lst 4 (a0.list_.map eDLease)])], []⟩ (fgk (by kernel_rfl)) ?_)))))))))
   obtain rfl := Option.some.inj h0
   exact rt_ (ret_ rfl rfl rfl rfl rfl tv)
  ·replace h0 := inb c4 h0
   refine seq_ (reg_ (st (c_ (cp_ ⟨tv, tv⟩ rfl tv) (st (c_ (cp_ ⟨tv, tv⟩ rfl (nl rfl)) (st (mv_ rfl tv ?_)))))))
   obtain ⟨y5, e6, h0⟩ := bnd h0
   refine st (c_ (cidxL (e := eDLease) (y := y5) rfl rfl tv rfl rfl tv e6) (st (c_ (cp_ ⟨tv, tv⟩ rfl (nl rfl)) (st (c_ (cp_ ⟨tv, tv⟩ rfl (nl rfl)) (st (mv_ rfl tv (oe_ (wk_ ⟨[(2, iV a2), (3, .ptr 192 0), (6, .ptr 384 0), (8, iV r1), (21, .bool y5.queued)], [(192, [iV a0.clock, iV a0.next, .lst 4 (a0.list_.map eDLease)]), (384, [iV 0, iV 0, .own 387 0 4 (([] : List DLease).map eDLease)])], []⟩ (fgk (by kernel_rfl)) (ite_ (cb := y5.queued) rfl (fun c7 => ?_) (fun c7 => ?_)))))))))))
   ·replace h0 := ip c7 h0
    refine seq_ (reg_ (st (c_ (v := .agg (eDTable a0)) (cp_ ⟨tv, tv⟩ rfl (nl rfl)) (st (stp_ rfl rfl tv rfl rfl rfl (nl rfl) (st (mvc_ tv (oe_ (wk_ ⟨[(6, .ptr 384 0), (7, iV 13)], [(384, [iV a0.clock, iV a0.next, .lst 4 (a0.list_.map eDLease)])], []⟩ (fgk (by kernel_rfl)) ?_)))))))))
    obtain rfl := Option.some.inj h0
    exact rt_ (ret_ rfl rfl rfl rfl rfl tv)
   ·replace h0 := inb c7 h0
    refine sk_ (bn_ (wk_ ⟨[(2, iV a2), (3, .ptr 192 0), (6, .ptr 384 0), (8, iV r1)], [(192, [iV a0.clock, iV a0.next, .lst 4 (a0.list_.map eDLease)]), (384, [iV 0, iV 0, .own 387 0 4 (([] : List DLease).map eDLease)])], []⟩ (fgk (by kernel_rfl)) (seq_ (reg_ (st (c_ (v := .agg (eDTable a0)) (cp_ ⟨tv, tv⟩ rfl (nl rfl)) ?_))))))
    obtain ⟨r8, e9, h0⟩ := bnd h0
    refine st (call0_ (r := .agg [iV r8.clock, iV r8.next, .own 0 0 4 (r8.list_.map eDLease)]) false (H111 a0 r8 e9) ⟨tv, tv⟩ rfl rfl (fun _ => (and_ rfl (and_ rfl (and_ (fl1 (fun _ => rfl)) rfl)))) (st (alloc_ (st (stp_ rfl rfl tv rfl rfl rfl (nl rfl) (oe_ (wk_ ⟨[(2, iV a2), (3, .ptr 192 0), (6, .ptr 384 0), (8, iV r1), (9, .ptr 576 0)], [(192, [iV a0.clock, iV a0.next, .lst 4 (a0.list_.map eDLease)]), (384, [iV 0, iV 0, .own 387 0 4 (([] : List DLease).map eDLease)]), (576, [iV r8.clock, iV r8.next, .own 1920 0 4 (r8.list_.map eDLease)])], []⟩ (fgk (by kernel_rfl)) (seq_ ?_))))))))
    obtain ⟨y10, e11, h0⟩ := bnd h0
    obtain ⟨y12, e13, h0⟩ := bnd h0
    obtain ⟨r14, e15, h0⟩ := bnd h0
    refine draw_ (dtake tv (c_ (cp_ ⟨tv, tv⟩ rfl tv) (⟨tv, (dtake tv (c_ (cp_ ⟨tv, tv⟩ rfl (nl rfl)) (⟨tv, (dtake tv (mv_ rfl tv (⟨tv, (dtake tv (c_ (cp_ ⟨tv, tv⟩ rfl tv) (⟨tv, (dtake tv (c_ (cp_ ⟨tv, tv⟩ rfl (nl rfl)) (⟨tv, (dtake tv (mv_ rfl tv (⟨tv, (dtake tv (c_ (cidxO (e := eDLease) (y := y10) rfl rfl tv rfl rfl tv e11) (⟨tv, (dtake tv (c_ (cp_ ⟨tv, tv⟩ rfl tv) (⟨tv, (dtakeO (c_ (cloadO (e := eDLease) (y := y12) (v := iV y12.cap) rfl rfl tv rfl rfl e13 rfl (nl rfl) rfl) (⟨⟨(again1 (cloadO (e := eDLease) (y := y12) (v := iV y12.cap) rfl rfl tv rfl rfl e13 rfl (nl rfl) rfl) rfl), tv⟩, (dtake tv (c_ (cp_ ⟨tv, tv⟩ rfl tv) (⟨⟨(again1 (cloadO (e := eDLease) (y := y12) (v := iV y12.cap) rfl rfl tv rfl rfl e13 rfl (nl rfl) rfl) rfl), tv⟩, (dtake tv (c_ (cp_ ⟨tv, tv⟩ rfl (nl rfl)) (⟨⟨(again1 (cloadO (e := eDLease) (y := y12) (v := iV y12.cap) rfl rfl tv rfl rfl e13 rfl (nl rfl) rfl) rfl), tv⟩, (dtake tv (mv_ rfl tv (⟨⟨(again1 (cloadO (e := eDLease) (y := y12) (v := iV y12.cap) rfl rfl tv rfl rfl e13 rfl (nl rfl) rfl) rfl), tv⟩, (dalt (call0_ (r := iV r14) false (H53 a0.clock a2 r14 e15) ⟨tv, tv, tv⟩ rfl rfl (fun _ => rfl) (dkw ⟨[(6, .ptr 384 0), (8, iV r1), (9, .ptr 576 0), (31, .ptr 576 2), (32, .own 1920 0 4 (r8.list_.map eDLease)), (33, iV r1), (34, .ptr 576 2), (35, .own 1920 0 4 (r8.list_.map eDLease)), (36, iV r1), (37, .optr 1920 4 (0 + r1.toNat) 0), (38, .optr 1920 4 (0 + r1.toNat) 2), (39, iV y12.cap), (43, iV r14)], [(384, [iV 0, iV 0, .own 387 0 4 (([] : List DLease).map eDLease)]), (576, [iV r8.clock, iV r8.next, .own 1920 0 4 (r8.list_.map eDLease)])], []⟩ (fgk (by kernel_rfl)) ⟨[(iQ 39 (.load (.t 38) 1 false))], ⟨⟨.inr (.head _), (again1 (cloadO (e := eDLease) (y := y12) (v := iV y12.cap) rfl rfl tv rfl rfl e13 rfl (nl rfl) rfl) rfl)⟩, ⟨.inl tv, (again1 (cp_ ⟨tv, tv⟩ rfl tv) rfl)⟩, ⟨.inl tv, (again1 (cidxO (e := eDLease) (y := y10) rfl rfl tv rfl rfl tv e11) rfl)⟩, ⟨.inl tv, (again1 (cmv (v := iV r1) rfl tv) rfl)⟩, ⟨.inl tv, (again1 (cp_ ⟨tv, tv⟩ rfl (nl rfl)) rfl)⟩, ⟨.inl tv, (again1 (cp_ ⟨tv, tv⟩ rfl tv) rfl)⟩, ⟨.inl tv, (again1 (cmv (v := iV r1) rfl tv) rfl)⟩, ⟨.inl tv, (again1 (cp_ ⟨tv, tv⟩ rfl (nl rfl)) rfl)⟩, ⟨.inl tv, (again1 (cp_ ⟨tv, tv⟩ rfl tv) rfl)⟩, tv⟩, ⟨(again1 (cloadO (e := eDLease) (y := y12) (v := iV y12.cap) rfl rfl tv rfl rfl e13 rfl (nl rfl) rfl) rfl), tv⟩, (dtake tv (c_ (cp_ ⟨tv, tv, tv⟩ rfl rfl) (⟨⟨(again1 (cloadO (e := eDLease) (y := y12) (v := iV y12.cap) rfl rfl tv rfl rfl e13 rfl (nl rfl) rfl) rfl), tv⟩, (dtake tv (c_ (cidxO (e := eDLease) (y := y10) rfl rfl tv rfl rfl tv e11) (⟨⟨(again1 (cloadO (e := eDLease) (y := y12) (v := iV y12.cap) rfl rfl tv rfl rfl e13 rfl (nl rfl) rfl) rfl), tv⟩, ?_⟩)))⟩)))⟩)) dstop)⟩)))⟩)))⟩)))⟩)))⟩)))⟩)))⟩)))⟩)))⟩)))⟩)))⟩)))⟩)))
    refine dtake tv (c_ (cp_ ⟨tv, tv⟩ rfl tv) (⟨⟨(again1 (cloadO (e := eDLease) (y := y12) (v := iV y12.cap) rfl rfl tv rfl rfl e13 rfl (nl rfl) rfl) rfl), tv⟩, (dalt (sto_ (y' := (DLease.mk y12.id (if r14 < y12.cap then r14 else y12.cap) y12.cap y12.queued)) rfl rfl tv rfl rfl rfl rfl e13 (nl rfl) rfl rfl rfl rfl (dk0 ⟨[], tv, tv, (dfin (wk_ ⟨[(6, .ptr 384 0), (9, .ptr 576 0)], [(384, [iV 0, iV 0, .own 387 0 4 (([] : List DLease).map eDLease)]), (576, [iV r8.clock, iV r8.next, .own 1920 0 4 ((r8.list_.set r1.toNat (DLease.mk y12.id (if r14 < y12.cap then r14 else y12.cap) y12.cap y12.queued)).map eDLease)])], []⟩ (fg ⟨rfl, rfl, tv⟩ ⟨rfl, (congrArg (fun z => some (([iV r8.clock, iV r8.next, .own 1920 0 4 z] : List V))) overlay_map), tv⟩) (seq_ (reg_ (st (c_ (v := .agg [iV r8.clock, iV r8.next, .own 1920 0 4 ((r8.list_.set r1.toNat (DLease.mk y12.id (if r14 < y12.cap then r14 else y12.cap) y12.cap y12.queued)).map eDLease)]) (cp_ ⟨tv, tv⟩ rfl (nl rfl)) (st (stp_ rfl rfl tv rfl rfl rfl (nl rfl) (st (mvc_ tv (oe_ (wk_ ⟨[(6, .ptr 384 0), (7, iV 0)], [(384, [iV r8.clock, iV r8.next, .lst 4 ((r8.list_.set r1.toNat (DLease.mk y12.id (if r14 < y12.cap then r14 else y12.cap) y12.cap y12.queued)).map eDLease)])], []⟩ (fgzk [1920] (by kernel_rfl)) ?_))))))))))))⟩)) dstop)⟩))
    obtain rfl := Option.some.inj h0
    exact rt_ (ret_ rfl rfl rfl rfl rfl tv)
end Go.Ev
