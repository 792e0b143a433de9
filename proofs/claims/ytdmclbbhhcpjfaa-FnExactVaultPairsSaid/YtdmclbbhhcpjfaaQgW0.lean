/- The walks of functions: the code comes to the answers that QgD tells. Written by a program of ours. -/
import Derived.Test.YtdmclbbhhcpjfaaQgD
set_option linter.all false
set_option maxHeartbeats 4000000
set_option linter.unusedVariables false
set_option maxRecDepth 100000
namespace Go.Ev
theorem tv : True := True.intro
abbrev iQ (n : Nat) (o : PU) : Ins := ⟨some n, .p o, none⟩
abbrev iV (n : Int) : V := .int .i64 n
theorem nl {a b : Nat} (h : Nat.ble a b = true) : a ≤ b := Nat.le_of_ble_eq_true h
theorem t3 : True ∧ True ∧ True := ⟨trivial, trivial, trivial⟩

/- loop.example/g00149/laws.szLeaseS -/
def c55_r0 : List Ins := [⟨some 4, .p (.mv (.c (iV 0))), none⟩]
def c55_r1 : List Ins := [(iQ 5 (.mv (.t 1))),
(iQ 6 (.mv (.t 0))),
(iQ 7 (.len (.t 6))),
(iQ 8 (.bin .sub (.t 5) (.t 7))),
(iQ 1 (.mv (.t 8)))]
def c55_r2 : List Ins := [(iQ 9 (.mv (.t 1))),
⟨some 10, .p (.bin .lss (.t 9) (.c (iV 0))), none⟩]
def c55_r3 : List Ins := [⟨some 4, .p (.mv (.c (iV (-1)))), none⟩]
def c55_r4 : List Ins := [(iQ 11 (.mv (.t 1))),
(iQ 4 (.mv (.t 11)))]
def c55 : XFn := { np := 2, nt := 12, res := [.t 4], body := (.seq (.reg c55_r0) (.seq (.reg c55_r1) (.seq (.seq (.reg c55_r2) (.ite (.t 10) (.seq (.reg c55_r3) .ret) .skip)) (.seq (.reg c55_r4) .ret)))) }
def K55 (C : CRel) : Prop := ∀ (a0 : List DLease) (a1 : Int) (r : Int), g55 a0 a1 = some r → C 55 ⟨[.lst 4 (a0.map eDLease), iV a1], []⟩ ⟨iV r, [], []⟩
theorem F55 {C : CRel}  (a0 : List DLease) (a1 : Int) (r : Int) (h0 : g55 a0 a1 = some r) : FnOK C c55 ⟨[.lst 4 (a0.map eDLease), iV a1], []⟩ ⟨iV r, [], []⟩ := by
 refine fn_ (nl rfl) (seq_ (reg_ (st (mvc_ tv (oe_ (wk_ ⟨[(0, .lst 4 (a0.map eDLease)), (1, iV a1)], [], []⟩ (fgk (by kernel_rfl)) (seq_ (reg_ (st (mv_ rfl tv (st (mv_ rfl tv (st (c_ (clenL (e := eDLease) (l0 := a0) rfl rfl tv) (st (c_ (cp_ t3 rfl tv) (st (mv_ rfl tv (oe_ (wk_ ⟨[(1, iV (IntKind.i64.wrap (a1 - (a0.length : Int))))], [], []⟩ (fgk (by kernel_rfl)) (seq_ (seq_ (reg_ (st (mv_ rfl tv (st (c_ (cp_ t3 rfl tv) (oe_ (wk_ ⟨[(1, iV (IntKind.i64.wrap (a1 - (a0.length : Int)))), (10, .bool (decide ((IntKind.i64.wrap (a1 - (a0.length : Int))) < 0)))], [], []⟩ (fgk (by kernel_rfl)) (ite_ (cb := (decide ((IntKind.i64.wrap (a1 - (a0.length : Int))) < 0))) rfl (fun c1 => ?_) (fun c1 => ?_)))))))))))))))))))))))))))))))
 ·replace h0 := ip c1 h0
  refine seq_ (reg_ (st (mvc_ tv (oe_ (wk_ ⟨[(4, iV (-1))], [], []⟩ (fgk (by kernel_rfl)) ?_)))))
  obtain rfl := Option.some.inj h0
  exact rt_ (ret_ rfl rfl rfl rfl rfl tv)
 ·replace h0 := inb c1 h0
  refine sk_ (wk_ ⟨[(1, iV (IntKind.i64.wrap (a1 - (a0.length : Int))))], [], []⟩ (fgk (by kernel_rfl)) (seq_ (reg_ (st (mv_ rfl tv (st (mv_ rfl tv (oe_ (wk_ ⟨[(4, iV (IntKind.i64.wrap (a1 - (a0.length : Int))))], [], []⟩ (fgk (by kernel_rfl)) ?_)))))))))
  obtain rfl := Option.some.inj h0
  exact rt_ (ret_ rfl rfl rfl rfl rfl tv)

/- loop.example/g00149/laws.szTable -/
def c17_r0 : List Ins := [⟨some 2, .box (.t 0), none⟩,
⟨some 4, .p (.mv (.c (iV 0))), none⟩]
def c17_r1 : List Ins := [(iQ 5 (.fieldA (.t 2) 2)),
(iQ 6 (.load (.t 5) 1 false)),
(iQ 7 (.mv (.t 1))),
⟨some 8, .call 55 [(.t 6), (.t 7)], none⟩,
(iQ 1 (.mv (.t 8)))]
def c17_r2 : List Ins := [(iQ 9 (.mv (.t 1))),
⟨some 10, .p (.bin .lss (.t 9) (.c (iV 0))), none⟩]
def c17_r3 : List Ins := [⟨some 4, .p (.mv (.c (iV (-1)))), none⟩]
def c17_r4 : List Ins := [(iQ 11 (.mv (.t 1))),
(iQ 4 (.mv (.t 11)))]
def c17 : XFn := { np := 2, nt := 12, res := [.t 4], body := (.seq (.reg c17_r0) (.seq (.reg c17_r1) (.seq (.seq (.reg c17_r2) (.ite (.t 10) (.seq (.reg c17_r3) .ret) .skip)) (.seq (.reg c17_r4) .ret)))) }
def K17 (C : CRel) : Prop := ∀ (a0 : DTable) (a1 : Int) (r : Int), g17 a0 a1 = some r → C 17 ⟨[.agg (eDTable a0), iV a1], []⟩ ⟨iV r, [], []⟩
theorem F17 {C : CRel} (H55 : K55 C) (a0 : DTable) (a1 : Int) (r : Int) (h0 : g17 a0 a1 = some r) : FnOK C c17 ⟨[.agg (eDTable a0), iV a1], []⟩ ⟨iV r, [], []⟩ := by
 refine fn_ (nl rfl) (seq_ (reg_ (st (box_ rfl tv rfl (st (mvc_ tv (oe_ (wk_ ⟨[(1, iV a1), (2, .ptr 128 0)], [(128, [iV a0.clock, iV a0.next, .lst 4 (a0.list_.map eDLease)])], []⟩ (fgk (by kernel_rfl)) (seq_ (reg_ (st (c_ (cp_ ⟨tv, tv⟩ rfl tv) (st (c_ (cp_ ⟨tv, tv⟩ rfl (nl rfl)) (st (mv_ rfl tv ?_))))))))))))))))
 obtain ⟨r1, e2, h0⟩ := bnd h0
 refine st (call0_ (r := iV r1) false (H55 a0.list_ a1 r1 e2) ⟨tv, tv, tv⟩ rfl rfl (fun _ => rfl) (st (mv_ rfl tv (oe_ (wk_ ⟨[(1, iV r1)], [], []⟩ (fgk (by kernel_rfl)) (seq_ (seq_ (reg_ (st (mv_ rfl tv (st (c_ (cp_ t3 rfl tv) (oe_ (wk_ ⟨[(1, iV r1), (10, .bool (decide (r1 < 0)))], [], []⟩ (fgk (by kernel_rfl)) (ite_ (cb := (decide (r1 < 0))) rfl (fun c3 => ?_) (fun c3 => ?_))))))))))))))))
 ·replace h0 := ip c3 h0
  refine seq_ (reg_ (st (mvc_ tv (oe_ (wk_ ⟨[(4, iV (-1))], [], []⟩ (fgk (by kernel_rfl)) ?_)))))
  obtain rfl := Option.some.inj h0
  exact rt_ (ret_ rfl rfl rfl rfl rfl tv)
 ·replace h0 := inb c3 h0
  refine sk_ (wk_ ⟨[(1, iV r1)], [], []⟩ (fgk (by kernel_rfl)) (seq_ (reg_ (st (mv_ rfl tv (st (mv_ rfl tv (oe_ (wk_ ⟨[(4, iV r1)], [], []⟩ (fgk (by kernel_rfl)) ?_)))))))))
  obtain rfl := Option.some.inj h0
  exact rt_ (ret_ rfl rfl rfl rfl rfl tv)

/- loop.example/g00149/laws.szIntentS -/
def c90_r0 : List Ins := [⟨some 4, .p (.mv (.c (iV 0))), none⟩]
def c90_r1 : List Ins := [(iQ 5 (.mv (.t 1))),
(iQ 6 (.mv (.t 0))),
(iQ 7 (.len (.t 6))),
(iQ 8 (.bin .sub (.t 5) (.t 7))),
(iQ 1 (.mv (.t 8)))]
def c90_r2 : List Ins := [(iQ 9 (.mv (.t 1))),
⟨some 10, .p (.bin .lss (.t 9) (.c (iV 0))), none⟩]
def c90_r3 : List Ins := [⟨some 4, .p (.mv (.c (iV (-1)))), none⟩]
def c90_r4 : List Ins := [(iQ 11 (.mv (.t 1))),
(iQ 4 (.mv (.t 11)))]
def c90 : XFn := { np := 2, nt := 12, res := [.t 4], body := (.seq (.reg c90_r0) (.seq (.reg c90_r1) (.seq (.seq (.reg c90_r2) (.ite (.t 10) (.seq (.reg c90_r3) .ret) .skip)) (.seq (.reg c90_r4) .ret)))) }
def K90 (C : CRel) : Prop := ∀ (a0 : List DIntent) (a1 : Int) (r : Int), g90 a0 a1 = some r → C 90 ⟨[.lst 2 (a0.map eDIntent), iV a1], []⟩ ⟨iV r, [], []⟩
theorem F90 {C : CRel}  (a0 : List DIntent) (a1 : Int) (r : Int) (h0 : g90 a0 a1 = some r) : FnOK C c90 ⟨[.lst 2 (a0.map eDIntent), iV a1], []⟩ ⟨iV r, [], []⟩ := by
 refine fn_ (nl rfl) (seq_ (reg_ (st (mvc_ tv (oe_ (wk_ ⟨[(0, .lst 2 (a0.map eDIntent)), (1, iV a1)], [], []⟩ (fgk (by kernel_rfl)) (seq_ (reg_ (st (mv_ rfl tv (st (mv_ rfl tv (st (c_ (clenL (e := eDIntent) (l0 := a0) rfl rfl tv) (st (c_ (cp_ t3 rfl tv) (st (mv_ rfl tv (oe_ (wk_ ⟨[(1, iV (IntKind.i64.wrap (a1 - (a0.length : Int))))], [], []⟩ (fgk (by kernel_rfl)) (seq_ (seq_ (reg_ (st (mv_ rfl tv (st (c_ (cp_ t3 rfl tv) (oe_ (wk_ ⟨[(1, iV (IntKind.i64.wrap (a1 - (a0.length : Int)))), (10, .bool (decide ((IntKind.i64.wrap (a1 - (a0.length : Int))) < 0)))], [], []⟩ (fgk (by kernel_rfl)) (ite_ (cb := (decide ((IntKind.i64.wrap (a1 - (a0.length : Int))) < 0))) rfl (fun c1 => ?_) (fun c1 => ?_)))))))))))))))))))))))))))))))
 ·replace h0 := ip c1 h0
  refine seq_ (reg_ (st (mvc_ tv (oe_ (wk_ ⟨[(4, iV (-1))], [], []⟩ (fgk (by kernel_rfl)) ?_)))))
  obtain rfl := Option.some.inj h0
  exact rt_ (ret_ rfl rfl rfl rfl rfl tv)
 ·replace h0 := inb c1 h0
  refine sk_ (wk_ ⟨[(1, iV (IntKind.i64.wrap (a1 - (a0.length : Int))))], [], []⟩ (fgk (by kernel_rfl)) (seq_ (reg_ (st (mv_ rfl tv (st (mv_ rfl tv (oe_ (wk_ ⟨[(4, iV (IntKind.i64.wrap (a1 - (a0.length : Int))))], [], []⟩ (fgk (by kernel_rfl)) ?_)))))))))
  obtain rfl := Option.some.inj h0
  exact rt_ (ret_ rfl rfl rfl rfl rfl tv)

/- loop.example/g00149/laws.szIntS -/
def c91_r0 : List Ins := [⟨some 4, .p (.mv (.c (iV 0))), none⟩]
def c91_r1 : List Ins := [(iQ 5 (.mv (.t 1))),
(iQ 6 (.mv (.t 0))),
(iQ 7 (.len (.t 6))),
(iQ 8 (.bin .sub (.t 5) (.t 7))),
(iQ 1 (.mv (.t 8)))]
def c91_r2 : List Ins := [(iQ 9 (.mv (.t 1))),
⟨some 10, .p (.bin .lss (.t 9) (.c (iV 0))), none⟩]
def c91_r3 : List Ins := [⟨some 4, .p (.mv (.c (iV (-1)))), none⟩]
def c91_r4 : List Ins := [(iQ 11 (.mv (.t 1))),
(iQ 4 (.mv (.t 11)))]
def c91 : XFn := { np := 2, nt := 12, res := [.t 4], body := (.seq (.reg c91_r0) (.seq (.reg c91_r1) (.seq (.seq (.reg c91_r2) (.ite (.t 10) (.seq (.reg c91_r3) .ret) .skip)) (.seq (.reg c91_r4) .ret)))) }
def K91 (C : CRel) : Prop := ∀ (a0 : List Int) (a1 : Int) (r : Int), g91 a0 a1 = some r → C 91 ⟨[.lst 1 (a0.map eI), iV a1], []⟩ ⟨iV r, [], []⟩
theorem F91 {C : CRel}  (a0 : List Int) (a1 : Int) (r : Int) (h0 : g91 a0 a1 = some r) : FnOK C c91 ⟨[.lst 1 (a0.map eI), iV a1], []⟩ ⟨iV r, [], []⟩ := by
 refine fn_ (nl rfl) (seq_ (reg_ (st (mvc_ tv (oe_ (wk_ ⟨[(0, .lst 1 (a0.map eI)), (1, iV a1)], [], []⟩ (fgk (by kernel_rfl)) (seq_ (reg_ (st (mv_ rfl tv (st (mv_ rfl tv (st (c_ (clenL (e := eI) (l0 := a0) rfl rfl tv) (st (c_ (cp_ t3 rfl tv) (st (mv_ rfl tv (oe_ (wk_ ⟨[(1, iV (IntKind.i64.wrap (a1 - (a0.length : Int))))], [], []⟩ (fgk (by kernel_rfl)) (seq_ (seq_ (reg_ (st (mv_ rfl tv (st (c_ (cp_ t3 rfl tv) (oe_ (wk_ ⟨[(1, iV (IntKind.i64.wrap (a1 - (a0.length : Int)))), (10, .bool (decide ((IntKind.i64.wrap (a1 - (a0.length : Int))) < 0)))], [], []⟩ (fgk (by kernel_rfl)) (ite_ (cb := (decide ((IntKind.i64.wrap (a1 - (a0.length : Int))) < 0))) rfl (fun c1 => ?_) (fun c1 => ?_)))))))))))))))))))))))))))))))
 ·replace h0 := ip c1 h0
  refine seq_ (reg_ (st (mvc_ tv (oe_ (wk_ ⟨[(4, iV (-1))], [], []⟩ (fgk (by kernel_rfl)) ?_)))))
  obtain rfl := Option.some.inj h0
  exact rt_ (ret_ rfl rfl rfl rfl rfl tv)
 ·replace h0 := inb c1 h0
  refine sk_ (wk_ ⟨[(1, iV (IntKind.i64.wrap (a1 - (a0.length : Int))))], [], []⟩ (fgk (by kernel_rfl)) (seq_ (reg_ (st (mv_ rfl tv (st (mv_ rfl tv (oe_ (wk_ ⟨[(4, iV (IntKind.i64.wrap (a1 - (a0.length : Int))))], [], []⟩ (fgk (by kernel_rfl)) ?_)))))))))
  obtain rfl := Option.some.inj h0
  exact rt_ (ret_ rfl rfl rfl rfl rfl tv)

/- loop.example/g00149/laws.szVault -/
def c45_r0 : List Ins := [⟨some 2, .box (.t 0), none⟩,
⟨some 4, .p (.mv (.c (iV 0))), none⟩]
def c45_r1 : List Ins := [(iQ 5 (.fieldA (.t 2) 0)),
(iQ 6 (.load (.t 5) 3 true)),
(iQ 7 (.mv (.t 1))),
⟨some 8, .call 17 [(.t 6), (.t 7)], none⟩,
(iQ 1 (.mv (.t 8)))]
def c45_r2 : List Ins := [(iQ 9 (.mv (.t 1))),
⟨some 10, .p (.bin .lss (.t 9) (.c (iV 0))), none⟩]
def c45_r3 : List Ins := [⟨some 4, .p (.mv (.c (iV (-1)))), none⟩]
def c45_r4 : List Ins := [(iQ 11 (.fieldA (.t 2) 3)),
(iQ 12 (.load (.t 11) 1 false)),
(iQ 13 (.mv (.t 1))),
⟨some 14, .call 90 [(.t 12), (.t 13)], none⟩,
(iQ 1 (.mv (.t 14)))]
def c45_r5 : List Ins := [(iQ 15 (.mv (.t 1))),
⟨some 16, .p (.bin .lss (.t 15) (.c (iV 0))), none⟩]
def c45_r6 : List Ins := [⟨some 4, .p (.mv (.c (iV (-1)))), none⟩]
def c45_r7 : List Ins := [(iQ 17 (.fieldA (.t 2) 4)),
(iQ 18 (.load (.t 17) 1 false)),
(iQ 19 (.mv (.t 1))),
⟨some 20, .call 91 [(.t 18), (.t 19)], none⟩,
(iQ 1 (.mv (.t 20)))]
def c45_r8 : List Ins := [(iQ 21 (.mv (.t 1))),
⟨some 22, .p (.bin .lss (.t 21) (.c (iV 0))), none⟩]
def c45_r9 : List Ins := [⟨some 4, .p (.mv (.c (iV (-1)))), none⟩]
def c45_r10 : List Ins := [(iQ 23 (.mv (.t 1))),
(iQ 4 (.mv (.t 23)))]
def c45 : XFn := { np := 2, nt := 24, res := [.t 4], body := (.seq (.reg c45_r0) (.seq (.reg c45_r1) (.seq (.seq (.reg c45_r2) (.ite (.t 10) (.seq (.reg c45_r3) .ret) .skip)) (.seq (.reg c45_r4) (.seq (.seq (.reg c45_r5) (.ite (.t 16) (.seq (.reg c45_r6) .ret) .skip)) (.seq (.reg c45_r7) (.seq (.seq (.reg c45_r8) (.ite (.t 22) (.seq (.reg c45_r9) .ret) .skip)) (.seq (.reg c45_r10) .ret)))))))) }
def K45 (C : CRel) : Prop := ∀ (a0 : DVault) (a1 : Int) (r : Int), g45 a0 a1 = some r → C 45 ⟨[.agg (eDVault a0), iV a1], []⟩ ⟨iV r, [], []⟩
theorem F45 {C : CRel} (H17 : K17 C) (H90 : K90 C) (H91 : K91 C) (a0 : DVault) (a1 : Int) (r : Int) (h0 : g45 a0 a1 = some r) : FnOK C c45 ⟨[.agg (eDVault a0), iV a1], []⟩ ⟨iV r, [], []⟩ := by
 refine fn_ (nl rfl) (seq_ (reg_ (st (box_ rfl tv rfl (st (mvc_ tv (oe_ (wk_ ⟨[(1, iV a1), (2, .ptr 128 0)], [(128, [iV a0.table.clock, iV a0.table.next, .lst 4 (a0.table.list_.map eDLease), .lst 2 (a0.intents.map eDIntent), .lst 1 (a0.accounts.map eI), .bool a0.sealed])], []⟩ (fgk (by kernel_rfl)) (seq_ (reg_ (st (c_ (cp_ ⟨tv, tv⟩ rfl tv) (st (c_ (v := .agg [iV a0.table.clock, iV a0.table.next, .lst 4 (a0.table.list_.map eDLease)]) (cp_ ⟨tv, tv⟩ rfl (nl rfl)) (st (mv_ rfl tv ?_))))))))))))))))
 obtain ⟨r1, e2, h0⟩ := bnd h0
 refine st (call0_ (r := iV r1) false (H17 a0.table a1 r1 e2) ⟨tv, tv, tv⟩ rfl rfl (fun _ => rfl) (st (mv_ rfl tv (oe_ (wk_ ⟨[(1, iV r1), (2, .ptr 128 0)], [(128, [iV a0.table.clock, iV a0.table.next, .lst 4 (a0.table.list_.map eDLease), .lst 2 (a0.intents.map eDIntent), .lst 1 (a0.accounts.map eI), .bool a0.sealed])], []⟩ (fgk (by kernel_rfl)) (seq_ (seq_ (reg_ (st (mv_ rfl tv (st (c_ (cp_ t3 rfl tv) (oe_ (wk_ ⟨[(1, iV r1), (2, .ptr 128 0), (10, .bool (decide (r1 < 0)))], [(128, [iV a0.table.clock, iV a0.table.next, .lst 4 (a0.table.list_.map eDLease), .lst 2 (a0.intents.map eDIntent), .lst 1 (a0.accounts.map eI), .bool a0.sealed])], []⟩ (fgk (by kernel_rfl)) (ite_ (cb := (decide (r1 < 0))) rfl (fun c3 => ?_) (fun c3 => ?_))))))))))))))))
 ·replace h0 := ip c3 h0
  refine seq_ (reg_ (st (mvc_ tv (oe_ (wk_ ⟨[(4, iV (-1))], [], []⟩ (fgk (by kernel_rfl)) ?_)))))
  obtain rfl := Option.some.inj h0
  exact rt_ (ret_ rfl rfl rfl rfl rfl tv)
 ·replace h0 := inb c3 h0
  refine sk_ (wk_ ⟨[(1, iV r1), (2, .ptr 128 0)], [(128, [iV a0.table.clock, iV a0.table.next, .lst 4 (a0.table.list_.map eDLease), .lst 2 (a0.intents.map eDIntent), .lst 1 (a0.accounts.map eI), .bool a0.sealed])], []⟩ (fgk (by kernel_rfl)) (seq_ (reg_ (st (c_ (cp_ ⟨tv, tv⟩ rfl tv) (st (c_ (cp_ ⟨tv, tv⟩ rfl (nl rfl)) (st (mv_ rfl tv ?_)))))))))
  obtain ⟨r4, e5, h0⟩ := bnd h0
  refine st (call0_ (r := iV r4) false (H90 a0.intents r1 r4 e5) ⟨tv, tv, tv⟩ rfl rfl (fun _ => rfl) (st (mv_ rfl tv (oe_ (wk_ ⟨[(1, iV r4), (2, .ptr 128 0)], [(128, [iV a0.table.clock, iV a0.table.next, .lst 4 (a0.table.list_.map eDLease), .lst 2 (a0.intents.map eDIntent), .lst 1 (a0.accounts.map eI), .bool a0.sealed])], []⟩ (fgk (by kernel_rfl)) (seq_ (seq_ (reg_ (st (mv_ rfl tv (st (c_ (cp_ t3 rfl tv) (oe_ (wk_ ⟨[(1, iV r4), (2, .ptr 128 0), (16, .bool (decide (r4 < 0)))], [(128, [iV a0.table.clock, iV a0.table.next, .lst 4 (a0.table.list_.map eDLease), .lst 2 (a0.intents.map eDIntent), .lst 1 (a0.accounts.map eI), .bool a0.sealed])], []⟩ (fgk (by kernel_rfl)) (ite_ (cb := (decide (r4 < 0))) rfl (fun c6 => ?_) (fun c6 => ?_))))))))))))))))
  ·replace h0 := ip c6 h0
   refine seq_ (reg_ (st (mvc_ tv (oe_ (wk_ ⟨[(4, iV (-1))], [], []⟩ (fgk (by kernel_rfl)) ?_)))))
   obtain rfl := Option.some.inj h0
   exact rt_ (ret_ rfl rfl rfl rfl rfl tv)
  ·replace h0 := inb c6 h0
   refine sk_ (wk_ ⟨[(1, iV r4), (2, .ptr 128 0)], [(128, [iV a0.table.clock, iV a0.table.next, .lst 4 (a0.table.list_.map eDLease), .lst 2 (a0.intents.map eDIntent), .lst 1 (a0.accounts.map eI), .bool a0.sealed])], []⟩ (fgk (by kernel_rfl)) (seq_ (reg_ (st (c_ (cp_ ⟨tv, tv⟩ rfl tv) (st (c_ (cp_ ⟨tv, tv⟩ rfl (nl rfl)) (st (mv_ rfl tv ?_)))))))))
   obtain ⟨r7, e8, h0⟩ := bnd h0
   refine st (call0_ (r := iV r7) false (H91 a0.accounts r4 r7 e8) ⟨tv, tv, tv⟩ rfl rfl (fun _ => rfl) (st (mv_ rfl tv (oe_ (wk_ ⟨[(1, iV r7)], [], []⟩ (fgk (by kernel_rfl)) (seq_ (seq_ (reg_ (st (mv_ rfl tv (st (c_ (cp_ t3 rfl tv) (oe_ (wk_ ⟨[(1, iV r7), (22, .bool (decide (r7 < 0)))], [], []⟩ (fgk (by kernel_rfl)) (ite_ (cb := (decide (r7 < 0))) rfl (fun c9 => ?_) (fun c9 => ?_))))))))))))))))
   ·replace h0 := ip c9 h0
    refine seq_ (reg_ (st (mvc_ tv (oe_ (wk_ ⟨[(4, iV (-1))], [], []⟩ (fgk (by kernel_rfl)) ?_)))))
    obtain rfl := Option.some.inj h0
    exact rt_ (ret_ rfl rfl rfl rfl rfl tv)
   ·replace h0 := inb c9 h0
    refine sk_ (wk_ ⟨[(1, iV r7)], [], []⟩ (fgk (by kernel_rfl)) (seq_ (reg_ (st (mv_ rfl tv (st (mv_ rfl tv (oe_ (wk_ ⟨[(4, iV r7)], [], []⟩ (fgk (by kernel_rfl)) ?_)))))))))
    obtain rfl := Option.some.inj h0
    exact rt_ (ret_ rfl rfl rfl rfl rfl tv)

/- loop.example/g00149/laws.toLease -/
def c104_r0 : List Ins := [⟨some 1, .box (.t 0), none⟩,
⟨some 2, .alloc [(iV 0), (iV 0), (iV 0), (.bool false)], none⟩]
def c104_r1 : List Ins := [⟨some 3, .alloc [(iV 0), (iV 0), (iV 0), (.bool false)], none⟩]
def c104_r2 : List Ins := [(iQ 4 (.fieldA (.t 1) 0)),
(iQ 5 (.load (.t 4) 1 false)),
(iQ 6 (.fieldA (.t 3) 0)),
⟨none, .store (.t 6) (.t 5) 1, none⟩]
def c104_r3 : List Ins := [(iQ 7 (.fieldA (.t 1) 1)),
(iQ 8 (.load (.t 7) 1 false)),
(iQ 9 (.fieldA (.t 3) 1)),
⟨none, .store (.t 9) (.t 8) 1, none⟩]
def c104_r4 : List Ins := [(iQ 10 (.fieldA (.t 1) 2)),
(iQ 11 (.load (.t 10) 1 false)),
(iQ 12 (.fieldA (.t 3) 2)),
⟨none, .store (.t 12) (.t 11) 1, none⟩]
def c104_r5 : List Ins := [(iQ 13 (.fieldA (.t 1) 3)),
(iQ 14 (.load (.t 13) 1 false)),
(iQ 15 (.fieldA (.t 3) 3)),
⟨none, .store (.t 15) (.t 14) 1, none⟩]
def c104_r6 : List Ins := [(iQ 16 (.load (.t 3) 4 true)),
⟨none, .store (.t 2) (.t 16) 4, none⟩]
def c104 : XFn := { np := 1, nt := 17, res := [.cell 2 4 true], body := (.seq (.reg c104_r0) (.seq (.reg c104_r1) (.seq (.reg c104_r2) (.seq (.reg c104_r3) (.seq (.reg c104_r4) (.seq (.reg c104_r5) (.seq (.reg c104_r6) .ret))))))) }
def K104 (C : CRel) : Prop := ∀ (a0 : DLease) (r : DLease), g104 a0 = some r → C 104 ⟨[.agg (eDLease a0)], []⟩ ⟨.agg (eDLease r), [], []⟩
theorem F104 {C : CRel}  (a0 : DLease) (r : DLease) (h0 : g104 a0 = some r) : FnOK C c104 ⟨[.agg (eDLease a0)], []⟩ ⟨.agg (eDLease r), [], []⟩ := by
 refine fn_ (nl rfl) (seq_ (reg_ (st (box_ rfl tv rfl (st (alloc_ (oe_ (wk_ ⟨[(1, .ptr 64 0), (2, .ptr 128 0)], [(64, [iV a0.id, iV a0.until_, iV a0.cap, .bool a0.queued]), (128, [iV 0, iV 0, iV 0, .bool false])], []⟩ (fgk (by kernel_rfl)) (seq_ (reg_ (st (alloc_ (oe_ (wk_ ⟨[(1, .ptr 64 0), (2, .ptr 128 0), (3, .ptr 192 0)], [(64, [iV a0.id, iV a0.until_, iV a0.cap, .bool a0.queued]), (128, [iV 0, iV 0, iV 0, .bool false]), (192, [iV 0, iV 0, iV 0, .bool false])], []⟩ (fgk (by kernel_rfl)) (seq_ (reg_ (st (c_ (cp_ ⟨tv, tv⟩ rfl tv) (st (c_ (cp_ ⟨tv, tv⟩ rfl (nl rfl)) (st (c_ (cp_ ⟨tv, tv⟩ rfl tv) (st (stp_ rfl rfl tv rfl rfl rfl (nl rfl) (oe_ (wk_ ⟨[(1, .ptr 64 0), (2, .ptr 128 0), (3, .ptr 192 0)], [(64, [iV a0.id, iV a0.until_, iV a0.cap, .bool a0.queued]), (128, [iV 0, iV 0, iV 0, .bool false]), (192, [iV a0.id, iV 0, iV 0, .bool false])], []⟩ (fgk (by kernel_rfl)) (seq_ (reg_ (st (c_ (cp_ ⟨tv, tv⟩ rfl tv) (st (c_ (cp_ ⟨tv, tv⟩ rfl (nl rfl)) (st (c_ (cp_ ⟨tv, tv⟩ rfl tv) (st (stp_ rfl rfl tv rfl rfl rfl (nl rfl) (oe_ (wk_ ⟨[(1, .ptr 64 0), (2, .ptr 128 0), (3, .ptr 192 0)], [(64, [iV a0.id, iV a0.until_, iV a0.cap, .bool a0.queued]), (128, [iV 0, iV 0, iV 0, .bool false]), (192, [iV a0.id, iV a0.until_, iV 0, .bool false])], []⟩ (fgk (by kernel_rfl)) (seq_ (reg_ (st (c_ (cp_ ⟨tv, tv⟩ rfl tv) ?_))))))))))))))))))))))))))))))))))))))))))
 refine st (c_ (cp_ ⟨tv, tv⟩ rfl (nl rfl)) (st (c_ (cp_ ⟨tv, tv⟩ rfl tv) (st (stp_ rfl rfl tv rfl rfl rfl (nl rfl) (oe_ (wk_ ⟨[(1, .ptr 64 0), (2, .ptr 128 0), (3, .ptr 192 0)], [(64, [iV a0.id, iV a0.until_, iV a0.cap, .bool a0.queued]), (128, [iV 0, iV 0, iV 0, .bool false]), (192, [iV a0.id, iV a0.until_, iV a0.cap, .bool false])], []⟩ (fgk (by kernel_rfl)) (seq_ (reg_ (st (c_ (cp_ ⟨tv, tv⟩ rfl tv) (st (c_ (cp_ ⟨tv, tv⟩ rfl (nl rfl)) (st (c_ (cp_ ⟨tv, tv⟩ rfl tv) (st (stp_ rfl rfl tv rfl rfl rfl (nl rfl) (oe_ (wk_ ⟨[(2, .ptr 128 0), (3, .ptr 192 0)], [(128, [iV 0, iV 0, iV 0, .bool false]), (192, [iV a0.id, iV a0.until_, iV a0.cap, .bool a0.queued])], []⟩ (fgk (by kernel_rfl)) (seq_ (reg_ (st (c_ (v := .agg (eDLease a0)) (cp_ ⟨tv, tv⟩ rfl (nl rfl)) (st (stp_ rfl rfl tv rfl rfl rfl (nl rfl) (oe_ (wk_ ⟨[(2, .ptr 128 0)], [(128, [iV a0.id, iV a0.until_, iV a0.cap, .bool a0.queued])], []⟩ (fgk (by kernel_rfl)) ?_)))))))))))))))))))))))))))
 obtain rfl := Option.some.inj h0
 exact rt_ (ret_ rfl rfl rfl rfl rfl tv)

/- loop.example/g00149/laws.toLeaseS -/
def c57_r0 : List Ins := [⟨some 2, .nilS 4, none⟩]
def c57_r1 : List Ins := [(iQ 5 (.mv (.t 0))),
(iQ 6 (.len (.t 5))),
⟨some 7, .make 4 32 [(iV 0), (iV 0), (iV 0), (.bool false)] (.t 6) (.t 6), none⟩,
(iQ 3 (.mv (.t 7)))]
def c57_r2 : List Ins := [⟨some 4, .p (.mv (.c (iV 0))), none⟩]
def c57_r3 : List Ins := [(iQ 8 (.mv (.t 4))),
(iQ 9 (.mv (.t 0))),
(iQ 10 (.len (.t 9))),
(iQ 11 (.bin .lss (.t 8) (.t 10)))]
def c57_r4 : List Ins := [(iQ 14 (.mv (.t 3))),
(iQ 15 (.mv (.t 4))),
(iQ 16 (.mv (.t 0))),
(iQ 17 (.mv (.t 4))),
(iQ 18 (.idxA (.t 16) (.t 17) 4)),
(iQ 19 (.load (.t 18) 4 true)),
⟨some 20, .call 104 [(.t 19)], none⟩,
(iQ 21 (.idxA (.t 14) (.t 15) 4)),
⟨none, .store (.t 21) (.t 20) 4, none⟩]
def c57_r5 : List Ins := [(iQ 12 (.mv (.t 4))),
⟨some 13, .p (.bin .add (.t 12) (.c (iV 1))), none⟩,
(iQ 4 (.mv (.t 13)))]
def c57_l0 : IR := (.seq (.seq (.reg c57_r3) (.ite (.t 11) .skip (.exit 0))) (.seq (.block 1 (.reg c57_r4)) (.reg c57_r5)))
def c57_r6 : List Ins := [(iQ 22 (.mv (.t 3))),
(iQ 2 (.mv (.t 22)))]
def c57 : XFn := { np := 1, nt := 23, res := [.t 2], body := (.seq (.reg c57_r0) (.seq (.reg c57_r1) (.seq (.seq (.reg c57_r2) (.block 0 (.loop c57_l0))) (.seq (.reg c57_r6) .ret)))) }
def K57 (C : CRel) : Prop := ∀ (a0 : List DLease) (r : (List DLease)), g57 a0 = some r → C 57 ⟨[.lst 4 (a0.map eDLease)], []⟩ ⟨.own 0 0 4 (r.map eDLease), [], []⟩
theorem F57 {C : CRel} (H104 : K104 C) (a0 : List DLease) (r : (List DLease)) (h0 : g57 a0 = some r) : FnOK C c57 ⟨[.lst 4 (a0.map eDLease)], []⟩ ⟨.own 0 0 4 (r.map eDLease), [], []⟩ := by
 refine fn_ (nl rfl) (seq_ (reg_ (st (nilS_ (oe_ (wk_ ⟨[(0, .lst 4 (a0.map eDLease))], [], []⟩ (fgk (by kernel_rfl)) (seq_ (reg_ (st (mv_ rfl tv (st (c_ (clenL (e := eDLease) (l0 := a0) rfl rfl tv) ?_))))))))))))
 obtain ⟨c1, h0⟩ := grd h0
 obtain ⟨c2, h0⟩ := grd h0
 refine st (make_ (e := eDLease) (DLease.mk 0 0 0 false) rfl rfl c1 rfl c2 rfl (st (mv_ rfl tv (oe_ (wk_ ⟨[(0, .lst 4 (a0.map eDLease)), (3, .own 448 0 4 ((List.replicate (a0.length : Int).toNat (DLease.mk 0 0 0 false)).map eDLease))], [], []⟩ (fgk (by kernel_rfl)) (seq_ (seq_ (reg_ (st (mvc_ tv (oe_ (wk_ ⟨[(0, .lst 4 (a0.map eDLease)), (3, .own 448 0 4 ((List.replicate (a0.length : Int).toNat (DLease.mk 0 0 0 false)).map eDLease)), (4, iV 0)], [], []⟩ (fgk (by kernel_rfl)) (block_ ?_)))))))))))))
 obtain ⟨r35, e36, h0⟩ := bnd h0
 refine loop_ (R := (fun S => ∃ p25 : List DLease, p25 = r35 ∧ S = ⟨[(3, .own 448 0 4 (p25.map eDLease))], [], []⟩)) (g57_l0 a0) (fun s S => match s with | (p12, p13) => S = ⟨[(0, .lst 4 (a0.map eDLease)), (3, .own 448 0 4 (p12.map eDLease)), (4, iV p13)], [], []⟩) e36 ⟨[(0, .lst 4 (a0.map eDLease)), (3, .own 448 0 4 ((List.replicate (a0.length : Int).toNat (DLease.mk 0 0 0 false)).map eDLease)), (4, iV 0)], [], []⟩ (fgk (by kernel_rfl)) rfl 0 (fun _ => rfl) ?_ ?_
 ·rintro S _ hfg ⟨p25, rfl, rfl⟩
  refine wk_ ⟨[(3, .own 448 0 4 (p25.map eDLease))], [], []⟩ (fglk hfg (by kernel_rfl)) (seq_ (reg_ (st (mv_ rfl tv (st (mv_ rfl tv (oe_ (wk_ ⟨[(2, .own 448 0 4 (p25.map eDLease))], [], []⟩ (fgk (by kernel_rfl)) ?_))))))))
  obtain rfl := Option.some.inj h0
  exact rt_ (ret_ rfl rfl rfl rfl rfl tv)
 ·rintro ⟨p12, p13⟩ o1 _ K1 rfl h1 hx1 hK1 hE1 hR1
  refine seq_ (seq_ (reg_ (st (mv_ rfl tv (st (mv_ rfl tv (st (c_ (clenL (e := eDLease) (l0 := a0) rfl rfl tv) (st (c_ (cp_ t3 rfl tv) (oe_ (wk_ ⟨[(0, .lst 4 (a0.map eDLease)), (3, .own 448 0 4 (p12.map eDLease)), (4, iV p13), (11, .bool (decide (p13 < (a0.length : Int))))], [], []⟩ (fgk (by kernel_rfl)) (ite_ (cb := (decide (p13 < (a0.length : Int)))) rfl (fun c26 => ?_) (fun c26 => ?_))))))))))))))
  ·replace h1 := ip c26 h1
   refine sk_ (wk_ ⟨[(0, .lst 4 (a0.map eDLease)), (3, .own 448 0 4 (p12.map eDLease)), (4, iV p13)], [], []⟩ (fgk (by kernel_rfl)) (seq_ (block_ (reg_ (st (mv_ rfl tv (st (mv_ rfl tv (st (mv_ rfl tv (st (mv_ rfl tv ?_))))))))))))
   obtain ⟨y27, e28, h1⟩ := bnd h1
   refine st (c_ (cidxL (e := eDLease) (y := y27) rfl rfl tv rfl rfl tv e28) (st (c_ (v := .agg (eDLease y27)) (cp_ ⟨tv, tv⟩ rfl (nl rfl)) ?_)))
   obtain ⟨r29, e30, h1⟩ := bnd h1
   refine st (call0_ (r := .agg (eDLease r29)) false (H104 y27 r29 e30) ⟨tv, tv⟩ rfl rfl (fun _ => rfl) ?_)
   obtain ⟨y31, e32, h1⟩ := bnd h1
   refine st (c_ (cidxO (e := eDLease) (y := y31) rfl rfl tv rfl rfl tv e32) ?_)
   obtain ⟨y33, e34, h1⟩ := bnd h1
   refine st (sto_ (y' := r29) rfl rfl tv rfl rfl rfl rfl e34 (nl rfl) rfl rfl rfl rfl (oe_ (bn_ (wk_ ⟨[(0, .lst 4 (a0.map eDLease)), (3, .own 448 0 4 ((p12.set p13.toNat r29).map eDLease)), (4, iV p13)], [], []⟩ (fg ⟨rfl, (congrArg (fun z => some ((.own 448 0 4 z : V))) overlay_map), rfl, tv⟩ tv) (reg_ (st (mv_ rfl tv (st (c_ (cp_ t3 rfl tv) (st (mv_ rfl tv (oe_ ?_))))))))))))
   obtain rfl := Option.some.inj h1
   exact hK1 _ rfl _ ⟨[(0, .lst 4 (a0.map eDLease)), (3, .own 448 0 4 ((p12.set p13.toNat r29).map eDLease)), (4, iV (IntKind.i64.wrap (p13 + 1)))], [], []⟩ (fgk (by kernel_rfl)) rfl
  ·replace h1 := inb c26 h1
   obtain rfl := Option.some.inj h1
   obtain rfl := hx1 _ rfl
   refine exQ rfl ?_
   exact hE1 _ ⟨[(3, .own 448 0 4 (p12.map eDLease))], [], []⟩ (fgk (by kernel_rfl)) ⟨_, rfl, rfl⟩

/- loop.example/g00149/laws.toTable -/
def c19_r0 : List Ins := [⟨some 1, .box (.t 0), none⟩,
⟨some 2, .alloc [(iV 0), (iV 0), (.own 131 0 4 [])], none⟩]
def c19_r1 : List Ins := [⟨some 3, .alloc [(iV 0), (iV 0), (.own 195 0 4 [])], none⟩]
def c19_r2 : List Ins := [(iQ 4 (.fieldA (.t 1) 0)),
(iQ 5 (.load (.t 4) 1 false)),
(iQ 6 (.fieldA (.t 3) 0)),
⟨none, .store (.t 6) (.t 5) 1, none⟩]
def c19_r3 : List Ins := [(iQ 7 (.fieldA (.t 1) 1)),
(iQ 8 (.load (.t 7) 1 false)),
(iQ 9 (.fieldA (.t 3) 1)),
⟨none, .store (.t 9) (.t 8) 1, none⟩]
def c19_r4 : List Ins := [(iQ 10 (.fieldA (.t 1) 2)),
(iQ 11 (.load (.t 10) 1 false)),
⟨some 12, .call 57 [(.t 11)], none⟩,
(iQ 13 (.fieldA (.t 3) 2)),
⟨none, .store (.t 13) (.t 12) 1, none⟩]
def c19_r5 : List Ins := [(iQ 14 (.load (.t 3) 3 true)),
⟨none, .store (.t 2) (.t 14) 3, none⟩]
def c19 : XFn := { np := 1, nt := 15, res := [.cell 2 3 true], body := (.seq (.reg c19_r0) (.seq (.reg c19_r1) (.seq (.reg c19_r2) (.seq (.reg c19_r3) (.seq (.reg c19_r4) (.seq (.reg c19_r5) .ret)))))) }
def K19 (C : CRel) : Prop := ∀ (a0 : DTable) (r : DTable), g19 a0 = some r → C 19 ⟨[.agg (eDTable a0)], []⟩ ⟨.agg [iV r.clock, iV r.next, .own 0 0 4 (r.list_.map eDLease)], [], []⟩
theorem F19 {C : CRel} (H57 : K57 C) (a0 : DTable) (r : DTable) (h0 : g19 a0 = some r) : FnOK C c19 ⟨[.agg (eDTable a0)], []⟩ ⟨.agg [iV r.clock, iV r.next, .own 0 0 4 (r.list_.map eDLease)], [], []⟩ := by
 refine fn_ (nl rfl) (seq_ (reg_ (st (box_ rfl tv rfl (st (alloc_ (oe_ (wk_ ⟨[(1, .ptr 64 0), (2, .ptr 128 0)], [(64, [iV a0.clock, iV a0.next, .lst 4 (a0.list_.map eDLease)]), (128, [iV 0, iV 0, .own 131 0 4 (([] : List DLease).map eDLease)])], []⟩ (fgk (by kernel_rfl)) (seq_ (reg_ (st (alloc_ (oe_ (wk_ ⟨[(1, .ptr 64 0), (2, .ptr 128 0), (3, .ptr 192 0)], [(64, [iV a0.clock, iV a0.next, .lst 4 (a0.list_.map eDLease)]), (128, [iV 0, iV 0, .own 131 0 4 (([] : List DLease).map eDLease)]), (192, [iV 0, iV 0, .own 195 0 4 (([] : List DLease).map eDLease)])], []⟩ (fgk (by kernel_rfl)) (seq_ (reg_ (st (c_ (cp_ ⟨tv, tv⟩ rfl tv) (st (c_ (cp_ ⟨tv, tv⟩ rfl (nl rfl)) (st (c_ (cp_ ⟨tv, tv⟩ rfl tv) (st (stp_ rfl rfl tv rfl rfl rfl (nl rfl) (oe_ (wk_ ⟨[(1, .ptr 64 0), (2, .ptr 128 0), (3, .ptr 192 0)], [(64, [iV a0.clock, iV a0.next, .lst 4 (a0.list_.map eDLease)]), (128, [iV 0, iV 0, .own 131 0 4 (([] : List DLease).map eDLease)]), (192, [iV a0.clock, iV 0, .own 195 0 4 (([] : List DLease).map eDLease)])], []⟩ (fgk (by kernel_rfl)) (seq_ (reg_ (st (c_ (cp_ ⟨tv, tv⟩ rfl tv) (st (c_ (cp_ ⟨tv, tv⟩ rfl (nl rfl)) (st (c_ (cp_ ⟨tv, tv⟩ rfl tv) (st (stp_ rfl rfl tv rfl rfl rfl (nl rfl) (oe_ (wk_ ⟨[(1, .ptr 64 0), (2, .ptr 128 0), (3, .ptr 192 0)], [(64, [iV a0.clock, iV a0.next, .lst 4 (a0.list_.map eDLease)]), (128, [iV 0, iV 0, .own 131 0 4 (([] : List DLease).map eDLease)]), (192, [iV a0.clock, iV a0.next, .own 195 0 4 (([] : List DLease).map eDLease)])], []⟩ (fgk (by kernel_rfl)) (seq_ (reg_ (st (c_ (cp_ ⟨tv, tv⟩ rfl tv) ?_))))))))))))))))))))))))))))))))))))))))))
 refine st (c_ (cp_ ⟨tv, tv⟩ rfl (nl rfl)) ?_)
 obtain ⟨r1, e2, h0⟩ := bnd h0
 refine st (call0_ (r := .own 0 0 4 (r1.map eDLease)) false (H57 a0.list_ r1 e2) ⟨tv, tv⟩ rfl rfl (fun _ => (and_ (fl1 (fun _ => rfl)) rfl)) (st (c_ (cp_ ⟨tv, tv⟩ rfl tv) (st (stp_ rfl rfl tv rfl rfl rfl (nl rfl) (oe_ (wk_ ⟨[(2, .ptr 128 0), (3, .ptr 192 0)], [(128, [iV 0, iV 0, .own 131 0 4 (([] : List DLease).map eDLease)]), (192, [iV a0.clock, iV a0.next, .own 768 0 4 (r1.map eDLease)])], []⟩ (fgk (by kernel_rfl)) (seq_ (reg_ (st (c_ (v := .agg [iV a0.clock, iV a0.next, .own 768 0 4 (r1.map eDLease)]) (cp_ ⟨tv, tv⟩ rfl (nl rfl)) (st (stp_ rfl rfl tv rfl rfl rfl (nl rfl) (oe_ (wk_ ⟨[(2, .ptr 128 0)], [(128, [iV a0.clock, iV a0.next, .own 768 0 4 (r1.map eDLease)])], []⟩ (fgk (by kernel_rfl)) ?_)))))))))))))))
 obtain rfl := Option.some.inj h0
 exact rt_ (ret_ rfl rfl rfl rfl rfl tv)

/- loop.example/g00149/laws.toIntS -/
def c43_r0 : List Ins := [⟨some 2, .nilS 1, none⟩]
def c43_r1 : List Ins := [(iQ 5 (.mv (.t 0))),
(iQ 6 (.len (.t 5))),
⟨some 7, .make 1 8 [(iV 0)] (.t 6) (.t 6), none⟩,
(iQ 3 (.mv (.t 7)))]
def c43_r2 : List Ins := [⟨some 4, .p (.mv (.c (iV 0))), none⟩]
def c43_r3 : List Ins := [(iQ 8 (.mv (.t 4))),
(iQ 9 (.mv (.t 0))),
(iQ 10 (.len (.t 9))),
(iQ 11 (.bin .lss (.t 8) (.t 10)))]
def c43_r4 : List Ins := [(iQ 14 (.mv (.t 3))),
(iQ 15 (.mv (.t 4))),
(iQ 16 (.mv (.t 0))),
(iQ 17 (.mv (.t 4))),
(iQ 18 (.idxA (.t 16) (.t 17) 1)),
(iQ 19 (.load (.t 18) 1 false)),
(iQ 20 (.idxA (.t 14) (.t 15) 1)),
⟨none, .store (.t 20) (.t 19) 1, none⟩]
def c43_r5 : List Ins := [(iQ 12 (.mv (.t 4))),
⟨some 13, .p (.bin .add (.t 12) (.c (iV 1))), none⟩,
(iQ 4 (.mv (.t 13)))]
def c43_l0 : IR := (.seq (.seq (.reg c43_r3) (.ite (.t 11) .skip (.exit 0))) (.seq (.block 1 (.reg c43_r4)) (.reg c43_r5)))
def c43_r6 : List Ins := [(iQ 21 (.mv (.t 3))),
(iQ 2 (.mv (.t 21)))]
def c43 : XFn := { np := 1, nt := 22, res := [.t 2], body := (.seq (.reg c43_r0) (.seq (.reg c43_r1) (.seq (.seq (.reg c43_r2) (.block 0 (.loop c43_l0))) (.seq (.reg c43_r6) .ret)))) }
def K43 (C : CRel) : Prop := ∀ (a0 : List Int) (r : (List Int)), g43 a0 = some r → C 43 ⟨[.lst 1 (a0.map eI)], []⟩ ⟨.own 0 0 1 (r.map eI), [], []⟩
theorem F43 {C : CRel}  (a0 : List Int) (r : (List Int)) (h0 : g43 a0 = some r) : FnOK C c43 ⟨[.lst 1 (a0.map eI)], []⟩ ⟨.own 0 0 1 (r.map eI), [], []⟩ := by
 refine fn_ (nl rfl) (seq_ (reg_ (st (nilS_ (oe_ (wk_ ⟨[(0, .lst 1 (a0.map eI))], [], []⟩ (fgk (by kernel_rfl)) (seq_ (reg_ (st (mv_ rfl tv (st (c_ (clenL (e := eI) (l0 := a0) rfl rfl tv) ?_))))))))))))
 obtain ⟨c1, h0⟩ := grd h0
 obtain ⟨c2, h0⟩ := grd h0
 refine st (make_ (e := eI) 0 rfl rfl c1 rfl c2 rfl (st (mv_ rfl tv (oe_ (wk_ ⟨[(0, .lst 1 (a0.map eI)), (3, .own 448 0 1 ((List.replicate (a0.length : Int).toNat 0).map eI))], [], []⟩ (fgk (by kernel_rfl)) (seq_ (seq_ (reg_ (st (mvc_ tv (oe_ (wk_ ⟨[(0, .lst 1 (a0.map eI)), (3, .own 448 0 1 ((List.replicate (a0.length : Int).toNat 0).map eI)), (4, iV 0)], [], []⟩ (fgk (by kernel_rfl)) (block_ ?_)))))))))))))
 obtain ⟨r29, e30, h0⟩ := bnd h0
 refine loop_ (R := (fun S => ∃ p21 : List Int, p21 = r29 ∧ S = ⟨[(3, .own 448 0 1 (p21.map eI))], [], []⟩)) (g43_l0 a0) (fun s S => match s with | (p10, p11) => S = ⟨[(0, .lst 1 (a0.map eI)), (3, .own 448 0 1 (p10.map eI)), (4, iV p11)], [], []⟩) e30 ⟨[(0, .lst 1 (a0.map eI)), (3, .own 448 0 1 ((List.replicate (a0.length : Int).toNat 0).map eI)), (4, iV 0)], [], []⟩ (fgk (by kernel_rfl)) rfl 0 (fun _ => rfl) ?_ ?_
 ·rintro S _ hfg ⟨p21, rfl, rfl⟩
  refine wk_ ⟨[(3, .own 448 0 1 (p21.map eI))], [], []⟩ (fglk hfg (by kernel_rfl)) (seq_ (reg_ (st (mv_ rfl tv (st (mv_ rfl tv (oe_ (wk_ ⟨[(2, .own 448 0 1 (p21.map eI))], [], []⟩ (fgk (by kernel_rfl)) ?_))))))))
  obtain rfl := Option.some.inj h0
  exact rt_ (ret_ rfl rfl rfl rfl rfl tv)
 ·rintro ⟨p10, p11⟩ o1 _ K1 rfl h1 hx1 hK1 hE1 hR1
  refine seq_ (seq_ (reg_ (st (mv_ rfl tv (st (mv_ rfl tv (st (c_ (clenL (e := eI) (l0 := a0) rfl rfl tv) (st (c_ (cp_ t3 rfl tv) (oe_ (wk_ ⟨[(0, .lst 1 (a0.map eI)), (3, .own 448 0 1 (p10.map eI)), (4, iV p11), (11, .bool (decide (p11 < (a0.length : Int))))], [], []⟩ (fgk (by kernel_rfl)) (ite_ (cb := (decide (p11 < (a0.length : Int)))) rfl (fun c22 => ?_) (fun c22 => ?_))))))))))))))
  ·replace h1 := ip c22 h1
   refine sk_ (wk_ ⟨[(0, .lst 1 (a0.map eI)), (3, .own 448 0 1 (p10.map eI)), (4, iV p11)], [], []⟩ (fgk (by kernel_rfl)) (seq_ (block_ (reg_ (st (mv_ rfl tv (st (mv_ rfl tv (st (mv_ rfl tv (st (mv_ rfl tv ?_))))))))))))
   obtain ⟨y23, e24, h1⟩ := bnd h1
   refine st (c_ (cidxL (e := eI) (y := y23) rfl rfl tv rfl rfl tv e24) (st (c_ (cp_ ⟨tv, tv⟩ rfl (nl rfl)) ?_)))
   obtain ⟨y25, e26, h1⟩ := bnd h1
   refine st (c_ (cidxO (e := eI) (y := y25) rfl rfl tv rfl rfl tv e26) ?_)
   obtain ⟨y27, e28, h1⟩ := bnd h1
   refine st (sto_ (y' := y23) rfl rfl tv rfl rfl rfl rfl e28 (nl rfl) rfl rfl rfl rfl (oe_ (bn_ (wk_ ⟨[(0, .lst 1 (a0.map eI)), (3, .own 448 0 1 ((p10.set p11.toNat y23).map eI)), (4, iV p11)], [], []⟩ (fg ⟨rfl, (congrArg (fun z => some ((.own 448 0 1 z : V))) overlay_map), rfl, tv⟩ tv) (reg_ (st (mv_ rfl tv (st (c_ (cp_ t3 rfl tv) (st (mv_ rfl tv (oe_ ?_))))))))))))
   obtain rfl := Option.some.inj h1
   exact hK1 _ rfl _ ⟨[(0, .lst 1 (a0.map eI)), (3, .own 448 0 1 ((p10.set p11.toNat y23).map eI)), (4, iV (IntKind.i64.wrap (p11 + 1)))], [], []⟩ (fgk (by kernel_rfl)) rfl
  ·replace h1 := inb c22 h1
   obtain rfl := Option.some.inj h1
   obtain rfl := hx1 _ rfl
   refine exQ rfl ?_
   exact hE1 _ ⟨[(3, .own 448 0 1 (p10.map eI))], [], []⟩ (fgk (by kernel_rfl)) ⟨_, rfl, rfl⟩

/- loop.example/g00149/laws.toIntent -/
def c125_r0 : List Ins := [⟨some 1, .box (.t 0), none⟩,
⟨some 2, .alloc [(iV 0), (.bool false)], none⟩]
def c125_r1 : List Ins := [⟨some 3, .alloc [(iV 0), (.bool false)], none⟩]
def c125_r2 : List Ins := [(iQ 4 (.fieldA (.t 1) 0)),
(iQ 5 (.load (.t 4) 1 false)),
(iQ 6 (.fieldA (.t 3) 0)),
⟨none, .store (.t 6) (.t 5) 1, none⟩]
def c125_r3 : List Ins := [(iQ 7 (.fieldA (.t 1) 1)),
(iQ 8 (.load (.t 7) 1 false)),
(iQ 9 (.fieldA (.t 3) 1)),
⟨none, .store (.t 9) (.t 8) 1, none⟩]
def c125_r4 : List Ins := [(iQ 10 (.load (.t 3) 2 true)),
⟨none, .store (.t 2) (.t 10) 2, none⟩]
def c125 : XFn := { np := 1, nt := 11, res := [.cell 2 2 true], body := (.seq (.reg c125_r0) (.seq (.reg c125_r1) (.seq (.reg c125_r2) (.seq (.reg c125_r3) (.seq (.reg c125_r4) .ret))))) }
def K125 (C : CRel) : Prop := ∀ (a0 : DIntent) (r : DIntent), g125 a0 = some r → C 125 ⟨[.agg (eDIntent a0)], []⟩ ⟨.agg (eDIntent r), [], []⟩
theorem F125 {C : CRel}  (a0 : DIntent) (r : DIntent) (h0 : g125 a0 = some r) : FnOK C c125 ⟨[.agg (eDIntent a0)], []⟩ ⟨.agg (eDIntent r), [], []⟩ := by
 refine fn_ (nl rfl) (seq_ (reg_ (st (box_ rfl tv rfl (st (alloc_ (oe_ (wk_ ⟨[(1, .ptr 64 0), (2, .ptr 128 0)], [(64, [iV a0.lease, .bool a0.undo]), (128, [iV 0, .bool false])], []⟩ (fgk (by kernel_rfl)) (seq_ (reg_ (st (alloc_ (oe_ (wk_ ⟨[(1, .ptr 64 0), (2, .ptr 128 0), (3, .ptr 192 0)], [(64, [iV a0.lease, .bool a0.undo]), (128, [iV 0, .bool false]), (192, [iV 0, .bool false])], []⟩ (fgk (by kernel_rfl)) (seq_ (reg_ (st (c_ (cp_ ⟨tv, tv⟩ rfl tv) (st (c_ (cp_ ⟨tv, tv⟩ rfl (nl rfl)) (st (c_ (cp_ ⟨tv, tv⟩ rfl tv) (st (stp_ rfl rfl tv rfl rfl rfl (nl rfl) (oe_ (wk_ ⟨[(1, .ptr 64 0), (2, .ptr 128 0), (3, .ptr 192 0)], [(64, [iV a0.lease, .bool a0.undo]), (128, [iV 0, .bool false]), (192, [iV a0.lease, .bool false])], []⟩ (fgk (by kernel_rfl)) (seq_ (reg_ (st (c_ (cp_ ⟨tv, tv⟩ rfl tv) (st (c_ (cp_ ⟨tv, tv⟩ rfl (nl rfl)) (st (c_ (cp_ ⟨tv, tv⟩ rfl tv) (st (stp_ rfl rfl tv rfl rfl rfl (nl rfl) (oe_ (wk_ ⟨[(2, .ptr 128 0), (3, .ptr 192 0)], [(128, [iV 0, .bool false]), (192, [iV a0.lease, .bool a0.undo])], []⟩ (fgk (by kernel_rfl)) (seq_ (reg_ (st (c_ (v := .agg (eDIntent a0)) (cp_ ⟨tv, tv⟩ rfl (nl rfl)) ?_))))))))))))))))))))))))))))))))))))))))))
 refine st (stp_ rfl rfl tv rfl rfl rfl (nl rfl) (oe_ (wk_ ⟨[(2, .ptr 128 0)], [(128, [iV a0.lease, .bool a0.undo])], []⟩ (fgk (by kernel_rfl)) ?_)))
 obtain rfl := Option.some.inj h0
 exact rt_ (ret_ rfl rfl rfl rfl rfl tv)

/- loop.example/g00149/laws.toIntentS -/
def c94_r0 : List Ins := [⟨some 2, .nilS 2, none⟩]
def c94_r1 : List Ins := [(iQ 5 (.mv (.t 0))),
(iQ 6 (.len (.t 5))),
⟨some 7, .make 2 16 [(iV 0), (.bool false)] (.t 6) (.t 6), none⟩,
(iQ 3 (.mv (.t 7)))]
def c94_r2 : List Ins := [⟨some 4, .p (.mv (.c (iV 0))), none⟩]
def c94_r3 : List Ins := [(iQ 8 (.mv (.t 4))),
(iQ 9 (.mv (.t 0))),
(iQ 10 (.len (.t 9))),
(iQ 11 (.bin .lss (.t 8) (.t 10)))]
def c94_r4 : List Ins := [(iQ 14 (.mv (.t 3))),
(iQ 15 (.mv (.t 4))),
(iQ 16 (.mv (.t 0))),
(iQ 17 (.mv (.t 4))),
(iQ 18 (.idxA (.t 16) (.t 17) 2)),
(iQ 19 (.load (.t 18) 2 true)),
⟨some 20, .call 125 [(.t 19)], none⟩,
(iQ 21 (.idxA (.t 14) (.t 15) 2)),
⟨none, .store (.t 21) (.t 20) 2, none⟩]
def c94_r5 : List Ins := [(iQ 12 (.mv (.t 4))),
⟨some 13, .p (.bin .add (.t 12) (.c (iV 1))), none⟩,
(iQ 4 (.mv (.t 13)))]
def c94_l0 : IR := (.seq (.seq (.reg c94_r3) (.ite (.t 11) .skip (.exit 0))) (.seq (.block 1 (.reg c94_r4)) (.reg c94_r5)))
def c94_r6 : List Ins := [(iQ 22 (.mv (.t 3))),
(iQ 2 (.mv (.t 22)))]
def c94 : XFn := { np := 1, nt := 23, res := [.t 2], body := (.seq (.reg c94_r0) (.seq (.reg c94_r1) (.seq (.seq (.reg c94_r2) (.block 0 (.loop c94_l0))) (.seq (.reg c94_r6) .ret)))) }
def K94 (C : CRel) : Prop := ∀ (a0 : List DIntent) (r : (List DIntent)), g94 a0 = some r → C 94 ⟨[.lst 2 (a0.map eDIntent)], []⟩ ⟨.own 0 0 2 (r.map eDIntent), [], []⟩
theorem F94 {C : CRel} (H125 : K125 C) (a0 : List DIntent) (r : (List DIntent)) (h0 : g94 a0 = some r) : FnOK C c94 ⟨[.lst 2 (a0.map eDIntent)], []⟩ ⟨.own 0 0 2 (r.map eDIntent), [], []⟩ := by
 refine fn_ (nl rfl) (seq_ (reg_ (st (nilS_ (oe_ (wk_ ⟨[(0, .lst 2 (a0.map eDIntent))], [], []⟩ (fgk (by kernel_rfl)) (seq_ (reg_ (st (mv_ rfl tv (st (c_ (clenL (e := eDIntent) (l0 := a0) rfl rfl tv) ?_))))))))))))
 obtain ⟨c1, h0⟩ := grd h0
 obtain ⟨c2, h0⟩ := grd h0
 refine st (make_ (e := eDIntent) (DIntent.mk 0 false) rfl rfl c1 rfl c2 rfl (st (mv_ rfl tv (oe_ (wk_ ⟨[(0, .lst 2 (a0.map eDIntent)), (3, .own 448 0 2 ((List.replicate (a0.length : Int).toNat (DIntent.mk 0 false)).map eDIntent))], [], []⟩ (fgk (by kernel_rfl)) (seq_ (seq_ (reg_ (st (mvc_ tv (oe_ (wk_ ⟨[(0, .lst 2 (a0.map eDIntent)), (3, .own 448 0 2 ((List.replicate (a0.length : Int).toNat (DIntent.mk 0 false)).map eDIntent)), (4, iV 0)], [], []⟩ (fgk (by kernel_rfl)) (block_ ?_)))))))))))))
 obtain ⟨r35, e36, h0⟩ := bnd h0
 refine loop_ (R := (fun S => ∃ p25 : List DIntent, p25 = r35 ∧ S = ⟨[(3, .own 448 0 2 (p25.map eDIntent))], [], []⟩)) (g94_l0 a0) (fun s S => match s with | (p12, p13) => S = ⟨[(0, .lst 2 (a0.map eDIntent)), (3, .own 448 0 2 (p12.map eDIntent)), (4, iV p13)], [], []⟩) e36 ⟨[(0, .lst 2 (a0.map eDIntent)), (3, .own 448 0 2 ((List.replicate (a0.length : Int).toNat (DIntent.mk 0 false)).map eDIntent)), (4, iV 0)], [], []⟩ (fgk (by kernel_rfl)) rfl 0 (fun _ => rfl) ?_ ?_
 ·rintro S _ hfg ⟨p25, rfl, rfl⟩
  refine wk_ ⟨[(3, .own 448 0 2 (p25.map eDIntent))], [], []⟩ (fglk hfg (by kernel_rfl)) (seq_ (reg_ (st (mv_ rfl tv (st (mv_ rfl tv (oe_ (wk_ ⟨[(2, .own 448 0 2 (p25.map eDIntent))], [], []⟩ (fgk (by kernel_rfl)) ?_))))))))
  obtain rfl := Option.some.inj h0
  exact rt_ (ret_ rfl rfl rfl rfl rfl tv)
 ·rintro ⟨p12, p13⟩ o1 _ K1 rfl h1 hx1 hK1 hE1 hR1
  refine seq_ (seq_ (reg_ (st (mv_ rfl tv (st (mv_ rfl tv (st (c_ (clenL (e := eDIntent) (l0 := a0) rfl rfl tv) (st (c_ (cp_ t3 rfl tv) (oe_ (wk_ ⟨[(0, .lst 2 (a0.map eDIntent)), (3, .own 448 0 2 (p12.map eDIntent)), (4, iV p13), (11, .bool (decide (p13 < (a0.length : Int))))], [], []⟩ (fgk (by kernel_rfl)) (ite_ (cb := (decide (p13 < (a0.length : Int)))) rfl (fun c26 => ?_) (fun c26 => ?_))))))))))))))
  ·replace h1 := ip c26 h1
   refine sk_ (wk_ ⟨[(0, .lst 2 (a0.map eDIntent)), (3, .own 448 0 2 (p12.map eDIntent)), (4, iV p13)], [], []⟩ (fgk (by kernel_rfl)) (seq_ (block_ (reg_ (st (mv_ rfl tv (st (mv_ rfl tv (st (mv_ rfl tv (st (mv_ rfl tv ?_))))))))))))
   obtain ⟨y27, e28, h1⟩ := bnd h1
   refine st (c_ (cidxL (e := eDIntent) (y := y27) rfl rfl tv rfl rfl tv e28) (st (c_ (v := .agg (eDIntent y27)) (cp_ ⟨tv, tv⟩ rfl (nl rfl)) ?_)))
   obtain ⟨r29, e30, h1⟩ := bnd h1
   refine st (call0_ (r := .agg (eDIntent r29)) false (H125 y27 r29 e30) ⟨tv, tv⟩ rfl rfl (fun _ => rfl) ?_)
   obtain ⟨y31, e32, h1⟩ := bnd h1
   refine st (c_ (cidxO (e := eDIntent) (y := y31) rfl rfl tv rfl rfl tv e32) ?_)
   obtain ⟨y33, e34, h1⟩ := bnd h1
   refine st (sto_ (y' := r29) rfl rfl tv rfl rfl rfl rfl e34 (nl rfl) rfl rfl rfl rfl (oe_ (bn_ (wk_ ⟨[(0, .lst 2 (a0.map eDIntent)), (3, .own 448 0 2 ((p12.set p13.toNat r29).map eDIntent)), (4, iV p13)], [], []⟩ (fg ⟨rfl, (congrArg (fun z => some ((.own 448 0 2 z : V))) overlay_map), rfl, tv⟩ tv) (reg_ (st (mv_ rfl tv (st (c_ (cp_ t3 rfl tv) (st (mv_ rfl tv (oe_ ?_))))))))))))
   obtain rfl := Option.some.inj h1
   exact hK1 _ rfl _ ⟨[(0, .lst 2 (a0.map eDIntent)), (3, .own 448 0 2 ((p12.set p13.toNat r29).map eDIntent)), (4, iV (IntKind.i64.wrap (p13 + 1)))], [], []⟩ (fgk (by kernel_rfl)) rfl
  ·replace h1 := inb c26 h1
   obtain rfl := Option.some.inj h1
   obtain rfl := hx1 _ rfl
   refine exQ rfl ?_
   exact hE1 _ ⟨[(3, .own 448 0 2 (p12.map eDIntent))], [], []⟩ (fgk (by kernel_rfl)) ⟨_, rfl, rfl⟩

/- loop.example/g00149/laws.toVault -/
def c47_r0 : List Ins := [⟨some 1, .box (.t 0), none⟩,
⟨some 2, .alloc [(iV 0), (iV 0), (.own 131 0 4 []), (.own 132 0 2 []), (.own 133 0 1 []), (.bool false)], none⟩]
def c47_r1 : List Ins := [⟨some 3, .alloc [(iV 0), (iV 0), (.own 195 0 4 []), (.own 196 0 2 []), (.own 197 0 1 []), (.bool false)], none⟩]
def c47_r2 : List Ins := [(iQ 4 (.fieldA (.t 1) 0)),
(iQ 5 (.load (.t 4) 3 true)),
⟨some 6, .call 19 [(.t 5)], none⟩,
(iQ 7 (.fieldA (.t 3) 0)),
⟨none, .store (.t 7) (.t 6) 3, none⟩]
def c47_r3 : List Ins := [(iQ 8 (.fieldA (.t 1) 3)),
(iQ 9 (.load (.t 8) 1 false)),
⟨some 10, .call 94 [(.t 9)], none⟩,
(iQ 11 (.fieldA (.t 3) 3)),
⟨none, .store (.t 11) (.t 10) 1, none⟩]
def c47_r4 : List Ins := [(iQ 12 (.fieldA (.t 1) 4)),
(iQ 13 (.load (.t 12) 1 false)),
⟨some 14, .call 43 [(.t 13)], none⟩,
(iQ 15 (.fieldA (.t 3) 4)),
⟨none, .store (.t 15) (.t 14) 1, none⟩]
def c47_r5 : List Ins := [(iQ 16 (.fieldA (.t 1) 5)),
(iQ 17 (.load (.t 16) 1 false)),
(iQ 18 (.fieldA (.t 3) 5)),
⟨none, .store (.t 18) (.t 17) 1, none⟩]
def c47_r6 : List Ins := [(iQ 19 (.load (.t 3) 6 true)),
⟨none, .store (.t 2) (.t 19) 6, none⟩]
def c47 : XFn := { np := 1, nt := 20, res := [.cell 2 6 true], body := (.seq (.reg c47_r0) (.seq (.reg c47_r1) (.seq (.reg c47_r2) (.seq (.reg c47_r3) (.seq (.reg c47_r4) (.seq (.reg c47_r5) (.seq (.reg c47_r6) .ret))))))) }
def K47 (C : CRel) : Prop := ∀ (a0 : DVault) (r : DVault), g47 a0 = some r → C 47 ⟨[.agg (eDVault a0)], []⟩ ⟨.agg [iV r.table.clock, iV r.table.next, .own 0 0 4 (r.table.list_.map eDLease), .own 1 0 2 (r.intents.map eDIntent), .own 2 0 1 (r.accounts.map eI), .bool r.sealed], [], []⟩
theorem F47 {C : CRel} (H19 : K19 C) (H43 : K43 C) (H94 : K94 C) (a0 : DVault) (r : DVault) (h0 : g47 a0 = some r) : FnOK C c47 ⟨[.agg (eDVault a0)], []⟩ ⟨.agg [iV r.table.clock, iV r.table.next, .own 0 0 4 (r.table.list_.map eDLease), .own 1 0 2 (r.intents.map eDIntent), .own 2 0 1 (r.accounts.map eI), .bool r.sealed], [], []⟩ := by
 refine fn_ (nl rfl) (seq_ (reg_ (st (box_ rfl tv rfl (st (alloc_ (oe_ (wk_ ⟨[(1, .ptr 64 0), (2, .ptr 128 0)], [(64, [iV a0.table.clock, iV a0.table.next, .lst 4 (a0.table.list_.map eDLease), .lst 2 (a0.intents.map eDIntent), .lst 1 (a0.accounts.map eI), .bool a0.sealed]), (128, [iV 0, iV 0, .own 131 0 4 (([] : List DLease).map eDLease), .own 132 0 2 (([] : List DIntent).map eDIntent), .own 133 0 1 (([] : List Int).map eI), .bool false])], []⟩ (fgk (by kernel_rfl)) (seq_ (reg_ (st (alloc_ (oe_ (wk_ ⟨[(1, .ptr 64 0), (2, .ptr 128 0), (3, .ptr 192 0)], [(64, [iV a0.table.clock, iV a0.table.next, .lst 4 (a0.table.list_.map eDLease), .lst 2 (a0.intents.map eDIntent), .lst 1 (a0.accounts.map eI), .bool a0.sealed]), (128, [iV 0, iV 0, .own 131 0 4 (([] : List DLease).map eDLease), .own 132 0 2 (([] : List DIntent).map eDIntent), .own 133 0 1 (([] : List Int).map eI), .bool false]), (192, [iV 0, iV 0, .own 195 0 4 (([] : List DLease).map eDLease), .own 196 0 2 (([] : List DIntent).map eDIntent), .own 197 0 1 (([] : List Int).map eI), .bool false])], []⟩ (fgk (by kernel_rfl)) (seq_ (reg_ (st (c_ (cp_ ⟨tv, tv⟩ rfl tv) (st (c_ (v := .agg [iV a0.table.clock, iV a0.table.next, .lst 4 (a0.table.list_.map eDLease)]) (cp_ ⟨tv, tv⟩ rfl (nl rfl)) ?_))))))))))))))))))))
 obtain ⟨r1, e2, h0⟩ := bnd h0
 refine st (call0_ (r := .agg [iV r1.clock, iV r1.next, .own 0 0 4 (r1.list_.map eDLease)]) false (H19 a0.table r1 e2) ⟨tv, tv⟩ rfl rfl (fun _ => (and_ rfl (and_ rfl (and_ (fl1 (fun _ => rfl)) rfl)))) (st (c_ (cp_ ⟨tv, tv⟩ rfl tv) (st (stp_ rfl rfl tv rfl rfl rfl (nl rfl) (oe_ (wk_ ⟨[(1, .ptr 64 0), (2, .ptr 128 0), (3, .ptr 192 0)], [(64, [iV a0.table.clock, iV a0.table.next, .lst 4 (a0.table.list_.map eDLease), .lst 2 (a0.intents.map eDIntent), .lst 1 (a0.accounts.map eI), .bool a0.sealed]), (128, [iV 0, iV 0, .own 131 0 4 (([] : List DLease).map eDLease), .own 132 0 2 (([] : List DIntent).map eDIntent), .own 133 0 1 (([] : List Int).map eI), .bool false]), (192, [iV r1.clock, iV r1.next, .own 384 0 4 (r1.list_.map eDLease), .own 196 0 2 (([] : List DIntent).map eDIntent), .own 197 0 1 (([] : List Int).map eI), .bool false])], []⟩ (fgk (by kernel_rfl)) (seq_ (reg_ (st (c_ (cp_ ⟨tv, tv⟩ rfl tv) (st (c_ (cp_ ⟨tv, tv⟩ rfl (nl rfl)) ?_)))))))))))))
 obtain ⟨r3, e4, h0⟩ := bnd h0
 refine st (call0_ (r := .own 0 0 2 (r3.map eDIntent)) false (H94 a0.intents r3 e4) ⟨tv, tv⟩ rfl rfl (fun _ => (and_ (fl1 (fun _ => rfl)) rfl)) (st (c_ (cp_ ⟨tv, tv⟩ rfl tv) (st (stp_ rfl rfl tv rfl rfl rfl (nl rfl) (oe_ (wk_ ⟨[(1, .ptr 64 0), (2, .ptr 128 0), (3, .ptr 192 0)], [(64, [iV a0.table.clock, iV a0.table.next, .lst 4 (a0.table.list_.map eDLease), .lst 2 (a0.intents.map eDIntent), .lst 1 (a0.accounts.map eI), .bool a0.sealed]), (128, [iV 0, iV 0, .own 131 0 4 (([] : List DLease).map eDLease), .own 132 0 2 (([] : List DIntent).map eDIntent), .own 133 0 1 (([] : List Int).map eI), .bool false]), (192, [iV r1.clock, iV r1.next, .own 384 0 4 (r1.list_.map eDLease), .own 640 0 2 (r3.map eDIntent), .own 197 0 1 (([] : List Int).map eI), .bool false])], []⟩ (fgk (by kernel_rfl)) (seq_ (reg_ (st (c_ (cp_ ⟨tv, tv⟩ rfl tv) (st (c_ (cp_ ⟨tv, tv⟩ rfl (nl rfl)) ?_)))))))))))))
 obtain ⟨r5, e6, h0⟩ := bnd h0
 refine st (call0_ (r := .own 0 0 1 (r5.map eI)) false (H43 a0.accounts r5 e6) ⟨tv, tv⟩ rfl rfl (fun _ => (and_ (fl1 (fun _ => rfl)) rfl)) (st (c_ (cp_ ⟨tv, tv⟩ rfl tv) (st (stp_ rfl rfl tv rfl rfl rfl (nl rfl) (oe_ (wk_ ⟨[(1, .ptr 64 0), (2, .ptr 128 0), (3, .ptr 192 0)], [(64, [iV a0.table.clock, iV a0.table.next, .lst 4 (a0.table.list_.map eDLease), .lst 2 (a0.intents.map eDIntent), .lst 1 (a0.accounts.map eI), .bool a0.sealed]), (128, [iV 0, iV 0, .own 131 0 4 (([] : List DLease).map eDLease), .own 132 0 2 (([] : List DIntent).map eDIntent), .own 133 0 1 (([] : List Int).map eI), .bool false]), (192, [iV r1.clock, iV r1.next, .own 384 0 4 (r1.list_.map eDLease), .own 640 0 2 (r3.map eDIntent), .own 896 0 1 (r5.map eI), .bool false])], []⟩ (fgk (by kernel_rfl)) (seq_ (reg_ (st (c_ (cp_ ⟨tv, tv⟩ rfl tv) (st (c_ (cp_ ⟨tv, tv⟩ rfl (nl rfl)) (st (c_ (cp_ ⟨tv, tv⟩ rfl tv) (st (stp_ rfl rfl tv rfl rfl rfl (nl rfl) (oe_ (wk_ ⟨[(2, .ptr 128 0), (3, .ptr 192 0)], [(128, [iV 0, iV 0, .own 131 0 4 (([] : List DLease).map eDLease), .own 132 0 2 (([] : List DIntent).map eDIntent), .own 133 0 1 (([] : List Int).map eI), .bool false]), (192, [iV r1.clock, iV r1.next, .own 384 0 4 (r1.list_.map eDLease), .own 640 0 2 (r3.map eDIntent), .own 896 0 1 (r5.map eI), .bool a0.sealed])], []⟩ (fgk (by kernel_rfl)) (seq_ (reg_ (st (c_ (v := .agg [iV r1.clock, iV r1.next, .own 384 0 4 (r1.list_.map eDLease), .own 640 0 2 (r3.map eDIntent), .own 896 0 1 (r5.map eI), .bool a0.sealed]) (cp_ ⟨tv, tv⟩ rfl (nl rfl)) (st (stp_ rfl rfl tv rfl rfl rfl (nl rfl) (oe_ (wk_ ⟨[(2, .ptr 128 0)], [(128, [iV r1.clock, iV r1.next, .own 384 0 4 (r1.list_.map eDLease), .own 640 0 2 (r3.map eDIntent), .own 896 0 1 (r5.map eI), .bool a0.sealed])], []⟩ (fgk (by kernel_rfl)) ?_)))))))))))))))))))))))))))
 obtain rfl := Option.some.inj h0
 exact rt_ (ret_ rfl rfl rfl rfl rfl tv)

/- loop.example/g00149/laws.eqLease -/
def c107_r0 : List Ins := [⟨some 2, .box (.t 0), none⟩,
⟨some 3, .box (.t 1), none⟩,
⟨some 4, .p (.mv (.c (.bool false))), none⟩]
def c107_r1 : List Ins := [(iQ 5 (.fieldA (.t 2) 0)),
(iQ 6 (.load (.t 5) 1 false)),
(iQ 7 (.fieldA (.t 3) 0)),
(iQ 8 (.load (.t 7) 1 false)),
(iQ 9 (.bin .neq (.t 6) (.t 8)))]
def c107_r2 : List Ins := [⟨some 4, .p (.mv (.c (.bool false))), none⟩]
def c107_r3 : List Ins := [(iQ 10 (.fieldA (.t 2) 1)),
(iQ 11 (.load (.t 10) 1 false)),
(iQ 12 (.fieldA (.t 3) 1)),
(iQ 13 (.load (.t 12) 1 false)),
(iQ 14 (.bin .neq (.t 11) (.t 13)))]
def c107_r4 : List Ins := [⟨some 4, .p (.mv (.c (.bool false))), none⟩]
def c107_r5 : List Ins := [(iQ 15 (.fieldA (.t 2) 2)),
(iQ 16 (.load (.t 15) 1 false)),
(iQ 17 (.fieldA (.t 3) 2)),
(iQ 18 (.load (.t 17) 1 false)),
(iQ 19 (.bin .neq (.t 16) (.t 18)))]
def c107_r6 : List Ins := [⟨some 4, .p (.mv (.c (.bool false))), none⟩]
def c107_r7 : List Ins := [(iQ 20 (.fieldA (.t 2) 3)),
(iQ 21 (.load (.t 20) 1 false)),
(iQ 22 (.fieldA (.t 3) 3)),
(iQ 23 (.load (.t 22) 1 false)),
(iQ 24 (.binB .neq (.t 21) (.t 23)))]
def c107_r8 : List Ins := [⟨some 4, .p (.mv (.c (.bool false))), none⟩]
def c107_r9 : List Ins := [⟨some 4, .p (.mv (.c (.bool true))), none⟩]
def c107 : XFn := { np := 2, nt := 25, res := [.t 4], body := (.seq (.reg c107_r0) (.seq (.seq (.reg c107_r1) (.ite (.t 9) (.seq (.reg c107_r2) .ret) .skip)) (.seq (.seq (.reg c107_r3) (.ite (.t 14) (.seq (.reg c107_r4) .ret) .skip)) (.seq (.seq (.reg c107_r5) (.ite (.t 19) (.seq (.reg c107_r6) .ret) .skip)) (.seq (.seq (.reg c107_r7) (.ite (.t 24) (.seq (.reg c107_r8) .ret) .skip)) (.seq (.reg c107_r9) .ret)))))) }
def K107 (C : CRel) : Prop := ∀ (a0 : DLease) (a1 : DLease) (r : Bool), g107 a0 a1 = some r → C 107 ⟨[.agg (eDLease a0), .agg (eDLease a1)], []⟩ ⟨.bool r, [], []⟩
theorem F107 {C : CRel}  (a0 : DLease) (a1 : DLease) (r : Bool) (h0 : g107 a0 a1 = some r) : FnOK C c107 ⟨[.agg (eDLease a0), .agg (eDLease a1)], []⟩ ⟨.bool r, [], []⟩ := by
 refine fn_ (nl rfl) (seq_ (reg_ (st (box_ rfl tv rfl (st (box_ rfl tv rfl (st (mvc_ tv (oe_ (wk_ ⟨[(2, .ptr 128 0), (3, .ptr 192 0)], [(128, [iV a0.id, iV a0.until_, iV a0.cap, .bool a0.queued]), (192, [iV a1.id, iV a1.until_, iV a1.cap, .bool a1.queued])], []⟩ (fgk (by kernel_rfl)) (seq_ (seq_ (reg_ (st (c_ (cp_ ⟨tv, tv⟩ rfl tv) (st (c_ (cp_ ⟨tv, tv⟩ rfl (nl rfl)) (st (c_ (cp_ ⟨tv, tv⟩ rfl tv) (st (c_ (cp_ ⟨tv, tv⟩ rfl (nl rfl)) (st (c_ (cp_ t3 rfl tv) (oe_ (wk_ ⟨[(2, .ptr 128 0), (3, .ptr 192 0), (9, .bool (a0.id != a1.id))], [(128, [iV a0.id, iV a0.until_, iV a0.cap, .bool a0.queued]), (192, [iV a1.id, iV a1.until_, iV a1.cap, .bool a1.queued])], []⟩ (fgk (by kernel_rfl)) (ite_ (cb := (a0.id != a1.id)) rfl (fun c1 => ?_) (fun c1 => ?_)))))))))))))))))))))))))))
 ·replace h0 := ip c1 h0
  refine seq_ (reg_ (st (mvc_ tv (oe_ (wk_ ⟨[(4, .bool false)], [], []⟩ (fgk (by kernel_rfl)) ?_)))))
  obtain rfl := Option.some.inj h0
  exact rt_ (ret_ rfl rfl rfl rfl rfl tv)
 ·replace h0 := inb c1 h0
  refine sk_ (wk_ ⟨[(2, .ptr 128 0), (3, .ptr 192 0)], [(128, [iV a0.id, iV a0.until_, iV a0.cap, .bool a0.queued]), (192, [iV a1.id, iV a1.until_, iV a1.cap, .bool a1.queued])], []⟩ (fgk (by kernel_rfl)) (seq_ (seq_ (reg_ (st (c_ (cp_ ⟨tv, tv⟩ rfl tv) (st (c_ (cp_ ⟨tv, tv⟩ rfl (nl rfl)) (st (c_ (cp_ ⟨tv, tv⟩ rfl tv) (st (c_ (cp_ ⟨tv, tv⟩ rfl (nl rfl)) (st (c_ (cp_ t3 rfl tv) (oe_ (wk_ ⟨[(2, .ptr 128 0), (3, .ptr 192 0), (14, .bool (a0.until_ != a1.until_))], [(128, [iV a0.id, iV a0.until_, iV a0.cap, .bool a0.queued]), (192, [iV a1.id, iV a1.until_, iV a1.cap, .bool a1.queued])], []⟩ (fgk (by kernel_rfl)) (ite_ (cb := (a0.until_ != a1.until_)) rfl (fun c2 => ?_) (fun c2 => ?_))))))))))))))))))
  ·replace h0 := ip c2 h0
   refine seq_ (reg_ (st (mvc_ tv (oe_ (wk_ ⟨[(4, .bool false)], [], []⟩ (fgk (by kernel_rfl)) ?_)))))
   obtain rfl := Option.some.inj h0
   exact rt_ (ret_ rfl rfl rfl rfl rfl tv)
  ·replace h0 := inb c2 h0
   refine sk_ (wk_ ⟨[(2, .ptr 128 0), (3, .ptr 192 0)], [(128, [iV a0.id, iV a0.until_, iV a0.cap, .bool a0.queued]), (192, [iV a1.id, iV a1.until_, iV a1.cap, .bool a1.queued])], []⟩ (fgk (by kernel_rfl)) (seq_ (seq_ (reg_ (st (c_ (cp_ ⟨tv, tv⟩ rfl tv) (st (c_ (cp_ ⟨tv, tv⟩ rfl (nl rfl)) (st (c_ (cp_ ⟨tv, tv⟩ rfl tv) (st (c_ (cp_ ⟨tv, tv⟩ rfl (nl rfl)) (st (c_ (cp_ t3 rfl tv) (oe_ (wk_ ⟨[(2, .ptr 128 0), (3, .ptr 192 0), (19, .bool (a0.cap != a1.cap))], [(128, [iV a0.id, iV a0.until_, iV a0.cap, .bool a0.queued]), (192, [iV a1.id, iV a1.until_, iV a1.cap, .bool a1.queued])], []⟩ (fgk (by kernel_rfl)) (ite_ (cb := (a0.cap != a1.cap)) rfl (fun c3 => ?_) (fun c3 => ?_))))))))))))))))))
   ·replace h0 := ip c3 h0
    refine seq_ (reg_ (st (mvc_ tv (oe_ (wk_ ⟨[(4, .bool false)], [], []⟩ (fgk (by kernel_rfl)) ?_)))))
    obtain rfl := Option.some.inj h0
    exact rt_ (ret_ rfl rfl rfl rfl rfl tv)
   ·replace h0 := inb c3 h0
    refine sk_ (wk_ ⟨[(2, .ptr 128 0), (3, .ptr 192 0)], [(128, [iV a0.id, iV a0.until_, iV a0.cap, .bool a0.queued]), (192, [iV a1.id, iV a1.until_, iV a1.cap, .bool a1.queued])], []⟩ (fgk (by kernel_rfl)) (seq_ (seq_ (reg_ (st (c_ (cp_ ⟨tv, tv⟩ rfl tv) (st (c_ (cp_ ⟨tv, tv⟩ rfl (nl rfl)) (st (c_ (cp_ ⟨tv, tv⟩ rfl tv) (st (c_ (cp_ ⟨tv, tv⟩ rfl (nl rfl)) (st (c_ (cp_ t3 rfl tv) (oe_ (wk_ ⟨[(24, .bool (!(a0.queued == a1.queued)))], [], []⟩ (fgk (by kernel_rfl)) (ite_ (cb := (!(a0.queued == a1.queued))) rfl (fun c4 => ?_) (fun c4 => ?_))))))))))))))))))
    ·replace h0 := ip c4 h0
     refine seq_ (reg_ (st (mvc_ tv (oe_ (wk_ ⟨[(4, .bool false)], [], []⟩ (fgk (by kernel_rfl)) ?_)))))
     obtain rfl := Option.some.inj h0
     exact rt_ (ret_ rfl rfl rfl rfl rfl tv)
    ·replace h0 := inb c4 h0
     refine sk_ (wk_ ⟨[], [], []⟩ (fgk (by kernel_rfl)) (seq_ (reg_ (st (mvc_ tv (oe_ (wk_ ⟨[(4, .bool true)], [], []⟩ (fgk (by kernel_rfl)) ?_)))))))
     obtain rfl := Option.some.inj h0
     exact rt_ (ret_ rfl rfl rfl rfl rfl tv)

/- loop.example/g00149/laws.eqLeaseS -/
def c64_r0 : List Ins := [⟨some 4, .p (.mv (.c (.bool false))), none⟩]
def c64_r1 : List Ins := [(iQ 6 (.mv (.t 0))),
(iQ 7 (.len (.t 6))),
(iQ 8 (.mv (.t 1))),
(iQ 9 (.len (.t 8))),
(iQ 10 (.bin .neq (.t 7) (.t 9)))]
def c64_r2 : List Ins := [⟨some 4, .p (.mv (.c (.bool false))), none⟩]
def c64_r3 : List Ins := [⟨some 5, .p (.mv (.c (iV 0))), none⟩]
def c64_r4 : List Ins := [(iQ 11 (.mv (.t 5))),
(iQ 12 (.mv (.t 0))),
(iQ 13 (.len (.t 12))),
(iQ 14 (.bin .lss (.t 11) (.t 13)))]
def c64_r5 : DP := (.take (iQ 17 (.mv (.t 0)))
(.take (iQ 18 (.mv (.t 5)))
(.take (iQ 19 (.idxA (.t 17) (.t 18) 4))
(.take (iQ 20 (.load (.t 19) 4 true))
(.take (iQ 21 (.mv (.t 1)))
(.take (iQ 22 (.mv (.t 5)))
(.take (iQ 23 (.idxA (.t 21) (.t 22) 4))
(.take (iQ 24 (.load (.t 23) 4 true))
(.alt [] ⟨some 25, .call 107 [(.t 20), (.t 24)], none⟩
(.take (iQ 26 (.un .not (.t 25)))
.fin)
.stop)))))))))
def c64_r6 : List Ins := [⟨some 4, .p (.mv (.c (.bool false))), none⟩]
def c64_r7 : List Ins := [(iQ 15 (.mv (.t 5))),
⟨some 16, .p (.bin .add (.t 15) (.c (iV 1))), none⟩,
(iQ 5 (.mv (.t 16)))]
def c64_l0 : IR := (.seq (.seq (.reg c64_r4) (.ite (.t 14) .skip (.exit 0))) (.seq (.block 1 (.seq (.draw c64_r5) (.ite (.t 26) (.seq (.reg c64_r6) .ret) .skip))) (.reg c64_r7)))
def c64_r8 : List Ins := [⟨some 4, .p (.mv (.c (.bool true))), none⟩]
def c64 : XFn := { np := 2, nt := 27, res := [.t 4], body := (.seq (.reg c64_r0) (.seq (.seq (.reg c64_r1) (.ite (.t 10) (.seq (.reg c64_r2) .ret) .skip)) (.seq (.seq (.reg c64_r3) (.block 0 (.loop c64_l0))) (.seq (.reg c64_r8) .ret)))) }
def K64 (C : CRel) : Prop := ∀ (a0 : List DLease) (a1 : List DLease) (r : Bool), g64 a0 a1 = some r → C 64 ⟨[.lst 4 (a0.map eDLease), .lst 4 (a1.map eDLease)], []⟩ ⟨.bool r, [], []⟩
theorem F64 {C : CRel} (H107 : K107 C) (a0 : List DLease) (a1 : List DLease) (r : Bool) (h0 : g64 a0 a1 = some r) : FnOK C c64 ⟨[.lst 4 (a0.map eDLease), .lst 4 (a1.map eDLease)], []⟩ ⟨.bool r, [], []⟩ := by
 refine fn_ (nl rfl) (seq_ (reg_ (st (mvc_ tv (oe_ (wk_ ⟨[(0, .lst 4 (a0.map eDLease)), (1, .lst 4 (a1.map eDLease))], [], []⟩ (fgk (by kernel_rfl)) (seq_ (seq_ (reg_ (st (mv_ rfl tv (st (c_ (clenL (e := eDLease) (l0 := a0) rfl rfl tv) (st (mv_ rfl tv (st (c_ (clenL (e := eDLease) (l0 := a1) rfl rfl tv) (st (c_ (cp_ t3 rfl tv) (oe_ (wk_ ⟨[(0, .lst 4 (a0.map eDLease)), (1, .lst 4 (a1.map eDLease)), (10, .bool ((a0.length : Int) != (a1.length : Int)))], [], []⟩ (fgk (by kernel_rfl)) (ite_ (cb := ((a0.length : Int) != (a1.length : Int))) rfl (fun c1 => ?_) (fun c1 => ?_)))))))))))))))))))))))
 ·replace h0 := ip c1 h0
  refine seq_ (reg_ (st (mvc_ tv (oe_ (wk_ ⟨[(4, .bool false)], [], []⟩ (fgk (by kernel_rfl)) ?_)))))
  obtain rfl := Option.some.inj h0
  exact rt_ (ret_ rfl rfl rfl rfl rfl tv)
 ·replace h0 := inb c1 h0
  refine sk_ (wk_ ⟨[(0, .lst 4 (a0.map eDLease)), (1, .lst 4 (a1.map eDLease))], [], []⟩ (fgk (by kernel_rfl)) (seq_ (seq_ (reg_ (st (mvc_ tv (oe_ (wk_ ⟨[(0, .lst 4 (a0.map eDLease)), (1, .lst 4 (a1.map eDLease)), (5, iV 0)], [], []⟩ (fgk (by kernel_rfl)) (block_ ?_)))))))))
  obtain ⟨r28, e29, h0⟩ := bnd h0
  refine loop_ (R := (fun S => .inl () = r28 ∧ S = ⟨[], [], []⟩)) (g64_l0 a0 a1) (fun s S => match s with | p10 => S = ⟨[(0, .lst 4 (a0.map eDLease)), (1, .lst 4 (a1.map eDLease)), (5, iV p10)], [], []⟩) e29 ⟨[(0, .lst 4 (a0.map eDLease)), (1, .lst 4 (a1.map eDLease)), (5, iV 0)], [], []⟩ (fgk (by kernel_rfl)) rfl 0 (fun _ => rfl) ?_ ?_
  ·rintro S _ hfg ⟨rfl, rfl⟩
   refine wk_ ⟨[], [], []⟩ (fglk hfg (by kernel_rfl)) (seq_ (reg_ (st (mvc_ tv (oe_ (wk_ ⟨[(4, .bool true)], [], []⟩ (fgk (by kernel_rfl)) ?_))))))
   obtain rfl := Option.some.inj h0
   exact rt_ (ret_ rfl rfl rfl rfl rfl tv)
  ·rintro p10 o1 _ K1 rfl h1 hx1 hK1 hE1 hR1
   refine seq_ (seq_ (reg_ (st (mv_ rfl tv (st (mv_ rfl tv (st (c_ (clenL (e := eDLease) (l0 := a0) rfl rfl tv) (st (c_ (cp_ t3 rfl tv) (oe_ (wk_ ⟨[(0, .lst 4 (a0.map eDLease)), (1, .lst 4 (a1.map eDLease)), (5, iV p10), (14, .bool (decide (p10 < (a0.length : Int))))], [], []⟩ (fgk (by kernel_rfl)) (ite_ (cb := (decide (p10 < (a0.length : Int)))) rfl (fun c20 => ?_) (fun c20 => ?_))))))))))))))
   ·replace h1 := ip c20 h1
    refine sk_ (wk_ ⟨[(0, .lst 4 (a0.map eDLease)), (1, .lst 4 (a1.map eDLease)), (5, iV p10)], [], []⟩ (fgk (by kernel_rfl)) (seq_ (block_ (seq_ ?_))))
    obtain ⟨y21, e22, h1⟩ := bnd h1
    obtain ⟨y23, e24, h1⟩ := bnd h1
    obtain ⟨r25, e26, h1⟩ := bnd h1
    refine draw_ (dtake tv (mv_ rfl tv (⟨tv, (dtake tv (mv_ rfl tv (⟨tv, (dtake tv (c_ (cidxL (e := eDLease) (y := y21) rfl rfl tv rfl rfl tv e22) (⟨tv, (dtake tv (c_ (v := .agg (eDLease y21)) (cp_ ⟨tv, tv⟩ rfl (nl rfl)) (⟨tv, (dtake tv (mv_ rfl tv (⟨tv, (dtake tv (mv_ rfl tv (⟨tv, (dtake tv (c_ (cidxL (e := eDLease) (y := y23) rfl rfl tv rfl rfl tv e24) (⟨tv, (dtake tv (c_ (v := .agg (eDLease y23)) (cp_ ⟨tv, tv⟩ rfl (nl rfl)) (⟨tv, (dalt (call0_ (r := .bool r25) false (H107 y21 y23 r25 e26) ⟨tv, tv, tv⟩ rfl rfl (fun _ => rfl) (dkw ⟨[(0, .lst 4 (a0.map eDLease)), (1, .lst 4 (a1.map eDLease)), (5, iV p10), (25, .bool r25)], [], []⟩ (fgk (by kernel_rfl)) ⟨[], tv, tv, (dtake tv (c_ (cp_ ⟨tv, tv⟩ rfl tv) (⟨tv, (dfin (wk_ ⟨[(0, .lst 4 (a0.map eDLease)), (1, .lst 4 (a1.map eDLease)), (5, iV p10), (26, .bool (!r25))], [], []⟩ (fgk (by kernel_rfl)) (ite_ (cb := (!r25)) rfl (fun c27 => ?_) (fun c27 => ?_))))⟩)))⟩)) dstop)⟩)))⟩)))⟩)))⟩)))⟩)))⟩)))⟩)))⟩)))
    ·replace h1 := ip c27 h1
     refine seq_ (reg_ (st (mvc_ tv (oe_ (wk_ ⟨[(4, .bool false)], [], []⟩ (fgk (by kernel_rfl)) ?_)))))
     obtain rfl := Option.some.inj h1
     obtain rfl := hx1 _ rfl
     obtain rfl := Option.some.inj h0
     exact rt_ (hR1 _ (ret_ rfl rfl rfl rfl rfl tv))
    ·replace h1 := inb c27 h1
     refine sk_ (bn_ (wk_ ⟨[(0, .lst 4 (a0.map eDLease)), (1, .lst 4 (a1.map eDLease)), (5, iV p10)], [], []⟩ (fgk (by kernel_rfl)) (reg_ (st (mv_ rfl tv (st (c_ (cp_ t3 rfl tv) (st (mv_ rfl tv (oe_ ?_))))))))))
     obtain rfl := Option.some.inj h1
     exact hK1 _ rfl _ ⟨[(0, .lst 4 (a0.map eDLease)), (1, .lst 4 (a1.map eDLease)), (5, iV (IntKind.i64.wrap (p10 + 1)))], [], []⟩ (fgk (by kernel_rfl)) rfl
   ·replace h1 := inb c20 h1
    obtain rfl := Option.some.inj h1
    obtain rfl := hx1 _ rfl
    refine exQ rfl ?_
    exact hE1 _ ⟨[], [], []⟩ (fgk (by kernel_rfl)) ⟨rfl, rfl⟩

/- loop.example/g00149/laws.eqTable -/
def c21_r0 : List Ins := [⟨some 2, .box (.t 0), none⟩,
⟨some 3, .box (.t 1), none⟩,
⟨some 4, .p (.mv (.c (.bool false))), none⟩]
def c21_r1 : List Ins := [(iQ 5 (.fieldA (.t 2) 0)),
(iQ 6 (.load (.t 5) 1 false)),
(iQ 7 (.fieldA (.t 3) 0)),
(iQ 8 (.load (.t 7) 1 false)),
(iQ 9 (.bin .neq (.t 6) (.t 8)))]
def c21_r2 : List Ins := [⟨some 4, .p (.mv (.c (.bool false))), none⟩]
def c21_r3 : List Ins := [(iQ 10 (.fieldA (.t 2) 1)),
(iQ 11 (.load (.t 10) 1 false)),
(iQ 12 (.fieldA (.t 3) 1)),
(iQ 13 (.load (.t 12) 1 false)),
(iQ 14 (.bin .neq (.t 11) (.t 13)))]
def c21_r4 : List Ins := [⟨some 4, .p (.mv (.c (.bool false))), none⟩]
def c21_r5 : List Ins := [(iQ 15 (.fieldA (.t 2) 2)),
(iQ 16 (.load (.t 15) 1 false)),
(iQ 17 (.fieldA (.t 3) 2)),
(iQ 18 (.load (.t 17) 1 false)),
⟨some 19, .call 64 [(.t 16), (.t 18)], none⟩,
(iQ 20 (.un .not (.t 19)))]
def c21_r6 : List Ins := [⟨some 4, .p (.mv (.c (.bool false))), none⟩]
def c21_r7 : List Ins := [⟨some 4, .p (.mv (.c (.bool true))), none⟩]
def c21 : XFn := { np := 2, nt := 21, res := [.t 4], body := (.seq (.reg c21_r0) (.seq (.seq (.reg c21_r1) (.ite (.t 9) (.seq (.reg c21_r2) .ret) .skip)) (.seq (.seq (.reg c21_r3) (.ite (.t 14) (.seq (.reg c21_r4) .ret) .skip)) (.seq (.seq (.reg c21_r5) (.ite (.t 20) (.seq (.reg c21_r6) .ret) .skip)) (.seq (.reg c21_r7) .ret))))) }
def K21 (C : CRel) : Prop := ∀ (a0 : DTable) (a1 : DTable) (r : Bool), g21 a0 a1 = some r → C 21 ⟨[.agg (eDTable a0), .agg (eDTable a1)], []⟩ ⟨.bool r, [], []⟩
theorem F21 {C : CRel} (H64 : K64 C) (a0 : DTable) (a1 : DTable) (r : Bool) (h0 : g21 a0 a1 = some r) : FnOK C c21 ⟨[.agg (eDTable a0), .agg (eDTable a1)], []⟩ ⟨.bool r, [], []⟩ := by
 refine fn_ (nl rfl) (seq_ (reg_ (st (box_ rfl tv rfl (st (box_ rfl tv rfl (st (mvc_ tv (oe_ (wk_ ⟨[(2, .ptr 128 0), (3, .ptr 192 0)], [(128, [iV a0.clock, iV a0.next, .lst 4 (a0.list_.map eDLease)]), (192, [iV a1.clock, iV a1.next, .lst 4 (a1.list_.map eDLease)])], []⟩ (fgk (by kernel_rfl)) (seq_ (seq_ (reg_ (st (c_ (cp_ ⟨tv, tv⟩ rfl tv) (st (c_ (cp_ ⟨tv, tv⟩ rfl (nl rfl)) (st (c_ (cp_ ⟨tv, tv⟩ rfl tv) (st (c_ (cp_ ⟨tv, tv⟩ rfl (nl rfl)) (st (c_ (cp_ t3 rfl tv) (oe_ (wk_ ⟨[(2, .ptr 128 0), (3, .ptr 192 0), (9, .bool (a0.clock != a1.clock))], [(128, [iV a0.clock, iV a0.next, .lst 4 (a0.list_.map eDLease)]), (192, [iV a1.clock, iV a1.next, .lst 4 (a1.list_.map eDLease)])], []⟩ (fgk (by kernel_rfl)) (ite_ (cb := (a0.clock != a1.clock)) rfl (fun c1 => ?_) (fun c1 => ?_)))))))))))))))))))))))))))
 ·replace h0 := ip c1 h0
  refine seq_ (reg_ (st (mvc_ tv (oe_ (wk_ ⟨[(4, .bool false)], [], []⟩ (fgk (by kernel_rfl)) ?_)))))
  obtain rfl := Option.some.inj h0
  exact rt_ (ret_ rfl rfl rfl rfl rfl tv)
 ·replace h0 := inb c1 h0
  refine sk_ (wk_ ⟨[(2, .ptr 128 0), (3, .ptr 192 0)], [(128, [iV a0.clock, iV a0.next, .lst 4 (a0.list_.map eDLease)]), (192, [iV a1.clock, iV a1.next, .lst 4 (a1.list_.map eDLease)])], []⟩ (fgk (by kernel_rfl)) (seq_ (seq_ (reg_ (st (c_ (cp_ ⟨tv, tv⟩ rfl tv) (st (c_ (cp_ ⟨tv, tv⟩ rfl (nl rfl)) (st (c_ (cp_ ⟨tv, tv⟩ rfl tv) (st (c_ (cp_ ⟨tv, tv⟩ rfl (nl rfl)) (st (c_ (cp_ t3 rfl tv) (oe_ (wk_ ⟨[(2, .ptr 128 0), (3, .ptr 192 0), (14, .bool (a0.next != a1.next))], [(128, [iV a0.clock, iV a0.next, .lst 4 (a0.list_.map eDLease)]), (192, [iV a1.clock, iV a1.next, .lst 4 (a1.list_.map eDLease)])], []⟩ (fgk (by kernel_rfl)) (ite_ (cb := (a0.next != a1.next)) rfl (fun c2 => ?_) (fun c2 => ?_))))))))))))))))))
  ·replace h0 := ip c2 h0
   refine seq_ (reg_ (st (mvc_ tv (oe_ (wk_ ⟨[(4, .bool false)], [], []⟩ (fgk (by kernel_rfl)) ?_)))))
   obtain rfl := Option.some.inj h0
   exact rt_ (ret_ rfl rfl rfl rfl rfl tv)
  ·replace h0 := inb c2 h0
   refine sk_ (wk_ ⟨[(2, .ptr 128 0), (3, .ptr 192 0)], [(128, [iV a0.clock, iV a0.next, .lst 4 (a0.list_.map eDLease)]), (192, [iV a1.clock, iV a1.next, .lst 4 (a1.list_.map eDLease)])], []⟩ (fgk (by kernel_rfl)) (seq_ (seq_ (reg_ (st (c_ (cp_ ⟨tv, tv⟩ rfl tv) (st (c_ (cp_ ⟨tv, tv⟩ rfl (nl rfl)) (st (c_ (cp_ ⟨tv, tv⟩ rfl tv) (st (c_ (cp_ ⟨tv, tv⟩ rfl (nl rfl)) ?_))))))))))))
   obtain ⟨r3, e4, h0⟩ := bnd h0
   refine st (call0_ (r := .bool r3) false (H64 a0.list_ a1.list_ r3 e4) ⟨tv, tv, tv⟩ rfl rfl (fun _ => rfl) (st (c_ (cp_ ⟨tv, tv⟩ rfl tv) (oe_ (wk_ ⟨[(20, .bool (!r3))], [], []⟩ (fgk (by kernel_rfl)) (ite_ (cb := (!r3)) rfl (fun c5 => ?_) (fun c5 => ?_)))))))
   ·replace h0 := ip c5 h0
    refine seq_ (reg_ (st (mvc_ tv (oe_ (wk_ ⟨[(4, .bool false)], [], []⟩ (fgk (by kernel_rfl)) ?_)))))
    obtain rfl := Option.some.inj h0
    exact rt_ (ret_ rfl rfl rfl rfl rfl tv)
   ·replace h0 := inb c5 h0
    refine sk_ (wk_ ⟨[], [], []⟩ (fgk (by kernel_rfl)) (seq_ (reg_ (st (mvc_ tv (oe_ (wk_ ⟨[(4, .bool true)], [], []⟩ (fgk (by kernel_rfl)) ?_)))))))
    obtain rfl := Option.some.inj h0
    exact rt_ (ret_ rfl rfl rfl rfl rfl tv)

/- loop.example/g00149/laws.eqIntS -/
def c36_r0 : List Ins := [⟨some 4, .p (.mv (.c (.bool false))), none⟩]
def c36_r1 : List Ins := [(iQ 6 (.mv (.t 0))),
(iQ 7 (.len (.t 6))),
(iQ 8 (.mv (.t 1))),
(iQ 9 (.len (.t 8))),
(iQ 10 (.bin .neq (.t 7) (.t 9)))]
def c36_r2 : List Ins := [⟨some 4, .p (.mv (.c (.bool false))), none⟩]
def c36_r3 : List Ins := [⟨some 5, .p (.mv (.c (iV 0))), none⟩]
def c36_r4 : List Ins := [(iQ 11 (.mv (.t 5))),
(iQ 12 (.mv (.t 0))),
(iQ 13 (.len (.t 12))),
(iQ 14 (.bin .lss (.t 11) (.t 13)))]
def c36_r5 : DP := (.take (iQ 17 (.mv (.t 0)))
(.take (iQ 18 (.mv (.t 5)))
(.take (iQ 19 (.idxA (.t 17) (.t 18) 1))
(.take (iQ 20 (.load (.t 19) 1 false))
(.take (iQ 21 (.mv (.t 1)))
(.take (iQ 22 (.mv (.t 5)))
(.take (iQ 23 (.idxA (.t 21) (.t 22) 1))
(.take (iQ 24 (.load (.t 23) 1 false))
(.take (iQ 25 (.bin .neq (.t 20) (.t 24)))
.fin)))))))))
def c36_r6 : List Ins := [⟨some 4, .p (.mv (.c (.bool false))), none⟩]
def c36_r7 : List Ins := [(iQ 15 (.mv (.t 5))),
⟨some 16, .p (.bin .add (.t 15) (.c (iV 1))), none⟩,
(iQ 5 (.mv (.t 16)))]
def c36_l0 : IR := (.seq (.seq (.reg c36_r4) (.ite (.t 14) .skip (.exit 0))) (.seq (.block 1 (.seq (.draw c36_r5) (.ite (.t 25) (.seq (.reg c36_r6) .ret) .skip))) (.reg c36_r7)))
def c36_r8 : List Ins := [⟨some 4, .p (.mv (.c (.bool true))), none⟩]
def c36 : XFn := { np := 2, nt := 26, res := [.t 4], body := (.seq (.reg c36_r0) (.seq (.seq (.reg c36_r1) (.ite (.t 10) (.seq (.reg c36_r2) .ret) .skip)) (.seq (.seq (.reg c36_r3) (.block 0 (.loop c36_l0))) (.seq (.reg c36_r8) .ret)))) }
def K36 (C : CRel) : Prop := ∀ (a0 : List Int) (a1 : List Int) (r : Bool), g36 a0 a1 = some r → C 36 ⟨[.lst 1 (a0.map eI), .lst 1 (a1.map eI)], []⟩ ⟨.bool r, [], []⟩
theorem F36 {C : CRel}  (a0 : List Int) (a1 : List Int) (r : Bool) (h0 : g36 a0 a1 = some r) : FnOK C c36 ⟨[.lst 1 (a0.map eI), .lst 1 (a1.map eI)], []⟩ ⟨.bool r, [], []⟩ := by
 refine fn_ (nl rfl) (seq_ (reg_ (st (mvc_ tv (oe_ (wk_ ⟨[(0, .lst 1 (a0.map eI)), (1, .lst 1 (a1.map eI))], [], []⟩ (fgk (by kernel_rfl)) (seq_ (seq_ (reg_ (st (mv_ rfl tv (st (c_ (clenL (e := eI) (l0 := a0) rfl rfl tv) (st (mv_ rfl tv (st (c_ (clenL (e := eI) (l0 := a1) rfl rfl tv) (st (c_ (cp_ t3 rfl tv) (oe_ (wk_ ⟨[(0, .lst 1 (a0.map eI)), (1, .lst 1 (a1.map eI)), (10, .bool ((a0.length : Int) != (a1.length : Int)))], [], []⟩ (fgk (by kernel_rfl)) (ite_ (cb := ((a0.length : Int) != (a1.length : Int))) rfl (fun c1 => ?_) (fun c1 => ?_)))))))))))))))))))))))
 ·replace h0 := ip c1 h0
  refine seq_ (reg_ (st (mvc_ tv (oe_ (wk_ ⟨[(4, .bool false)], [], []⟩ (fgk (by kernel_rfl)) ?_)))))
  obtain rfl := Option.some.inj h0
  exact rt_ (ret_ rfl rfl rfl rfl rfl tv)
 ·replace h0 := inb c1 h0
  refine sk_ (wk_ ⟨[(0, .lst 1 (a0.map eI)), (1, .lst 1 (a1.map eI))], [], []⟩ (fgk (by kernel_rfl)) (seq_ (seq_ (reg_ (st (mvc_ tv (oe_ (wk_ ⟨[(0, .lst 1 (a0.map eI)), (1, .lst 1 (a1.map eI)), (5, iV 0)], [], []⟩ (fgk (by kernel_rfl)) (block_ ?_)))))))))
  obtain ⟨r22, e23, h0⟩ := bnd h0
  refine loop_ (R := (fun S => .inl () = r22 ∧ S = ⟨[], [], []⟩)) (g36_l0 a0 a1) (fun s S => match s with | p8 => S = ⟨[(0, .lst 1 (a0.map eI)), (1, .lst 1 (a1.map eI)), (5, iV p8)], [], []⟩) e23 ⟨[(0, .lst 1 (a0.map eI)), (1, .lst 1 (a1.map eI)), (5, iV 0)], [], []⟩ (fgk (by kernel_rfl)) rfl 0 (fun _ => rfl) ?_ ?_
  ·rintro S _ hfg ⟨rfl, rfl⟩
   refine wk_ ⟨[], [], []⟩ (fglk hfg (by kernel_rfl)) (seq_ (reg_ (st (mvc_ tv (oe_ (wk_ ⟨[(4, .bool true)], [], []⟩ (fgk (by kernel_rfl)) ?_))))))
   obtain rfl := Option.some.inj h0
   exact rt_ (ret_ rfl rfl rfl rfl rfl tv)
  ·rintro p8 o1 _ K1 rfl h1 hx1 hK1 hE1 hR1
   refine seq_ (seq_ (reg_ (st (mv_ rfl tv (st (mv_ rfl tv (st (c_ (clenL (e := eI) (l0 := a0) rfl rfl tv) (st (c_ (cp_ t3 rfl tv) (oe_ (wk_ ⟨[(0, .lst 1 (a0.map eI)), (1, .lst 1 (a1.map eI)), (5, iV p8), (14, .bool (decide (p8 < (a0.length : Int))))], [], []⟩ (fgk (by kernel_rfl)) (ite_ (cb := (decide (p8 < (a0.length : Int)))) rfl (fun c16 => ?_) (fun c16 => ?_))))))))))))))
   ·replace h1 := ip c16 h1
    refine sk_ (wk_ ⟨[(0, .lst 1 (a0.map eI)), (1, .lst 1 (a1.map eI)), (5, iV p8)], [], []⟩ (fgk (by kernel_rfl)) (seq_ (block_ (seq_ ?_))))
    obtain ⟨y17, e18, h1⟩ := bnd h1
    obtain ⟨y19, e20, h1⟩ := bnd h1
    refine draw_ (dtake tv (mv_ rfl tv (⟨tv, (dtake tv (mv_ rfl tv (⟨tv, (dtake tv (c_ (cidxL (e := eI) (y := y17) rfl rfl tv rfl rfl tv e18) (⟨tv, (dtake tv (c_ (cp_ ⟨tv, tv⟩ rfl (nl rfl)) (⟨tv, (dtake tv (mv_ rfl tv (⟨tv, (dtake tv (mv_ rfl tv (⟨tv, (dtake tv (c_ (cidxL (e := eI) (y := y19) rfl rfl tv rfl rfl tv e20) (⟨tv, (dtake tv (c_ (cp_ ⟨tv, tv⟩ rfl (nl rfl)) (⟨tv, (dtake tv (c_ (cp_ t3 rfl tv) (⟨tv, (dfin (wk_ ⟨[(0, .lst 1 (a0.map eI)), (1, .lst 1 (a1.map eI)), (5, iV p8), (25, .bool (y17 != y19))], [], []⟩ (fgk (by kernel_rfl)) (ite_ (cb := (y17 != y19)) rfl (fun c21 => ?_) (fun c21 => ?_))))⟩)))⟩)))⟩)))⟩)))⟩)))⟩)))⟩)))⟩)))⟩)))
    ·replace h1 := ip c21 h1
     refine seq_ (reg_ (st (mvc_ tv (oe_ (wk_ ⟨[(4, .bool false)], [], []⟩ (fgk (by kernel_rfl)) ?_)))))
     obtain rfl := Option.some.inj h1
     obtain rfl := hx1 _ rfl
     obtain rfl := Option.some.inj h0
     exact rt_ (hR1 _ (ret_ rfl rfl rfl rfl rfl tv))
    ·replace h1 := inb c21 h1
     refine sk_ (bn_ (wk_ ⟨[(0, .lst 1 (a0.map eI)), (1, .lst 1 (a1.map eI)), (5, iV p8)], [], []⟩ (fgk (by kernel_rfl)) (reg_ (st (mv_ rfl tv (st (c_ (cp_ t3 rfl tv) (st (mv_ rfl tv (oe_ ?_))))))))))
     obtain rfl := Option.some.inj h1
     exact hK1 _ rfl _ ⟨[(0, .lst 1 (a0.map eI)), (1, .lst 1 (a1.map eI)), (5, iV (IntKind.i64.wrap (p8 + 1)))], [], []⟩ (fgk (by kernel_rfl)) rfl
   ·replace h1 := inb c16 h1
    obtain rfl := Option.some.inj h1
    obtain rfl := hx1 _ rfl
    refine exQ rfl ?_
    exact hE1 _ ⟨[], [], []⟩ (fgk (by kernel_rfl)) ⟨rfl, rfl⟩

/- loop.example/g00149/laws.eqIntent -/
def c131_r0 : List Ins := [⟨some 2, .box (.t 0), none⟩,
⟨some 3, .box (.t 1), none⟩,
⟨some 4, .p (.mv (.c (.bool false))), none⟩]
def c131_r1 : List Ins := [(iQ 5 (.fieldA (.t 2) 0)),
(iQ 6 (.load (.t 5) 1 false)),
(iQ 7 (.fieldA (.t 3) 0)),
(iQ 8 (.load (.t 7) 1 false)),
(iQ 9 (.bin .neq (.t 6) (.t 8)))]
def c131_r2 : List Ins := [⟨some 4, .p (.mv (.c (.bool false))), none⟩]
def c131_r3 : List Ins := [(iQ 10 (.fieldA (.t 2) 1)),
(iQ 11 (.load (.t 10) 1 false)),
(iQ 12 (.fieldA (.t 3) 1)),
(iQ 13 (.load (.t 12) 1 false)),
(iQ 14 (.binB .neq (.t 11) (.t 13)))]
def c131_r4 : List Ins := [⟨some 4, .p (.mv (.c (.bool false))), none⟩]
def c131_r5 : List Ins := [⟨some 4, .p (.mv (.c (.bool true))), none⟩]
def c131 : XFn := { np := 2, nt := 15, res := [.t 4], body := (.seq (.reg c131_r0) (.seq (.seq (.reg c131_r1) (.ite (.t 9) (.seq (.reg c131_r2) .ret) .skip)) (.seq (.seq (.reg c131_r3) (.ite (.t 14) (.seq (.reg c131_r4) .ret) .skip)) (.seq (.reg c131_r5) .ret)))) }
def K131 (C : CRel) : Prop := ∀ (a0 : DIntent) (a1 : DIntent) (r : Bool), g131 a0 a1 = some r → C 131 ⟨[.agg (eDIntent a0), .agg (eDIntent a1)], []⟩ ⟨.bool r, [], []⟩
theorem F131 {C : CRel}  (a0 : DIntent) (a1 : DIntent) (r : Bool) (h0 : g131 a0 a1 = some r) : FnOK C c131 ⟨[.agg (eDIntent a0), .agg (eDIntent a1)], []⟩ ⟨.bool r, [], []⟩ := by
 refine fn_ (nl rfl) (seq_ (reg_ (st (box_ rfl tv rfl (st (box_ rfl tv rfl (st (mvc_ tv (oe_ (wk_ ⟨[(2, .ptr 128 0), (3, .ptr 192 0)], [(128, [iV a0.lease, .bool a0.undo]), (192, [iV a1.lease, .bool a1.undo])], []⟩ (fgk (by kernel_rfl)) (seq_ (seq_ (reg_ (st (c_ (cp_ ⟨tv, tv⟩ rfl tv) (st (c_ (cp_ ⟨tv, tv⟩ rfl (nl rfl)) (st (c_ (cp_ ⟨tv, tv⟩ rfl tv) (st (c_ (cp_ ⟨tv, tv⟩ rfl (nl rfl)) (st (c_ (cp_ t3 rfl tv) (oe_ (wk_ ⟨[(2, .ptr 128 0), (3, .ptr 192 0), (9, .bool (a0.lease != a1.lease))], [(128, [iV a0.lease, .bool a0.undo]), (192, [iV a1.lease, .bool a1.undo])], []⟩ (fgk (by kernel_rfl)) (ite_ (cb := (a0.lease != a1.lease)) rfl (fun c1 => ?_) (fun c1 => ?_)))))))))))))))))))))))))))
 ·replace h0 := ip c1 h0
  refine seq_ (reg_ (st (mvc_ tv (oe_ (wk_ ⟨[(4, .bool false)], [], []⟩ (fgk (by kernel_rfl)) ?_)))))
  obtain rfl := Option.some.inj h0
  exact rt_ (ret_ rfl rfl rfl rfl rfl tv)
 ·replace h0 := inb c1 h0
  refine sk_ (wk_ ⟨[(2, .ptr 128 0), (3, .ptr 192 0)], [(128, [iV a0.lease, .bool a0.undo]), (192, [iV a1.lease, .bool a1.undo])], []⟩ (fgk (by kernel_rfl)) (seq_ (seq_ (reg_ (st (c_ (cp_ ⟨tv, tv⟩ rfl tv) (st (c_ (cp_ ⟨tv, tv⟩ rfl (nl rfl)) (st (c_ (cp_ ⟨tv, tv⟩ rfl tv) (st (c_ (cp_ ⟨tv, tv⟩ rfl (nl rfl)) (st (c_ (cp_ t3 rfl tv) (oe_ (wk_ ⟨[(14, .bool (!(a0.undo == a1.undo)))], [], []⟩ (fgk (by kernel_rfl)) (ite_ (cb := (!(a0.undo == a1.undo))) rfl (fun c2 => ?_) (fun c2 => ?_))))))))))))))))))
  ·replace h0 := ip c2 h0
   refine seq_ (reg_ (st (mvc_ tv (oe_ (wk_ ⟨[(4, .bool false)], [], []⟩ (fgk (by kernel_rfl)) ?_)))))
   obtain rfl := Option.some.inj h0
   exact rt_ (ret_ rfl rfl rfl rfl rfl tv)
  ·replace h0 := inb c2 h0
   refine sk_ (wk_ ⟨[], [], []⟩ (fgk (by kernel_rfl)) (seq_ (reg_ (st (mvc_ tv (oe_ (wk_ ⟨[(4, .bool true)], [], []⟩ (fgk (by kernel_rfl)) ?_)))))))
   obtain rfl := Option.some.inj h0
   exact rt_ (ret_ rfl rfl rfl rfl rfl tv)

/- loop.example/g00149/laws.eqIntentS -/
def c99_r0 : List Ins := [⟨some 4, .p (.mv (.c (.bool false))), none⟩]
def c99_r1 : List Ins := [(iQ 6 (.mv (.t 0))),
(iQ 7 (.len (.t 6))),
(iQ 8 (.mv (.t 1))),
(iQ 9 (.len (.t 8))),
(iQ 10 (.bin .neq (.t 7) (.t 9)))]
def c99_r2 : List Ins := [⟨some 4, .p (.mv (.c (.bool false))), none⟩]
def c99_r3 : List Ins := [⟨some 5, .p (.mv (.c (iV 0))), none⟩]
def c99_r4 : List Ins := [(iQ 11 (.mv (.t 5))),
(iQ 12 (.mv (.t 0))),
(iQ 13 (.len (.t 12))),
(iQ 14 (.bin .lss (.t 11) (.t 13)))]
def c99_r5 : DP := (.take (iQ 17 (.mv (.t 0)))
(.take (iQ 18 (.mv (.t 5)))
(.take (iQ 19 (.idxA (.t 17) (.t 18) 2))
(.take (iQ 20 (.load (.t 19) 2 true))
(.take (iQ 21 (.mv (.t 1)))
(.take (iQ 22 (.mv (.t 5)))
(.take (iQ 23 (.idxA (.t 21) (.t 22) 2))
(.take (iQ 24 (.load (.t 23) 2 true))
(.alt [] ⟨some 25, .call 131 [(.t 20), (.t 24)], none⟩
(.take (iQ 26 (.un .not (.t 25)))
.fin)
.stop)))))))))
def c99_r6 : List Ins := [⟨some 4, .p (.mv (.c (.bool false))), none⟩]
def c99_r7 : List Ins := [(iQ 15 (.mv (.t 5))),
⟨some 16, .p (.bin .add (.t 15) (.c (iV 1))), none⟩,
(iQ 5 (.mv (.t 16)))]
def c99_l0 : IR := (.seq (.seq (.reg c99_r4) (.ite (.t 14) .skip (.exit 0))) (.seq (.block 1 (.seq (.draw c99_r5) (.ite (.t 26) (.seq (.reg c99_r6) .ret) .skip))) (.reg c99_r7)))
def c99_r8 : List Ins := [⟨some 4, .p (.mv (.c (.bool true))), none⟩]
def c99 : XFn := { np := 2, nt := 27, res := [.t 4], body := (.seq (.reg c99_r0) (.seq (.seq (.reg c99_r1) (.ite (.t 10) (.seq (.reg c99_r2) .ret) .skip)) (.seq (.seq (.reg c99_r3) (.block 0 (.loop c99_l0))) (.seq (.reg c99_r8) .ret)))) }
def K99 (C : CRel) : Prop := ∀ (a0 : List DIntent) (a1 : List DIntent) (r : Bool), g99 a0 a1 = some r → C 99 ⟨[.lst 2 (a0.map eDIntent), .lst 2 (a1.map eDIntent)], []⟩ ⟨.bool r, [], []⟩
theorem F99 {C : CRel} (H131 : K131 C) (a0 : List DIntent) (a1 : List DIntent) (r : Bool) (h0 : g99 a0 a1 = some r) : FnOK C c99 ⟨[.lst 2 (a0.map eDIntent), .lst 2 (a1.map eDIntent)], []⟩ ⟨.bool r, [], []⟩ := by
 refine fn_ (nl rfl) (seq_ (reg_ (st (mvc_ tv (oe_ (wk_ ⟨[(0, .lst 2 (a0.map eDIntent)), (1, .lst 2 (a1.map eDIntent))], [], []⟩ (fgk (by kernel_rfl)) (seq_ (seq_ (reg_ (st (mv_ rfl tv (st (c_ (clenL (e := eDIntent) (l0 := a0) rfl rfl tv) (st (mv_ rfl tv (st (c_ (clenL (e := eDIntent) (l0 := a1) rfl rfl tv) (st (c_ (cp_ t3 rfl tv) (oe_ (wk_ ⟨[(0, .lst 2 (a0.map eDIntent)), (1, .lst 2 (a1.map eDIntent)), (10, .bool ((a0.length : Int) != (a1.length : Int)))], [], []⟩ (fgk (by kernel_rfl)) (ite_ (cb := ((a0.length : Int) != (a1.length : Int))) rfl (fun c1 => ?_) (fun c1 => ?_)))))))))))))))))))))))
 ·replace h0 := ip c1 h0
  refine seq_ (reg_ (st (mvc_ tv (oe_ (wk_ ⟨[(4, .bool false)], [], []⟩ (fgk (by kernel_rfl)) ?_)))))
  obtain rfl := Option.some.inj h0
  exact rt_ (ret_ rfl rfl rfl rfl rfl tv)
 ·replace h0 := inb c1 h0
  refine sk_ (wk_ ⟨[(0, .lst 2 (a0.map eDIntent)), (1, .lst 2 (a1.map eDIntent))], [], []⟩ (fgk (by kernel_rfl)) (seq_ (seq_ (reg_ (st (mvc_ tv (oe_ (wk_ ⟨[(0, .lst 2 (a0.map eDIntent)), (1, .lst 2 (a1.map eDIntent)), (5, iV 0)], [], []⟩ (fgk (by kernel_rfl)) (block_ ?_)))))))))
  obtain ⟨r28, e29, h0⟩ := bnd h0
  refine loop_ (R := (fun S => .inl () = r28 ∧ S = ⟨[], [], []⟩)) (g99_l0 a0 a1) (fun s S => match s with | p10 => S = ⟨[(0, .lst 2 (a0.map eDIntent)), (1, .lst 2 (a1.map eDIntent)), (5, iV p10)], [], []⟩) e29 ⟨[(0, .lst 2 (a0.map eDIntent)), (1, .lst 2 (a1.map eDIntent)), (5, iV 0)], [], []⟩ (fgk (by kernel_rfl)) rfl 0 (fun _ => rfl) ?_ ?_
  ·rintro S _ hfg ⟨rfl, rfl⟩
   refine wk_ ⟨[], [], []⟩ (fglk hfg (by kernel_rfl)) (seq_ (reg_ (st (mvc_ tv (oe_ (wk_ ⟨[(4, .bool true)], [], []⟩ (fgk (by kernel_rfl)) ?_))))))
   obtain rfl := Option.some.inj h0
   exact rt_ (ret_ rfl rfl rfl rfl rfl tv)
  ·rintro p10 o1 _ K1 rfl h1 hx1 hK1 hE1 hR1
   refine seq_ (seq_ (reg_ (st (mv_ rfl tv (st (mv_ rfl tv (st (c_ (clenL (e := eDIntent) (l0 := a0) rfl rfl tv) (st (c_ (cp_ t3 rfl tv) (oe_ (wk_ ⟨[(0, .lst 2 (a0.map eDIntent)), (1, .lst 2 (a1.map eDIntent)), (5, iV p10), (14, .bool (decide (p10 < (a0.length : Int))))], [], []⟩ (fgk (by kernel_rfl)) (ite_ (cb := (decide (p10 < (a0.length : Int)))) rfl (fun c20 => ?_) (fun c20 => ?_))))))))))))))
   ·replace h1 := ip c20 h1
    refine sk_ (wk_ ⟨[(0, .lst 2 (a0.map eDIntent)), (1, .lst 2 (a1.map eDIntent)), (5, iV p10)], [], []⟩ (fgk (by kernel_rfl)) (seq_ (block_ (seq_ ?_))))
    obtain ⟨y21, e22, h1⟩ := bnd h1
    obtain ⟨y23, e24, h1⟩ := bnd h1
    obtain ⟨r25, e26, h1⟩ := bnd h1
    refine draw_ (dtake tv (mv_ rfl tv (⟨tv, (dtake tv (mv_ rfl tv (⟨tv, (dtake tv (c_ (cidxL (e := eDIntent) (y := y21) rfl rfl tv rfl rfl tv e22) (⟨tv, (dtake tv (c_ (v := .agg (eDIntent y21)) (cp_ ⟨tv, tv⟩ rfl (nl rfl)) (⟨tv, (dtake tv (mv_ rfl tv (⟨tv, (dtake tv (mv_ rfl tv (⟨tv, (dtake tv (c_ (cidxL (e := eDIntent) (y := y23) rfl rfl tv rfl rfl tv e24) (⟨tv, (dtake tv (c_ (v := .agg (eDIntent y23)) (cp_ ⟨tv, tv⟩ rfl (nl rfl)) (⟨tv, (dalt (call0_ (r := .bool r25) false (H131 y21 y23 r25 e26) ⟨tv, tv, tv⟩ rfl rfl (fun _ => rfl) (dkw ⟨[(0, .lst 2 (a0.map eDIntent)), (1, .lst 2 (a1.map eDIntent)), (5, iV p10), (25, .bool r25)], [], []⟩ (fgk (by kernel_rfl)) ⟨[], tv, tv, (dtake tv (c_ (cp_ ⟨tv, tv⟩ rfl tv) (⟨tv, (dfin (wk_ ⟨[(0, .lst 2 (a0.map eDIntent)), (1, .lst 2 (a1.map eDIntent)), (5, iV p10), (26, .bool (!r25))], [], []⟩ (fgk (by kernel_rfl)) (ite_ (cb := (!r25)) rfl (fun c27 => ?_) (fun c27 => ?_))))⟩)))⟩)) dstop)⟩)))⟩)))⟩)))⟩)))⟩)))⟩)))⟩)))⟩)))
    ·replace h1 := ip c27 h1
     refine seq_ (reg_ (st (mvc_ tv (oe_ (wk_ ⟨[(4, .bool false)], [], []⟩ (fgk (by kernel_rfl)) ?_)))))
     obtain rfl := Option.some.inj h1
     obtain rfl := hx1 _ rfl
     obtain rfl := Option.some.inj h0
     exact rt_ (hR1 _ (ret_ rfl rfl rfl rfl rfl tv))
    ·replace h1 := inb c27 h1
     refine sk_ (bn_ (wk_ ⟨[(0, .lst 2 (a0.map eDIntent)), (1, .lst 2 (a1.map eDIntent)), (5, iV p10)], [], []⟩ (fgk (by kernel_rfl)) (reg_ (st (mv_ rfl tv (st (c_ (cp_ t3 rfl tv) (st (mv_ rfl tv (oe_ ?_))))))))))
     obtain rfl := Option.some.inj h1
     exact hK1 _ rfl _ ⟨[(0, .lst 2 (a0.map eDIntent)), (1, .lst 2 (a1.map eDIntent)), (5, iV (IntKind.i64.wrap (p10 + 1)))], [], []⟩ (fgk (by kernel_rfl)) rfl
   ·replace h1 := inb c20 h1
    obtain rfl := Option.some.inj h1
    obtain rfl := hx1 _ rfl
    refine exQ rfl ?_
    exact hE1 _ ⟨[], [], []⟩ (fgk (by kernel_rfl)) ⟨rfl, rfl⟩

/- loop.example/g00149/laws.eqVault -/
def c49_r0 : List Ins := [⟨some 2, .box (.t 0), none⟩,
⟨some 3, .box (.t 1), none⟩,
⟨some 4, .p (.mv (.c (.bool false))), none⟩]
def c49_r1 : List Ins := [(iQ 5 (.fieldA (.t 2) 0)),
(iQ 6 (.load (.t 5) 3 true)),
(iQ 7 (.fieldA (.t 3) 0)),
(iQ 8 (.load (.t 7) 3 true)),
⟨some 9, .call 21 [(.t 6), (.t 8)], none⟩,
(iQ 10 (.un .not (.t 9)))]
def c49_r2 : List Ins := [⟨some 4, .p (.mv (.c (.bool false))), none⟩]
def c49_r3 : List Ins := [(iQ 11 (.fieldA (.t 2) 3)),
(iQ 12 (.load (.t 11) 1 false)),
(iQ 13 (.fieldA (.t 3) 3)),
(iQ 14 (.load (.t 13) 1 false)),
⟨some 15, .call 99 [(.t 12), (.t 14)], none⟩,
(iQ 16 (.un .not (.t 15)))]
def c49_r4 : List Ins := [⟨some 4, .p (.mv (.c (.bool false))), none⟩]
def c49_r5 : List Ins := [(iQ 17 (.fieldA (.t 2) 4)),
(iQ 18 (.load (.t 17) 1 false)),
(iQ 19 (.fieldA (.t 3) 4)),
(iQ 20 (.load (.t 19) 1 false)),
⟨some 21, .call 36 [(.t 18), (.t 20)], none⟩,
(iQ 22 (.un .not (.t 21)))]
def c49_r6 : List Ins := [⟨some 4, .p (.mv (.c (.bool false))), none⟩]
def c49_r7 : List Ins := [(iQ 23 (.fieldA (.t 2) 5)),
(iQ 24 (.load (.t 23) 1 false)),
(iQ 25 (.fieldA (.t 3) 5)),
(iQ 26 (.load (.t 25) 1 false)),
(iQ 27 (.binB .neq (.t 24) (.t 26)))]
def c49_r8 : List Ins := [⟨some 4, .p (.mv (.c (.bool false))), none⟩]
def c49_r9 : List Ins := [⟨some 4, .p (.mv (.c (.bool true))), none⟩]
def c49 : XFn := { np := 2, nt := 28, res := [.t 4], body := (.seq (.reg c49_r0) (.seq (.seq (.reg c49_r1) (.ite (.t 10) (.seq (.reg c49_r2) .ret) .skip)) (.seq (.seq (.reg c49_r3) (.ite (.t 16) (.seq (.reg c49_r4) .ret) .skip)) (.seq (.seq (.reg c49_r5) (.ite (.t 22) (.seq (.reg c49_r6) .ret) .skip)) (.seq (.seq (.reg c49_r7) (.ite (.t 27) (.seq (.reg c49_r8) .ret) .skip)) (.seq (.reg c49_r9) .ret)))))) }
def K49 (C : CRel) : Prop := ∀ (a0 : DVault) (a1 : DVault) (r : Bool), g49 a0 a1 = some r → C 49 ⟨[.agg (eDVault a0), .agg (eDVault a1)], []⟩ ⟨.bool r, [], []⟩
theorem F49 {C : CRel} (H21 : K21 C) (H36 : K36 C) (H99 : K99 C) (a0 : DVault) (a1 : DVault) (r : Bool) (h0 : g49 a0 a1 = some r) : FnOK C c49 ⟨[.agg (eDVault a0), .agg (eDVault a1)], []⟩ ⟨.bool r, [], []⟩ := by
 refine fn_ (nl rfl) (seq_ (reg_ (st (box_ rfl tv rfl (st (box_ rfl tv rfl (st (mvc_ tv (oe_ (wk_ ⟨[(2, .ptr 128 0), (3, .ptr 192 0)], [(128, [iV a0.table.clock, iV a0.table.next, .lst 4 (a0.table.list_.map eDLease), .lst 2 (a0.intents.map eDIntent), .lst 1 (a0.accounts.map eI), .bool a0.sealed]), (192, [iV a1.table.clock, iV a1.table.next, .lst 4 (a1.table.list_.map eDLease), .lst 2 (a1.intents.map eDIntent), .lst 1 (a1.accounts.map eI), .bool a1.sealed])], []⟩ (fgk (by kernel_rfl)) (seq_ (seq_ (reg_ (st (c_ (cp_ ⟨tv, tv⟩ rfl tv) (st (c_ (v := .agg [iV a0.table.clock, iV a0.table.next, .lst 4 (a0.table.list_.map eDLease)]) (cp_ ⟨tv, tv⟩ rfl (nl rfl)) (st (c_ (cp_ ⟨tv, tv⟩ rfl tv) (st (c_ (v := .agg [iV a1.table.clock, iV a1.table.next, .lst 4 (a1.table.list_.map eDLease)]) (cp_ ⟨tv, tv⟩ rfl (nl rfl)) ?_)))))))))))))))))))))
 obtain ⟨r1, e2, h0⟩ := bnd h0
 refine st (call0_ (r := .bool r1) false (H21 a0.table a1.table r1 e2) ⟨tv, tv, tv⟩ rfl rfl (fun _ => rfl) (st (c_ (cp_ ⟨tv, tv⟩ rfl tv) (oe_ (wk_ ⟨[(2, .ptr 128 0), (3, .ptr 192 0), (10, .bool (!r1))], [(128, [iV a0.table.clock, iV a0.table.next, .lst 4 (a0.table.list_.map eDLease), .lst 2 (a0.intents.map eDIntent), .lst 1 (a0.accounts.map eI), .bool a0.sealed]), (192, [iV a1.table.clock, iV a1.table.next, .lst 4 (a1.table.list_.map eDLease), .lst 2 (a1.intents.map eDIntent), .lst 1 (a1.accounts.map eI), .bool a1.sealed])], []⟩ (fgk (by kernel_rfl)) (ite_ (cb := (!r1)) rfl (fun c3 => ?_) (fun c3 => ?_)))))))
 ·replace h0 := ip c3 h0
  refine seq_ (reg_ (st (mvc_ tv (oe_ (wk_ ⟨[(4, .bool false)], [], []⟩ (fgk (by kernel_rfl)) ?_)))))
  obtain rfl := Option.some.inj h0
  exact rt_ (ret_ rfl rfl rfl rfl rfl tv)
 ·replace h0 := inb c3 h0
  refine sk_ (wk_ ⟨[(2, .ptr 128 0), (3, .ptr 192 0)], [(128, [iV a0.table.clock, iV a0.table.next, .lst 4 (a0.table.list_.map eDLease), .lst 2 (a0.intents.map eDIntent), .lst 1 (a0.accounts.map eI), .bool a0.sealed]), (192, [iV a1.table.clock, iV a1.table.next, .lst 4 (a1.table.list_.map eDLease), .lst 2 (a1.intents.map eDIntent), .lst 1 (a1.accounts.map eI), .bool a1.sealed])], []⟩ (fgk (by kernel_rfl)) (seq_ (seq_ (reg_ (st (c_ (cp_ ⟨tv, tv⟩ rfl tv) (st (c_ (cp_ ⟨tv, tv⟩ rfl (nl rfl)) (st (c_ (cp_ ⟨tv, tv⟩ rfl tv) (st (c_ (cp_ ⟨tv, tv⟩ rfl (nl rfl)) ?_))))))))))))
  obtain ⟨r4, e5, h0⟩ := bnd h0
  refine st (call0_ (r := .bool r4) false (H99 a0.intents a1.intents r4 e5) ⟨tv, tv, tv⟩ rfl rfl (fun _ => rfl) (st (c_ (cp_ ⟨tv, tv⟩ rfl tv) (oe_ (wk_ ⟨[(2, .ptr 128 0), (3, .ptr 192 0), (16, .bool (!r4))], [(128, [iV a0.table.clock, iV a0.table.next, .lst 4 (a0.table.list_.map eDLease), .lst 2 (a0.intents.map eDIntent), .lst 1 (a0.accounts.map eI), .bool a0.sealed]), (192, [iV a1.table.clock, iV a1.table.next, .lst 4 (a1.table.list_.map eDLease), .lst 2 (a1.intents.map eDIntent), .lst 1 (a1.accounts.map eI), .bool a1.sealed])], []⟩ (fgk (by kernel_rfl)) (ite_ (cb := (!r4)) rfl (fun c6 => ?_) (fun c6 => ?_)))))))
  ·replace h0 := ip c6 h0
   refine seq_ (reg_ (st (mvc_ tv (oe_ (wk_ ⟨[(4, .bool false)], [], []⟩ (fgk (by kernel_rfl)) ?_)))))
   obtain rfl := Option.some.inj h0
   exact rt_ (ret_ rfl rfl rfl rfl rfl tv)
  ·replace h0 := inb c6 h0
   refine sk_ (wk_ ⟨[(2, .ptr 128 0), (3, .ptr 192 0)], [(128, [iV a0.table.clock, iV a0.table.next, .lst 4 (a0.table.list_.map eDLease), .lst 2 (a0.intents.map eDIntent), .lst 1 (a0.accounts.map eI), .bool a0.sealed]), (192, [iV a1.table.clock, iV a1.table.next, .lst 4 (a1.table.list_.map eDLease), .lst 2 (a1.intents.map eDIntent), .lst 1 (a1.accounts.map eI), .bool a1.sealed])], []⟩ (fgk (by kernel_rfl)) (seq_ (seq_ (reg_ (st (c_ (cp_ ⟨tv, tv⟩ rfl tv) (st (c_ (cp_ ⟨tv, tv⟩ rfl (nl rfl)) (st (c_ (cp_ ⟨tv, tv⟩ rfl tv) (st (c_ (cp_ ⟨tv, tv⟩ rfl (nl rfl)) ?_))))))))))))
   obtain ⟨r7, e8, h0⟩ := bnd h0
   refine st (call0_ (r := .bool r7) false (H36 a0.accounts a1.accounts r7 e8) ⟨tv, tv, tv⟩ rfl rfl (fun _ => rfl) (st (c_ (cp_ ⟨tv, tv⟩ rfl tv) (oe_ (wk_ ⟨[(2, .ptr 128 0), (3, .ptr 192 0), (22, .bool (!r7))], [(128, [iV a0.table.clock, iV a0.table.next, .lst 4 (a0.table.list_.map eDLease), .lst 2 (a0.intents.map eDIntent), .lst 1 (a0.accounts.map eI), .bool a0.sealed]), (192, [iV a1.table.clock, iV a1.table.next, .lst 4 (a1.table.list_.map eDLease), .lst 2 (a1.intents.map eDIntent), .lst 1 (a1.accounts.map eI), .bool a1.sealed])], []⟩ (fgk (by kernel_rfl)) (ite_ (cb := (!r7)) rfl (fun c9 => ?_) (fun c9 => ?_)))))))
   ·replace h0 := ip c9 h0
    refine seq_ (reg_ (st (mvc_ tv (oe_ (wk_ ⟨[(4, .bool false)], [], []⟩ (fgk (by kernel_rfl)) ?_)))))
    obtain rfl := Option.some.inj h0
    exact rt_ (ret_ rfl rfl rfl rfl rfl tv)
   ·replace h0 := inb c9 h0
    refine sk_ (wk_ ⟨[(2, .ptr 128 0), (3, .ptr 192 0)], [(128, [iV a0.table.clock, iV a0.table.next, .lst 4 (a0.table.list_.map eDLease), .lst 2 (a0.intents.map eDIntent), .lst 1 (a0.accounts.map eI), .bool a0.sealed]), (192, [iV a1.table.clock, iV a1.table.next, .lst 4 (a1.table.list_.map eDLease), .lst 2 (a1.intents.map eDIntent), .lst 1 (a1.accounts.map eI), .bool a1.sealed])], []⟩ (fgk (by kernel_rfl)) (seq_ (seq_ (reg_ (st (c_ (cp_ ⟨tv, tv⟩ rfl tv) (st (c_ (cp_ ⟨tv, tv⟩ rfl (nl rfl)) (st (c_ (cp_ ⟨tv, tv⟩ rfl tv) (st (c_ (cp_ ⟨tv, tv⟩ rfl (nl rfl)) (st (c_ (cp_ t3 rfl tv) (oe_ (wk_ ⟨[(27, .bool (!(a0.sealed == a1.sealed)))], [], []⟩ (fgk (by kernel_rfl)) (ite_ (cb := (!(a0.sealed == a1.sealed))) rfl (fun c10 => ?_) (fun c10 => ?_))))))))))))))))))
    ·replace h0 := ip c10 h0
     refine seq_ (reg_ (st (mvc_ tv (oe_ (wk_ ⟨[(4, .bool false)], [], []⟩ (fgk (by kernel_rfl)) ?_)))))
     obtain rfl := Option.some.inj h0
     exact rt_ (ret_ rfl rfl rfl rfl rfl tv)
    ·replace h0 := inb c10 h0
     refine sk_ (wk_ ⟨[], [], []⟩ (fgk (by kernel_rfl)) (seq_ (reg_ (st (mvc_ tv (oe_ (wk_ ⟨[(4, .bool true)], [], []⟩ (fgk (by kernel_rfl)) ?_)))))))
     obtain rfl := Option.some.inj h0
     exact rt_ (ret_ rfl rfl rfl rfl rfl tv)

/- loop.example/g00149/spec.l01In -/
def c56_r0 : List Ins := [⟨some 6, .p (.mv (.c (.bool false))), none⟩]
def c56_r1 : List Ins := [(iQ 7 (.mv (.t 0))),
(iQ 8 (.mv (.t 1))),
(iQ 9 (.bin .geq (.t 7) (.t 8))),
(iQ 10 (.mv (.t 9))),
⟨some 11, .p (.mv (.t 0)), some (10, true)⟩,
⟨some 12, .p (.mv (.t 2)), some (10, true)⟩,
⟨some 13, .p (.bin .leq (.t 11) (.t 12)), some (10, true)⟩,
⟨some 14, .pick (.t 10) (.t 13) (.c (.bool false)), none⟩,
(iQ 6 (.mv (.t 14)))]
def c56 : XFn := { np := 3, nt := 15, res := [.t 6], body := (.seq (.reg c56_r0) (.seq (.reg c56_r1) .ret)) }
def K56 (C : CRel) : Prop := ∀ (a0 : Int) (a1 : Int) (a2 : Int) (r : Bool), g56 a0 a1 a2 = some r → C 56 ⟨[iV a0, iV a1, iV a2], []⟩ ⟨.bool r, [], []⟩
theorem F56 {C : CRel}  (a0 : Int) (a1 : Int) (a2 : Int) (r : Bool) (h0 : g56 a0 a1 a2 = some r) : FnOK C c56 ⟨[iV a0, iV a1, iV a2], []⟩ ⟨.bool r, [], []⟩ := by
 refine fn_ (nl rfl) (seq_ (reg_ (st (mvc_ tv (oe_ (wk_ ⟨[(0, iV a0), (1, iV a1), (2, iV a2)], [], []⟩ (fgk (by kernel_rfl)) (seq_ (reg_ (st (mv_ rfl tv (st (mv_ rfl tv (st (c_ (cp_ t3 rfl tv) (st (mv_ rfl tv (st (pg_ (u := iV a0) rfl (fun hg => (cmv (v := iV a0) rfl tv)) (st (pg_ (u := iV a2) rfl (fun hg => (cmv (v := iV a2) rfl tv)) (st (pg_ (u := .bool (decide (a0 ≤ a2))) rfl (fun hg => (cp_ ⟨(fun _ => hg), (fun _ => hg), tv⟩ rfl tv)) (st (pick_ rfl rfl rfl (fun h => eqt h) tv rfl (st (mv_ rfl tv (oe_ (wk_ ⟨[(6, .bool (bif (decide (a0 ≥ a1)) then (decide (a0 ≤ a2)) else false))], [], []⟩ (fgk (by kernel_rfl)) ?_))))))))))))))))))))))))))))
 obtain rfl := Option.some.inj h0
 exact rt_ (ret_ rfl rfl rfl rfl rfl tv)

/- loop.example/g00149/spec.TableOK -/
def c18_r0 : List Ins := [⟨some 1, .box (.t 0), none⟩,
⟨some 2, .p (.mv (.c (.bool false))), none⟩]
def c18_r1 : List Ins := [(iQ 5 (.fieldA (.t 1) 0)),
(iQ 6 (.load (.t 5) 1 false)),
⟨some 7, .p (.bin .lss (.t 6) (.c (iV 0))), none⟩,
(iQ 8 (.mv (.t 7))),
⟨some 9, .p (.fieldA (.t 1) 1), some (8, false)⟩,
⟨some 10, .p (.load (.t 9) 1 false), some (8, false)⟩,
⟨some 11, .call 56 [(.t 10), (.c (iV 1)), (.c (iV 1000000))], some (8, false)⟩,
⟨some 12, .p (.un .not (.t 11)), some (8, false)⟩,
⟨some 13, .pick (.t 8) (.c (.bool true)) (.t 12), none⟩,
(iQ 14 (.mv (.t 13))),
⟨some 15, .p (.fieldA (.t 1) 2), some (14, false)⟩,
⟨some 16, .p (.load (.t 15) 1 false), some (14, false)⟩,
⟨some 17, .p (.len (.t 16)), some (14, false)⟩,
⟨some 18, .p (.bin .gtr (.t 17) (.c (iV 40))), some (14, false)⟩,
⟨some 19, .pick (.t 14) (.c (.bool true)) (.t 18), none⟩]
def c18_r2 : List Ins := [⟨some 2, .p (.mv (.c (.bool false))), none⟩]
def c18_r3 : List Ins := [⟨some 3, .p (.mv (.c (iV 0))), none⟩]
def c18_r4 : List Ins := [(iQ 20 (.mv (.t 3))),
(iQ 21 (.fieldA (.t 1) 2)),
(iQ 22 (.load (.t 21) 1 false)),
(iQ 23 (.len (.t 22))),
(iQ 24 (.bin .lss (.t 20) (.t 23)))]
def c18_r5 : List Ins := [(iQ 27 (.fieldA (.t 1) 2)),
(iQ 28 (.load (.t 27) 1 false)),
(iQ 29 (.mv (.t 3))),
(iQ 30 (.idxA (.t 28) (.t 29) 4)),
(iQ 31 (.load (.t 30) 4 true)),
⟨some 4, .alloc [(iV 0), (iV 0), (iV 0), (.bool false)], none⟩,
⟨none, .store (.t 4) (.t 31) 4, none⟩]
def c18_r6 : DP := (.take (iQ 32 (.fieldA (.t 4) 0))
(.take (iQ 33 (.load (.t 32) 1 false))
(.take (iQ 34 (.fieldA (.t 1) 1))
(.take (iQ 35 (.load (.t 34) 1 false))
(.take ⟨some 36, .p (.bin .sub (.t 35) (.c (iV 1))), none⟩
(.alt [] ⟨some 37, .call 56 [(.t 33), (.c (iV 1)), (.t 36)], none⟩
(.take (iQ 38 (.un .not (.t 37)))
(.take (iQ 39 (.mv (.t 38)))
(.take ⟨some 40, .p (.mv (.t 3)), some (39, false)⟩
(.take ⟨some 41, .p (.bin .gtr (.t 40) (.c (iV 0))), some (39, false)⟩
(.take ⟨some 42, .p (.mv (.t 41)), some (39, false)⟩
(.take ⟨some 43, .p (.fieldA (.t 1) 2), some (42, true)⟩
(.take ⟨some 44, .p (.load (.t 43) 1 false), some (42, true)⟩
(.take ⟨some 45, .p (.mv (.t 3)), some (42, true)⟩
(.take ⟨some 46, .p (.bin .sub (.t 45) (.c (iV 1))), some (42, true)⟩
(.take ⟨some 47, .p (.idxA (.t 44) (.t 46) 4), some (42, true)⟩
(.take ⟨some 48, .p (.fieldA (.t 47) 0), some (42, true)⟩
(.take ⟨some 49, .p (.load (.t 48) 1 false), some (42, true)⟩
(.take ⟨some 50, .p (.fieldA (.t 4) 0), some (42, true)⟩
(.take ⟨some 51, .p (.load (.t 50) 1 false), some (42, true)⟩
(.take ⟨some 52, .p (.bin .geq (.t 49) (.t 51)), some (42, true)⟩
(.take ⟨some 53, .pick (.t 42) (.t 52) (.c (.bool false)), some (39, false)⟩
(.take ⟨some 54, .pick (.t 39) (.c (.bool true)) (.t 53), none⟩
(.take (iQ 55 (.mv (.t 54)))
(.take ⟨some 56, .p (.fieldA (.t 4) 1), some (55, false)⟩
(.take ⟨some 57, .p (.load (.t 56) 1 false), some (55, false)⟩
(.take ⟨some 58, .p (.bin .lss (.t 57) (.c (iV 0))), some (55, false)⟩
(.take ⟨some 59, .pick (.t 55) (.c (.bool true)) (.t 58), none⟩
(.take (iQ 60 (.mv (.t 59)))
(.take ⟨some 61, .p (.fieldA (.t 4) 1), some (60, false)⟩
(.take ⟨some 62, .p (.load (.t 61) 1 false), some (60, false)⟩
(.take ⟨some 63, .p (.fieldA (.t 4) 2), some (60, false)⟩
(.take ⟨some 64, .p (.load (.t 63) 1 false), some (60, false)⟩
(.take ⟨some 65, .p (.bin .gtr (.t 62) (.t 64)), some (60, false)⟩
(.take ⟨some 66, .pick (.t 60) (.c (.bool true)) (.t 65), none⟩
(.take (iQ 67 (.mv (.t 66)))
(.take ⟨some 68, .p (.fieldA (.t 4) 3), some (67, false)⟩
(.take ⟨some 69, .p (.load (.t 68) 1 false), some (67, false)⟩
(.take ⟨some 70, .p (.un .not (.t 69)), some (67, false)⟩
(.take ⟨some 71, .p (.mv (.t 70)), some (67, false)⟩
(.take ⟨some 72, .p (.fieldA (.t 4) 1), some (71, true)⟩
(.take ⟨some 73, .p (.load (.t 72) 1 false), some (71, true)⟩
(.take ⟨some 74, .p (.fieldA (.t 1) 0), some (71, true)⟩
(.take ⟨some 75, .p (.load (.t 74) 1 false), some (71, true)⟩
(.take ⟨some 76, .p (.bin .leq (.t 73) (.t 75)), some (71, true)⟩
(.take ⟨some 77, .pick (.t 71) (.t 76) (.c (.bool false)), some (67, false)⟩
(.take ⟨some 78, .pick (.t 67) (.c (.bool true)) (.t 77), none⟩
.fin)))))))))))))))))))))))))))))))))))))))))
.stop))))))
def c18_r7 : List Ins := [⟨some 2, .p (.mv (.c (.bool false))), none⟩]
def c18_r8 : List Ins := [(iQ 25 (.mv (.t 3))),
⟨some 26, .p (.bin .add (.t 25) (.c (iV 1))), none⟩,
(iQ 3 (.mv (.t 26)))]
def c18_l0 : IR := (.seq (.seq (.reg c18_r4) (.ite (.t 24) .skip (.exit 0))) (.seq (.block 1 (.seq (.reg c18_r5) (.seq (.draw c18_r6) (.ite (.t 78) (.seq (.reg c18_r7) .ret) .skip)))) (.reg c18_r8)))
def c18_r9 : List Ins := [⟨some 2, .p (.mv (.c (.bool true))), none⟩]
def c18 : XFn := { np := 1, nt := 79, res := [.t 2], body := (.seq (.reg c18_r0) (.seq (.seq (.reg c18_r1) (.ite (.t 19) (.seq (.reg c18_r2) .ret) .skip)) (.seq (.seq (.reg c18_r3) (.block 0 (.loop c18_l0))) (.seq (.reg c18_r9) .ret)))) }
def K18 (C : CRel) : Prop := ∀ (a0 : DTable) (r : Bool), g18 a0 = some r → C 18 ⟨[.agg (eDTable a0)], []⟩ ⟨.bool r, [], []⟩
theorem F18 {C : CRel} (H56 : K56 C) (a0 : DTable) (r : Bool) (h0 : g18 a0 = some r) : FnOK C c18 ⟨[.agg (eDTable a0)], []⟩ ⟨.bool r, [], []⟩ := by
 refine fn_ (nl rfl) (seq_ (reg_ (st (box_ rfl tv rfl (st (mvc_ tv (oe_ (wk_ ⟨[(1, .ptr 64 0)], [(64, [iV a0.clock, iV a0.next, .lst 4 (a0.list_.map eDLease)])], []⟩ (fgk (by kernel_rfl)) (seq_ (seq_ (reg_ (st (c_ (cp_ ⟨tv, tv⟩ rfl tv) (st (c_ (cp_ ⟨tv, tv⟩ rfl (nl rfl)) (st (c_ (cp_ t3 rfl tv) (st (mv_ rfl tv (st (pg_ (u := .ptr 64 1) rfl (fun hg => (cp_ ⟨tv, tv⟩ rfl tv)) (st (pg_ (u := iV a0.next) rfl (fun hg => (cp_ ⟨(fun _ => hg), tv⟩ rfl (nl rfl))) ?_)))))))))))))))))))))))
 obtain ⟨r1, e2, h0⟩ := bnd h0
 refine st (callg_ (r := .bool r1) rfl false (fun hg => H56 a0.next 1 1000000 r1 (ip hg e2)) ⟨(fun hg => hg), tv, tv, tv⟩ (fun _ => rfl) (fun _ => rfl) (fun _ => rfl) (fun h => nomatch h) (st (pg_ (u := .bool (!r1)) rfl (fun hg => (cp_ ⟨(fun _ => hg), tv⟩ rfl tv)) (st (pick_ rfl rfl rfl tv (fun h => eqf h) rfl (st (mv_ rfl tv (st (pg_ (u := .ptr 64 2) rfl (fun hg => (cp_ ⟨tv, tv⟩ rfl tv)) (st (pg_ (u := .lst 4 (a0.list_.map eDLease)) rfl (fun hg => (cp_ ⟨(fun _ => hg), tv⟩ rfl (nl rfl))) (sw ⟨[(1, .ptr 64 0), (14, .bool (bif (decide (a0.clock < 0)) then true else (!r1))), (16, .may ((bif (decide (a0.clock < 0)) then true else (!r1)) == false) (.lst 4 (a0.list_.map eDLease)))], [(64, [iV a0.clock, iV a0.next, .lst 4 (a0.list_.map eDLease)])], []⟩ (fgk (by kernel_rfl)) (pg_ (u := iV (a0.list_.length : Int)) rfl (fun hg => (clenL (e := eDLease) (l0 := a0.list_) rfl rfl (fun _ => hg))) (st (pg_ (u := .bool (decide ((a0.list_.length : Int) > 40))) rfl (fun hg => (cp_ ⟨(fun _ => hg), tv, tv⟩ rfl tv)) (st (pick_ rfl rfl rfl tv (fun h => eqf h) rfl (oe_ ?_))))))))))))))))))
 obtain ⟨v3, e4, h0⟩ := bl h0
 refine wk_ ⟨[(1, .ptr 64 0), (19, .bool v3)], [(64, [iV a0.clock, iV a0.next, .lst 4 (a0.list_.map eDLease)])], []⟩ (fgk (by subst e4; kernel_rfl)) (ite_ (cb := v3) rfl (fun c5 => ?_) (fun c5 => ?_))
 ·replace h0 := ip c5 h0
  refine seq_ (reg_ (st (mvc_ tv (oe_ (wk_ ⟨[(2, .bool false)], [], []⟩ (fgk (by kernel_rfl)) ?_)))))
  obtain rfl := Option.some.inj h0
  exact rt_ (ret_ rfl rfl rfl rfl rfl tv)
 ·replace h0 := inb c5 h0
  refine sk_ (wk_ ⟨[(1, .ptr 64 0)], [(64, [iV a0.clock, iV a0.next, .lst 4 (a0.list_.map eDLease)])], []⟩ (fgk (by kernel_rfl)) (seq_ (seq_ (reg_ (st (mvc_ tv (oe_ (wk_ ⟨[(1, .ptr 64 0), (3, iV 0)], [(64, [iV a0.clock, iV a0.next, .lst 4 (a0.list_.map eDLease)])], []⟩ (fgk (by kernel_rfl)) (block_ ?_)))))))))
  obtain ⟨r38, e39, h0⟩ := bnd h0
  refine loop_ (R := (fun S => .inl () = r38 ∧ S = ⟨[], [], []⟩)) (g18_l0 a0) (fun s S => match s with | p16 => S = ⟨[(1, .ptr 64 0), (3, iV p16)], [(64, [iV a0.clock, iV a0.next, .lst 4 (a0.list_.map eDLease)])], []⟩) e39 ⟨[(1, .ptr 64 0), (3, iV 0)], [(64, [iV a0.clock, iV a0.next, .lst 4 (a0.list_.map eDLease)])], []⟩ (fgk (by kernel_rfl)) rfl 0 (fun _ => rfl) ?_ ?_
  ·rintro S _ hfg ⟨rfl, rfl⟩
   refine wk_ ⟨[], [], []⟩ (fglk hfg (by kernel_rfl)) (seq_ (reg_ (st (mvc_ tv (oe_ (wk_ ⟨[(2, .bool true)], [], []⟩ (fgk (by kernel_rfl)) ?_))))))
   obtain rfl := Option.some.inj h0
   exact rt_ (ret_ rfl rfl rfl rfl rfl tv)
  ·rintro p16 o1 _ K1 rfl h1 hx1 hK1 hE1 hR1
   refine seq_ (seq_ (reg_ (st (mv_ rfl tv (st (c_ (cp_ ⟨tv, tv⟩ rfl tv) (st (c_ (cp_ ⟨tv, tv⟩ rfl (nl rfl)) (st (c_ (clenL (e := eDLease) (l0 := a0.list_) rfl rfl tv) (st (c_ (cp_ t3 rfl tv) (oe_ (wk_ ⟨[(1, .ptr 64 0), (3, iV p16), (24, .bool (decide (p16 < (a0.list_.length : Int))))], [(64, [iV a0.clock, iV a0.next, .lst 4 (a0.list_.map eDLease)])], []⟩ (fgk (by kernel_rfl)) (ite_ (cb := (decide (p16 < (a0.list_.length : Int)))) rfl (fun c28 => ?_) (fun c28 => ?_))))))))))))))))
   ·replace h1 := ip c28 h1
    refine sk_ (wk_ ⟨[(1, .ptr 64 0), (3, iV p16)], [(64, [iV a0.clock, iV a0.next, .lst 4 (a0.list_.map eDLease)])], []⟩ (fgk (by kernel_rfl)) (seq_ (block_ (seq_ (reg_ (st (c_ (cp_ ⟨tv, tv⟩ rfl tv) (st (c_ (cp_ ⟨tv, tv⟩ rfl (nl rfl)) (st (mv_ rfl tv ?_)))))))))))
    obtain ⟨y29, e30, h1⟩ := bnd h1
    refine st (c_ (cidxL (e := eDLease) (y := y29) rfl rfl tv rfl rfl tv e30) (st (c_ (v := .agg (eDLease y29)) (cp_ ⟨tv, tv⟩ rfl (nl rfl)) (st (alloc_ (st (stp_ rfl rfl tv rfl rfl rfl (nl rfl) (oe_ (wk_ ⟨[(1, .ptr 64 0), (3, iV p16), (4, .ptr 256 0)], [(64, [iV a0.clock, iV a0.next, .lst 4 (a0.list_.map eDLease)]), (256, [iV y29.id, iV y29.until_, iV y29.cap, .bool y29.queued])], []⟩ (fgk (by kernel_rfl)) (seq_ ?_))))))))))
    obtain ⟨r31, e32, h1⟩ := bnd h1
    obtain ⟨y33, e34, h1⟩ := bnd h1
    refine draw_ (dtake tv (c_ (cp_ ⟨tv, tv⟩ rfl tv) (⟨tv, (dtake tv (c_ (cp_ ⟨tv, tv⟩ rfl (nl rfl)) (⟨tv, (dtake tv (c_ (cp_ ⟨tv, tv⟩ rfl tv) (⟨tv, (dtake tv (c_ (cp_ ⟨tv, tv⟩ rfl (nl rfl)) (⟨tv, (dtake tv (c_ (cp_ t3 rfl tv) (⟨tv, (dalt (call0_ (r := .bool r31) false (H56 y29.id 1 (IntKind.i64.wrap (a0.next - 1)) r31 e32) ⟨tv, tv, tv, tv⟩ rfl rfl (fun _ => rfl) (dkw ⟨[(1, .ptr 64 0), (3, iV p16), (4, .ptr 256 0), (37, .bool r31)], [(64, [iV a0.clock, iV a0.next, .lst 4 (a0.list_.map eDLease)]), (256, [iV y29.id, iV y29.until_, iV y29.cap, .bool y29.queued])], []⟩ (fgk (by kernel_rfl)) ⟨[], tv, tv, (dtake tv (c_ (cp_ ⟨tv, tv⟩ rfl tv) (⟨tv, (dtake tv (mv_ rfl tv (⟨tv, (dtake tv (pg_ (u := iV p16) rfl (fun hg => (cmv (v := iV p16) rfl tv)) (⟨tv, (dtake tv (pg_ (u := .bool (decide (p16 > 0))) rfl (fun hg => (cp_ ⟨(fun _ => hg), tv, tv⟩ rfl tv)) (⟨tv, (dtake tv (pg_ (u := .bool (decide (p16 > 0))) rfl (fun hg => (cmv (v := .may ((!r31) == false) (.bool (decide (p16 > 0)))) rfl (fun _ => hg))) (⟨tv, (dtake tv (pg_ (u := .ptr 64 2) rfl (fun hg => (cp_ ⟨tv, tv⟩ rfl tv)) (⟨tv, (dtake tv (pg_ (u := .lst 4 (a0.list_.map eDLease)) rfl (fun hg => (cp_ ⟨(fun _ => hg), tv⟩ rfl (nl rfl))) (⟨tv, (dtake tv (pg_ (u := iV p16) rfl (fun hg => (cmv (v := iV p16) rfl tv)) (⟨tv, (dtake tv (pg_ (u := iV (IntKind.i64.wrap (p16 - 1))) rfl (fun hg => (cp_ ⟨(fun _ => hg), tv, tv⟩ rfl tv)) (⟨tv, ?_⟩)))⟩)))⟩)))⟩)))⟩)))⟩)))⟩)))⟩)))⟩)))⟩)) dstop)⟩)))⟩)))⟩)))⟩)))⟩)))
    refine dtake tv (pg_ (u := .iptr [iV y33.id, iV y33.until_, iV y33.cap, .bool y33.queued]) rfl (fun hg => (cidxL (e := eDLease) (y := y33) rfl rfl (fun _ => hg) rfl rfl (fun _ => hg) (ip hg e34))) (⟨tv, (dtake tv (pg_ (u := .iptr [iV y33.id, iV y33.until_, iV y33.cap, .bool y33.queued]) rfl (fun hg => (cp_ ⟨(fun _ => hg), tv⟩ rfl (nl rfl))) (⟨tv, (dtake tv (pg_ (u := iV y33.id) rfl (fun hg => (cp_ ⟨(fun _ => hg), tv⟩ rfl (nl rfl))) (⟨tv, (dtake tv (pg_ (u := .ptr 256 0) rfl (fun hg => (cp_ ⟨tv, tv⟩ rfl tv)) (⟨tv, (dtake tv (pg_ (u := iV y29.id) rfl (fun hg => (cp_ ⟨(fun _ => hg), tv⟩ rfl (nl rfl))) (⟨tv, (dtake tv (pg_ (u := .bool (decide (y33.id ≥ y29.id))) rfl (fun hg => (cp_ ⟨(fun _ => hg), (fun _ => hg), tv⟩ rfl tv)) (⟨tv, (dtake tv (pickg_ (u := .bool (bif (decide (p16 > 0)) then (decide (y33.id ≥ y29.id)) else false)) rfl (fun hg => cpick rfl rfl (fun _ => hg) rfl rfl (fun h => and_ hg (eqt h)) tv rfl) (⟨tv, (dtake tv (pick_ rfl rfl rfl tv (fun h => eqf h) rfl (⟨tv, (dtake tv (mv_ rfl tv (⟨tv, (dtake tv (pg_ (u := .ptr 256 1) rfl (fun hg => (cp_ ⟨tv, tv⟩ rfl tv)) (⟨tv, (dtake tv (pg_ (u := iV y29.until_) rfl (fun hg => (cp_ ⟨(fun _ => hg), tv⟩ rfl (nl rfl))) (⟨tv, (dtake tv (pg_ (u := .bool (decide (y29.until_ < 0))) rfl (fun hg => (cp_ ⟨(fun _ => hg), tv, tv⟩ rfl tv)) (⟨tv, (dtake tv (pick_ rfl rfl rfl tv (fun h => eqf h) rfl (⟨tv, (dtake tv (mv_ rfl tv (⟨tv, (dtake tv (pg_ (u := .ptr 256 1) rfl (fun hg => (cp_ ⟨tv, tv⟩ rfl tv)) (⟨tv, (dtake tv (pg_ (u := iV y29.until_) rfl (fun hg => (cp_ ⟨(fun _ => hg), tv⟩ rfl (nl rfl))) ?_))⟩)))⟩)))⟩)))⟩)))⟩)))⟩)))⟩)))⟩)))⟩)))⟩)))⟩)))⟩)))⟩)))⟩)))⟩))
    refine ⟨tv, (dtake tv (pg_ (u := .ptr 256 2) rfl (fun hg => (cp_ ⟨tv, tv⟩ rfl tv)) (⟨tv, (dtake tv (pg_ (u := iV y29.cap) rfl (fun hg => (cp_ ⟨(fun _ => hg), tv⟩ rfl (nl rfl))) (⟨tv, (dtake tv (pg_ (u := .bool (decide (y29.until_ > y29.cap))) rfl (fun hg => (cp_ ⟨(fun _ => hg), (fun _ => hg), tv⟩ rfl tv)) (⟨tv, (dtake tv (pick_ rfl rfl rfl tv (fun h => eqf h) rfl (⟨tv, (dtake tv (mv_ rfl tv (⟨tv, (dtake tv (pg_ (u := .ptr 256 3) rfl (fun hg => (cp_ ⟨tv, tv⟩ rfl tv)) (⟨tv, (dtake tv (pg_ (u := .bool y29.queued) rfl (fun hg => (cp_ ⟨(fun _ => hg), tv⟩ rfl (nl rfl))) (⟨tv, (dtake tv (pg_ (u := .bool (!y29.queued)) rfl (fun hg => (cp_ ⟨(fun _ => hg), tv⟩ rfl tv)) (⟨tv, (dtake tv (pg_ (u := .bool (!y29.queued)) rfl (fun hg => (cmv (v := .may ((bif (bif (bif (!r31) then true else (bif (decide (p16 > 0)) then (decide (y33.id ≥ y29.id)) else false)) then true else (decide (y29.until_ < 0))) then true else (decide (y29.until_ > y29.cap))) == false) (.bool (!y29.queued))) rfl (fun _ => hg))) (⟨tv, (dtake tv (pg_ (u := .ptr 256 1) rfl (fun hg => (cp_ ⟨tv, tv⟩ rfl tv)) (⟨tv, (dtake tv (pg_ (u := iV y29.until_) rfl (fun hg => (cp_ ⟨(fun _ => hg), tv⟩ rfl (nl rfl))) (⟨tv, (dtake tv (pg_ (u := .ptr 64 0) rfl (fun hg => (cp_ ⟨tv, tv⟩ rfl tv)) (⟨tv, (dtake tv (pg_ (u := iV a0.clock) rfl (fun hg => (cp_ ⟨(fun _ => hg), tv⟩ rfl (nl rfl))) (⟨tv, (dtake tv (pg_ (u := .bool (decide (y29.until_ ≤ a0.clock))) rfl (fun hg => (cp_ ⟨(fun _ => hg), (fun _ => hg), tv⟩ rfl tv)) (⟨tv, (dtake tv (pickg_ (u := .bool (bif (!y29.queued) then (decide (y29.until_ ≤ a0.clock)) else false)) rfl (fun hg => cpick rfl rfl (fun _ => hg) rfl rfl (fun h => and_ hg (eqt h)) tv rfl) (⟨tv, ?_⟩)))⟩)))⟩)))⟩)))⟩)))⟩)))⟩)))⟩)))⟩)))⟩)))⟩)))⟩)))⟩)))⟩)))⟩)))⟩
    refine dtake tv (pick_ rfl rfl rfl tv (fun h => eqf h) rfl (⟨tv, (dfin ?_)⟩))
    obtain ⟨v35, e36, h1⟩ := bl h1
    refine wk_ ⟨[(1, .ptr 64 0), (3, iV p16), (78, .bool v35)], [(64, [iV a0.clock, iV a0.next, .lst 4 (a0.list_.map eDLease)])], []⟩ (fgk (by subst e36; kernel_rfl)) (ite_ (cb := v35) rfl (fun c37 => ?_) (fun c37 => ?_))
    ·replace h1 := ip c37 h1
     refine seq_ (reg_ (st (mvc_ tv (oe_ (wk_ ⟨[(2, .bool false)], [], []⟩ (fgk (by kernel_rfl)) ?_)))))
     obtain rfl := Option.some.inj h1
     obtain rfl := hx1 _ rfl
     obtain rfl := Option.some.inj h0
     exact rt_ (hR1 _ (ret_ rfl rfl rfl rfl rfl tv))
    ·replace h1 := inb c37 h1
     refine sk_ (bn_ (wk_ ⟨[(1, .ptr 64 0), (3, iV p16)], [(64, [iV a0.clock, iV a0.next, .lst 4 (a0.list_.map eDLease)])], []⟩ (fgk (by kernel_rfl)) (reg_ (st (mv_ rfl tv (st (c_ (cp_ t3 rfl tv) (st (mv_ rfl tv (oe_ ?_))))))))))
     obtain rfl := Option.some.inj h1
     exact hK1 _ rfl _ ⟨[(1, .ptr 64 0), (3, iV (IntKind.i64.wrap (p16 + 1)))], [(64, [iV a0.clock, iV a0.next, .lst 4 (a0.list_.map eDLease)])], []⟩ (fgk (by kernel_rfl)) rfl
   ·replace h1 := inb c28 h1
    obtain rfl := Option.some.inj h1
    obtain rfl := hx1 _ rfl
    refine exQ rfl ?_
    exact hE1 _ ⟨[], [], []⟩ (fgk (by kernel_rfl)) ⟨rfl, rfl⟩

/- loop.example/g00149/spec.l09Rising -/
def c85_r0 : List Ins := [⟨some 4, .p (.mv (.c (.bool false))), none⟩]
def c85_r1 : List Ins := [⟨some 5, .p (.mv (.c (iV 0))), none⟩]
def c85_r2 : List Ins := [(iQ 6 (.mv (.t 5))),
(iQ 7 (.mv (.t 0))),
(iQ 8 (.len (.t 7))),
(iQ 9 (.bin .lss (.t 6) (.t 8)))]
def c85_r3 : DP := (.take (iQ 12 (.mv (.t 0)))
(.take (iQ 13 (.mv (.t 5)))
(.take (iQ 14 (.idxA (.t 12) (.t 13) 1))
(.take (iQ 15 (.load (.t 14) 1 false))
(.take (iQ 16 (.mv (.t 1)))
(.take ⟨some 17, .p (.bin .sub (.t 16) (.c (iV 1))), none⟩
(.alt [] ⟨some 18, .call 56 [(.t 15), (.c (iV 1)), (.t 17)], none⟩
(.take (iQ 19 (.un .not (.t 18)))
(.take (iQ 20 (.mv (.t 19)))
(.take ⟨some 21, .p (.mv (.t 5)), some (20, false)⟩
(.take ⟨some 22, .p (.bin .gtr (.t 21) (.c (iV 0))), some (20, false)⟩
(.take ⟨some 23, .p (.mv (.t 22)), some (20, false)⟩
(.take ⟨some 24, .p (.mv (.t 0)), some (23, true)⟩
(.take ⟨some 25, .p (.mv (.t 5)), some (23, true)⟩
(.take ⟨some 26, .p (.bin .sub (.t 25) (.c (iV 1))), some (23, true)⟩
(.take ⟨some 27, .p (.idxA (.t 24) (.t 26) 1), some (23, true)⟩
(.take ⟨some 28, .p (.load (.t 27) 1 false), some (23, true)⟩
(.take ⟨some 29, .p (.mv (.t 0)), some (23, true)⟩
(.take ⟨some 30, .p (.mv (.t 5)), some (23, true)⟩
(.take ⟨some 31, .p (.idxA (.t 29) (.t 30) 1), some (23, true)⟩
(.take ⟨some 32, .p (.load (.t 31) 1 false), some (23, true)⟩
(.take ⟨some 33, .p (.bin .geq (.t 28) (.t 32)), some (23, true)⟩
(.take ⟨some 34, .pick (.t 23) (.t 33) (.c (.bool false)), some (20, false)⟩
(.take ⟨some 35, .pick (.t 20) (.c (.bool true)) (.t 34), none⟩
.fin)))))))))))))))))
.stop)))))))
def c85_r4 : List Ins := [⟨some 4, .p (.mv (.c (.bool false))), none⟩]
def c85_r5 : List Ins := [(iQ 10 (.mv (.t 5))),
⟨some 11, .p (.bin .add (.t 10) (.c (iV 1))), none⟩,
(iQ 5 (.mv (.t 11)))]
def c85_l0 : IR := (.seq (.seq (.reg c85_r2) (.ite (.t 9) .skip (.exit 0))) (.seq (.block 1 (.seq (.draw c85_r3) (.ite (.t 35) (.seq (.reg c85_r4) .ret) .skip))) (.reg c85_r5)))
def c85_r6 : List Ins := [⟨some 4, .p (.mv (.c (.bool true))), none⟩]
def c85 : XFn := { np := 2, nt := 36, res := [.t 4], body := (.seq (.reg c85_r0) (.seq (.seq (.reg c85_r1) (.block 0 (.loop c85_l0))) (.seq (.reg c85_r6) .ret))) }
def K85 (C : CRel) : Prop := ∀ (a0 : List Int) (a1 : Int) (r : Bool), g85 a0 a1 = some r → C 85 ⟨[.lst 1 (a0.map eI), iV a1], []⟩ ⟨.bool r, [], []⟩
theorem F85 {C : CRel} (H56 : K56 C) (a0 : List Int) (a1 : Int) (r : Bool) (h0 : g85 a0 a1 = some r) : FnOK C c85 ⟨[.lst 1 (a0.map eI), iV a1], []⟩ ⟨.bool r, [], []⟩ := by
 refine fn_ (nl rfl) (seq_ (reg_ (st (mvc_ tv (oe_ (wk_ ⟨[(0, .lst 1 (a0.map eI)), (1, iV a1)], [], []⟩ (fgk (by kernel_rfl)) (seq_ (seq_ (reg_ (st (mvc_ tv (oe_ (wk_ ⟨[(0, .lst 1 (a0.map eI)), (1, iV a1), (5, iV 0)], [], []⟩ (fgk (by kernel_rfl)) (block_ ?_))))))))))))))
 obtain ⟨r39, e40, h0⟩ := bnd h0
 refine loop_ (R := (fun S => .inl () = r39 ∧ S = ⟨[], [], []⟩)) (g85_l0 a0 a1) (fun s S => match s with | p13 => S = ⟨[(0, .lst 1 (a0.map eI)), (1, iV a1), (5, iV p13)], [], []⟩) e40 ⟨[(0, .lst 1 (a0.map eI)), (1, iV a1), (5, iV 0)], [], []⟩ (fgk (by kernel_rfl)) rfl 0 (fun _ => rfl) ?_ ?_
 ·rintro S _ hfg ⟨rfl, rfl⟩
  refine wk_ ⟨[], [], []⟩ (fglk hfg (by kernel_rfl)) (seq_ (reg_ (st (mvc_ tv (oe_ (wk_ ⟨[(4, .bool true)], [], []⟩ (fgk (by kernel_rfl)) ?_))))))
  obtain rfl := Option.some.inj h0
  exact rt_ (ret_ rfl rfl rfl rfl rfl tv)
 ·rintro p13 o1 _ K1 rfl h1 hx1 hK1 hE1 hR1
  refine seq_ (seq_ (reg_ (st (mv_ rfl tv (st (mv_ rfl tv (st (c_ (clenL (e := eI) (l0 := a0) rfl rfl tv) (st (c_ (cp_ t3 rfl tv) (oe_ (wk_ ⟨[(0, .lst 1 (a0.map eI)), (1, iV a1), (5, iV p13), (9, .bool (decide (p13 < (a0.length : Int))))], [], []⟩ (fgk (by kernel_rfl)) (ite_ (cb := (decide (p13 < (a0.length : Int)))) rfl (fun c27 => ?_) (fun c27 => ?_))))))))))))))
  ·replace h1 := ip c27 h1
   refine sk_ (wk_ ⟨[(0, .lst 1 (a0.map eI)), (1, iV a1), (5, iV p13)], [], []⟩ (fgk (by kernel_rfl)) (seq_ (block_ (seq_ ?_))))
   obtain ⟨y28, e29, h1⟩ := bnd h1
   obtain ⟨r30, e31, h1⟩ := bnd h1
   obtain ⟨y32, e33, h1⟩ := bnd h1
   obtain ⟨y34, e35, h1⟩ := bnd h1
   refine draw_ (dtake tv (mv_ rfl tv (⟨tv, (dtake tv (mv_ rfl tv (⟨tv, (dtake tv (c_ (cidxL (e := eI) (y := y28) rfl rfl tv rfl rfl tv e29) (⟨tv, (dtake tv (c_ (cp_ ⟨tv, tv⟩ rfl (nl rfl)) (⟨tv, (dtake tv (mv_ rfl tv (⟨tv, (dtake tv (c_ (cp_ t3 rfl tv) (⟨tv, (dalt (call0_ (r := .bool r30) false (H56 y28 1 (IntKind.i64.wrap (a1 - 1)) r30 e31) ⟨tv, tv, tv, tv⟩ rfl rfl (fun _ => rfl) (dkw ⟨[(0, .lst 1 (a0.map eI)), (1, iV a1), (5, iV p13), (18, .bool r30)], [], []⟩ (fgk (by kernel_rfl)) ⟨[], tv, tv, (dtake tv (c_ (cp_ ⟨tv, tv⟩ rfl tv) (⟨tv, (dtake tv (mv_ rfl tv (⟨tv, (dtake tv (pg_ (u := iV p13) rfl (fun hg => (cmv (v := iV p13) rfl tv)) (⟨tv, (dtake tv (pg_ (u := .bool (decide (p13 > 0))) rfl (fun hg => (cp_ ⟨(fun _ => hg), tv, tv⟩ rfl tv)) (⟨tv, (dtake tv (pg_ (u := .bool (decide (p13 > 0))) rfl (fun hg => (cmv (v := .may ((!r30) == false) (.bool (decide (p13 > 0)))) rfl (fun _ => hg))) (⟨tv, (dtake tv (pg_ (u := .lst 1 (a0.map eI)) rfl (fun hg => (cmv (v := .lst 1 (a0.map eI)) rfl tv)) (⟨tv, (dtake tv (pg_ (u := iV p13) rfl (fun hg => (cmv (v := iV p13) rfl tv)) (⟨tv, (dtake tv (pg_ (u := iV (IntKind.i64.wrap (p13 - 1))) rfl (fun hg => (cp_ ⟨(fun _ => hg), tv, tv⟩ rfl tv)) (⟨tv, ?_⟩)))⟩)))⟩)))⟩)))⟩)))⟩)))⟩)))⟩)))⟩)) dstop)⟩)))⟩)))⟩)))⟩)))⟩)))⟩)))
   refine dtake tv (pg_ (u := .iptr [iV y32]) rfl (fun hg => (cidxL (e := eI) (y := y32) rfl rfl (fun _ => hg) rfl rfl (fun _ => hg) (ip hg e33))) (⟨tv, (dtake tv (pg_ (u := iV y32) rfl (fun hg => (cp_ ⟨(fun _ => hg), tv⟩ rfl (nl rfl))) (⟨tv, (dtake tv (pg_ (u := .lst 1 (a0.map eI)) rfl (fun hg => (cmv (v := .lst 1 (a0.map eI)) rfl tv)) (⟨tv, (dtake tv (pg_ (u := iV p13) rfl (fun hg => (cmv (v := iV p13) rfl tv)) (⟨tv, (dtake tv (pg_ (u := .iptr [iV y34]) rfl (fun hg => (cidxL (e := eI) (y := y34) rfl rfl (fun _ => hg) rfl rfl (fun _ => hg) (ip hg e35))) (⟨tv, (dtake tv (pg_ (u := iV y34) rfl (fun hg => (cp_ ⟨(fun _ => hg), tv⟩ rfl (nl rfl))) (⟨tv, (dtake tv (pg_ (u := .bool (decide (y32 ≥ y34))) rfl (fun hg => (cp_ ⟨(fun _ => hg), (fun _ => hg), tv⟩ rfl tv)) (⟨tv, (dtake tv (pickg_ (u := .bool (bif (decide (p13 > 0)) then (decide (y32 ≥ y34)) else false)) rfl (fun hg => cpick rfl rfl (fun _ => hg) rfl rfl (fun h => and_ hg (eqt h)) tv rfl) (⟨tv, (dtake tv (pick_ rfl rfl rfl tv (fun h => eqf h) rfl (⟨tv, (dfin ?_)⟩)))⟩)))⟩)))⟩)))⟩)))⟩)))⟩)))⟩)))⟩))
   obtain ⟨v36, e37, h1⟩ := bl h1
   refine wk_ ⟨[(0, .lst 1 (a0.map eI)), (1, iV a1), (5, iV p13), (35, .bool v36)], [], []⟩ (fgk (by subst e37; kernel_rfl)) (ite_ (cb := v36) rfl (fun c38 => ?_) (fun c38 => ?_))
   ·replace h1 := ip c38 h1
    refine seq_ (reg_ (st (mvc_ tv (oe_ (wk_ ⟨[(4, .bool false)], [], []⟩ (fgk (by kernel_rfl)) ?_)))))
    obtain rfl := Option.some.inj h1
    obtain rfl := hx1 _ rfl
    obtain rfl := Option.some.inj h0
    exact rt_ (hR1 _ (ret_ rfl rfl rfl rfl rfl tv))
   ·replace h1 := inb c38 h1
    refine sk_ (bn_ (wk_ ⟨[(0, .lst 1 (a0.map eI)), (1, iV a1), (5, iV p13)], [], []⟩ (fgk (by kernel_rfl)) (reg_ (st (mv_ rfl tv (st (c_ (cp_ t3 rfl tv) (st (mv_ rfl tv (oe_ ?_))))))))))
    obtain rfl := Option.some.inj h1
    exact hK1 _ rfl _ ⟨[(0, .lst 1 (a0.map eI)), (1, iV a1), (5, iV (IntKind.i64.wrap (p13 + 1)))], [], []⟩ (fgk (by kernel_rfl)) rfl
  ·replace h1 := inb c27 h1
   obtain rfl := Option.some.inj h1
   obtain rfl := hx1 _ rfl
   refine exQ rfl ?_
   exact hE1 _ ⟨[], [], []⟩ (fgk (by kernel_rfl)) ⟨rfl, rfl⟩

/- loop.example/g00149/spec.l08Find -/
def c92_r0 : List Ins := [⟨some 2, .box (.t 0), none⟩,
⟨some 4, .p (.mv (.c (iV 0))), none⟩]
def c92_r1 : List Ins := [⟨some 5, .p (.mv (.c (iV 0))), none⟩]
def c92_r2 : List Ins := [(iQ 6 (.mv (.t 5))),
(iQ 7 (.fieldA (.t 2) 2)),
(iQ 8 (.load (.t 7) 1 false)),
(iQ 9 (.len (.t 8))),
(iQ 10 (.bin .lss (.t 6) (.t 9)))]
def c92_r3 : List Ins := [(iQ 13 (.fieldA (.t 2) 2)),
(iQ 14 (.load (.t 13) 1 false)),
(iQ 15 (.mv (.t 5))),
(iQ 16 (.idxA (.t 14) (.t 15) 4)),
(iQ 17 (.fieldA (.t 16) 0)),
(iQ 18 (.load (.t 17) 1 false)),
(iQ 19 (.mv (.t 1))),
(iQ 20 (.bin .eql (.t 18) (.t 19)))]
def c92_r4 : List Ins := [(iQ 21 (.mv (.t 5))),
(iQ 4 (.mv (.t 21)))]
def c92_r5 : List Ins := [(iQ 11 (.mv (.t 5))),
⟨some 12, .p (.bin .add (.t 11) (.c (iV 1))), none⟩,
(iQ 5 (.mv (.t 12)))]
def c92_l0 : IR := (.seq (.seq (.reg c92_r2) (.ite (.t 10) .skip (.exit 0))) (.seq (.block 1 (.seq (.reg c92_r3) (.ite (.t 20) (.seq (.reg c92_r4) .ret) .skip))) (.reg c92_r5)))
def c92_r6 : List Ins := [⟨some 4, .p (.mv (.c (iV (-1)))), none⟩]
def c92 : XFn := { np := 2, nt := 22, res := [.t 4], body := (.seq (.reg c92_r0) (.seq (.seq (.reg c92_r1) (.block 0 (.loop c92_l0))) (.seq (.reg c92_r6) .ret))) }
def K92 (C : CRel) : Prop := ∀ (a0 : DTable) (a1 : Int) (r : Int), g92 a0 a1 = some r → C 92 ⟨[.agg (eDTable a0), iV a1], []⟩ ⟨iV r, [], []⟩
theorem F92 {C : CRel}  (a0 : DTable) (a1 : Int) (r : Int) (h0 : g92 a0 a1 = some r) : FnOK C c92 ⟨[.agg (eDTable a0), iV a1], []⟩ ⟨iV r, [], []⟩ := by
 refine fn_ (nl rfl) (seq_ (reg_ (st (box_ rfl tv rfl (st (mvc_ tv (oe_ (wk_ ⟨[(1, iV a1), (2, .ptr 128 0)], [(128, [iV a0.clock, iV a0.next, .lst 4 (a0.list_.map eDLease)])], []⟩ (fgk (by kernel_rfl)) (seq_ (seq_ (reg_ (st (mvc_ tv (oe_ (wk_ ⟨[(1, iV a1), (2, .ptr 128 0), (5, iV 0)], [(128, [iV a0.clock, iV a0.next, .lst 4 (a0.list_.map eDLease)])], []⟩ (fgk (by kernel_rfl)) (block_ ?_))))))))))))))))
 obtain ⟨r15, e16, h0⟩ := bnd h0
 refine loop_ (R := (fun S => .inl () = r15 ∧ S = ⟨[], [], []⟩)) (g92_l0 a0 a1) (fun s S => match s with | p5 => S = ⟨[(1, iV a1), (2, .ptr 128 0), (5, iV p5)], [(128, [iV a0.clock, iV a0.next, .lst 4 (a0.list_.map eDLease)])], []⟩) e16 ⟨[(1, iV a1), (2, .ptr 128 0), (5, iV 0)], [(128, [iV a0.clock, iV a0.next, .lst 4 (a0.list_.map eDLease)])], []⟩ (fgk (by kernel_rfl)) rfl 0 (fun _ => rfl) ?_ ?_
 ·rintro S _ hfg ⟨rfl, rfl⟩
  refine wk_ ⟨[], [], []⟩ (fglk hfg (by kernel_rfl)) (seq_ (reg_ (st (mvc_ tv (oe_ (wk_ ⟨[(4, iV (-1))], [], []⟩ (fgk (by kernel_rfl)) ?_))))))
  obtain rfl := Option.some.inj h0
  exact rt_ (ret_ rfl rfl rfl rfl rfl tv)
 ·rintro p5 o1 _ K1 rfl h1 hx1 hK1 hE1 hR1
  refine seq_ (seq_ (reg_ (st (mv_ rfl tv (st (c_ (cp_ ⟨tv, tv⟩ rfl tv) (st (c_ (cp_ ⟨tv, tv⟩ rfl (nl rfl)) (st (c_ (clenL (e := eDLease) (l0 := a0.list_) rfl rfl tv) (st (c_ (cp_ t3 rfl tv) (oe_ (wk_ ⟨[(1, iV a1), (2, .ptr 128 0), (5, iV p5), (10, .bool (decide (p5 < (a0.list_.length : Int))))], [(128, [iV a0.clock, iV a0.next, .lst 4 (a0.list_.map eDLease)])], []⟩ (fgk (by kernel_rfl)) (ite_ (cb := (decide (p5 < (a0.list_.length : Int)))) rfl (fun c11 => ?_) (fun c11 => ?_))))))))))))))))
  ·replace h1 := ip c11 h1
   refine sk_ (wk_ ⟨[(1, iV a1), (2, .ptr 128 0), (5, iV p5)], [(128, [iV a0.clock, iV a0.next, .lst 4 (a0.list_.map eDLease)])], []⟩ (fgk (by kernel_rfl)) (seq_ (block_ (seq_ (reg_ (st (c_ (cp_ ⟨tv, tv⟩ rfl tv) (st (c_ (cp_ ⟨tv, tv⟩ rfl (nl rfl)) (st (mv_ rfl tv ?_)))))))))))
   obtain ⟨y12, e13, h1⟩ := bnd h1
   refine st (c_ (cidxL (e := eDLease) (y := y12) rfl rfl tv rfl rfl tv e13) (st (c_ (cp_ ⟨tv, tv⟩ rfl (nl rfl)) (st (c_ (cp_ ⟨tv, tv⟩ rfl (nl rfl)) (st (mv_ rfl tv (st (c_ (cp_ t3 rfl tv) (oe_ (wk_ ⟨[(1, iV a1), (2, .ptr 128 0), (5, iV p5), (20, .bool (y12.id == a1))], [(128, [iV a0.clock, iV a0.next, .lst 4 (a0.list_.map eDLease)])], []⟩ (fgk (by kernel_rfl)) (ite_ (cb := (y12.id == a1)) rfl (fun c14 => ?_) (fun c14 => ?_)))))))))))))
   ·replace h1 := ip c14 h1
    refine seq_ (reg_ (st (mv_ rfl tv (st (mv_ rfl tv (oe_ (wk_ ⟨[(4, iV p5)], [], []⟩ (fgk (by kernel_rfl)) ?_)))))))
    obtain rfl := Option.some.inj h1
    obtain rfl := hx1 _ rfl
    obtain rfl := Option.some.inj h0
    exact rt_ (hR1 _ (ret_ rfl rfl rfl rfl rfl tv))
   ·replace h1 := inb c14 h1
    refine sk_ (bn_ (wk_ ⟨[(1, iV a1), (2, .ptr 128 0), (5, iV p5)], [(128, [iV a0.clock, iV a0.next, .lst 4 (a0.list_.map eDLease)])], []⟩ (fgk (by kernel_rfl)) (reg_ (st (mv_ rfl tv (st (c_ (cp_ t3 rfl tv) (st (mv_ rfl tv (oe_ ?_))))))))))
    obtain rfl := Option.some.inj h1
    exact hK1 _ rfl _ ⟨[(1, iV a1), (2, .ptr 128 0), (5, iV (IntKind.i64.wrap (p5 + 1)))], [(128, [iV a0.clock, iV a0.next, .lst 4 (a0.list_.map eDLease)])], []⟩ (fgk (by kernel_rfl)) rfl
  ·replace h1 := inb c11 h1
   obtain rfl := Option.some.inj h1
   obtain rfl := hx1 _ rfl
   refine exQ rfl ?_
   exact hE1 _ ⟨[], [], []⟩ (fgk (by kernel_rfl)) ⟨rfl, rfl⟩

/- loop.example/g00149/spec.l09Intent -/
def c124_r0 : List Ins := [⟨some 2, .box (.t 0), none⟩,
⟨some 4, .p (.mv (.c (iV 0))), none⟩]
def c124_r1 : List Ins := [⟨some 5, .p (.mv (.c (iV 0))), none⟩]
def c124_r2 : List Ins := [(iQ 6 (.mv (.t 5))),
(iQ 7 (.fieldA (.t 2) 3)),
(iQ 8 (.load (.t 7) 1 false)),
(iQ 9 (.len (.t 8))),
(iQ 10 (.bin .lss (.t 6) (.t 9)))]
def c124_r3 : List Ins := [(iQ 13 (.fieldA (.t 2) 3)),
(iQ 14 (.load (.t 13) 1 false)),
(iQ 15 (.mv (.t 5))),
(iQ 16 (.idxA (.t 14) (.t 15) 2)),
(iQ 17 (.fieldA (.t 16) 0)),
(iQ 18 (.load (.t 17) 1 false)),
(iQ 19 (.mv (.t 1))),
(iQ 20 (.bin .eql (.t 18) (.t 19)))]
def c124_r4 : List Ins := [(iQ 21 (.mv (.t 5))),
(iQ 4 (.mv (.t 21)))]
def c124_r5 : List Ins := [(iQ 11 (.mv (.t 5))),
⟨some 12, .p (.bin .add (.t 11) (.c (iV 1))), none⟩,
(iQ 5 (.mv (.t 12)))]
def c124_l0 : IR := (.seq (.seq (.reg c124_r2) (.ite (.t 10) .skip (.exit 0))) (.seq (.block 1 (.seq (.reg c124_r3) (.ite (.t 20) (.seq (.reg c124_r4) .ret) .skip))) (.reg c124_r5)))
def c124_r6 : List Ins := [⟨some 4, .p (.mv (.c (iV (-1)))), none⟩]
def c124 : XFn := { np := 2, nt := 22, res := [.t 4], body := (.seq (.reg c124_r0) (.seq (.seq (.reg c124_r1) (.block 0 (.loop c124_l0))) (.seq (.reg c124_r6) .ret))) }
def K124 (C : CRel) : Prop := ∀ (a0 : DVault) (a1 : Int) (r : Int), g124 a0 a1 = some r → C 124 ⟨[.agg (eDVault a0), iV a1], []⟩ ⟨iV r, [], []⟩
theorem F124 {C : CRel}  (a0 : DVault) (a1 : Int) (r : Int) (h0 : g124 a0 a1 = some r) : FnOK C c124 ⟨[.agg (eDVault a0), iV a1], []⟩ ⟨iV r, [], []⟩ := by
 refine fn_ (nl rfl) (seq_ (reg_ (st (box_ rfl tv rfl (st (mvc_ tv (oe_ (wk_ ⟨[(1, iV a1), (2, .ptr 128 0)], [(128, [iV a0.table.clock, iV a0.table.next, .lst 4 (a0.table.list_.map eDLease), .lst 2 (a0.intents.map eDIntent), .lst 1 (a0.accounts.map eI), .bool a0.sealed])], []⟩ (fgk (by kernel_rfl)) (seq_ (seq_ (reg_ (st (mvc_ tv (oe_ (wk_ ⟨[(1, iV a1), (2, .ptr 128 0), (5, iV 0)], [(128, [iV a0.table.clock, iV a0.table.next, .lst 4 (a0.table.list_.map eDLease), .lst 2 (a0.intents.map eDIntent), .lst 1 (a0.accounts.map eI), .bool a0.sealed])], []⟩ (fgk (by kernel_rfl)) (block_ ?_))))))))))))))))
 obtain ⟨r15, e16, h0⟩ := bnd h0
 refine loop_ (R := (fun S => .inl () = r15 ∧ S = ⟨[], [], []⟩)) (g124_l0 a0 a1) (fun s S => match s with | p5 => S = ⟨[(1, iV a1), (2, .ptr 128 0), (5, iV p5)], [(128, [iV a0.table.clock, iV a0.table.next, .lst 4 (a0.table.list_.map eDLease), .lst 2 (a0.intents.map eDIntent), .lst 1 (a0.accounts.map eI), .bool a0.sealed])], []⟩) e16 ⟨[(1, iV a1), (2, .ptr 128 0), (5, iV 0)], [(128, [iV a0.table.clock, iV a0.table.next, .lst 4 (a0.table.list_.map eDLease), .lst 2 (a0.intents.map eDIntent), .lst 1 (a0.accounts.map eI), .bool a0.sealed])], []⟩ (fgk (by kernel_rfl)) rfl 0 (fun _ => rfl) ?_ ?_
 ·rintro S _ hfg ⟨rfl, rfl⟩
  refine wk_ ⟨[], [], []⟩ (fglk hfg (by kernel_rfl)) (seq_ (reg_ (st (mvc_ tv (oe_ (wk_ ⟨[(4, iV (-1))], [], []⟩ (fgk (by kernel_rfl)) ?_))))))
  obtain rfl := Option.some.inj h0
  exact rt_ (ret_ rfl rfl rfl rfl rfl tv)
 ·rintro p5 o1 _ K1 rfl h1 hx1 hK1 hE1 hR1
  refine seq_ (seq_ (reg_ (st (mv_ rfl tv (st (c_ (cp_ ⟨tv, tv⟩ rfl tv) (st (c_ (cp_ ⟨tv, tv⟩ rfl (nl rfl)) (st (c_ (clenL (e := eDIntent) (l0 := a0.intents) rfl rfl tv) (st (c_ (cp_ t3 rfl tv) (oe_ (wk_ ⟨[(1, iV a1), (2, .ptr 128 0), (5, iV p5), (10, .bool (decide (p5 < (a0.intents.length : Int))))], [(128, [iV a0.table.clock, iV a0.table.next, .lst 4 (a0.table.list_.map eDLease), .lst 2 (a0.intents.map eDIntent), .lst 1 (a0.accounts.map eI), .bool a0.sealed])], []⟩ (fgk (by kernel_rfl)) (ite_ (cb := (decide (p5 < (a0.intents.length : Int)))) rfl (fun c11 => ?_) (fun c11 => ?_))))))))))))))))
  ·replace h1 := ip c11 h1
   refine sk_ (wk_ ⟨[(1, iV a1), (2, .ptr 128 0), (5, iV p5)], [(128, [iV a0.table.clock, iV a0.table.next, .lst 4 (a0.table.list_.map eDLease), .lst 2 (a0.intents.map eDIntent), .lst 1 (a0.accounts.map eI), .bool a0.sealed])], []⟩ (fgk (by kernel_rfl)) (seq_ (block_ (seq_ (reg_ (st (c_ (cp_ ⟨tv, tv⟩ rfl tv) (st (c_ (cp_ ⟨tv, tv⟩ rfl (nl rfl)) (st (mv_ rfl tv ?_)))))))))))
   obtain ⟨y12, e13, h1⟩ := bnd h1
   refine st (c_ (cidxL (e := eDIntent) (y := y12) rfl rfl tv rfl rfl tv e13) (st (c_ (cp_ ⟨tv, tv⟩ rfl (nl rfl)) (st (c_ (cp_ ⟨tv, tv⟩ rfl (nl rfl)) (st (mv_ rfl tv (st (c_ (cp_ t3 rfl tv) (oe_ (wk_ ⟨[(1, iV a1), (2, .ptr 128 0), (5, iV p5), (20, .bool (y12.lease == a1))], [(128, [iV a0.table.clock, iV a0.table.next, .lst 4 (a0.table.list_.map eDLease), .lst 2 (a0.intents.map eDIntent), .lst 1 (a0.accounts.map eI), .bool a0.sealed])], []⟩ (fgk (by kernel_rfl)) (ite_ (cb := (y12.lease == a1)) rfl (fun c14 => ?_) (fun c14 => ?_)))))))))))))
   ·replace h1 := ip c14 h1
    refine seq_ (reg_ (st (mv_ rfl tv (st (mv_ rfl tv (oe_ (wk_ ⟨[(4, iV p5)], [], []⟩ (fgk (by kernel_rfl)) ?_)))))))
    obtain rfl := Option.some.inj h1
    obtain rfl := hx1 _ rfl
    obtain rfl := Option.some.inj h0
    exact rt_ (hR1 _ (ret_ rfl rfl rfl rfl rfl tv))
   ·replace h1 := inb c14 h1
    refine sk_ (bn_ (wk_ ⟨[(1, iV a1), (2, .ptr 128 0), (5, iV p5)], [(128, [iV a0.table.clock, iV a0.table.next, .lst 4 (a0.table.list_.map eDLease), .lst 2 (a0.intents.map eDIntent), .lst 1 (a0.accounts.map eI), .bool a0.sealed])], []⟩ (fgk (by kernel_rfl)) (reg_ (st (mv_ rfl tv (st (c_ (cp_ t3 rfl tv) (st (mv_ rfl tv (oe_ ?_))))))))))
    obtain rfl := Option.some.inj h1
    exact hK1 _ rfl _ ⟨[(1, iV a1), (2, .ptr 128 0), (5, iV (IntKind.i64.wrap (p5 + 1)))], [(128, [iV a0.table.clock, iV a0.table.next, .lst 4 (a0.table.list_.map eDLease), .lst 2 (a0.intents.map eDIntent), .lst 1 (a0.accounts.map eI), .bool a0.sealed])], []⟩ (fgk (by kernel_rfl)) rfl
  ·replace h1 := inb c11 h1
   obtain rfl := Option.some.inj h1
   obtain rfl := hx1 _ rfl
   refine exQ rfl ?_
   exact hE1 _ ⟨[], [], []⟩ (fgk (by kernel_rfl)) ⟨rfl, rfl⟩

/- loop.example/g00149/spec.l09Lost -/
def c93_r0 : List Ins := [⟨some 1, .box (.t 0), none⟩,
⟨some 2, .p (.mv (.c (iV 0))), none⟩]
def c93_r1 : List Ins := [⟨some 3, .p (.mv (.c (iV 0))), none⟩]
def c93_r2 : List Ins := [(iQ 4 (.mv (.t 3))),
(iQ 5 (.fieldA (.t 1) 4)),
(iQ 6 (.load (.t 5) 1 false)),
(iQ 7 (.len (.t 6))),
(iQ 8 (.bin .lss (.t 4) (.t 7)))]
def c93_r3 : DP := (.take (iQ 11 (.fieldA (.t 1) 0))
(.take (iQ 12 (.load (.t 11) 3 true))
(.take (iQ 13 (.fieldA (.t 1) 4))
(.take (iQ 14 (.load (.t 13) 1 false))
(.take (iQ 15 (.mv (.t 3)))
(.take (iQ 16 (.idxA (.t 14) (.t 15) 1))
(.take (iQ 17 (.load (.t 16) 1 false))
(.alt [] ⟨some 18, .call 92 [(.t 12), (.t 17)], none⟩
(.take ⟨some 19, .p (.bin .lss (.t 18) (.c (iV 0))), none⟩
(.take (iQ 20 (.mv (.t 19)))
(.take ⟨some 21, .p (.load (.t 1) 6 true), some (20, true)⟩
(.take ⟨some 22, .p (.fieldA (.t 1) 4), some (20, true)⟩
(.take ⟨some 23, .p (.load (.t 22) 1 false), some (20, true)⟩
(.take ⟨some 24, .p (.mv (.t 3)), some (20, true)⟩
(.take ⟨some 25, .p (.idxA (.t 23) (.t 24) 1), some (20, true)⟩
(.take ⟨some 26, .p (.load (.t 25) 1 false), some (20, true)⟩
(.alt [] ⟨some 27, .call 124 [(.t 21), (.t 26)], some (20, true)⟩
(.take ⟨some 28, .p (.bin .lss (.t 27) (.c (iV 0))), some (20, true)⟩
(.take ⟨some 29, .pick (.t 20) (.t 28) (.c (.bool false)), none⟩
.fin))
.stop)))))))))
.stop))))))))
def c93_r4 : List Ins := [(iQ 30 (.fieldA (.t 1) 4)),
(iQ 31 (.load (.t 30) 1 false)),
(iQ 32 (.mv (.t 3))),
(iQ 33 (.idxA (.t 31) (.t 32) 1)),
(iQ 34 (.load (.t 33) 1 false)),
(iQ 2 (.mv (.t 34)))]
def c93_r5 : List Ins := [(iQ 9 (.mv (.t 3))),
⟨some 10, .p (.bin .add (.t 9) (.c (iV 1))), none⟩,
(iQ 3 (.mv (.t 10)))]
def c93_l0 : IR := (.seq (.seq (.reg c93_r2) (.ite (.t 8) .skip (.exit 0))) (.seq (.block 1 (.seq (.draw c93_r3) (.ite (.t 29) (.seq (.reg c93_r4) .ret) .skip))) (.reg c93_r5)))
def c93_r6 : List Ins := [⟨some 2, .p (.mv (.c (iV 0))), none⟩]
def c93 : XFn := { np := 1, nt := 35, res := [.t 2], body := (.seq (.reg c93_r0) (.seq (.seq (.reg c93_r1) (.block 0 (.loop c93_l0))) (.seq (.reg c93_r6) .ret))) }
def K93 (C : CRel) : Prop := ∀ (a0 : DVault) (r : Int), g93 a0 = some r → C 93 ⟨[.agg (eDVault a0)], []⟩ ⟨iV r, [], []⟩
theorem F93 {C : CRel} (H92 : K92 C) (H124 : K124 C) (a0 : DVault) (r : Int) (h0 : g93 a0 = some r) : FnOK C c93 ⟨[.agg (eDVault a0)], []⟩ ⟨iV r, [], []⟩ := by
 refine fn_ (nl rfl) (seq_ (reg_ (st (box_ rfl tv rfl (st (mvc_ tv (oe_ (wk_ ⟨[(1, .ptr 64 0)], [(64, [iV a0.table.clock, iV a0.table.next, .lst 4 (a0.table.list_.map eDLease), .lst 2 (a0.intents.map eDIntent), .lst 1 (a0.accounts.map eI), .bool a0.sealed])], []⟩ (fgk (by kernel_rfl)) (seq_ (seq_ (reg_ (st (mvc_ tv (oe_ (wk_ ⟨[(1, .ptr 64 0), (3, iV 0)], [(64, [iV a0.table.clock, iV a0.table.next, .lst 4 (a0.table.list_.map eDLease), .lst 2 (a0.intents.map eDIntent), .lst 1 (a0.accounts.map eI), .bool a0.sealed])], []⟩ (fgk (by kernel_rfl)) (block_ ?_))))))))))))))))
 obtain ⟨r39, e40, h0⟩ := bnd h0
 refine loop_ (R := (fun S => .inl () = r39 ∧ S = ⟨[], [], []⟩)) (g93_l0 a0) (fun s S => match s with | p13 => S = ⟨[(1, .ptr 64 0), (3, iV p13)], [(64, [iV a0.table.clock, iV a0.table.next, .lst 4 (a0.table.list_.map eDLease), .lst 2 (a0.intents.map eDIntent), .lst 1 (a0.accounts.map eI), .bool a0.sealed])], []⟩) e40 ⟨[(1, .ptr 64 0), (3, iV 0)], [(64, [iV a0.table.clock, iV a0.table.next, .lst 4 (a0.table.list_.map eDLease), .lst 2 (a0.intents.map eDIntent), .lst 1 (a0.accounts.map eI), .bool a0.sealed])], []⟩ (fgk (by kernel_rfl)) rfl 0 (fun _ => rfl) ?_ ?_
 ·rintro S _ hfg ⟨rfl, rfl⟩
  refine wk_ ⟨[], [], []⟩ (fglk hfg (by kernel_rfl)) (seq_ (reg_ (st (mvc_ tv (oe_ (wk_ ⟨[(2, iV 0)], [], []⟩ (fgk (by kernel_rfl)) ?_))))))
  obtain rfl := Option.some.inj h0
  exact rt_ (ret_ rfl rfl rfl rfl rfl tv)
 ·rintro p13 o1 _ K1 rfl h1 hx1 hK1 hE1 hR1
  refine seq_ (seq_ (reg_ (st (mv_ rfl tv (st (c_ (cp_ ⟨tv, tv⟩ rfl tv) (st (c_ (cp_ ⟨tv, tv⟩ rfl (nl rfl)) (st (c_ (clenL (e := eI) (l0 := a0.accounts) rfl rfl tv) (st (c_ (cp_ t3 rfl tv) (oe_ (wk_ ⟨[(1, .ptr 64 0), (3, iV p13), (8, .bool (decide (p13 < (a0.accounts.length : Int))))], [(64, [iV a0.table.clock, iV a0.table.next, .lst 4 (a0.table.list_.map eDLease), .lst 2 (a0.intents.map eDIntent), .lst 1 (a0.accounts.map eI), .bool a0.sealed])], []⟩ (fgk (by kernel_rfl)) (ite_ (cb := (decide (p13 < (a0.accounts.length : Int)))) rfl (fun c27 => ?_) (fun c27 => ?_))))))))))))))))
  ·replace h1 := ip c27 h1
   refine sk_ (wk_ ⟨[(1, .ptr 64 0), (3, iV p13)], [(64, [iV a0.table.clock, iV a0.table.next, .lst 4 (a0.table.list_.map eDLease), .lst 2 (a0.intents.map eDIntent), .lst 1 (a0.accounts.map eI), .bool a0.sealed])], []⟩ (fgk (by kernel_rfl)) (seq_ (block_ (seq_ ?_))))
   obtain ⟨y28, e29, h1⟩ := bnd h1
   obtain ⟨r30, e31, h1⟩ := bnd h1
   obtain ⟨y32, e33, h1⟩ := bnd h1
   obtain ⟨r34, e35, h1⟩ := bnd h1
   refine draw_ (dtake tv (c_ (cp_ ⟨tv, tv⟩ rfl tv) (⟨tv, (dtake tv (c_ (v := .agg [iV a0.table.clock, iV a0.table.next, .lst 4 (a0.table.list_.map eDLease)]) (cp_ ⟨tv, tv⟩ rfl (nl rfl)) (⟨tv, (dtake tv (c_ (cp_ ⟨tv, tv⟩ rfl tv) (⟨tv, (dtake tv (c_ (cp_ ⟨tv, tv⟩ rfl (nl rfl)) (⟨tv, (dtake tv (mv_ rfl tv (⟨tv, (dtake tv (c_ (cidxL (e := eI) (y := y28) rfl rfl tv rfl rfl tv e29) (⟨tv, (dtake tv (c_ (cp_ ⟨tv, tv⟩ rfl (nl rfl)) (⟨tv, (dalt (call0_ (r := iV r30) false (H92 a0.table y28 r30 e31) ⟨tv, tv, tv⟩ rfl rfl (fun _ => rfl) (dkw ⟨[(1, .ptr 64 0), (3, iV p13), (18, iV r30)], [(64, [iV a0.table.clock, iV a0.table.next, .lst 4 (a0.table.list_.map eDLease), .lst 2 (a0.intents.map eDIntent), .lst 1 (a0.accounts.map eI), .bool a0.sealed])], []⟩ (fgk (by kernel_rfl)) ⟨[], tv, tv, (dtake tv (c_ (cp_ t3 rfl tv) (⟨tv, (dtake tv (mv_ rfl tv (⟨tv, (dtake tv (pg_ (u := .agg (eDVault a0)) rfl (fun hg => (cp_ ⟨tv, tv⟩ rfl (nl rfl))) (⟨tv, (dtake tv (pg_ (u := .ptr 64 4) rfl (fun hg => (cp_ ⟨tv, tv⟩ rfl tv)) (⟨tv, (dtake tv (pg_ (u := .lst 1 (a0.accounts.map eI)) rfl (fun hg => (cp_ ⟨(fun _ => hg), tv⟩ rfl (nl rfl))) (⟨tv, (dtake tv (pg_ (u := iV p13) rfl (fun hg => (cmv (v := iV p13) rfl tv)) (⟨tv, (dtake tv (pg_ (u := .iptr [iV y32]) rfl (fun hg => (cidxL (e := eI) (y := y32) rfl rfl (fun _ => hg) rfl rfl (fun _ => hg) (ip hg e33))) (⟨tv, ?_⟩)))⟩)))⟩)))⟩)))⟩)))⟩)))⟩)))⟩)) dstop)⟩)))⟩)))⟩)))⟩)))⟩)))⟩)))⟩)))
   refine dtake tv (pg_ (u := iV y32) rfl (fun hg => (cp_ ⟨(fun _ => hg), tv⟩ rfl (nl rfl))) (⟨tv, (dalt (callg_ (r := iV r34) rfl false (fun hg => H124 a0 y32 r34 (ip hg e35)) ⟨(fun hg => hg), (fun hg => hg), tv⟩ (fun _ => rfl) (fun _ => rfl) (fun _ => rfl) (fun h => nomatch h) (dkw ⟨[(1, .ptr 64 0), (3, iV p13), (20, .bool (decide (r30 < 0))), (27, .may ((decide (r30 < 0)) == true) (iV r34))], [(64, [iV a0.table.clock, iV a0.table.next, .lst 4 (a0.table.list_.map eDLease), .lst 2 (a0.intents.map eDIntent), .lst 1 (a0.accounts.map eI), .bool a0.sealed])], []⟩ (fgk (by kernel_rfl)) ⟨[], tv, tv, (dtake tv (pg_ (u := .bool (decide (r34 < 0))) rfl (fun hg => (cp_ ⟨(fun _ => hg), tv, tv⟩ rfl tv)) (⟨tv, (dtake tv (pick_ rfl rfl rfl (fun h => eqt h) tv rfl (⟨tv, (dfin (wk_ ⟨[(1, .ptr 64 0), (3, iV p13), (29, .bool (bif (decide (r30 < 0)) then (decide (r34 < 0)) else false))], [(64, [iV a0.table.clock, iV a0.table.next, .lst 4 (a0.table.list_.map eDLease), .lst 2 (a0.intents.map eDIntent), .lst 1 (a0.accounts.map eI), .bool a0.sealed])], []⟩ (fgk (by kernel_rfl)) (ite_ (cb := (bif (decide (r30 < 0)) then (decide (r34 < 0)) else false)) rfl (fun c36 => ?_) (fun c36 => ?_))))⟩)))⟩)))⟩)) dstop)⟩))
   ·replace h1 := ip c36 h1
    refine seq_ (reg_ (st (c_ (cp_ ⟨tv, tv⟩ rfl tv) (st (c_ (cp_ ⟨tv, tv⟩ rfl (nl rfl)) (st (mv_ rfl tv ?_)))))))
    obtain ⟨y37, e38, h1⟩ := bnd h1
    refine st (c_ (cidxL (e := eI) (y := y37) rfl rfl tv rfl rfl tv e38) (st (c_ (cp_ ⟨tv, tv⟩ rfl (nl rfl)) (st (mv_ rfl tv (oe_ (wk_ ⟨[(2, iV y37)], [], []⟩ (fgk (by kernel_rfl)) ?_)))))))
    obtain rfl := Option.some.inj h1
    obtain rfl := hx1 _ rfl
    obtain rfl := Option.some.inj h0
    exact rt_ (hR1 _ (ret_ rfl rfl rfl rfl rfl tv))
   ·replace h1 := inb c36 h1
    refine sk_ (bn_ (wk_ ⟨[(1, .ptr 64 0), (3, iV p13)], [(64, [iV a0.table.clock, iV a0.table.next, .lst 4 (a0.table.list_.map eDLease), .lst 2 (a0.intents.map eDIntent), .lst 1 (a0.accounts.map eI), .bool a0.sealed])], []⟩ (fgk (by kernel_rfl)) (reg_ (st (mv_ rfl tv (st (c_ (cp_ t3 rfl tv) (st (mv_ rfl tv (oe_ ?_))))))))))
    obtain rfl := Option.some.inj h1
    exact hK1 _ rfl _ ⟨[(1, .ptr 64 0), (3, iV (IntKind.i64.wrap (p13 + 1)))], [(64, [iV a0.table.clock, iV a0.table.next, .lst 4 (a0.table.list_.map eDLease), .lst 2 (a0.intents.map eDIntent), .lst 1 (a0.accounts.map eI), .bool a0.sealed])], []⟩ (fgk (by kernel_rfl)) rfl
  ·replace h1 := inb c27 h1
   obtain rfl := Option.some.inj h1
   obtain rfl := hx1 _ rfl
   refine exQ rfl ?_
   exact hE1 _ ⟨[], [], []⟩ (fgk (by kernel_rfl)) ⟨rfl, rfl⟩
end Go.Ev
