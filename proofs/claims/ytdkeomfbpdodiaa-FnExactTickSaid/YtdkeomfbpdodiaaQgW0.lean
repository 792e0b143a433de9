/- The walks of functions: the code comes to the answers that QgD tells. Written by a program of ours. -/
import Derived.Test.YtdkeomfbpdodiaaQgD
set_option linter.all false
set_option maxHeartbeats 4000000
set_option linter.unusedVariables false
set_option maxRecDepth 100000
namespace Go.Ev
abbrev iV (n : Int) : V := .int .i64 n
theorem nl {a b : Nat} (h : Nat.ble a b = true) : a ≤ b := Nat.le_of_ble_eq_true h
theorem t3 : True ∧ True ∧ True := ⟨trivial, trivial, trivial⟩

/- loop.example/g00149/laws.szLeaseS -/
def c55_r0 : List Ins := [⟨some 4, .p (.mv (.c (iV 0))), none⟩]
def c55_r1 : List Ins := [⟨some 5, .p (.mv (.t 1)), none⟩,
⟨some 6, .p (.mv (.t 0)), none⟩,
⟨some 7, .p (.len (.t 6)), none⟩,
⟨some 8, .p (.bin .sub (.t 5) (.t 7)), none⟩,
⟨some 1, .p (.mv (.t 8)), none⟩]
def c55_r2 : List Ins := [⟨some 9, .p (.mv (.t 1)), none⟩,
⟨some 10, .p (.bin .lss (.t 9) (.c (iV 0))), none⟩]
def c55_r3 : List Ins := [⟨some 4, .p (.mv (.c (iV (-1)))), none⟩]
def c55_r4 : List Ins := [⟨some 11, .p (.mv (.t 1)), none⟩,
⟨some 4, .p (.mv (.t 11)), none⟩]
def c55 : XFn := { np := 2, nt := 12, res := [.t 4], body := (.seq (.reg c55_r0) (.seq (.reg c55_r1) (.seq (.seq (.reg c55_r2) (.ite (.t 10) (.seq (.reg c55_r3) .ret) .skip)) (.seq (.reg c55_r4) .ret)))) }
def K55 (C : CRel) : Prop := ∀ (a0 : List DLease) (a1 : Int) (r : Int), g55 a0 a1 = some r → C 55 ⟨[.lst 4 (a0.map eDLease), iV a1], []⟩ ⟨iV r, [], []⟩
theorem F55 {C : CRel}  (a0 : List DLease) (a1 : Int) (r : Int) (h0 : g55 a0 a1 = some r) : FnOK C c55 ⟨[.lst 4 (a0.map eDLease), iV a1], []⟩ ⟨iV r, [], []⟩ := by
 refine fn_ (nl rfl) ?_
 refine seq_ ?_
 refine reg_ ?_
 refine st (mvc_ trivial ?_)
 refine oe_ ?_
 refine wk_ ⟨[(0, .lst 4 (a0.map eDLease)), (1, iV a1)], [], []⟩ (fgk (by kernel_rfl)) ?_
 refine seq_ ?_
 refine reg_ ?_
 refine st (mv_ rfl trivial ?_)
 refine st (mv_ rfl trivial ?_)
 refine st (c_ (clenL (e := eDLease) (l0 := a0) rfl rfl trivial) ?_)
 refine st (c_ (cp_ t3 rfl trivial) ?_)
 refine st (mv_ rfl trivial ?_)
 refine oe_ ?_
 refine wk_ ⟨[(1, iV (IntKind.i64.wrap (a1 - (a0.length : Int))))], [], []⟩ (fgk (by kernel_rfl)) ?_
 refine seq_ ?_
 refine seq_ ?_
 refine reg_ ?_
 refine st (mv_ rfl trivial ?_)
 refine st (c_ (cp_ t3 rfl trivial) ?_)
 refine oe_ ?_
 refine wk_ ⟨[(1, iV (IntKind.i64.wrap (a1 - (a0.length : Int)))), (10, .bool (decide ((IntKind.i64.wrap (a1 - (a0.length : Int))) < 0)))], [], []⟩ (fgk (by kernel_rfl)) ?_
 refine ite_ (cb := (decide ((IntKind.i64.wrap (a1 - (a0.length : Int))) < 0))) rfl (fun c1 => ?_) (fun c1 => ?_)
 ·replace h0 := ip c1 h0
  refine seq_ ?_
  refine reg_ ?_
  refine st (mvc_ trivial ?_)
  refine oe_ ?_
  refine wk_ ⟨[(4, iV (-1))], [], []⟩ (fgk (by kernel_rfl)) ?_
  obtain rfl := Option.some.inj h0
  exact rt_ (ret_ rfl rfl rfl rfl rfl trivial)
 ·replace h0 := inb c1 h0
  refine sk_ ?_
  refine wk_ ⟨[(1, iV (IntKind.i64.wrap (a1 - (a0.length : Int))))], [], []⟩ (fgk (by kernel_rfl)) ?_
  refine seq_ ?_
  refine reg_ ?_
  refine st (mv_ rfl trivial ?_)
  refine st (mv_ rfl trivial ?_)
  refine oe_ ?_
  refine wk_ ⟨[(4, iV (IntKind.i64.wrap (a1 - (a0.length : Int))))], [], []⟩ (fgk (by kernel_rfl)) ?_
  obtain rfl := Option.some.inj h0
  exact rt_ (ret_ rfl rfl rfl rfl rfl trivial)

/- loop.example/g00149/laws.szTable -/
def c17_r0 : List Ins := [⟨some 2, .box (.t 0), none⟩,
⟨some 4, .p (.mv (.c (iV 0))), none⟩]
def c17_r1 : List Ins := [⟨some 5, .p (.fieldA (.t 2) 2), none⟩,
⟨some 6, .p (.load (.t 5) 1 false), none⟩,
⟨some 7, .p (.mv (.t 1)), none⟩,
⟨some 8, .call 55 [(.t 6), (.t 7)], none⟩,
⟨some 1, .p (.mv (.t 8)), none⟩]
def c17_r2 : List Ins := [⟨some 9, .p (.mv (.t 1)), none⟩,
⟨some 10, .p (.bin .lss (.t 9) (.c (iV 0))), none⟩]
def c17_r3 : List Ins := [⟨some 4, .p (.mv (.c (iV (-1)))), none⟩]
def c17_r4 : List Ins := [⟨some 11, .p (.mv (.t 1)), none⟩,
⟨some 4, .p (.mv (.t 11)), none⟩]
def c17 : XFn := { np := 2, nt := 12, res := [.t 4], body := (.seq (.reg c17_r0) (.seq (.reg c17_r1) (.seq (.seq (.reg c17_r2) (.ite (.t 10) (.seq (.reg c17_r3) .ret) .skip)) (.seq (.reg c17_r4) .ret)))) }
def K17 (C : CRel) : Prop := ∀ (a0 : DTable) (a1 : Int) (r : Int), g17 a0 a1 = some r → C 17 ⟨[.agg (eDTable a0), iV a1], []⟩ ⟨iV r, [], []⟩
theorem F17 {C : CRel} (H55 : K55 C) (a0 : DTable) (a1 : Int) (r : Int) (h0 : g17 a0 a1 = some r) : FnOK C c17 ⟨[.agg (eDTable a0), iV a1], []⟩ ⟨iV r, [], []⟩ := by
 refine fn_ (nl rfl) ?_
 refine seq_ ?_
 refine reg_ ?_
 refine st (box_ rfl trivial rfl ?_)
 refine st (mvc_ trivial ?_)
 refine oe_ ?_
 refine wk_ ⟨[(1, iV a1), (2, .ptr 128 0)], [(128, [iV a0.clock, iV a0.next, .lst 4 (a0.list_.map eDLease)])], []⟩ (fgk (by kernel_rfl)) ?_
 refine seq_ ?_
 refine reg_ ?_
 refine st (c_ (cp_ ⟨trivial, trivial⟩ rfl trivial) ?_)
 refine st (c_ (cp_ ⟨trivial, trivial⟩ rfl (nl rfl)) ?_)
 refine st (mv_ rfl trivial ?_)
 obtain ⟨r1, e2, h0⟩ := bnd h0
 refine st (call0_ (r := iV r1) false (H55 a0.list_ a1 r1 e2) ⟨trivial, trivial, trivial⟩ rfl rfl (fun _ => rfl) ?_)
 refine st (mv_ rfl trivial ?_)
 refine oe_ ?_
 refine wk_ ⟨[(1, iV r1)], [], []⟩ (fgk (by kernel_rfl)) ?_
 refine seq_ ?_
 refine seq_ ?_
 refine reg_ ?_
 refine st (mv_ rfl trivial ?_)
 refine st (c_ (cp_ t3 rfl trivial) ?_)
 refine oe_ ?_
 refine wk_ ⟨[(1, iV r1), (10, .bool (decide (r1 < 0)))], [], []⟩ (fgk (by kernel_rfl)) ?_
 refine ite_ (cb := (decide (r1 < 0))) rfl (fun c3 => ?_) (fun c3 => ?_)
 ·replace h0 := ip c3 h0
  refine seq_ ?_
  refine reg_ ?_
  refine st (mvc_ trivial ?_)
  refine oe_ ?_
  refine wk_ ⟨[(4, iV (-1))], [], []⟩ (fgk (by kernel_rfl)) ?_
  obtain rfl := Option.some.inj h0
  exact rt_ (ret_ rfl rfl rfl rfl rfl trivial)
 ·replace h0 := inb c3 h0
  refine sk_ ?_
  refine wk_ ⟨[(1, iV r1)], [], []⟩ (fgk (by kernel_rfl)) ?_
  refine seq_ ?_
  refine reg_ ?_
  refine st (mv_ rfl trivial ?_)
  refine st (mv_ rfl trivial ?_)
  refine oe_ ?_
  refine wk_ ⟨[(4, iV r1)], [], []⟩ (fgk (by kernel_rfl)) ?_
  obtain rfl := Option.some.inj h0
  exact rt_ (ret_ rfl rfl rfl rfl rfl trivial)

/- loop.example/g00149/laws.toLease -/
def c104_r0 : List Ins := [⟨some 1, .box (.t 0), none⟩,
⟨some 2, .alloc [(iV 0), (iV 0), (iV 0), (.bool false)], none⟩]
def c104_r1 : List Ins := [⟨some 3, .alloc [(iV 0), (iV 0), (iV 0), (.bool false)], none⟩]
def c104_r2 : List Ins := [⟨some 4, .p (.fieldA (.t 1) 0), none⟩,
⟨some 5, .p (.load (.t 4) 1 false), none⟩,
⟨some 6, .p (.fieldA (.t 3) 0), none⟩,
⟨none, .store (.t 6) (.t 5) 1, none⟩]
def c104_r3 : List Ins := [⟨some 7, .p (.fieldA (.t 1) 1), none⟩,
⟨some 8, .p (.load (.t 7) 1 false), none⟩,
⟨some 9, .p (.fieldA (.t 3) 1), none⟩,
⟨none, .store (.t 9) (.t 8) 1, none⟩]
def c104_r4 : List Ins := [⟨some 10, .p (.fieldA (.t 1) 2), none⟩,
⟨some 11, .p (.load (.t 10) 1 false), none⟩,
⟨some 12, .p (.fieldA (.t 3) 2), none⟩,
⟨none, .store (.t 12) (.t 11) 1, none⟩]
def c104_r5 : List Ins := [⟨some 13, .p (.fieldA (.t 1) 3), none⟩,
⟨some 14, .p (.load (.t 13) 1 false), none⟩,
⟨some 15, .p (.fieldA (.t 3) 3), none⟩,
⟨none, .store (.t 15) (.t 14) 1, none⟩]
def c104_r6 : List Ins := [⟨some 16, .p (.load (.t 3) 4 true), none⟩,
⟨none, .store (.t 2) (.t 16) 4, none⟩]
def c104 : XFn := { np := 1, nt := 17, res := [.cell 2 4 true], body := (.seq (.reg c104_r0) (.seq (.reg c104_r1) (.seq (.reg c104_r2) (.seq (.reg c104_r3) (.seq (.reg c104_r4) (.seq (.reg c104_r5) (.seq (.reg c104_r6) .ret))))))) }
def K104 (C : CRel) : Prop := ∀ (a0 : DLease) (r : DLease), g104 a0 = some r → C 104 ⟨[.agg (eDLease a0)], []⟩ ⟨.agg (eDLease r), [], []⟩
theorem F104 {C : CRel}  (a0 : DLease) (r : DLease) (h0 : g104 a0 = some r) : FnOK C c104 ⟨[.agg (eDLease a0)], []⟩ ⟨.agg (eDLease r), [], []⟩ := by
 refine fn_ (nl rfl) ?_
 refine seq_ ?_
 refine reg_ ?_
 refine st (box_ rfl trivial rfl ?_)
 refine st (alloc_ ?_)
 refine oe_ ?_
 refine wk_ ⟨[(1, .ptr 64 0), (2, .ptr 128 0)], [(64, [iV a0.id, iV a0.until_, iV a0.cap, .bool a0.queued]), (128, [iV 0, iV 0, iV 0, .bool false])], []⟩ (fgk (by kernel_rfl)) ?_
 refine seq_ ?_
 refine reg_ ?_
 refine st (alloc_ ?_)
 refine oe_ ?_
 refine wk_ ⟨[(1, .ptr 64 0), (2, .ptr 128 0), (3, .ptr 192 0)], [(64, [iV a0.id, iV a0.until_, iV a0.cap, .bool a0.queued]), (128, [iV 0, iV 0, iV 0, .bool false]), (192, [iV 0, iV 0, iV 0, .bool false])], []⟩ (fgk (by kernel_rfl)) ?_
 refine seq_ ?_
 refine reg_ ?_
 refine st (c_ (cp_ ⟨trivial, trivial⟩ rfl trivial) ?_)
 refine st (c_ (cp_ ⟨trivial, trivial⟩ rfl (nl rfl)) ?_)
 refine st (c_ (cp_ ⟨trivial, trivial⟩ rfl trivial) ?_)
 refine st (stp_ rfl rfl trivial rfl rfl rfl (nl rfl) ?_)
 refine oe_ ?_
 refine wk_ ⟨[(1, .ptr 64 0), (2, .ptr 128 0), (3, .ptr 192 0)], [(64, [iV a0.id, iV a0.until_, iV a0.cap, .bool a0.queued]), (128, [iV 0, iV 0, iV 0, .bool false]), (192, [iV a0.id, iV 0, iV 0, .bool false])], []⟩ (fgk (by kernel_rfl)) ?_
 refine seq_ ?_
 refine reg_ ?_
 refine st (c_ (cp_ ⟨trivial, trivial⟩ rfl trivial) ?_)
 refine st (c_ (cp_ ⟨trivial, trivial⟩ rfl (nl rfl)) ?_)
 refine st (c_ (cp_ ⟨trivial, trivial⟩ rfl trivial) ?_)
 refine st (stp_ rfl rfl trivial rfl rfl rfl (nl rfl) ?_)
 refine oe_ ?_
 refine wk_ ⟨[(1, .ptr 64 0), (2, .ptr 128 0), (3, .ptr 192 0)], [(64, [iV a0.id, iV a0.until_, iV a0.cap, .bool a0.queued]), (128, [iV 0, iV 0, iV 0, .bool false]), (192, [iV a0.id, iV a0.until_, iV 0, .bool false])], []⟩ (fgk (by kernel_rfl)) ?_
 refine seq_ ?_
 refine reg_ ?_
 refine st (c_ (cp_ ⟨trivial, trivial⟩ rfl trivial) ?_)
 refine st (c_ (cp_ ⟨trivial, trivial⟩ rfl (nl rfl)) ?_)
 refine st (c_ (cp_ ⟨trivial, trivial⟩ rfl trivial) ?_)
 refine st (stp_ rfl rfl trivial rfl rfl rfl (nl rfl) ?_)
 refine oe_ ?_
 refine wk_ ⟨[(1, .ptr 64 0), (2, .ptr 128 0), (3, .ptr 192 0)], [(64, [iV a0.id, iV a0.until_, iV a0.cap, .bool a0.queued]), (128, [iV 0, iV 0, iV 0, .bool false]), (192, [iV a0.id, iV a0.until_, iV a0.cap, .bool false])], []⟩ (fgk (by kernel_rfl)) ?_
 refine seq_ ?_
 refine reg_ ?_
 refine st (c_ (cp_ ⟨trivial, trivial⟩ rfl trivial) ?_)
 refine st (c_ (cp_ ⟨trivial, trivial⟩ rfl (nl rfl)) ?_)
 refine st (c_ (cp_ ⟨trivial, trivial⟩ rfl trivial) ?_)
 refine st (stp_ rfl rfl trivial rfl rfl rfl (nl rfl) ?_)
 refine oe_ ?_
 refine wk_ ⟨[(2, .ptr 128 0), (3, .ptr 192 0)], [(128, [iV 0, iV 0, iV 0, .bool false]), (192, [iV a0.id, iV a0.until_, iV a0.cap, .bool a0.queued])], []⟩ (fgk (by kernel_rfl)) ?_
 refine seq_ ?_
 refine reg_ ?_
 refine st (c_ (v := .agg (eDLease a0)) (cp_ ⟨trivial, trivial⟩ rfl (nl rfl)) ?_)
 refine st (stp_ rfl rfl trivial rfl rfl rfl (nl rfl) ?_)
 refine oe_ ?_
 refine wk_ ⟨[(2, .ptr 128 0)], [(128, [iV a0.id, iV a0.until_, iV a0.cap, .bool a0.queued])], []⟩ (fgk (by kernel_rfl)) ?_
 obtain rfl := Option.some.inj h0
 exact rt_ (ret_ rfl rfl rfl rfl rfl trivial)

/- loop.example/g00149/laws.toLeaseS -/
def c57_r0 : List Ins := [⟨some 2, .nilS 4, none⟩]
def c57_r1 : List Ins := [⟨some 5, .p (.mv (.t 0)), none⟩,
⟨some 6, .p (.len (.t 5)), none⟩,
⟨some 7, .make 4 32 [(iV 0), (iV 0), (iV 0), (.bool false)] (.t 6) (.t 6), none⟩,
⟨some 3, .p (.mv (.t 7)), none⟩]
def c57_r2 : List Ins := [⟨some 4, .p (.mv (.c (iV 0))), none⟩]
def c57_r3 : List Ins := [⟨some 8, .p (.mv (.t 4)), none⟩,
⟨some 9, .p (.mv (.t 0)), none⟩,
⟨some 10, .p (.len (.t 9)), none⟩,
⟨some 11, .p (.bin .lss (.t 8) (.t 10)), none⟩]
def c57_r4 : List Ins := [⟨some 14, .p (.mv (.t 3)), none⟩,
⟨some 15, .p (.mv (.t 4)), none⟩,
⟨some 16, .p (.mv (.t 0)), none⟩,
⟨some 17, .p (.mv (.t 4)), none⟩,
⟨some 18, .p (.idxA (.t 16) (.t 17) 4), none⟩,
⟨some 19, .p (.load (.t 18) 4 true), none⟩,
⟨some 20, .call 104 [(.t 19)], none⟩,
⟨some 21, .p (.idxA (.t 14) (.t 15) 4), none⟩,
⟨none, .store (.t 21) (.t 20) 4, none⟩]
def c57_r5 : List Ins := [⟨some 12, .p (.mv (.t 4)), none⟩,
⟨some 13, .p (.bin .add (.t 12) (.c (iV 1))), none⟩,
⟨some 4, .p (.mv (.t 13)), none⟩]
def c57_l0 : IR := (.seq (.seq (.reg c57_r3) (.ite (.t 11) .skip (.exit 0))) (.seq (.block 1 (.reg c57_r4)) (.reg c57_r5)))
def c57_r6 : List Ins := [⟨some 22, .p (.mv (.t 3)), none⟩,
⟨some 2, .p (.mv (.t 22)), none⟩]
def c57 : XFn := { np := 1, nt := 23, res := [.t 2], body := (.seq (.reg c57_r0) (.seq (.reg c57_r1) (.seq (.seq (.reg c57_r2) (.block 0 (.loop c57_l0))) (.seq (.reg c57_r6) .ret)))) }
def K57 (C : CRel) : Prop := ∀ (a0 : List DLease) (r : (List DLease)), g57 a0 = some r → C 57 ⟨[.lst 4 (a0.map eDLease)], []⟩ ⟨.own 0 0 4 (r.map eDLease), [], []⟩
theorem F57 {C : CRel} (H104 : K104 C) (a0 : List DLease) (r : (List DLease)) (h0 : g57 a0 = some r) : FnOK C c57 ⟨[.lst 4 (a0.map eDLease)], []⟩ ⟨.own 0 0 4 (r.map eDLease), [], []⟩ := by
 refine fn_ (nl rfl) ?_
 refine seq_ ?_
 refine reg_ ?_
 refine st (nilS_ ?_)
 refine oe_ ?_
 refine wk_ ⟨[(0, .lst 4 (a0.map eDLease))], [], []⟩ (fgk (by kernel_rfl)) ?_
 refine seq_ ?_
 refine reg_ ?_
 refine st (mv_ rfl trivial ?_)
 refine st (c_ (clenL (e := eDLease) (l0 := a0) rfl rfl trivial) ?_)
 obtain ⟨c1, h0⟩ := grd h0
 obtain ⟨c2, h0⟩ := grd h0
 refine st (make_ (e := eDLease) (DLease.mk 0 0 0 false) rfl rfl c1 rfl c2 rfl ?_)
 refine st (mv_ rfl trivial ?_)
 refine oe_ ?_
 refine wk_ ⟨[(0, .lst 4 (a0.map eDLease)), (3, .own 448 0 4 ((List.replicate (a0.length : Int).toNat (DLease.mk 0 0 0 false)).map eDLease))], [], []⟩ (fgk (by kernel_rfl)) ?_
 refine seq_ ?_
 refine seq_ ?_
 refine reg_ ?_
 refine st (mvc_ trivial ?_)
 refine oe_ ?_
 refine wk_ ⟨[(0, .lst 4 (a0.map eDLease)), (3, .own 448 0 4 ((List.replicate (a0.length : Int).toNat (DLease.mk 0 0 0 false)).map eDLease)), (4, iV 0)], [], []⟩ (fgk (by kernel_rfl)) ?_
 refine block_ ?_
 obtain ⟨r35, e36, h0⟩ := bnd h0
 refine loop_ (R := (fun S => ∃ p25 : List DLease, p25 = r35 ∧ S = ⟨[(3, .own 448 0 4 (p25.map eDLease))], [], []⟩)) (g57_l0 a0) (fun s S => match s with | (p12, p13) => S = ⟨[(0, .lst 4 (a0.map eDLease)), (3, .own 448 0 4 (p12.map eDLease)), (4, iV p13)], [], []⟩) e36 ⟨[(0, .lst 4 (a0.map eDLease)), (3, .own 448 0 4 ((List.replicate (a0.length : Int).toNat (DLease.mk 0 0 0 false)).map eDLease)), (4, iV 0)], [], []⟩ (fgk (by kernel_rfl)) rfl 0 (fun _ => rfl) ?_ ?_
 ·rintro S _ hfg ⟨p25, rfl, rfl⟩
  refine wk_ ⟨[(3, .own 448 0 4 (p25.map eDLease))], [], []⟩ (fglk hfg (by kernel_rfl)) ?_
  refine seq_ ?_
  refine reg_ ?_
  refine st (mv_ rfl trivial ?_)
  refine st (mv_ rfl trivial ?_)
  refine oe_ ?_
  refine wk_ ⟨[(2, .own 448 0 4 (p25.map eDLease))], [], []⟩ (fgk (by kernel_rfl)) ?_
  obtain rfl := Option.some.inj h0
  exact rt_ (ret_ rfl rfl rfl rfl rfl trivial)
 ·rintro ⟨p12, p13⟩ o1 _ K1 rfl h1 hx1 hK1 hE1 hR1
  refine seq_ ?_
  refine seq_ ?_
  refine reg_ ?_
  refine st (mv_ rfl trivial ?_)
  refine st (mv_ rfl trivial ?_)
  refine st (c_ (clenL (e := eDLease) (l0 := a0) rfl rfl trivial) ?_)
  refine st (c_ (cp_ t3 rfl trivial) ?_)
  refine oe_ ?_
  refine wk_ ⟨[(0, .lst 4 (a0.map eDLease)), (3, .own 448 0 4 (p12.map eDLease)), (4, iV p13), (11, .bool (decide (p13 < (a0.length : Int))))], [], []⟩ (fgk (by kernel_rfl)) ?_
  refine ite_ (cb := (decide (p13 < (a0.length : Int)))) rfl (fun c26 => ?_) (fun c26 => ?_)
  ·replace h1 := ip c26 h1
   refine sk_ ?_
   refine wk_ ⟨[(0, .lst 4 (a0.map eDLease)), (3, .own 448 0 4 (p12.map eDLease)), (4, iV p13)], [], []⟩ (fgk (by kernel_rfl)) ?_
   refine seq_ ?_
   refine block_ ?_
   refine reg_ ?_
   refine st (mv_ rfl trivial ?_)
   refine st (mv_ rfl trivial ?_)
   refine st (mv_ rfl trivial ?_)
   refine st (mv_ rfl trivial ?_)
   obtain ⟨y27, e28, h1⟩ := bnd h1
   refine st (c_ (cidxL (e := eDLease) (y := y27) rfl rfl trivial rfl rfl trivial e28) ?_)
   refine st (c_ (v := .agg (eDLease y27)) (cp_ ⟨trivial, trivial⟩ rfl (nl rfl)) ?_)
   obtain ⟨r29, e30, h1⟩ := bnd h1
   refine st (call0_ (r := .agg (eDLease r29)) false (H104 y27 r29 e30) ⟨trivial, trivial⟩ rfl rfl (fun _ => rfl) ?_)
   obtain ⟨y31, e32, h1⟩ := bnd h1
   refine st (c_ (cidxO (e := eDLease) (y := y31) rfl rfl trivial rfl rfl trivial e32) ?_)
   obtain ⟨y33, e34, h1⟩ := bnd h1
   refine st (sto_ (y' := r29) rfl rfl trivial rfl rfl rfl rfl e34 (nl rfl) rfl rfl rfl rfl ?_)
   refine oe_ ?_
   refine bn_ ?_
   refine wk_ ⟨[(0, .lst 4 (a0.map eDLease)), (3, .own 448 0 4 ((p12.set p13.toNat r29).map eDLease)), (4, iV p13)], [], []⟩ (fg ⟨rfl, (congrArg (fun z => some ((.own 448 0 4 z : V))) overlay_map), rfl, trivial⟩ trivial) ?_
   refine reg_ ?_
   refine st (mv_ rfl trivial ?_)
   refine st (c_ (cp_ t3 rfl trivial) ?_)
   refine st (mv_ rfl trivial ?_)
   refine oe_ ?_
   obtain rfl := Option.some.inj h1
   exact hK1 _ rfl _ ⟨[(0, .lst 4 (a0.map eDLease)), (3, .own 448 0 4 ((p12.set p13.toNat r29).map eDLease)), (4, iV (IntKind.i64.wrap (p13 + 1)))], [], []⟩ (fgk (by kernel_rfl)) rfl
  ·replace h1 := inb c26 h1
   obtain rfl := Option.some.inj h1
   obtain rfl := hx1 _ rfl
   refine exQ rfl ?_
   exact hE1 _ ⟨[(3, .own 448 0 4 (p12.map eDLease))], [], []⟩ (fgk (by kernel_rfl)) ⟨_, rfl, rfl⟩

/- loop.example/g00149/laws.toTable -/
def c19_r0 : List Ins := [⟨some 1, .box (.t 0), none⟩,
⟨some 2, .alloc [(iV 0), (iV 0), (.own 131 0 4 [])], none⟩]
def c19_r1 : List Ins := [⟨some 3, .alloc [(iV 0), (iV 0), (.own 195 0 4 [])], none⟩]
def c19_r2 : List Ins := [⟨some 4, .p (.fieldA (.t 1) 0), none⟩,
⟨some 5, .p (.load (.t 4) 1 false), none⟩,
⟨some 6, .p (.fieldA (.t 3) 0), none⟩,
⟨none, .store (.t 6) (.t 5) 1, none⟩]
def c19_r3 : List Ins := [⟨some 7, .p (.fieldA (.t 1) 1), none⟩,
⟨some 8, .p (.load (.t 7) 1 false), none⟩,
⟨some 9, .p (.fieldA (.t 3) 1), none⟩,
⟨none, .store (.t 9) (.t 8) 1, none⟩]
def c19_r4 : List Ins := [⟨some 10, .p (.fieldA (.t 1) 2), none⟩,
⟨some 11, .p (.load (.t 10) 1 false), none⟩,
⟨some 12, .call 57 [(.t 11)], none⟩,
⟨some 13, .p (.fieldA (.t 3) 2), none⟩,
⟨none, .store (.t 13) (.t 12) 1, none⟩]
def c19_r5 : List Ins := [⟨some 14, .p (.load (.t 3) 3 true), none⟩,
⟨none, .store (.t 2) (.t 14) 3, none⟩]
def c19 : XFn := { np := 1, nt := 15, res := [.cell 2 3 true], body := (.seq (.reg c19_r0) (.seq (.reg c19_r1) (.seq (.reg c19_r2) (.seq (.reg c19_r3) (.seq (.reg c19_r4) (.seq (.reg c19_r5) .ret)))))) }
def K19 (C : CRel) : Prop := ∀ (a0 : DTable) (r : DTable), g19 a0 = some r → C 19 ⟨[.agg (eDTable a0)], []⟩ ⟨.agg [iV r.clock, iV r.next, .own 0 0 4 (r.list_.map eDLease)], [], []⟩
theorem F19 {C : CRel} (H57 : K57 C) (a0 : DTable) (r : DTable) (h0 : g19 a0 = some r) : FnOK C c19 ⟨[.agg (eDTable a0)], []⟩ ⟨.agg [iV r.clock, iV r.next, .own 0 0 4 (r.list_.map eDLease)], [], []⟩ := by
 refine fn_ (nl rfl) ?_
 refine seq_ ?_
 refine reg_ ?_
 refine st (box_ rfl trivial rfl ?_)
 refine st (alloc_ ?_)
 refine oe_ ?_
 refine wk_ ⟨[(1, .ptr 64 0), (2, .ptr 128 0)], [(64, [iV a0.clock, iV a0.next, .lst 4 (a0.list_.map eDLease)]), (128, [iV 0, iV 0, .own 131 0 4 (([] : List DLease).map eDLease)])], []⟩ (fgk (by kernel_rfl)) ?_
 refine seq_ ?_
 refine reg_ ?_
 refine st (alloc_ ?_)
 refine oe_ ?_
 refine wk_ ⟨[(1, .ptr 64 0), (2, .ptr 128 0), (3, .ptr 192 0)], [(64, [iV a0.clock, iV a0.next, .lst 4 (a0.list_.map eDLease)]), (128, [iV 0, iV 0, .own 131 0 4 (([] : List DLease).map eDLease)]), (192, [iV 0, iV 0, .own 195 0 4 (([] : List DLease).map eDLease)])], []⟩ (fgk (by kernel_rfl)) ?_
 refine seq_ ?_
 refine reg_ ?_
 refine st (c_ (cp_ ⟨trivial, trivial⟩ rfl trivial) ?_)
 refine st (c_ (cp_ ⟨trivial, trivial⟩ rfl (nl rfl)) ?_)
 refine st (c_ (cp_ ⟨trivial, trivial⟩ rfl trivial) ?_)
 refine st (stp_ rfl rfl trivial rfl rfl rfl (nl rfl) ?_)
 refine oe_ ?_
 refine wk_ ⟨[(1, .ptr 64 0), (2, .ptr 128 0), (3, .ptr 192 0)], [(64, [iV a0.clock, iV a0.next, .lst 4 (a0.list_.map eDLease)]), (128, [iV 0, iV 0, .own 131 0 4 (([] : List DLease).map eDLease)]), (192, [iV a0.clock, iV 0, .own 195 0 4 (([] : List DLease).map eDLease)])], []⟩ (fgk (by kernel_rfl)) ?_
 refine seq_ ?_
 refine reg_ ?_
 refine st (c_ (cp_ ⟨trivial, trivial⟩ rfl trivial) ?_)
 refine st (c_ (cp_ ⟨trivial, trivial⟩ rfl (nl rfl)) ?_)
 refine st (c_ (cp_ ⟨trivial, trivial⟩ rfl trivial) ?_)
 refine st (stp_ rfl rfl trivial rfl rfl rfl (nl rfl) ?_)
 refine oe_ ?_
 refine wk_ ⟨[(1, .ptr 64 0), (2, .ptr 128 0), (3, .ptr 192 0)], [(64, [iV a0.clock, iV a0.next, .lst 4 (a0.list_.map eDLease)]), (128, [iV 0, iV 0, .own 131 0 4 (([] : List DLease).map eDLease)]), (192, [iV a0.clock, iV a0.next, .own 195 0 4 (([] : List DLease).map eDLease)])], []⟩ (fgk (by kernel_rfl)) ?_
 refine seq_ ?_
 refine reg_ ?_
 refine st (c_ (cp_ ⟨trivial, trivial⟩ rfl trivial) ?_)
 refine st (c_ (cp_ ⟨trivial, trivial⟩ rfl (nl rfl)) ?_)
 obtain ⟨r1, e2, h0⟩ := bnd h0
 refine st (call0_ (r := .own 0 0 4 (r1.map eDLease)) false (H57 a0.list_ r1 e2) ⟨trivial, trivial⟩ rfl rfl (fun _ => (and_ (fl1 (fun _ => rfl)) rfl)) ?_)
 refine st (c_ (cp_ ⟨trivial, trivial⟩ rfl trivial) ?_)
 refine st (stp_ rfl rfl trivial rfl rfl rfl (nl rfl) ?_)
 refine oe_ ?_
 refine wk_ ⟨[(2, .ptr 128 0), (3, .ptr 192 0)], [(128, [iV 0, iV 0, .own 131 0 4 (([] : List DLease).map eDLease)]), (192, [iV a0.clock, iV a0.next, .own 768 0 4 (r1.map eDLease)])], []⟩ (fgk (by kernel_rfl)) ?_
 refine seq_ ?_
 refine reg_ ?_
 refine st (c_ (v := .agg [iV a0.clock, iV a0.next, .own 768 0 4 (r1.map eDLease)]) (cp_ ⟨trivial, trivial⟩ rfl (nl rfl)) ?_)
 refine st (stp_ rfl rfl trivial rfl rfl rfl (nl rfl) ?_)
 refine oe_ ?_
 refine wk_ ⟨[(2, .ptr 128 0)], [(128, [iV a0.clock, iV a0.next, .own 768 0 4 (r1.map eDLease)])], []⟩ (fgk (by kernel_rfl)) ?_
 obtain rfl := Option.some.inj h0
 exact rt_ (ret_ rfl rfl rfl rfl rfl trivial)

/- loop.example/g00149/laws.eqLease -/
def c107_r0 : List Ins := [⟨some 2, .box (.t 0), none⟩,
⟨some 3, .box (.t 1), none⟩,
⟨some 4, .p (.mv (.c (.bool false))), none⟩]
def c107_r1 : List Ins := [⟨some 5, .p (.fieldA (.t 2) 0), none⟩,
⟨some 6, .p (.load (.t 5) 1 false), none⟩,
⟨some 7, .p (.fieldA (.t 3) 0), none⟩,
⟨some 8, .p (.load (.t 7) 1 false), none⟩,
⟨some 9, .p (.bin .neq (.t 6) (.t 8)), none⟩]
def c107_r2 : List Ins := [⟨some 4, .p (.mv (.c (.bool false))), none⟩]
def c107_r3 : List Ins := [⟨some 10, .p (.fieldA (.t 2) 1), none⟩,
⟨some 11, .p (.load (.t 10) 1 false), none⟩,
⟨some 12, .p (.fieldA (.t 3) 1), none⟩,
⟨some 13, .p (.load (.t 12) 1 false), none⟩,
⟨some 14, .p (.bin .neq (.t 11) (.t 13)), none⟩]
def c107_r4 : List Ins := [⟨some 4, .p (.mv (.c (.bool false))), none⟩]
def c107_r5 : List Ins := [⟨some 15, .p (.fieldA (.t 2) 2), none⟩,
⟨some 16, .p (.load (.t 15) 1 false), none⟩,
⟨some 17, .p (.fieldA (.t 3) 2), none⟩,
⟨some 18, .p (.load (.t 17) 1 false), none⟩,
⟨some 19, .p (.bin .neq (.t 16) (.t 18)), none⟩]
def c107_r6 : List Ins := [⟨some 4, .p (.mv (.c (.bool false))), none⟩]
def c107_r7 : List Ins := [⟨some 20, .p (.fieldA (.t 2) 3), none⟩,
⟨some 21, .p (.load (.t 20) 1 false), none⟩,
⟨some 22, .p (.fieldA (.t 3) 3), none⟩,
⟨some 23, .p (.load (.t 22) 1 false), none⟩,
⟨some 24, .p (.binB .neq (.t 21) (.t 23)), none⟩]
def c107_r8 : List Ins := [⟨some 4, .p (.mv (.c (.bool false))), none⟩]
def c107_r9 : List Ins := [⟨some 4, .p (.mv (.c (.bool true))), none⟩]
def c107 : XFn := { np := 2, nt := 25, res := [.t 4], body := (.seq (.reg c107_r0) (.seq (.seq (.reg c107_r1) (.ite (.t 9) (.seq (.reg c107_r2) .ret) .skip)) (.seq (.seq (.reg c107_r3) (.ite (.t 14) (.seq (.reg c107_r4) .ret) .skip)) (.seq (.seq (.reg c107_r5) (.ite (.t 19) (.seq (.reg c107_r6) .ret) .skip)) (.seq (.seq (.reg c107_r7) (.ite (.t 24) (.seq (.reg c107_r8) .ret) .skip)) (.seq (.reg c107_r9) .ret)))))) }
def K107 (C : CRel) : Prop := ∀ (a0 : DLease) (a1 : DLease) (r : Bool), g107 a0 a1 = some r → C 107 ⟨[.agg (eDLease a0), .agg (eDLease a1)], []⟩ ⟨.bool r, [], []⟩
theorem F107 {C : CRel}  (a0 : DLease) (a1 : DLease) (r : Bool) (h0 : g107 a0 a1 = some r) : FnOK C c107 ⟨[.agg (eDLease a0), .agg (eDLease a1)], []⟩ ⟨.bool r, [], []⟩ := by
 refine fn_ (nl rfl) ?_
 refine seq_ ?_
 refine reg_ ?_
 refine st (box_ rfl trivial rfl ?_)
 refine st (box_ rfl trivial rfl ?_)
 refine st (mvc_ trivial ?_)
 refine oe_ ?_
 refine wk_ ⟨[(2, .ptr 128 0), (3, .ptr 192 0)], [(128, [iV a0.id, iV a0.until_, iV a0.cap, .bool a0.queued]), (192, [iV a1.id, iV a1.until_, iV a1.cap, .bool a1.queued])], []⟩ (fgk (by kernel_rfl)) ?_
 refine seq_ ?_
 refine seq_ ?_
 refine reg_ ?_
 refine st (c_ (cp_ ⟨trivial, trivial⟩ rfl trivial) ?_)
 refine st (c_ (cp_ ⟨trivial, trivial⟩ rfl (nl rfl)) ?_)
 refine st (c_ (cp_ ⟨trivial, trivial⟩ rfl trivial) ?_)
 refine st (c_ (cp_ ⟨trivial, trivial⟩ rfl (nl rfl)) ?_)
 refine st (c_ (cp_ t3 rfl trivial) ?_)
 refine oe_ ?_
 refine wk_ ⟨[(2, .ptr 128 0), (3, .ptr 192 0), (9, .bool (a0.id != a1.id))], [(128, [iV a0.id, iV a0.until_, iV a0.cap, .bool a0.queued]), (192, [iV a1.id, iV a1.until_, iV a1.cap, .bool a1.queued])], []⟩ (fgk (by kernel_rfl)) ?_
 refine ite_ (cb := (a0.id != a1.id)) rfl (fun c1 => ?_) (fun c1 => ?_)
 ·replace h0 := ip c1 h0
  refine seq_ ?_
  refine reg_ ?_
  refine st (mvc_ trivial ?_)
  refine oe_ ?_
  refine wk_ ⟨[(4, .bool false)], [], []⟩ (fgk (by kernel_rfl)) ?_
  obtain rfl := Option.some.inj h0
  exact rt_ (ret_ rfl rfl rfl rfl rfl trivial)
 ·replace h0 := inb c1 h0
  refine sk_ ?_
  refine wk_ ⟨[(2, .ptr 128 0), (3, .ptr 192 0)], [(128, [iV a0.id, iV a0.until_, iV a0.cap, .bool a0.queued]), (192, [iV a1.id, iV a1.until_, iV a1.cap, .bool a1.queued])], []⟩ (fgk (by kernel_rfl)) ?_
  refine seq_ ?_
  refine seq_ ?_
  refine reg_ ?_
  refine st (c_ (cp_ ⟨trivial, trivial⟩ rfl trivial) ?_)
  refine st (c_ (cp_ ⟨trivial, trivial⟩ rfl (nl rfl)) ?_)
  refine st (c_ (cp_ ⟨trivial, trivial⟩ rfl trivial) ?_)
  refine st (c_ (cp_ ⟨trivial, trivial⟩ rfl (nl rfl)) ?_)
  refine st (c_ (cp_ t3 rfl trivial) ?_)
  refine oe_ ?_
  refine wk_ ⟨[(2, .ptr 128 0), (3, .ptr 192 0), (14, .bool (a0.until_ != a1.until_))], [(128, [iV a0.id, iV a0.until_, iV a0.cap, .bool a0.queued]), (192, [iV a1.id, iV a1.until_, iV a1.cap, .bool a1.queued])], []⟩ (fgk (by kernel_rfl)) ?_
  refine ite_ (cb := (a0.until_ != a1.until_)) rfl (fun c2 => ?_) (fun c2 => ?_)
  ·replace h0 := ip c2 h0
   refine seq_ ?_
   refine reg_ ?_
   refine st (mvc_ trivial ?_)
   refine oe_ ?_
   refine wk_ ⟨[(4, .bool false)], [], []⟩ (fgk (by kernel_rfl)) ?_
   obtain rfl := Option.some.inj h0
   exact rt_ (ret_ rfl rfl rfl rfl rfl trivial)
  ·replace h0 := inb c2 h0
   refine sk_ ?_
   refine wk_ ⟨[(2, .ptr 128 0), (3, .ptr 192 0)], [(128, [iV a0.id, iV a0.until_, iV a0.cap, .bool a0.queued]), (192, [iV a1.id, iV a1.until_, iV a1.cap, .bool a1.queued])], []⟩ (fgk (by kernel_rfl)) ?_
   refine seq_ ?_
   refine seq_ ?_
   refine reg_ ?_
   refine st (c_ (cp_ ⟨trivial, trivial⟩ rfl trivial) ?_)
   refine st (c_ (cp_ ⟨trivial, trivial⟩ rfl (nl rfl)) ?_)
   refine st (c_ (cp_ ⟨trivial, trivial⟩ rfl trivial) ?_)
   refine st (c_ (cp_ ⟨trivial, trivial⟩ rfl (nl rfl)) ?_)
   refine st (c_ (cp_ t3 rfl trivial) ?_)
   refine oe_ ?_
   refine wk_ ⟨[(2, .ptr 128 0), (3, .ptr 192 0), (19, .bool (a0.cap != a1.cap))], [(128, [iV a0.id, iV a0.until_, iV a0.cap, .bool a0.queued]), (192, [iV a1.id, iV a1.until_, iV a1.cap, .bool a1.queued])], []⟩ (fgk (by kernel_rfl)) ?_
   refine ite_ (cb := (a0.cap != a1.cap)) rfl (fun c3 => ?_) (fun c3 => ?_)
   ·replace h0 := ip c3 h0
    refine seq_ ?_
    refine reg_ ?_
    refine st (mvc_ trivial ?_)
    refine oe_ ?_
    refine wk_ ⟨[(4, .bool false)], [], []⟩ (fgk (by kernel_rfl)) ?_
    obtain rfl := Option.some.inj h0
    exact rt_ (ret_ rfl rfl rfl rfl rfl trivial)
   ·replace h0 := inb c3 h0
    refine sk_ ?_
    refine wk_ ⟨[(2, .ptr 128 0), (3, .ptr 192 0)], [(128, [iV a0.id, iV a0.until_, iV a0.cap, .bool a0.queued]), (192, [iV a1.id, iV a1.until_, iV a1.cap, .bool a1.queued])], []⟩ (fgk (by kernel_rfl)) ?_
    refine seq_ ?_
    refine seq_ ?_
    refine reg_ ?_
    refine st (c_ (cp_ ⟨trivial, trivial⟩ rfl trivial) ?_)
    refine st (c_ (cp_ ⟨trivial, trivial⟩ rfl (nl rfl)) ?_)
    refine st (c_ (cp_ ⟨trivial, trivial⟩ rfl trivial) ?_)
    refine st (c_ (cp_ ⟨trivial, trivial⟩ rfl (nl rfl)) ?_)
    refine st (c_ (cp_ t3 rfl trivial) ?_)
    refine oe_ ?_
    refine wk_ ⟨[(24, .bool (!(a0.queued == a1.queued)))], [], []⟩ (fgk (by kernel_rfl)) ?_
    refine ite_ (cb := (!(a0.queued == a1.queued))) rfl (fun c4 => ?_) (fun c4 => ?_)
    ·replace h0 := ip c4 h0
     refine seq_ ?_
     refine reg_ ?_
     refine st (mvc_ trivial ?_)
     refine oe_ ?_
     refine wk_ ⟨[(4, .bool false)], [], []⟩ (fgk (by kernel_rfl)) ?_
     obtain rfl := Option.some.inj h0
     exact rt_ (ret_ rfl rfl rfl rfl rfl trivial)
    ·replace h0 := inb c4 h0
     refine sk_ ?_
     refine wk_ ⟨[], [], []⟩ (fgk (by kernel_rfl)) ?_
     refine seq_ ?_
     refine reg_ ?_
     refine st (mvc_ trivial ?_)
     refine oe_ ?_
     refine wk_ ⟨[(4, .bool true)], [], []⟩ (fgk (by kernel_rfl)) ?_
     obtain rfl := Option.some.inj h0
     exact rt_ (ret_ rfl rfl rfl rfl rfl trivial)

/- loop.example/g00149/laws.eqLeaseS -/
def c64_r0 : List Ins := [⟨some 4, .p (.mv (.c (.bool false))), none⟩]
def c64_r1 : List Ins := [⟨some 6, .p (.mv (.t 0)), none⟩,
⟨some 7, .p (.len (.t 6)), none⟩,
⟨some 8, .p (.mv (.t 1)), none⟩,
⟨some 9, .p (.len (.t 8)), none⟩,
⟨some 10, .p (.bin .neq (.t 7) (.t 9)), none⟩]
def c64_r2 : List Ins := [⟨some 4, .p (.mv (.c (.bool false))), none⟩]
def c64_r3 : List Ins := [⟨some 5, .p (.mv (.c (iV 0))), none⟩]
def c64_r4 : List Ins := [⟨some 11, .p (.mv (.t 5)), none⟩,
⟨some 12, .p (.mv (.t 0)), none⟩,
⟨some 13, .p (.len (.t 12)), none⟩,
⟨some 14, .p (.bin .lss (.t 11) (.t 13)), none⟩]
def c64_r5 : DP := (.take ⟨some 17, .p (.mv (.t 0)), none⟩
(.take ⟨some 18, .p (.mv (.t 5)), none⟩
(.take ⟨some 19, .p (.idxA (.t 17) (.t 18) 4), none⟩
(.take ⟨some 20, .p (.load (.t 19) 4 true), none⟩
(.take ⟨some 21, .p (.mv (.t 1)), none⟩
(.take ⟨some 22, .p (.mv (.t 5)), none⟩
(.take ⟨some 23, .p (.idxA (.t 21) (.t 22) 4), none⟩
(.take ⟨some 24, .p (.load (.t 23) 4 true), none⟩
(.alt [] ⟨some 25, .call 107 [(.t 20), (.t 24)], none⟩
(.take ⟨some 26, .p (.un .not (.t 25)), none⟩
.fin)
.stop)))))))))
def c64_r6 : List Ins := [⟨some 4, .p (.mv (.c (.bool false))), none⟩]
def c64_r7 : List Ins := [⟨some 15, .p (.mv (.t 5)), none⟩,
⟨some 16, .p (.bin .add (.t 15) (.c (iV 1))), none⟩,
⟨some 5, .p (.mv (.t 16)), none⟩]
def c64_l0 : IR := (.seq (.seq (.reg c64_r4) (.ite (.t 14) .skip (.exit 0))) (.seq (.block 1 (.seq (.draw c64_r5) (.ite (.t 26) (.seq (.reg c64_r6) .ret) .skip))) (.reg c64_r7)))
def c64_r8 : List Ins := [⟨some 4, .p (.mv (.c (.bool true))), none⟩]
def c64 : XFn := { np := 2, nt := 27, res := [.t 4], body := (.seq (.reg c64_r0) (.seq (.seq (.reg c64_r1) (.ite (.t 10) (.seq (.reg c64_r2) .ret) .skip)) (.seq (.seq (.reg c64_r3) (.block 0 (.loop c64_l0))) (.seq (.reg c64_r8) .ret)))) }
def K64 (C : CRel) : Prop := ∀ (a0 : List DLease) (a1 : List DLease) (r : Bool), g64 a0 a1 = some r → C 64 ⟨[.lst 4 (a0.map eDLease), .lst 4 (a1.map eDLease)], []⟩ ⟨.bool r, [], []⟩
theorem F64 {C : CRel} (H107 : K107 C) (a0 : List DLease) (a1 : List DLease) (r : Bool) (h0 : g64 a0 a1 = some r) : FnOK C c64 ⟨[.lst 4 (a0.map eDLease), .lst 4 (a1.map eDLease)], []⟩ ⟨.bool r, [], []⟩ := by
 refine fn_ (nl rfl) ?_
 refine seq_ ?_
 refine reg_ ?_
 refine st (mvc_ trivial ?_)
 refine oe_ ?_
 refine wk_ ⟨[(0, .lst 4 (a0.map eDLease)), (1, .lst 4 (a1.map eDLease))], [], []⟩ (fgk (by kernel_rfl)) ?_
 refine seq_ ?_
 refine seq_ ?_
 refine reg_ ?_
 refine st (mv_ rfl trivial ?_)
 refine st (c_ (clenL (e := eDLease) (l0 := a0) rfl rfl trivial) ?_)
 refine st (mv_ rfl trivial ?_)
 refine st (c_ (clenL (e := eDLease) (l0 := a1) rfl rfl trivial) ?_)
 refine st (c_ (cp_ t3 rfl trivial) ?_)
 refine oe_ ?_
 refine wk_ ⟨[(0, .lst 4 (a0.map eDLease)), (1, .lst 4 (a1.map eDLease)), (10, .bool ((a0.length : Int) != (a1.length : Int)))], [], []⟩ (fgk (by kernel_rfl)) ?_
 refine ite_ (cb := ((a0.length : Int) != (a1.length : Int))) rfl (fun c1 => ?_) (fun c1 => ?_)
 ·replace h0 := ip c1 h0
  refine seq_ ?_
  refine reg_ ?_
  refine st (mvc_ trivial ?_)
  refine oe_ ?_
  refine wk_ ⟨[(4, .bool false)], [], []⟩ (fgk (by kernel_rfl)) ?_
  obtain rfl := Option.some.inj h0
  exact rt_ (ret_ rfl rfl rfl rfl rfl trivial)
 ·replace h0 := inb c1 h0
  refine sk_ ?_
  refine wk_ ⟨[(0, .lst 4 (a0.map eDLease)), (1, .lst 4 (a1.map eDLease))], [], []⟩ (fgk (by kernel_rfl)) ?_
  refine seq_ ?_
  refine seq_ ?_
  refine reg_ ?_
  refine st (mvc_ trivial ?_)
  refine oe_ ?_
  refine wk_ ⟨[(0, .lst 4 (a0.map eDLease)), (1, .lst 4 (a1.map eDLease)), (5, iV 0)], [], []⟩ (fgk (by kernel_rfl)) ?_
  refine block_ ?_
  obtain ⟨r28, e29, h0⟩ := bnd h0
  refine loop_ (R := (fun S => .inl () = r28 ∧ S = ⟨[], [], []⟩)) (g64_l0 a0 a1) (fun s S => match s with | p10 => S = ⟨[(0, .lst 4 (a0.map eDLease)), (1, .lst 4 (a1.map eDLease)), (5, iV p10)], [], []⟩) e29 ⟨[(0, .lst 4 (a0.map eDLease)), (1, .lst 4 (a1.map eDLease)), (5, iV 0)], [], []⟩ (fgk (by kernel_rfl)) rfl 0 (fun _ => rfl) ?_ ?_
  ·rintro S _ hfg ⟨rfl, rfl⟩
   refine wk_ ⟨[], [], []⟩ (fglk hfg (by kernel_rfl)) ?_
   refine seq_ ?_
   refine reg_ ?_
   refine st (mvc_ trivial ?_)
   refine oe_ ?_
   refine wk_ ⟨[(4, .bool true)], [], []⟩ (fgk (by kernel_rfl)) ?_
   obtain rfl := Option.some.inj h0
   exact rt_ (ret_ rfl rfl rfl rfl rfl trivial)
  ·rintro p10 o1 _ K1 rfl h1 hx1 hK1 hE1 hR1
   refine seq_ ?_
   refine seq_ ?_
   refine reg_ ?_
   refine st (mv_ rfl trivial ?_)
   refine st (mv_ rfl trivial ?_)
   refine st (c_ (clenL (e := eDLease) (l0 := a0) rfl rfl trivial) ?_)
   refine st (c_ (cp_ t3 rfl trivial) ?_)
   refine oe_ ?_
   refine wk_ ⟨[(0, .lst 4 (a0.map eDLease)), (1, .lst 4 (a1.map eDLease)), (5, iV p10), (14, .bool (decide (p10 < (a0.length : Int))))], [], []⟩ (fgk (by kernel_rfl)) ?_
   refine ite_ (cb := (decide (p10 < (a0.length : Int)))) rfl (fun c20 => ?_) (fun c20 => ?_)
   ·replace h1 := ip c20 h1
    refine sk_ ?_
    refine wk_ ⟨[(0, .lst 4 (a0.map eDLease)), (1, .lst 4 (a1.map eDLease)), (5, iV p10)], [], []⟩ (fgk (by kernel_rfl)) ?_
    refine seq_ ?_
    refine block_ ?_
    refine seq_ ?_
    obtain ⟨y21, e22, h1⟩ := bnd h1
    obtain ⟨y23, e24, h1⟩ := bnd h1
    obtain ⟨r25, e26, h1⟩ := bnd h1
    refine draw_ ?_
    refine dtake trivial (mv_ rfl trivial ?_)
    refine ⟨trivial, ?_⟩
    refine dtake trivial (mv_ rfl trivial ?_)
    refine ⟨trivial, ?_⟩
    refine dtake trivial (c_ (cidxL (e := eDLease) (y := y21) rfl rfl trivial rfl rfl trivial e22) ?_)
    refine ⟨trivial, ?_⟩
    refine dtake trivial (c_ (v := .agg (eDLease y21)) (cp_ ⟨trivial, trivial⟩ rfl (nl rfl)) ?_)
    refine ⟨trivial, ?_⟩
    refine dtake trivial (mv_ rfl trivial ?_)
    refine ⟨trivial, ?_⟩
    refine dtake trivial (mv_ rfl trivial ?_)
    refine ⟨trivial, ?_⟩
    refine dtake trivial (c_ (cidxL (e := eDLease) (y := y23) rfl rfl trivial rfl rfl trivial e24) ?_)
    refine ⟨trivial, ?_⟩
    refine dtake trivial (c_ (v := .agg (eDLease y23)) (cp_ ⟨trivial, trivial⟩ rfl (nl rfl)) ?_)
    refine ⟨trivial, ?_⟩
    refine dalt (call0_ (r := .bool r25) false (H107 y21 y23 r25 e26) ⟨trivial, trivial, trivial⟩ rfl rfl (fun _ => rfl) ?_) dstop
    refine dkw ⟨[(0, .lst 4 (a0.map eDLease)), (1, .lst 4 (a1.map eDLease)), (5, iV p10), (25, .bool r25)], [], []⟩ (fgk (by kernel_rfl)) ⟨[], trivial, trivial, ?_⟩
    refine dtake trivial (c_ (cp_ ⟨trivial, trivial⟩ rfl trivial) ?_)
    refine ⟨trivial, ?_⟩
    refine dfin ?_
    refine wk_ ⟨[(0, .lst 4 (a0.map eDLease)), (1, .lst 4 (a1.map eDLease)), (5, iV p10), (26, .bool (!r25))], [], []⟩ (fgk (by kernel_rfl)) ?_
    refine ite_ (cb := (!r25)) rfl (fun c27 => ?_) (fun c27 => ?_)
    ·replace h1 := ip c27 h1
     refine seq_ ?_
     refine reg_ ?_
     refine st (mvc_ trivial ?_)
     refine oe_ ?_
     refine wk_ ⟨[(4, .bool false)], [], []⟩ (fgk (by kernel_rfl)) ?_
     obtain rfl := Option.some.inj h1
     obtain rfl := hx1 _ rfl
     obtain rfl := Option.some.inj h0
     exact rt_ (hR1 _ (ret_ rfl rfl rfl rfl rfl trivial))
    ·replace h1 := inb c27 h1
     refine sk_ ?_
     refine bn_ ?_
     refine wk_ ⟨[(0, .lst 4 (a0.map eDLease)), (1, .lst 4 (a1.map eDLease)), (5, iV p10)], [], []⟩ (fgk (by kernel_rfl)) ?_
     refine reg_ ?_
     refine st (mv_ rfl trivial ?_)
     refine st (c_ (cp_ t3 rfl trivial) ?_)
     refine st (mv_ rfl trivial ?_)
     refine oe_ ?_
     obtain rfl := Option.some.inj h1
     exact hK1 _ rfl _ ⟨[(0, .lst 4 (a0.map eDLease)), (1, .lst 4 (a1.map eDLease)), (5, iV (IntKind.i64.wrap (p10 + 1)))], [], []⟩ (fgk (by kernel_rfl)) rfl
   ·replace h1 := inb c20 h1
    obtain rfl := Option.some.inj h1
    obtain rfl := hx1 _ rfl
    refine exQ rfl ?_
    exact hE1 _ ⟨[], [], []⟩ (fgk (by kernel_rfl)) ⟨rfl, rfl⟩

/- loop.example/g00149/laws.eqTable -/
def c21_r0 : List Ins := [⟨some 2, .box (.t 0), none⟩,
⟨some 3, .box (.t 1), none⟩,
⟨some 4, .p (.mv (.c (.bool false))), none⟩]
def c21_r1 : List Ins := [⟨some 5, .p (.fieldA (.t 2) 0), none⟩,
⟨some 6, .p (.load (.t 5) 1 false), none⟩,
⟨some 7, .p (.fieldA (.t 3) 0), none⟩,
⟨some 8, .p (.load (.t 7) 1 false), none⟩,
⟨some 9, .p (.bin .neq (.t 6) (.t 8)), none⟩]
def c21_r2 : List Ins := [⟨some 4, .p (.mv (.c (.bool false))), none⟩]
def c21_r3 : List Ins := [⟨some 10, .p (.fieldA (.t 2) 1), none⟩,
⟨some 11, .p (.load (.t 10) 1 false), none⟩,
⟨some 12, .p (.fieldA (.t 3) 1), none⟩,
⟨some 13, .p (.load (.t 12) 1 false), none⟩,
⟨some 14, .p (.bin .neq (.t 11) (.t 13)), none⟩]
def c21_r4 : List Ins := [⟨some 4, .p (.mv (.c (.bool false))), none⟩]
def c21_r5 : List Ins := [⟨some 15, .p (.fieldA (.t 2) 2), none⟩,
⟨some 16, .p (.load (.t 15) 1 false), none⟩,
⟨some 17, .p (.fieldA (.t 3) 2), none⟩,
⟨some 18, .p (.load (.t 17) 1 false), none⟩,
⟨some 19, .call 64 [(.t 16), (.t 18)], none⟩,
⟨some 20, .p (.un .not (.t 19)), none⟩]
def c21_r6 : List Ins := [⟨some 4, .p (.mv (.c (.bool false))), none⟩]
def c21_r7 : List Ins := [⟨some 4, .p (.mv (.c (.bool true))), none⟩]
def c21 : XFn := { np := 2, nt := 21, res := [.t 4], body := (.seq (.reg c21_r0) (.seq (.seq (.reg c21_r1) (.ite (.t 9) (.seq (.reg c21_r2) .ret) .skip)) (.seq (.seq (.reg c21_r3) (.ite (.t 14) (.seq (.reg c21_r4) .ret) .skip)) (.seq (.seq (.reg c21_r5) (.ite (.t 20) (.seq (.reg c21_r6) .ret) .skip)) (.seq (.reg c21_r7) .ret))))) }
def K21 (C : CRel) : Prop := ∀ (a0 : DTable) (a1 : DTable) (r : Bool), g21 a0 a1 = some r → C 21 ⟨[.agg (eDTable a0), .agg (eDTable a1)], []⟩ ⟨.bool r, [], []⟩
theorem F21 {C : CRel} (H64 : K64 C) (a0 : DTable) (a1 : DTable) (r : Bool) (h0 : g21 a0 a1 = some r) : FnOK C c21 ⟨[.agg (eDTable a0), .agg (eDTable a1)], []⟩ ⟨.bool r, [], []⟩ := by
 refine fn_ (nl rfl) ?_
 refine seq_ ?_
 refine reg_ ?_
 refine st (box_ rfl trivial rfl ?_)
 refine st (box_ rfl trivial rfl ?_)
 refine st (mvc_ trivial ?_)
 refine oe_ ?_
 refine wk_ ⟨[(2, .ptr 128 0), (3, .ptr 192 0)], [(128, [iV a0.clock, iV a0.next, .lst 4 (a0.list_.map eDLease)]), (192, [iV a1.clock, iV a1.next, .lst 4 (a1.list_.map eDLease)])], []⟩ (fgk (by kernel_rfl)) ?_
 refine seq_ ?_
 refine seq_ ?_
 refine reg_ ?_
 refine st (c_ (cp_ ⟨trivial, trivial⟩ rfl trivial) ?_)
 refine st (c_ (cp_ ⟨trivial, trivial⟩ rfl (nl rfl)) ?_)
 refine st (c_ (cp_ ⟨trivial, trivial⟩ rfl trivial) ?_)
 refine st (c_ (cp_ ⟨trivial, trivial⟩ rfl (nl rfl)) ?_)
 refine st (c_ (cp_ t3 rfl trivial) ?_)
 refine oe_ ?_
 refine wk_ ⟨[(2, .ptr 128 0), (3, .ptr 192 0), (9, .bool (a0.clock != a1.clock))], [(128, [iV a0.clock, iV a0.next, .lst 4 (a0.list_.map eDLease)]), (192, [iV a1.clock, iV a1.next, .lst 4 (a1.list_.map eDLease)])], []⟩ (fgk (by kernel_rfl)) ?_
 refine ite_ (cb := (a0.clock != a1.clock)) rfl (fun c1 => ?_) (fun c1 => ?_)
 ·replace h0 := ip c1 h0
  refine seq_ ?_
  refine reg_ ?_
  refine st (mvc_ trivial ?_)
  refine oe_ ?_
  refine wk_ ⟨[(4, .bool false)], [], []⟩ (fgk (by kernel_rfl)) ?_
  obtain rfl := Option.some.inj h0
  exact rt_ (ret_ rfl rfl rfl rfl rfl trivial)
 ·replace h0 := inb c1 h0
  refine sk_ ?_
  refine wk_ ⟨[(2, .ptr 128 0), (3, .ptr 192 0)], [(128, [iV a0.clock, iV a0.next, .lst 4 (a0.list_.map eDLease)]), (192, [iV a1.clock, iV a1.next, .lst 4 (a1.list_.map eDLease)])], []⟩ (fgk (by kernel_rfl)) ?_
  refine seq_ ?_
  refine seq_ ?_
  refine reg_ ?_
  refine st (c_ (cp_ ⟨trivial, trivial⟩ rfl trivial) ?_)
  refine st (c_ (cp_ ⟨trivial, trivial⟩ rfl (nl rfl)) ?_)
  refine st (c_ (cp_ ⟨trivial, trivial⟩ rfl trivial) ?_)
  refine st (c_ (cp_ ⟨trivial, trivial⟩ rfl (nl rfl)) ?_)
  refine st (c_ (cp_ t3 rfl trivial) ?_)
  refine oe_ ?_
  refine wk_ ⟨[(2, .ptr 128 0), (3, .ptr 192 0), (14, .bool (a0.next != a1.next))], [(128, [iV a0.clock, iV a0.next, .lst 4 (a0.list_.map eDLease)]), (192, [iV a1.clock, iV a1.next, .lst 4 (a1.list_.map eDLease)])], []⟩ (fgk (by kernel_rfl)) ?_
  refine ite_ (cb := (a0.next != a1.next)) rfl (fun c2 => ?_) (fun c2 => ?_)
  ·replace h0 := ip c2 h0
   refine seq_ ?_
   refine reg_ ?_
   refine st (mvc_ trivial ?_)
   refine oe_ ?_
   refine wk_ ⟨[(4, .bool false)], [], []⟩ (fgk (by kernel_rfl)) ?_
   obtain rfl := Option.some.inj h0
   exact rt_ (ret_ rfl rfl rfl rfl rfl trivial)
  ·replace h0 := inb c2 h0
   refine sk_ ?_
   refine wk_ ⟨[(2, .ptr 128 0), (3, .ptr 192 0)], [(128, [iV a0.clock, iV a0.next, .lst 4 (a0.list_.map eDLease)]), (192, [iV a1.clock, iV a1.next, .lst 4 (a1.list_.map eDLease)])], []⟩ (fgk (by kernel_rfl)) ?_
   refine seq_ ?_
   refine seq_ ?_
   refine reg_ ?_
   refine st (c_ (cp_ ⟨trivial, trivial⟩ rfl trivial) ?_)
   refine st (c_ (cp_ ⟨trivial, trivial⟩ rfl (nl rfl)) ?_)
   refine st (c_ (cp_ ⟨trivial, trivial⟩ rfl trivial) ?_)
   refine st (c_ (cp_ ⟨trivial, trivial⟩ rfl (nl rfl)) ?_)
   obtain ⟨r3, e4, h0⟩ := bnd h0
   refine st (call0_ (r := .bool r3) false (H64 a0.list_ a1.list_ r3 e4) ⟨trivial, trivial, trivial⟩ rfl rfl (fun _ => rfl) ?_)
   refine st (c_ (cp_ ⟨trivial, trivial⟩ rfl trivial) ?_)
   refine oe_ ?_
   refine wk_ ⟨[(20, .bool (!r3))], [], []⟩ (fgk (by kernel_rfl)) ?_
   refine ite_ (cb := (!r3)) rfl (fun c5 => ?_) (fun c5 => ?_)
   ·replace h0 := ip c5 h0
    refine seq_ ?_
    refine reg_ ?_
    refine st (mvc_ trivial ?_)
    refine oe_ ?_
    refine wk_ ⟨[(4, .bool false)], [], []⟩ (fgk (by kernel_rfl)) ?_
    obtain rfl := Option.some.inj h0
    exact rt_ (ret_ rfl rfl rfl rfl rfl trivial)
   ·replace h0 := inb c5 h0
    refine sk_ ?_
    refine wk_ ⟨[], [], []⟩ (fgk (by kernel_rfl)) ?_
    refine seq_ ?_
    refine reg_ ?_
    refine st (mvc_ trivial ?_)
    refine oe_ ?_
    refine wk_ ⟨[(4, .bool true)], [], []⟩ (fgk (by kernel_rfl)) ?_
    obtain rfl := Option.some.inj h0
    exact rt_ (ret_ rfl rfl rfl rfl rfl trivial)

/- loop.example/g00149/laws.markLeaseS -/
def c72_r0 : List Ins := [⟨some 4, .p (.mv (.c (iV 0))), none⟩]
def c72_r1 : List Ins := [⟨some 5, .p (.mv (.c (iV 0))), none⟩]
def c72_r2 : List Ins := [⟨some 6, .p (.mv (.t 5)), none⟩,
⟨some 7, .p (.mv (.t 0)), none⟩,
⟨some 8, .p (.len (.t 7)), none⟩,
⟨some 9, .p (.bin .lss (.t 6) (.t 8)), none⟩]
def c72_r3 : List Ins := [⟨some 12, .p (.mv (.t 0)), none⟩,
⟨some 13, .p (.mv (.t 5)), none⟩,
⟨some 14, .p (.mv (.t 1)), none⟩,
⟨some 15, .p (.idxA (.t 12) (.t 13) 4), none⟩,
⟨some 16, .p (.fieldA (.t 15) 0), none⟩,
⟨none, .store (.t 16) (.t 14) 1, none⟩]
def c72_r4 : List Ins := [⟨some 17, .p (.mv (.t 1)), none⟩,
⟨some 18, .p (.bin .add (.t 17) (.c (iV 1))), none⟩,
⟨some 1, .p (.mv (.t 18)), none⟩]
def c72_r5 : List Ins := [⟨some 19, .p (.mv (.t 0)), none⟩,
⟨some 20, .p (.mv (.t 5)), none⟩,
⟨some 21, .p (.mv (.t 1)), none⟩,
⟨some 22, .p (.idxA (.t 19) (.t 20) 4), none⟩,
⟨some 23, .p (.fieldA (.t 22) 1), none⟩,
⟨none, .store (.t 23) (.t 21) 1, none⟩]
def c72_r6 : List Ins := [⟨some 24, .p (.mv (.t 1)), none⟩,
⟨some 25, .p (.bin .add (.t 24) (.c (iV 1))), none⟩,
⟨some 1, .p (.mv (.t 25)), none⟩]
def c72_r7 : List Ins := [⟨some 26, .p (.mv (.t 0)), none⟩,
⟨some 27, .p (.mv (.t 5)), none⟩,
⟨some 28, .p (.mv (.t 1)), none⟩,
⟨some 29, .p (.idxA (.t 26) (.t 27) 4), none⟩,
⟨some 30, .p (.fieldA (.t 29) 2), none⟩,
⟨none, .store (.t 30) (.t 28) 1, none⟩]
def c72_r8 : List Ins := [⟨some 31, .p (.mv (.t 1)), none⟩,
⟨some 32, .p (.bin .add (.t 31) (.c (iV 1))), none⟩,
⟨some 1, .p (.mv (.t 32)), none⟩]
def c72_r9 : List Ins := [⟨some 33, .p (.mv (.t 0)), none⟩,
⟨some 34, .p (.mv (.t 5)), none⟩,
⟨some 35, .p (.mv (.t 1)), none⟩,
⟨some 36, .p (.bin .rem (.t 35) (.c (iV 3))), none⟩,
⟨some 37, .p (.bin .eql (.t 36) (.c (iV 0))), none⟩,
⟨some 38, .p (.idxA (.t 33) (.t 34) 4), none⟩,
⟨some 39, .p (.fieldA (.t 38) 3), none⟩,
⟨none, .store (.t 39) (.t 37) 1, none⟩]
def c72_r10 : List Ins := [⟨some 40, .p (.mv (.t 1)), none⟩,
⟨some 41, .p (.bin .add (.t 40) (.c (iV 1))), none⟩,
⟨some 1, .p (.mv (.t 41)), none⟩]
def c72_r11 : List Ins := [⟨some 10, .p (.mv (.t 5)), none⟩,
⟨some 11, .p (.bin .add (.t 10) (.c (iV 1))), none⟩,
⟨some 5, .p (.mv (.t 11)), none⟩]
def c72_l0 : IR := (.seq (.seq (.reg c72_r2) (.ite (.t 9) .skip (.exit 0))) (.seq (.block 1 (.seq (.reg c72_r3) (.seq (.reg c72_r4) (.seq (.reg c72_r5) (.seq (.reg c72_r6) (.seq (.reg c72_r7) (.seq (.reg c72_r8) (.seq (.reg c72_r9) (.reg c72_r10))))))))) (.reg c72_r11)))
def c72_r12 : List Ins := [⟨some 42, .p (.mv (.t 1)), none⟩,
⟨some 4, .p (.mv (.t 42)), none⟩]
def c72 : XFn := { np := 2, nt := 43, res := [.t 4], body := (.seq (.reg c72_r0) (.seq (.seq (.reg c72_r1) (.block 0 (.loop c72_l0))) (.seq (.reg c72_r12) .ret))) }
def K72 (C : CRel) : Prop := ∀ (a0 : List DLease) (a1 : Int) (r : Int × (List DLease)), g72 a0 a1 = some r → C 72 ⟨[.own 2097152 0 4 (a0.map eDLease), iV a1], []⟩ ⟨iV r.1, [], [(0, 4, r.2.map eDLease)]⟩
theorem F72 {C : CRel}  (a0 : List DLease) (a1 : Int) (r : Int × (List DLease)) (h0 : g72 a0 a1 = some r) : FnOK C c72 ⟨[.own 2097152 0 4 (a0.map eDLease), iV a1], []⟩ ⟨iV r.1, [], [(0, 4, r.2.map eDLease)]⟩ := by
 refine fn_ (nl rfl) ?_
 refine seq_ ?_
 refine reg_ ?_
 refine st (mvc_ trivial ?_)
 refine oe_ ?_
 refine wk_ ⟨[(0, .own 2097152 0 4 (a0.map eDLease)), (1, iV a1)], [], []⟩ (fgk (by kernel_rfl)) ?_
 refine seq_ ?_
 refine seq_ ?_
 refine reg_ ?_
 refine st (mvc_ trivial ?_)
 refine oe_ ?_
 refine wk_ ⟨[(0, .own 2097152 0 4 (a0.map eDLease)), (1, iV a1), (5, iV 0)], [], []⟩ (fgk (by kernel_rfl)) ?_
 refine block_ ?_
 obtain ⟨r84, e85, h0⟩ := bnd h0
 refine loop_ (R := (fun S => ∃ p57 : List DLease, ∃ p58 : Int, (p57, p58) = r84 ∧ S = ⟨[(0, .own 2097152 0 4 (p57.map eDLease)), (1, iV p58)], [], []⟩)) (g72_l0) (fun s S => match s with | (p26, p27, p28) => S = ⟨[(0, .own 2097152 0 4 (p26.map eDLease)), (1, iV p27), (5, iV p28)], [], []⟩) e85 ⟨[(0, .own 2097152 0 4 (a0.map eDLease)), (1, iV a1), (5, iV 0)], [], []⟩ (fgk (by kernel_rfl)) rfl 0 (fun _ => rfl) ?_ ?_
 ·rintro S _ hfg ⟨p57, p58, rfl, rfl⟩
  refine wk_ ⟨[(0, .own 2097152 0 4 (p57.map eDLease)), (1, iV p58)], [], []⟩ (fglk hfg (by kernel_rfl)) ?_
  refine seq_ ?_
  refine reg_ ?_
  refine st (mv_ rfl trivial ?_)
  refine st (mv_ rfl trivial ?_)
  refine oe_ ?_
  refine wk_ ⟨[(0, .own 2097152 0 4 (p57.map eDLease)), (4, iV p58)], [], []⟩ (fgk (by kernel_rfl)) ?_
  obtain rfl := Option.some.inj h0
  exact rt_ (ret_ rfl rfl rfl rfl rfl ⟨⟨rfl, mlen (fun _ => rfl)⟩, trivial⟩)
 ·rintro ⟨p26, p27, p28⟩ o1 _ K1 rfl h1 hx1 hK1 hE1 hR1
  refine seq_ ?_
  refine seq_ ?_
  refine reg_ ?_
  refine st (mv_ rfl trivial ?_)
  refine st (mv_ rfl trivial ?_)
  refine st (c_ (clenO (e := eDLease) (l0 := p26) rfl rfl trivial) ?_)
  refine st (c_ (cp_ t3 rfl trivial) ?_)
  refine oe_ ?_
  refine wk_ ⟨[(0, .own 2097152 0 4 (p26.map eDLease)), (1, iV p27), (5, iV p28), (9, .bool (decide (p28 < (p26.length : Int))))], [], []⟩ (fgk (by kernel_rfl)) ?_
  refine ite_ (cb := (decide (p28 < (p26.length : Int)))) rfl (fun c59 => ?_) (fun c59 => ?_)
  ·replace h1 := ip c59 h1
   refine sk_ ?_
   refine wk_ ⟨[(0, .own 2097152 0 4 (p26.map eDLease)), (1, iV p27), (5, iV p28)], [], []⟩ (fgk (by kernel_rfl)) ?_
   refine seq_ ?_
   refine block_ ?_
   refine seq_ ?_
   refine reg_ ?_
   refine st (mv_ rfl trivial ?_)
   refine st (mv_ rfl trivial ?_)
   refine st (mv_ rfl trivial ?_)
   obtain ⟨y60, e61, h1⟩ := bnd h1
   refine st (c_ (cidxO (e := eDLease) (y := y60) rfl rfl trivial rfl rfl trivial e61) ?_)
   refine st (c_ (cp_ ⟨trivial, trivial⟩ rfl trivial) ?_)
   obtain ⟨y62, e63, h1⟩ := bnd h1
   refine st (sto_ (y' := (DLease.mk p27 y62.until_ y62.cap y62.queued)) rfl rfl trivial rfl rfl rfl rfl e63 (nl rfl) rfl rfl rfl rfl ?_)
   refine oe_ ?_
   refine wk_ ⟨[(0, .own 2097152 0 4 ((p26.set p28.toNat (DLease.mk p27 y62.until_ y62.cap y62.queued)).map eDLease)), (1, iV p27), (5, iV p28)], [], []⟩ (fg ⟨(congrArg (fun z => some ((.own 2097152 0 4 z : V))) overlay_map), rfl, rfl, trivial⟩ trivial) ?_
   refine seq_ ?_
   refine reg_ ?_
   refine st (mv_ rfl trivial ?_)
   refine st (c_ (cp_ t3 rfl trivial) ?_)
   refine st (mv_ rfl trivial ?_)
   refine oe_ ?_
   refine wk_ ⟨[(0, .own 2097152 0 4 ((p26.set p28.toNat (DLease.mk p27 y62.until_ y62.cap y62.queued)).map eDLease)), (1, iV (IntKind.i64.wrap (p27 + 1))), (5, iV p28)], [], []⟩ (fgk (by kernel_rfl)) ?_
   refine seq_ ?_
   refine reg_ ?_
   refine st (mv_ rfl trivial ?_)
   refine st (mv_ rfl trivial ?_)
   refine st (mv_ rfl trivial ?_)
   obtain ⟨y64, e65, h1⟩ := bnd h1
   refine st (c_ (cidxO (e := eDLease) (y := y64) rfl rfl trivial rfl rfl trivial e65) ?_)
   refine st (c_ (cp_ ⟨trivial, trivial⟩ rfl trivial) ?_)
   obtain ⟨y66, e67, h1⟩ := bnd h1
   refine st (sto_ (y' := (DLease.mk y66.id (IntKind.i64.wrap (p27 + 1)) y66.cap y66.queued)) rfl rfl trivial rfl rfl rfl rfl e67 (nl rfl) rfl rfl rfl rfl ?_)
   refine oe_ ?_
   refine wk_ ⟨[(0, .own 2097152 0 4 (((p26.set p28.toNat (DLease.mk p27 y62.until_ y62.cap y62.queued)).set p28.toNat (DLease.mk y66.id (IntKind.i64.wrap (p27 + 1)) y66.cap y66.queued)).map eDLease)), (1, iV (IntKind.i64.wrap (p27 + 1))), (5, iV p28)], [], []⟩ (fg ⟨(congrArg (fun z => some ((.own 2097152 0 4 z : V))) overlay_map), rfl, rfl, trivial⟩ trivial) ?_
   refine seq_ ?_
   refine reg_ ?_
   refine st (mv_ rfl trivial ?_)
   refine st (c_ (cp_ t3 rfl trivial) ?_)
   refine st (mv_ rfl trivial ?_)
   refine oe_ ?_
   obtain ⟨v68, e69, h1⟩ := bl h1
   refine wk_ ⟨[(0, .own 2097152 0 4 (v68.map eDLease)), (1, iV (IntKind.i64.wrap ((IntKind.i64.wrap (p27 + 1)) + 1))), (5, iV p28)], [], []⟩ (fgk (by subst e69; kernel_rfl)) ?_
   refine seq_ ?_
   refine reg_ ?_
   refine st (mv_ rfl trivial ?_)
   refine st (mv_ rfl trivial ?_)
   refine st (mv_ rfl trivial ?_)
   obtain ⟨y70, e71, h1⟩ := bnd h1
   refine st (c_ (cidxO (e := eDLease) (y := y70) rfl rfl trivial rfl rfl trivial e71) ?_)
   refine st (c_ (cp_ ⟨trivial, trivial⟩ rfl trivial) ?_)
   obtain ⟨y72, e73, h1⟩ := bnd h1
   refine st (sto_ (y' := (DLease.mk y72.id y72.until_ (IntKind.i64.wrap ((IntKind.i64.wrap (p27 + 1)) + 1)) y72.queued)) rfl rfl trivial rfl rfl rfl rfl e73 (nl rfl) rfl rfl rfl rfl ?_)
   refine oe_ ?_
   refine wk_ ⟨[(0, .own 2097152 0 4 ((v68.set p28.toNat (DLease.mk y72.id y72.until_ (IntKind.i64.wrap ((IntKind.i64.wrap (p27 + 1)) + 1)) y72.queued)).map eDLease)), (1, iV (IntKind.i64.wrap ((IntKind.i64.wrap (p27 + 1)) + 1))), (5, iV p28)], [], []⟩ (fg ⟨(congrArg (fun z => some ((.own 2097152 0 4 z : V))) overlay_map), rfl, rfl, trivial⟩ trivial) ?_
   refine seq_ ?_
   refine reg_ ?_
   refine st (mv_ rfl trivial ?_)
   refine st (c_ (cp_ t3 rfl trivial) ?_)
   refine st (mv_ rfl trivial ?_)
   refine oe_ ?_
   obtain ⟨v74, e75, h1⟩ := bl h1
   obtain ⟨v76, e77, h1⟩ := bl h1
   refine wk_ ⟨[(0, .own 2097152 0 4 (v74.map eDLease)), (1, iV v76), (5, iV p28)], [], []⟩ (fgk (by subst e75 e77; kernel_rfl)) ?_
   refine seq_ ?_
   refine reg_ ?_
   refine st (mv_ rfl trivial ?_)
   refine st (mv_ rfl trivial ?_)
   refine st (mv_ rfl trivial ?_)
   refine st (c_ (cp_ ⟨trivial, trivial, trivial⟩ rfl (by decide)) ?_)
   refine st (c_ (cp_ t3 rfl trivial) ?_)
   obtain ⟨y78, e79, h1⟩ := bnd h1
   refine st (c_ (cidxO (e := eDLease) (y := y78) rfl rfl trivial rfl rfl trivial e79) ?_)
   refine st (c_ (cp_ ⟨trivial, trivial⟩ rfl trivial) ?_)
   obtain ⟨y80, e81, h1⟩ := bnd h1
   refine st (sto_ (y' := (DLease.mk y80.id y80.until_ y80.cap (((v76).tmod 3) == 0))) rfl rfl trivial rfl rfl rfl rfl e81 (nl rfl) rfl rfl rfl rfl ?_)
   refine oe_ ?_
   refine wk_ ⟨[(0, .own 2097152 0 4 ((v74.set p28.toNat (DLease.mk y80.id y80.until_ y80.cap (((v76).tmod 3) == 0))).map eDLease)), (1, iV v76), (5, iV p28)], [], []⟩ (fg ⟨(congrArg (fun z => some ((.own 2097152 0 4 z : V))) overlay_map), rfl, rfl, trivial⟩ trivial) ?_
   refine reg_ ?_
   refine st (mv_ rfl trivial ?_)
   refine st (c_ (cp_ t3 rfl trivial) ?_)
   refine st (mv_ rfl trivial ?_)
   refine oe_ ?_
   refine bn_ ?_
   obtain ⟨v82, e83, h1⟩ := bl h1
   refine wk_ ⟨[(0, .own 2097152 0 4 (v82.map eDLease)), (1, iV (IntKind.i64.wrap (v76 + 1))), (5, iV p28)], [], []⟩ (fgk (by subst e83; kernel_rfl)) ?_
   refine reg_ ?_
   refine st (mv_ rfl trivial ?_)
   refine st (c_ (cp_ t3 rfl trivial) ?_)
   refine st (mv_ rfl trivial ?_)
   refine oe_ ?_
   obtain rfl := Option.some.inj h1
   exact hK1 _ rfl _ ⟨[(0, .own 2097152 0 4 (v82.map eDLease)), (1, iV (IntKind.i64.wrap (v76 + 1))), (5, iV (IntKind.i64.wrap (p28 + 1)))], [], []⟩ (fgk (by kernel_rfl)) rfl
  ·replace h1 := inb c59 h1
   obtain rfl := Option.some.inj h1
   obtain rfl := hx1 _ rfl
   refine exQ rfl ?_
   exact hE1 _ ⟨[(0, .own 2097152 0 4 (p26.map eDLease)), (1, iV p27)], [], []⟩ (fgk (by kernel_rfl)) ⟨_, _, rfl, rfl⟩

/- loop.example/g00149/laws.markTable -/
def c26_r0 : List Ins := [⟨some 2, .box (.t 0), none⟩,
⟨some 4, .p (.mv (.c (iV 0))), none⟩]
def c26_r1 : List Ins := [⟨some 5, .p (.fieldA (.t 2) 2), none⟩,
⟨some 6, .p (.load (.t 5) 1 false), none⟩,
⟨some 7, .p (.mv (.t 1)), none⟩,
⟨some 8, .call 72 [(.t 6), (.t 7)], none⟩,
⟨some 1, .p (.mv (.t 8)), none⟩]
def c26_r2 : List Ins := [⟨some 9, .p (.mv (.t 1)), none⟩,
⟨some 4, .p (.mv (.t 9)), none⟩]
def c26 : XFn := { np := 2, nt := 10, res := [.t 4], body := (.seq (.reg c26_r0) (.seq (.reg c26_r1) (.seq (.reg c26_r2) .ret))) }
def K26 (C : CRel) : Prop := ∀ (a0 : DTable) (a1 : Int) (r : Int × (List DLease)), g26 a0 a1 = some r → C 26 ⟨[.agg [iV a0.clock, iV a0.next, .own 2097152 0 4 (a0.list_.map eDLease)], iV a1], []⟩ ⟨iV r.1, [], [(0, 4, r.2.map eDLease)]⟩
theorem F26 {C : CRel} (H72 : K72 C) (a0 : DTable) (a1 : Int) (r : Int × (List DLease)) (h0 : g26 a0 a1 = some r) : FnOK C c26 ⟨[.agg [iV a0.clock, iV a0.next, .own 2097152 0 4 (a0.list_.map eDLease)], iV a1], []⟩ ⟨iV r.1, [], [(0, 4, r.2.map eDLease)]⟩ := by
 refine fn_ (nl rfl) ?_
 refine seq_ ?_
 refine reg_ ?_
 refine st (box_ rfl trivial rfl ?_)
 refine st (mvc_ trivial ?_)
 refine oe_ ?_
 refine wk_ ⟨[(0, .agg [iV a0.clock, iV a0.next, .own 2097152 0 4 (a0.list_.map eDLease)]), (1, iV a1), (2, .ptr 128 0)], [(128, [iV a0.clock, iV a0.next, .own 2097152 0 4 (a0.list_.map eDLease)])], []⟩ (fgk (by kernel_rfl)) ?_
 refine seq_ ?_
 refine reg_ ?_
 refine st (c_ (cp_ ⟨trivial, trivial⟩ rfl trivial) ?_)
 refine st (c_ (cp_ ⟨trivial, trivial⟩ rfl (nl rfl)) ?_)
 refine st (mv_ rfl trivial ?_)
 obtain ⟨r1, e2, h0⟩ := bnd h0
 obtain ⟨c3, h0⟩ := grd h0
 refine st (call1_ [] [2097152] [] false (H72 a0.list_ a1 r1 e2) ⟨trivial, trivial, trivial⟩ (by kernel_rfl) (by kernel_rfl) (by kernel_rfl) (by kernel_rfl) (fun _ => and_ rfl (and_ (fl2 (fun _ => rfl)) rfl)) ?_)
 refine sw ⟨[(0, .agg [iV a0.clock, iV a0.next, .own 2097152 0 4 (r1.2.map eDLease)]), (8, iV r1.1)], [], []⟩ (fg ⟨(congrArg (fun z => some ((.agg [iV a0.clock, iV a0.next, z] : V))) (row_eq c3)), rfl, trivial⟩ trivial) (mv_ rfl trivial ?_)
 refine oe_ ?_
 refine wk_ ⟨[(0, .agg [iV a0.clock, iV a0.next, .own 2097152 0 4 (r1.2.map eDLease)]), (1, iV r1.1)], [], []⟩ (fgk (by kernel_rfl)) ?_
 refine seq_ ?_
 refine reg_ ?_
 refine st (mv_ rfl trivial ?_)
 refine st (mv_ rfl trivial ?_)
 refine oe_ ?_
 refine wk_ ⟨[(0, .agg [iV a0.clock, iV a0.next, .own 2097152 0 4 (r1.2.map eDLease)]), (4, iV r1.1)], [], []⟩ (fgk (by kernel_rfl)) ?_
 obtain rfl := Option.some.inj h0
 exact rt_ (ret_ rfl rfl rfl rfl rfl ⟨⟨rfl, mlen (fun _ => rfl)⟩, trivial⟩)

/- loop.example/g00149/laws.heldLeaseS -/
def c73_r0 : List Ins := [⟨some 4, .p (.mv (.c (iV 0))), none⟩]
def c73_r1 : List Ins := [⟨some 5, .p (.mv (.c (iV 0))), none⟩]
def c73_r2 : List Ins := [⟨some 6, .p (.mv (.t 5)), none⟩,
⟨some 7, .p (.mv (.t 0)), none⟩,
⟨some 8, .p (.len (.t 7)), none⟩,
⟨some 9, .p (.bin .lss (.t 6) (.t 8)), none⟩]
def c73_r3 : List Ins := [⟨some 12, .p (.mv (.t 0)), none⟩,
⟨some 13, .p (.mv (.t 5)), none⟩,
⟨some 14, .p (.idxA (.t 12) (.t 13) 4), none⟩,
⟨some 15, .p (.fieldA (.t 14) 0), none⟩,
⟨some 16, .p (.load (.t 15) 1 false), none⟩,
⟨some 17, .p (.mv (.t 1)), none⟩,
⟨some 18, .p (.bin .neq (.t 16) (.t 17)), none⟩]
def c73_r4 : List Ins := [⟨some 4, .p (.mv (.c (iV (-1)))), none⟩]
def c73_r5 : List Ins := [⟨some 19, .p (.mv (.t 1)), none⟩,
⟨some 20, .p (.bin .add (.t 19) (.c (iV 1))), none⟩,
⟨some 1, .p (.mv (.t 20)), none⟩]
def c73_r6 : List Ins := [⟨some 21, .p (.mv (.t 0)), none⟩,
⟨some 22, .p (.mv (.t 5)), none⟩,
⟨some 23, .p (.idxA (.t 21) (.t 22) 4), none⟩,
⟨some 24, .p (.fieldA (.t 23) 1), none⟩,
⟨some 25, .p (.load (.t 24) 1 false), none⟩,
⟨some 26, .p (.mv (.t 1)), none⟩,
⟨some 27, .p (.bin .neq (.t 25) (.t 26)), none⟩]
def c73_r7 : List Ins := [⟨some 4, .p (.mv (.c (iV (-1)))), none⟩]
def c73_r8 : List Ins := [⟨some 28, .p (.mv (.t 1)), none⟩,
⟨some 29, .p (.bin .add (.t 28) (.c (iV 1))), none⟩,
⟨some 1, .p (.mv (.t 29)), none⟩]
def c73_r9 : List Ins := [⟨some 30, .p (.mv (.t 0)), none⟩,
⟨some 31, .p (.mv (.t 5)), none⟩,
⟨some 32, .p (.idxA (.t 30) (.t 31) 4), none⟩,
⟨some 33, .p (.fieldA (.t 32) 2), none⟩,
⟨some 34, .p (.load (.t 33) 1 false), none⟩,
⟨some 35, .p (.mv (.t 1)), none⟩,
⟨some 36, .p (.bin .neq (.t 34) (.t 35)), none⟩]
def c73_r10 : List Ins := [⟨some 4, .p (.mv (.c (iV (-1)))), none⟩]
def c73_r11 : List Ins := [⟨some 37, .p (.mv (.t 1)), none⟩,
⟨some 38, .p (.bin .add (.t 37) (.c (iV 1))), none⟩,
⟨some 1, .p (.mv (.t 38)), none⟩]
def c73_r12 : List Ins := [⟨some 39, .p (.mv (.t 0)), none⟩,
⟨some 40, .p (.mv (.t 5)), none⟩,
⟨some 41, .p (.idxA (.t 39) (.t 40) 4), none⟩,
⟨some 42, .p (.fieldA (.t 41) 3), none⟩,
⟨some 43, .p (.load (.t 42) 1 false), none⟩,
⟨some 44, .p (.mv (.t 1)), none⟩,
⟨some 45, .p (.bin .rem (.t 44) (.c (iV 3))), none⟩,
⟨some 46, .p (.bin .eql (.t 45) (.c (iV 0))), none⟩,
⟨some 47, .p (.binB .neq (.t 43) (.t 46)), none⟩]
def c73_r13 : List Ins := [⟨some 4, .p (.mv (.c (iV (-1)))), none⟩]
def c73_r14 : List Ins := [⟨some 48, .p (.mv (.t 1)), none⟩,
⟨some 49, .p (.bin .add (.t 48) (.c (iV 1))), none⟩,
⟨some 1, .p (.mv (.t 49)), none⟩]
def c73_r15 : List Ins := [⟨some 10, .p (.mv (.t 5)), none⟩,
⟨some 11, .p (.bin .add (.t 10) (.c (iV 1))), none⟩,
⟨some 5, .p (.mv (.t 11)), none⟩]
def c73_l0 : IR := (.seq (.seq (.reg c73_r2) (.ite (.t 9) .skip (.exit 0))) (.seq (.block 1 (.seq (.seq (.reg c73_r3) (.ite (.t 18) (.seq (.reg c73_r4) .ret) .skip)) (.seq (.reg c73_r5) (.seq (.seq (.reg c73_r6) (.ite (.t 27) (.seq (.reg c73_r7) .ret) .skip)) (.seq (.reg c73_r8) (.seq (.seq (.reg c73_r9) (.ite (.t 36) (.seq (.reg c73_r10) .ret) .skip)) (.seq (.reg c73_r11) (.seq (.seq (.reg c73_r12) (.ite (.t 47) (.seq (.reg c73_r13) .ret) .skip)) (.reg c73_r14))))))))) (.reg c73_r15)))
def c73_r16 : List Ins := [⟨some 50, .p (.mv (.t 1)), none⟩,
⟨some 4, .p (.mv (.t 50)), none⟩]
def c73 : XFn := { np := 2, nt := 51, res := [.t 4], body := (.seq (.reg c73_r0) (.seq (.seq (.reg c73_r1) (.block 0 (.loop c73_l0))) (.seq (.reg c73_r16) .ret))) }
def K73 (C : CRel) : Prop := ∀ (a0 : List DLease) (a1 : Int) (r : Int), g73 a0 a1 = some r → C 73 ⟨[.lst 4 (a0.map eDLease), iV a1], []⟩ ⟨iV r, [], []⟩
theorem F73 {C : CRel}  (a0 : List DLease) (a1 : Int) (r : Int) (h0 : g73 a0 a1 = some r) : FnOK C c73 ⟨[.lst 4 (a0.map eDLease), iV a1], []⟩ ⟨iV r, [], []⟩ := by
 refine fn_ (nl rfl) ?_
 refine seq_ ?_
 refine reg_ ?_
 refine st (mvc_ trivial ?_)
 refine oe_ ?_
 refine wk_ ⟨[(0, .lst 4 (a0.map eDLease)), (1, iV a1)], [], []⟩ (fgk (by kernel_rfl)) ?_
 refine seq_ ?_
 refine seq_ ?_
 refine reg_ ?_
 refine st (mvc_ trivial ?_)
 refine oe_ ?_
 refine wk_ ⟨[(0, .lst 4 (a0.map eDLease)), (1, iV a1), (5, iV 0)], [], []⟩ (fgk (by kernel_rfl)) ?_
 refine block_ ?_
 obtain ⟨r51, e52, h0⟩ := bnd h0
 refine loop_ (R := (fun S => ∃ p35 : Int, .inl p35 = r51 ∧ S = ⟨[(1, iV p35)], [], []⟩)) (g73_l0 a0) (fun s S => match s with | (p16, p17) => S = ⟨[(0, .lst 4 (a0.map eDLease)), (1, iV p16), (5, iV p17)], [], []⟩) e52 ⟨[(0, .lst 4 (a0.map eDLease)), (1, iV a1), (5, iV 0)], [], []⟩ (fgk (by kernel_rfl)) rfl 0 (fun _ => rfl) ?_ ?_
 ·rintro S _ hfg ⟨p35, rfl, rfl⟩
  refine wk_ ⟨[(1, iV p35)], [], []⟩ (fglk hfg (by kernel_rfl)) ?_
  refine seq_ ?_
  refine reg_ ?_
  refine st (mv_ rfl trivial ?_)
  refine st (mv_ rfl trivial ?_)
  refine oe_ ?_
  refine wk_ ⟨[(4, iV p35)], [], []⟩ (fgk (by kernel_rfl)) ?_
  obtain rfl := Option.some.inj h0
  exact rt_ (ret_ rfl rfl rfl rfl rfl trivial)
 ·rintro ⟨p16, p17⟩ o1 _ K1 rfl h1 hx1 hK1 hE1 hR1
  refine seq_ ?_
  refine seq_ ?_
  refine reg_ ?_
  refine st (mv_ rfl trivial ?_)
  refine st (mv_ rfl trivial ?_)
  refine st (c_ (clenL (e := eDLease) (l0 := a0) rfl rfl trivial) ?_)
  refine st (c_ (cp_ t3 rfl trivial) ?_)
  refine oe_ ?_
  refine wk_ ⟨[(0, .lst 4 (a0.map eDLease)), (1, iV p16), (5, iV p17), (9, .bool (decide (p17 < (a0.length : Int))))], [], []⟩ (fgk (by kernel_rfl)) ?_
  refine ite_ (cb := (decide (p17 < (a0.length : Int)))) rfl (fun c36 => ?_) (fun c36 => ?_)
  ·replace h1 := ip c36 h1
   refine sk_ ?_
   refine wk_ ⟨[(0, .lst 4 (a0.map eDLease)), (1, iV p16), (5, iV p17)], [], []⟩ (fgk (by kernel_rfl)) ?_
   refine seq_ ?_
   refine block_ ?_
   refine seq_ ?_
   refine seq_ ?_
   refine reg_ ?_
   refine st (mv_ rfl trivial ?_)
   refine st (mv_ rfl trivial ?_)
   obtain ⟨y37, e38, h1⟩ := bnd h1
   refine st (c_ (cidxL (e := eDLease) (y := y37) rfl rfl trivial rfl rfl trivial e38) ?_)
   refine st (c_ (cp_ ⟨trivial, trivial⟩ rfl (nl rfl)) ?_)
   refine st (c_ (cp_ ⟨trivial, trivial⟩ rfl (nl rfl)) ?_)
   refine st (mv_ rfl trivial ?_)
   refine st (c_ (cp_ t3 rfl trivial) ?_)
   refine oe_ ?_
   refine wk_ ⟨[(0, .lst 4 (a0.map eDLease)), (1, iV p16), (5, iV p17), (18, .bool (y37.id != p16))], [], []⟩ (fgk (by kernel_rfl)) ?_
   refine ite_ (cb := (y37.id != p16)) rfl (fun c39 => ?_) (fun c39 => ?_)
   ·replace h1 := ip c39 h1
    refine seq_ ?_
    refine reg_ ?_
    refine st (mvc_ trivial ?_)
    refine oe_ ?_
    refine wk_ ⟨[(4, iV (-1))], [], []⟩ (fgk (by kernel_rfl)) ?_
    obtain rfl := Option.some.inj h1
    obtain rfl := hx1 _ rfl
    obtain rfl := Option.some.inj h0
    exact rt_ (hR1 _ (ret_ rfl rfl rfl rfl rfl trivial))
   ·replace h1 := inb c39 h1
    refine sk_ ?_
    refine wk_ ⟨[(0, .lst 4 (a0.map eDLease)), (1, iV p16), (5, iV p17)], [], []⟩ (fgk (by kernel_rfl)) ?_
    refine seq_ ?_
    refine reg_ ?_
    refine st (mv_ rfl trivial ?_)
    refine st (c_ (cp_ t3 rfl trivial) ?_)
    refine st (mv_ rfl trivial ?_)
    refine oe_ ?_
    refine wk_ ⟨[(0, .lst 4 (a0.map eDLease)), (1, iV (IntKind.i64.wrap (p16 + 1))), (5, iV p17)], [], []⟩ (fgk (by kernel_rfl)) ?_
    refine seq_ ?_
    refine seq_ ?_
    refine reg_ ?_
    refine st (mv_ rfl trivial ?_)
    refine st (mv_ rfl trivial ?_)
    obtain ⟨y40, e41, h1⟩ := bnd h1
    refine st (c_ (cidxL (e := eDLease) (y := y40) rfl rfl trivial rfl rfl trivial e41) ?_)
    refine st (c_ (cp_ ⟨trivial, trivial⟩ rfl (nl rfl)) ?_)
    refine st (c_ (cp_ ⟨trivial, trivial⟩ rfl (nl rfl)) ?_)
    refine st (mv_ rfl trivial ?_)
    refine st (c_ (cp_ t3 rfl trivial) ?_)
    refine oe_ ?_
    refine wk_ ⟨[(0, .lst 4 (a0.map eDLease)), (1, iV (IntKind.i64.wrap (p16 + 1))), (5, iV p17), (27, .bool (y40.until_ != (IntKind.i64.wrap (p16 + 1))))], [], []⟩ (fgk (by kernel_rfl)) ?_
    refine ite_ (cb := (y40.until_ != (IntKind.i64.wrap (p16 + 1)))) rfl (fun c42 => ?_) (fun c42 => ?_)
    ·replace h1 := ip c42 h1
     refine seq_ ?_
     refine reg_ ?_
     refine st (mvc_ trivial ?_)
     refine oe_ ?_
     refine wk_ ⟨[(4, iV (-1))], [], []⟩ (fgk (by kernel_rfl)) ?_
     obtain rfl := Option.some.inj h1
     obtain rfl := hx1 _ rfl
     obtain rfl := Option.some.inj h0
     exact rt_ (hR1 _ (ret_ rfl rfl rfl rfl rfl trivial))
    ·replace h1 := inb c42 h1
     refine sk_ ?_
     refine wk_ ⟨[(0, .lst 4 (a0.map eDLease)), (1, iV (IntKind.i64.wrap (p16 + 1))), (5, iV p17)], [], []⟩ (fgk (by kernel_rfl)) ?_
     refine seq_ ?_
     refine reg_ ?_
     refine st (mv_ rfl trivial ?_)
     refine st (c_ (cp_ t3 rfl trivial) ?_)
     refine st (mv_ rfl trivial ?_)
     refine oe_ ?_
     refine wk_ ⟨[(0, .lst 4 (a0.map eDLease)), (1, iV (IntKind.i64.wrap ((IntKind.i64.wrap (p16 + 1)) + 1))), (5, iV p17)], [], []⟩ (fgk (by kernel_rfl)) ?_
     refine seq_ ?_
     refine seq_ ?_
     refine reg_ ?_
     refine st (mv_ rfl trivial ?_)
     refine st (mv_ rfl trivial ?_)
     obtain ⟨y43, e44, h1⟩ := bnd h1
     refine st (c_ (cidxL (e := eDLease) (y := y43) rfl rfl trivial rfl rfl trivial e44) ?_)
     refine st (c_ (cp_ ⟨trivial, trivial⟩ rfl (nl rfl)) ?_)
     refine st (c_ (cp_ ⟨trivial, trivial⟩ rfl (nl rfl)) ?_)
     refine st (mv_ rfl trivial ?_)
     refine st (c_ (cp_ t3 rfl trivial) ?_)
     refine oe_ ?_
     refine wk_ ⟨[(0, .lst 4 (a0.map eDLease)), (1, iV (IntKind.i64.wrap ((IntKind.i64.wrap (p16 + 1)) + 1))), (5, iV p17), (36, .bool (y43.cap != (IntKind.i64.wrap ((IntKind.i64.wrap (p16 + 1)) + 1))))], [], []⟩ (fgk (by kernel_rfl)) ?_
     refine ite_ (cb := (y43.cap != (IntKind.i64.wrap ((IntKind.i64.wrap (p16 + 1)) + 1)))) rfl (fun c45 => ?_) (fun c45 => ?_)
     ·replace h1 := ip c45 h1
      refine seq_ ?_
      refine reg_ ?_
      refine st (mvc_ trivial ?_)
      refine oe_ ?_
      refine wk_ ⟨[(4, iV (-1))], [], []⟩ (fgk (by kernel_rfl)) ?_
      obtain rfl := Option.some.inj h1
      obtain rfl := hx1 _ rfl
      obtain rfl := Option.some.inj h0
      exact rt_ (hR1 _ (ret_ rfl rfl rfl rfl rfl trivial))
     ·replace h1 := inb c45 h1
      refine sk_ ?_
      refine wk_ ⟨[(0, .lst 4 (a0.map eDLease)), (1, iV (IntKind.i64.wrap ((IntKind.i64.wrap (p16 + 1)) + 1))), (5, iV p17)], [], []⟩ (fgk (by kernel_rfl)) ?_
      refine seq_ ?_
      refine reg_ ?_
      refine st (mv_ rfl trivial ?_)
      refine st (c_ (cp_ t3 rfl trivial) ?_)
      refine st (mv_ rfl trivial ?_)
      refine oe_ ?_
      obtain ⟨v46, e47, h1⟩ := bl h1
      refine wk_ ⟨[(0, .lst 4 (a0.map eDLease)), (1, iV v46), (5, iV p17)], [], []⟩ (fgk (by subst e47; kernel_rfl)) ?_
      refine seq_ ?_
      refine seq_ ?_
      refine reg_ ?_
      refine st (mv_ rfl trivial ?_)
      refine st (mv_ rfl trivial ?_)
      obtain ⟨y48, e49, h1⟩ := bnd h1
      refine st (c_ (cidxL (e := eDLease) (y := y48) rfl rfl trivial rfl rfl trivial e49) ?_)
      refine st (c_ (cp_ ⟨trivial, trivial⟩ rfl (nl rfl)) ?_)
      refine st (c_ (cp_ ⟨trivial, trivial⟩ rfl (nl rfl)) ?_)
      refine st (mv_ rfl trivial ?_)
      refine st (c_ (cp_ ⟨trivial, trivial, trivial⟩ rfl (by decide)) ?_)
      refine st (c_ (cp_ t3 rfl trivial) ?_)
      refine st (c_ (cp_ t3 rfl trivial) ?_)
      refine oe_ ?_
      refine wk_ ⟨[(0, .lst 4 (a0.map eDLease)), (1, iV v46), (5, iV p17), (47, .bool (!(y48.queued == (((v46).tmod 3) == 0))))], [], []⟩ (fgk (by kernel_rfl)) ?_
      refine ite_ (cb := (!(y48.queued == (((v46).tmod 3) == 0)))) rfl (fun c50 => ?_) (fun c50 => ?_)
      ·replace h1 := ip c50 h1
       refine seq_ ?_
       refine reg_ ?_
       refine st (mvc_ trivial ?_)
       refine oe_ ?_
       refine wk_ ⟨[(4, iV (-1))], [], []⟩ (fgk (by kernel_rfl)) ?_
       obtain rfl := Option.some.inj h1
       obtain rfl := hx1 _ rfl
       obtain rfl := Option.some.inj h0
       exact rt_ (hR1 _ (ret_ rfl rfl rfl rfl rfl trivial))
      ·replace h1 := inb c50 h1
       refine sk_ ?_
       refine wk_ ⟨[(0, .lst 4 (a0.map eDLease)), (1, iV v46), (5, iV p17)], [], []⟩ (fgk (by kernel_rfl)) ?_
       refine reg_ ?_
       refine st (mv_ rfl trivial ?_)
       refine st (c_ (cp_ t3 rfl trivial) ?_)
       refine st (mv_ rfl trivial ?_)
       refine oe_ ?_
       refine bn_ ?_
       refine wk_ ⟨[(0, .lst 4 (a0.map eDLease)), (1, iV (IntKind.i64.wrap (v46 + 1))), (5, iV p17)], [], []⟩ (fgk (by kernel_rfl)) ?_
       refine reg_ ?_
       refine st (mv_ rfl trivial ?_)
       refine st (c_ (cp_ t3 rfl trivial) ?_)
       refine st (mv_ rfl trivial ?_)
       refine oe_ ?_
       obtain rfl := Option.some.inj h1
       exact hK1 _ rfl _ ⟨[(0, .lst 4 (a0.map eDLease)), (1, iV (IntKind.i64.wrap (v46 + 1))), (5, iV (IntKind.i64.wrap (p17 + 1)))], [], []⟩ (fgk (by kernel_rfl)) rfl
  ·replace h1 := inb c36 h1
   obtain rfl := Option.some.inj h1
   obtain rfl := hx1 _ rfl
   refine exQ rfl ?_
   exact hE1 _ ⟨[(1, iV p16)], [], []⟩ (fgk (by kernel_rfl)) ⟨_, rfl, rfl⟩

/- loop.example/g00149/laws.heldTable -/
def c27_r0 : List Ins := [⟨some 2, .box (.t 0), none⟩,
⟨some 4, .p (.mv (.c (iV 0))), none⟩]
def c27_r1 : List Ins := [⟨some 5, .p (.fieldA (.t 2) 2), none⟩,
⟨some 6, .p (.load (.t 5) 1 false), none⟩,
⟨some 7, .p (.mv (.t 1)), none⟩,
⟨some 8, .call 73 [(.t 6), (.t 7)], none⟩,
⟨some 1, .p (.mv (.t 8)), none⟩]
def c27_r2 : List Ins := [⟨some 9, .p (.mv (.t 1)), none⟩,
⟨some 10, .p (.bin .lss (.t 9) (.c (iV 0))), none⟩]
def c27_r3 : List Ins := [⟨some 4, .p (.mv (.c (iV (-1)))), none⟩]
def c27_r4 : List Ins := [⟨some 11, .p (.mv (.t 1)), none⟩,
⟨some 4, .p (.mv (.t 11)), none⟩]
def c27 : XFn := { np := 2, nt := 12, res := [.t 4], body := (.seq (.reg c27_r0) (.seq (.reg c27_r1) (.seq (.seq (.reg c27_r2) (.ite (.t 10) (.seq (.reg c27_r3) .ret) .skip)) (.seq (.reg c27_r4) .ret)))) }
def K27 (C : CRel) : Prop := ∀ (a0 : DTable) (a1 : Int) (r : Int), g27 a0 a1 = some r → C 27 ⟨[.agg (eDTable a0), iV a1], []⟩ ⟨iV r, [], []⟩
theorem F27 {C : CRel} (H73 : K73 C) (a0 : DTable) (a1 : Int) (r : Int) (h0 : g27 a0 a1 = some r) : FnOK C c27 ⟨[.agg (eDTable a0), iV a1], []⟩ ⟨iV r, [], []⟩ := by
 refine fn_ (nl rfl) ?_
 refine seq_ ?_
 refine reg_ ?_
 refine st (box_ rfl trivial rfl ?_)
 refine st (mvc_ trivial ?_)
 refine oe_ ?_
 refine wk_ ⟨[(1, iV a1), (2, .ptr 128 0)], [(128, [iV a0.clock, iV a0.next, .lst 4 (a0.list_.map eDLease)])], []⟩ (fgk (by kernel_rfl)) ?_
 refine seq_ ?_
 refine reg_ ?_
 refine st (c_ (cp_ ⟨trivial, trivial⟩ rfl trivial) ?_)
 refine st (c_ (cp_ ⟨trivial, trivial⟩ rfl (nl rfl)) ?_)
 refine st (mv_ rfl trivial ?_)
 obtain ⟨r1, e2, h0⟩ := bnd h0
 refine st (call0_ (r := iV r1) false (H73 a0.list_ a1 r1 e2) ⟨trivial, trivial, trivial⟩ rfl rfl (fun _ => rfl) ?_)
 refine st (mv_ rfl trivial ?_)
 refine oe_ ?_
 refine wk_ ⟨[(1, iV r1)], [], []⟩ (fgk (by kernel_rfl)) ?_
 refine seq_ ?_
 refine seq_ ?_
 refine reg_ ?_
 refine st (mv_ rfl trivial ?_)
 refine st (c_ (cp_ t3 rfl trivial) ?_)
 refine oe_ ?_
 refine wk_ ⟨[(1, iV r1), (10, .bool (decide (r1 < 0)))], [], []⟩ (fgk (by kernel_rfl)) ?_
 refine ite_ (cb := (decide (r1 < 0))) rfl (fun c3 => ?_) (fun c3 => ?_)
 ·replace h0 := ip c3 h0
  refine seq_ ?_
  refine reg_ ?_
  refine st (mvc_ trivial ?_)
  refine oe_ ?_
  refine wk_ ⟨[(4, iV (-1))], [], []⟩ (fgk (by kernel_rfl)) ?_
  obtain rfl := Option.some.inj h0
  exact rt_ (ret_ rfl rfl rfl rfl rfl trivial)
 ·replace h0 := inb c3 h0
  refine sk_ ?_
  refine wk_ ⟨[(1, iV r1)], [], []⟩ (fgk (by kernel_rfl)) ?_
  refine seq_ ?_
  refine reg_ ?_
  refine st (mv_ rfl trivial ?_)
  refine st (mv_ rfl trivial ?_)
  refine oe_ ?_
  refine wk_ ⟨[(4, iV r1)], [], []⟩ (fgk (by kernel_rfl)) ?_
  obtain rfl := Option.some.inj h0
  exact rt_ (ret_ rfl rfl rfl rfl rfl trivial)

/- loop.example/g00149/spec.l01In -/
def c56_r0 : List Ins := [⟨some 6, .p (.mv (.c (.bool false))), none⟩]
def c56_r1 : List Ins := [⟨some 7, .p (.mv (.t 0)), none⟩,
⟨some 8, .p (.mv (.t 1)), none⟩,
⟨some 9, .p (.bin .geq (.t 7) (.t 8)), none⟩,
⟨some 10, .p (.mv (.t 9)), none⟩,
⟨some 11, .p (.mv (.t 0)), some (10, true)⟩,
⟨some 12, .p (.mv (.t 2)), some (10, true)⟩,
⟨some 13, .p (.bin .leq (.t 11) (.t 12)), some (10, true)⟩,
⟨some 14, .pick (.t 10) (.t 13) (.c (.bool false)), none⟩,
⟨some 6, .p (.mv (.t 14)), none⟩]
def c56 : XFn := { np := 3, nt := 15, res := [.t 6], body := (.seq (.reg c56_r0) (.seq (.reg c56_r1) .ret)) }
def K56 (C : CRel) : Prop := ∀ (a0 : Int) (a1 : Int) (a2 : Int) (r : Bool), g56 a0 a1 a2 = some r → C 56 ⟨[iV a0, iV a1, iV a2], []⟩ ⟨.bool r, [], []⟩
theorem F56 {C : CRel}  (a0 : Int) (a1 : Int) (a2 : Int) (r : Bool) (h0 : g56 a0 a1 a2 = some r) : FnOK C c56 ⟨[iV a0, iV a1, iV a2], []⟩ ⟨.bool r, [], []⟩ := by
 refine fn_ (nl rfl) ?_
 refine seq_ ?_
 refine reg_ ?_
 refine st (mvc_ trivial ?_)
 refine oe_ ?_
 refine wk_ ⟨[(0, iV a0), (1, iV a1), (2, iV a2)], [], []⟩ (fgk (by kernel_rfl)) ?_
 refine seq_ ?_
 refine reg_ ?_
 refine st (mv_ rfl trivial ?_)
 refine st (mv_ rfl trivial ?_)
 refine st (c_ (cp_ t3 rfl trivial) ?_)
 refine st (mv_ rfl trivial ?_)
 refine st (pg_ (u := iV a0) rfl (fun hg => (cmv (v := iV a0) rfl trivial)) ?_)
 refine st (pg_ (u := iV a2) rfl (fun hg => (cmv (v := iV a2) rfl trivial)) ?_)
 refine st (pg_ (u := .bool (decide (a0 ≤ a2))) rfl (fun hg => (cp_ ⟨(fun _ => hg), (fun _ => hg), trivial⟩ rfl trivial)) ?_)
 refine st (pick_ rfl rfl rfl (fun h => eqt h) trivial rfl ?_)
 refine st (mv_ rfl trivial ?_)
 refine oe_ ?_
 refine wk_ ⟨[(6, .bool (bif (decide (a0 ≥ a1)) then (decide (a0 ≤ a2)) else false))], [], []⟩ (fgk (by kernel_rfl)) ?_
 obtain rfl := Option.some.inj h0
 exact rt_ (ret_ rfl rfl rfl rfl rfl trivial)

/- loop.example/g00149/spec.TableOK -/
def c18_r0 : List Ins := [⟨some 1, .box (.t 0), none⟩,
⟨some 2, .p (.mv (.c (.bool false))), none⟩]
def c18_r1 : List Ins := [⟨some 5, .p (.fieldA (.t 1) 0), none⟩,
⟨some 6, .p (.load (.t 5) 1 false), none⟩,
⟨some 7, .p (.bin .lss (.t 6) (.c (iV 0))), none⟩,
⟨some 8, .p (.mv (.t 7)), none⟩,
⟨some 9, .p (.fieldA (.t 1) 1), some (8, false)⟩,
⟨some 10, .p (.load (.t 9) 1 false), some (8, false)⟩,
⟨some 11, .call 56 [(.t 10), (.c (iV 1)), (.c (iV 1000000))], some (8, false)⟩,
⟨some 12, .p (.un .not (.t 11)), some (8, false)⟩,
⟨some 13, .pick (.t 8) (.c (.bool true)) (.t 12), none⟩,
⟨some 14, .p (.mv (.t 13)), none⟩,
⟨some 15, .p (.fieldA (.t 1) 2), some (14, false)⟩,
⟨some 16, .p (.load (.t 15) 1 false), some (14, false)⟩,
⟨some 17, .p (.len (.t 16)), some (14, false)⟩,
⟨some 18, .p (.bin .gtr (.t 17) (.c (iV 40))), some (14, false)⟩,
⟨some 19, .pick (.t 14) (.c (.bool true)) (.t 18), none⟩]
def c18_r2 : List Ins := [⟨some 2, .p (.mv (.c (.bool false))), none⟩]
def c18_r3 : List Ins := [⟨some 3, .p (.mv (.c (iV 0))), none⟩]
def c18_r4 : List Ins := [⟨some 20, .p (.mv (.t 3)), none⟩,
⟨some 21, .p (.fieldA (.t 1) 2), none⟩,
⟨some 22, .p (.load (.t 21) 1 false), none⟩,
⟨some 23, .p (.len (.t 22)), none⟩,
⟨some 24, .p (.bin .lss (.t 20) (.t 23)), none⟩]
def c18_r5 : List Ins := [⟨some 27, .p (.fieldA (.t 1) 2), none⟩,
⟨some 28, .p (.load (.t 27) 1 false), none⟩,
⟨some 29, .p (.mv (.t 3)), none⟩,
⟨some 30, .p (.idxA (.t 28) (.t 29) 4), none⟩,
⟨some 31, .p (.load (.t 30) 4 true), none⟩,
⟨some 4, .alloc [(iV 0), (iV 0), (iV 0), (.bool false)], none⟩,
⟨none, .store (.t 4) (.t 31) 4, none⟩]
def c18_r6 : DP := (.take ⟨some 32, .p (.fieldA (.t 4) 0), none⟩
(.take ⟨some 33, .p (.load (.t 32) 1 false), none⟩
(.take ⟨some 34, .p (.fieldA (.t 1) 1), none⟩
(.take ⟨some 35, .p (.load (.t 34) 1 false), none⟩
(.take ⟨some 36, .p (.bin .sub (.t 35) (.c (iV 1))), none⟩
(.alt [] ⟨some 37, .call 56 [(.t 33), (.c (iV 1)), (.t 36)], none⟩
(.take ⟨some 38, .p (.un .not (.t 37)), none⟩
(.take ⟨some 39, .p (.mv (.t 38)), none⟩
(.take ⟨some 40, .p (.mv (.t 3)), some (39, false)⟩
(.take ⟨some 41, .p (.bin .gtr (.t 40) (.c (iV 0))), some (39, false)⟩
(.take ⟨some 42, .p (.mv (.t 41)), some (39, false)⟩
(.take ⟨some 43, .p (.fieldA (.t 1) 2), some (42, true)⟩
(.take ⟨some 44, .p (.load (.t 43) 1 false), some (42, true)⟩
(.take ⟨some 45, .p (.mv (.t 3)), some (42, true)⟩
(.take ⟨some 46, .p (.bin .sub (.t 45) (.c (iV 1))), some (42, true)⟩
(.take ⟨some 47, .p (.idxA (.t 44) (.t 46) 4), some (42, true)⟩
(.take ⟨some 48, .p (.fieldA (.t 47) 0), some (42, true)⟩
(.take ⟨some 49, .p (.load (.t 48) 1 false), some (42, true)⟩
(.take ⟨some 50, .p (.fieldA (.t 4) 0), some (42, true)⟩
(.take ⟨some 51, .p (.load (.t 50) 1 false), some (42, true)⟩
(.take ⟨some 52, .p (.bin .geq (.t 49) (.t 51)), some (42, true)⟩
(.take ⟨some 53, .pick (.t 42) (.t 52) (.c (.bool false)), some (39, false)⟩
(.take ⟨some 54, .pick (.t 39) (.c (.bool true)) (.t 53), none⟩
(.take ⟨some 55, .p (.mv (.t 54)), none⟩
(.take ⟨some 56, .p (.fieldA (.t 4) 1), some (55, false)⟩
(.take ⟨some 57, .p (.load (.t 56) 1 false), some (55, false)⟩
(.take ⟨some 58, .p (.bin .lss (.t 57) (.c (iV 0))), some (55, false)⟩
(.take ⟨some 59, .pick (.t 55) (.c (.bool true)) (.t 58), none⟩
(.take ⟨some 60, .p (.mv (.t 59)), none⟩
(.take ⟨some 61, .p (.fieldA (.t 4) 1), some (60, false)⟩
(.take ⟨some 62, .p (.load (.t 61) 1 false), some (60, false)⟩
(.take ⟨some 63, .p (.fieldA (.t 4) 2), some (60, false)⟩
(.take ⟨some 64, .p (.load (.t 63) 1 false), some (60, false)⟩
(.take ⟨some 65, .p (.bin .gtr (.t 62) (.t 64)), some (60, false)⟩
(.take ⟨some 66, .pick (.t 60) (.c (.bool true)) (.t 65), none⟩
(.take ⟨some 67, .p (.mv (.t 66)), none⟩
(.take ⟨some 68, .p (.fieldA (.t 4) 3), some (67, false)⟩
(.take ⟨some 69, .p (.load (.t 68) 1 false), some (67, false)⟩
(.take ⟨some 70, .p (.un .not (.t 69)), some (67, false)⟩
(.take ⟨some 71, .p (.mv (.t 70)), some (67, false)⟩
(.take ⟨some 72, .p (.fieldA (.t 4) 1), some (71, true)⟩
(.take ⟨some 73, .p (.load (.t 72) 1 false), some (71, true)⟩
(.take ⟨some 74, .p (.fieldA (.t 1) 0), some (71, true)⟩
(.take ⟨some 75, .p (.load (.t 74) 1 false), some (71, true)⟩
(.take ⟨some 76, .p (.bin .leq (.t 73) (.t 75)), some (71, true)⟩
(.take ⟨some 77, .pick (.t 71) (.t 76) (.c (.bool false)), some (67, false)⟩
(.take ⟨some 78, .pick (.t 67) (.c (.bool true)) (.t 77), none⟩
.fin)))))))))))))))))))))))))))))))))))))))))
.stop))))))
def c18_r7 : List Ins := [⟨some 2, .p (.mv (.c (.bool false))), none⟩]
def c18_r8 : List Ins := [⟨some 25, .p (.mv (.t 3)), none⟩,
⟨some 26, .p (.bin .add (.t 25) (.c (iV 1))), none⟩,
⟨some 3, .p (.mv (.t 26)), none⟩]
def c18_l0 : IR := (.seq (.seq (.reg c18_r4) (.ite (.t 24) .skip (.exit 0))) (.seq (.block 1 (.seq (.reg c18_r5) (.seq (.draw c18_r6) (.ite (.t 78) (.seq (.reg c18_r7) .ret) .skip)))) (.reg c18_r8)))
def c18_r9 : List Ins := [⟨some 2, .p (.mv (.c (.bool true))), none⟩]
def c18 : XFn := { np := 1, nt := 79, res := [.t 2], body := (.seq (.reg c18_r0) (.seq (.seq (.reg c18_r1) (.ite (.t 19) (.seq (.reg c18_r2) .ret) .skip)) (.seq (.seq (.reg c18_r3) (.block 0 (.loop c18_l0))) (.seq (.reg c18_r9) .ret)))) }
def K18 (C : CRel) : Prop := ∀ (a0 : DTable) (r : Bool), g18 a0 = some r → C 18 ⟨[.agg (eDTable a0)], []⟩ ⟨.bool r, [], []⟩
theorem F18 {C : CRel} (H56 : K56 C) (a0 : DTable) (r : Bool) (h0 : g18 a0 = some r) : FnOK C c18 ⟨[.agg (eDTable a0)], []⟩ ⟨.bool r, [], []⟩ := by
 refine fn_ (nl rfl) ?_
 refine seq_ ?_
 refine reg_ ?_
 refine st (box_ rfl trivial rfl ?_)
 refine st (mvc_ trivial ?_)
 refine oe_ ?_
 refine wk_ ⟨[(1, .ptr 64 0)], [(64, [iV a0.clock, iV a0.next, .lst 4 (a0.list_.map eDLease)])], []⟩ (fgk (by kernel_rfl)) ?_
 refine seq_ ?_
 refine seq_ ?_
 refine reg_ ?_
 refine st (c_ (cp_ ⟨trivial, trivial⟩ rfl trivial) ?_)
 refine st (c_ (cp_ ⟨trivial, trivial⟩ rfl (nl rfl)) ?_)
 refine st (c_ (cp_ t3 rfl trivial) ?_)
 refine st (mv_ rfl trivial ?_)
 refine st (pg_ (u := .ptr 64 1) rfl (fun hg => (cp_ ⟨trivial, trivial⟩ rfl trivial)) ?_)
 refine st (pg_ (u := iV a0.next) rfl (fun hg => (cp_ ⟨(fun _ => hg), trivial⟩ rfl (nl rfl))) ?_)
 obtain ⟨r1, e2, h0⟩ := bnd h0
 refine st (callg_ (r := .bool r1) rfl false (fun hg => H56 a0.next 1 1000000 r1 (ip hg e2)) ⟨(fun hg => hg), trivial, trivial, trivial⟩ (fun _ => rfl) (fun _ => rfl) (fun _ => rfl) (fun h => nomatch h) ?_)
 refine st (pg_ (u := .bool (!r1)) rfl (fun hg => (cp_ ⟨(fun _ => hg), trivial⟩ rfl trivial)) ?_)
 refine st (pick_ rfl rfl rfl trivial (fun h => eqf h) rfl ?_)
 refine st (mv_ rfl trivial ?_)
 refine st (pg_ (u := .ptr 64 2) rfl (fun hg => (cp_ ⟨trivial, trivial⟩ rfl trivial)) ?_)
 refine st (pg_ (u := .lst 4 (a0.list_.map eDLease)) rfl (fun hg => (cp_ ⟨(fun _ => hg), trivial⟩ rfl (nl rfl))) ?_)
 refine sw ⟨[(1, .ptr 64 0), (14, .bool (bif (decide (a0.clock < 0)) then true else (!r1))), (16, .may ((bif (decide (a0.clock < 0)) then true else (!r1)) == false) (.lst 4 (a0.list_.map eDLease)))], [(64, [iV a0.clock, iV a0.next, .lst 4 (a0.list_.map eDLease)])], []⟩ (fgk (by kernel_rfl)) (pg_ (u := iV (a0.list_.length : Int)) rfl (fun hg => (clenL (e := eDLease) (l0 := a0.list_) rfl rfl (fun _ => hg))) ?_)
 refine st (pg_ (u := .bool (decide ((a0.list_.length : Int) > 40))) rfl (fun hg => (cp_ ⟨(fun _ => hg), trivial, trivial⟩ rfl trivial)) ?_)
 refine st (pick_ rfl rfl rfl trivial (fun h => eqf h) rfl ?_)
 refine oe_ ?_
 obtain ⟨v3, e4, h0⟩ := bl h0
 refine wk_ ⟨[(1, .ptr 64 0), (19, .bool v3)], [(64, [iV a0.clock, iV a0.next, .lst 4 (a0.list_.map eDLease)])], []⟩ (fgk (by subst e4; kernel_rfl)) ?_
 refine ite_ (cb := v3) rfl (fun c5 => ?_) (fun c5 => ?_)
 ·replace h0 := ip c5 h0
  refine seq_ ?_
  refine reg_ ?_
  refine st (mvc_ trivial ?_)
  refine oe_ ?_
  refine wk_ ⟨[(2, .bool false)], [], []⟩ (fgk (by kernel_rfl)) ?_
  obtain rfl := Option.some.inj h0
  exact rt_ (ret_ rfl rfl rfl rfl rfl trivial)
 ·replace h0 := inb c5 h0
  refine sk_ ?_
  refine wk_ ⟨[(1, .ptr 64 0)], [(64, [iV a0.clock, iV a0.next, .lst 4 (a0.list_.map eDLease)])], []⟩ (fgk (by kernel_rfl)) ?_
  refine seq_ ?_
  refine seq_ ?_
  refine reg_ ?_
  refine st (mvc_ trivial ?_)
  refine oe_ ?_
  refine wk_ ⟨[(1, .ptr 64 0), (3, iV 0)], [(64, [iV a0.clock, iV a0.next, .lst 4 (a0.list_.map eDLease)])], []⟩ (fgk (by kernel_rfl)) ?_
  refine block_ ?_
  obtain ⟨r38, e39, h0⟩ := bnd h0
  refine loop_ (R := (fun S => .inl () = r38 ∧ S = ⟨[], [], []⟩)) (g18_l0 a0) (fun s S => match s with | p16 => S = ⟨[(1, .ptr 64 0), (3, iV p16)], [(64, [iV a0.clock, iV a0.next, .lst 4 (a0.list_.map eDLease)])], []⟩) e39 ⟨[(1, .ptr 64 0), (3, iV 0)], [(64, [iV a0.clock, iV a0.next, .lst 4 (a0.list_.map eDLease)])], []⟩ (fgk (by kernel_rfl)) rfl 0 (fun _ => rfl) ?_ ?_
  ·rintro S _ hfg ⟨rfl, rfl⟩
   refine wk_ ⟨[], [], []⟩ (fglk hfg (by kernel_rfl)) ?_
   refine seq_ ?_
   refine reg_ ?_
   refine st (mvc_ trivial ?_)
   refine oe_ ?_
   refine wk_ ⟨[(2, .bool true)], [], []⟩ (fgk (by kernel_rfl)) ?_
   obtain rfl := Option.some.inj h0
   exact rt_ (ret_ rfl rfl rfl rfl rfl trivial)
  ·rintro p16 o1 _ K1 rfl h1 hx1 hK1 hE1 hR1
   refine seq_ ?_
   refine seq_ ?_
   refine reg_ ?_
   refine st (mv_ rfl trivial ?_)
   refine st (c_ (cp_ ⟨trivial, trivial⟩ rfl trivial) ?_)
   refine st (c_ (cp_ ⟨trivial, trivial⟩ rfl (nl rfl)) ?_)
   refine st (c_ (clenL (e := eDLease) (l0 := a0.list_) rfl rfl trivial) ?_)
   refine st (c_ (cp_ t3 rfl trivial) ?_)
   refine oe_ ?_
   refine wk_ ⟨[(1, .ptr 64 0), (3, iV p16), (24, .bool (decide (p16 < (a0.list_.length : Int))))], [(64, [iV a0.clock, iV a0.next, .lst 4 (a0.list_.map eDLease)])], []⟩ (fgk (by kernel_rfl)) ?_
   refine ite_ (cb := (decide (p16 < (a0.list_.length : Int)))) rfl (fun c28 => ?_) (fun c28 => ?_)
   ·replace h1 := ip c28 h1
    refine sk_ ?_
    refine wk_ ⟨[(1, .ptr 64 0), (3, iV p16)], [(64, [iV a0.clock, iV a0.next, .lst 4 (a0.list_.map eDLease)])], []⟩ (fgk (by kernel_rfl)) ?_
    refine seq_ ?_
    refine block_ ?_
    refine seq_ ?_
    refine reg_ ?_
    refine st (c_ (cp_ ⟨trivial, trivial⟩ rfl trivial) ?_)
    refine st (c_ (cp_ ⟨trivial, trivial⟩ rfl (nl rfl)) ?_)
    refine st (mv_ rfl trivial ?_)
    obtain ⟨y29, e30, h1⟩ := bnd h1
    refine st (c_ (cidxL (e := eDLease) (y := y29) rfl rfl trivial rfl rfl trivial e30) ?_)
    refine st (c_ (v := .agg (eDLease y29)) (cp_ ⟨trivial, trivial⟩ rfl (nl rfl)) ?_)
    refine st (alloc_ ?_)
    refine st (stp_ rfl rfl trivial rfl rfl rfl (nl rfl) ?_)
    refine oe_ ?_
    refine wk_ ⟨[(1, .ptr 64 0), (3, iV p16), (4, .ptr 256 0)], [(64, [iV a0.clock, iV a0.next, .lst 4 (a0.list_.map eDLease)]), (256, [iV y29.id, iV y29.until_, iV y29.cap, .bool y29.queued])], []⟩ (fgk (by kernel_rfl)) ?_
    refine seq_ ?_
    obtain ⟨r31, e32, h1⟩ := bnd h1
    obtain ⟨y33, e34, h1⟩ := bnd h1
    refine draw_ ?_
    refine dtake trivial (c_ (cp_ ⟨trivial, trivial⟩ rfl trivial) ?_)
    refine ⟨trivial, ?_⟩
    refine dtake trivial (c_ (cp_ ⟨trivial, trivial⟩ rfl (nl rfl)) ?_)
    refine ⟨trivial, ?_⟩
    refine dtake trivial (c_ (cp_ ⟨trivial, trivial⟩ rfl trivial) ?_)
    refine ⟨trivial, ?_⟩
    refine dtake trivial (c_ (cp_ ⟨trivial, trivial⟩ rfl (nl rfl)) ?_)
    refine ⟨trivial, ?_⟩
    refine dtake trivial (c_ (cp_ t3 rfl trivial) ?_)
    refine ⟨trivial, ?_⟩
    refine dalt (call0_ (r := .bool r31) false (H56 y29.id 1 (IntKind.i64.wrap (a0.next - 1)) r31 e32) ⟨trivial, trivial, trivial, trivial⟩ rfl rfl (fun _ => rfl) ?_) dstop
    refine dkw ⟨[(1, .ptr 64 0), (3, iV p16), (4, .ptr 256 0), (37, .bool r31)], [(64, [iV a0.clock, iV a0.next, .lst 4 (a0.list_.map eDLease)]), (256, [iV y29.id, iV y29.until_, iV y29.cap, .bool y29.queued])], []⟩ (fgk (by kernel_rfl)) ⟨[], trivial, trivial, ?_⟩
    refine dtake trivial (c_ (cp_ ⟨trivial, trivial⟩ rfl trivial) ?_)
    refine ⟨trivial, ?_⟩
    refine dtake trivial (mv_ rfl trivial ?_)
    refine ⟨trivial, ?_⟩
    refine dtake trivial (pg_ (u := iV p16) rfl (fun hg => (cmv (v := iV p16) rfl trivial)) ?_)
    refine ⟨trivial, ?_⟩
    refine dtake trivial (pg_ (u := .bool (decide (p16 > 0))) rfl (fun hg => (cp_ ⟨(fun _ => hg), trivial, trivial⟩ rfl trivial)) ?_)
    refine ⟨trivial, ?_⟩
    refine dtake trivial (pg_ (u := .bool (decide (p16 > 0))) rfl (fun hg => (cmv (v := .may ((!r31) == false) (.bool (decide (p16 > 0)))) rfl (fun _ => hg))) ?_)
    refine ⟨trivial, ?_⟩
    refine dtake trivial (pg_ (u := .ptr 64 2) rfl (fun hg => (cp_ ⟨trivial, trivial⟩ rfl trivial)) ?_)
    refine ⟨trivial, ?_⟩
    refine dtake trivial (pg_ (u := .lst 4 (a0.list_.map eDLease)) rfl (fun hg => (cp_ ⟨(fun _ => hg), trivial⟩ rfl (nl rfl))) ?_)
    refine ⟨trivial, ?_⟩
    refine dtake trivial (pg_ (u := iV p16) rfl (fun hg => (cmv (v := iV p16) rfl trivial)) ?_)
    refine ⟨trivial, ?_⟩
    refine dtake trivial (pg_ (u := iV (IntKind.i64.wrap (p16 - 1))) rfl (fun hg => (cp_ ⟨(fun _ => hg), trivial, trivial⟩ rfl trivial)) ?_)
    refine ⟨trivial, ?_⟩
    refine dtake trivial (pg_ (u := .iptr [iV y33.id, iV y33.until_, iV y33.cap, .bool y33.queued]) rfl (fun hg => (cidxL (e := eDLease) (y := y33) rfl rfl (fun _ => hg) rfl rfl (fun _ => hg) (ip hg e34))) ?_)
    refine ⟨trivial, ?_⟩
    refine dtake trivial (pg_ (u := .iptr [iV y33.id, iV y33.until_, iV y33.cap, .bool y33.queued]) rfl (fun hg => (cp_ ⟨(fun _ => hg), trivial⟩ rfl (nl rfl))) ?_)
    refine ⟨trivial, ?_⟩
    refine dtake trivial (pg_ (u := iV y33.id) rfl (fun hg => (cp_ ⟨(fun _ => hg), trivial⟩ rfl (nl rfl))) ?_)
    refine ⟨trivial, ?_⟩
    refine dtake trivial (pg_ (u := .ptr 256 0) rfl (fun hg => (cp_ ⟨trivial, trivial⟩ rfl trivial)) ?_)
    refine ⟨trivial, ?_⟩
    refine dtake trivial (pg_ (u := iV y29.id) rfl (fun hg => (cp_ ⟨(fun _ => hg), trivial⟩ rfl (nl rfl))) ?_)
    refine ⟨trivial, ?_⟩
    refine dtake trivial (pg_ (u := .bool (decide (y33.id ≥ y29.id))) rfl (fun hg => (cp_ ⟨(fun _ => hg), (fun _ => hg), trivial⟩ rfl trivial)) ?_)
    refine ⟨trivial, ?_⟩
    refine dtake trivial (pickg_ (u := .bool (bif (decide (p16 > 0)) then (decide (y33.id ≥ y29.id)) else false)) rfl (fun hg => cpick rfl rfl (fun _ => hg) rfl rfl (fun h => and_ hg (eqt h)) trivial rfl) ?_)
    refine ⟨trivial, ?_⟩
    refine dtake trivial (pick_ rfl rfl rfl trivial (fun h => eqf h) rfl ?_)
    refine ⟨trivial, ?_⟩
    refine dtake trivial (mv_ rfl trivial ?_)
    refine ⟨trivial, ?_⟩
    refine dtake trivial (pg_ (u := .ptr 256 1) rfl (fun hg => (cp_ ⟨trivial, trivial⟩ rfl trivial)) ?_)
    refine ⟨trivial, ?_⟩
    refine dtake trivial (pg_ (u := iV y29.until_) rfl (fun hg => (cp_ ⟨(fun _ => hg), trivial⟩ rfl (nl rfl))) ?_)
    refine ⟨trivial, ?_⟩
    refine dtake trivial (pg_ (u := .bool (decide (y29.until_ < 0))) rfl (fun hg => (cp_ ⟨(fun _ => hg), trivial, trivial⟩ rfl trivial)) ?_)
    refine ⟨trivial, ?_⟩
    refine dtake trivial (pick_ rfl rfl rfl trivial (fun h => eqf h) rfl ?_)
    refine ⟨trivial, ?_⟩
    refine dtake trivial (mv_ rfl trivial ?_)
    refine ⟨trivial, ?_⟩
    refine dtake trivial (pg_ (u := .ptr 256 1) rfl (fun hg => (cp_ ⟨trivial, trivial⟩ rfl trivial)) ?_)
    refine ⟨trivial, ?_⟩
    refine dtake trivial (pg_ (u := iV y29.until_) rfl (fun hg => (cp_ ⟨(fun _ => hg), trivial⟩ rfl (nl rfl))) ?_)
    refine ⟨trivial, ?_⟩
    refine dtake trivial (pg_ (u := .ptr 256 2) rfl (fun hg => (cp_ ⟨trivial, trivial⟩ rfl trivial)) ?_)
    refine ⟨trivial, ?_⟩
    refine dtake trivial (pg_ (u := iV y29.cap) rfl (fun hg => (cp_ ⟨(fun _ => hg), trivial⟩ rfl (nl rfl))) ?_)
    refine ⟨trivial, ?_⟩
    refine dtake trivial (pg_ (u := .bool (decide (y29.until_ > y29.cap))) rfl (fun hg => (cp_ ⟨(fun _ => hg), (fun _ => hg), trivial⟩ rfl trivial)) ?_)
    refine ⟨trivial, ?_⟩
    refine dtake trivial (pick_ rfl rfl rfl trivial (fun h => eqf h) rfl ?_)
    refine ⟨trivial, ?_⟩
    refine dtake trivial (mv_ rfl trivial ?_)
    refine ⟨trivial, ?_⟩
    refine dtake trivial (pg_ (u := .ptr 256 3) rfl (fun hg => (cp_ ⟨trivial, trivial⟩ rfl trivial)) ?_)
    refine ⟨trivial, ?_⟩
    refine dtake trivial (pg_ (u := .bool y29.queued) rfl (fun hg => (cp_ ⟨(fun _ => hg), trivial⟩ rfl (nl rfl))) ?_)
    refine ⟨trivial, ?_⟩
    refine dtake trivial (pg_ (u := .bool (!y29.queued)) rfl (fun hg => (cp_ ⟨(fun _ => hg), trivial⟩ rfl trivial)) ?_)
    refine ⟨trivial, ?_⟩
    refine dtake trivial (pg_ (u := .bool (!y29.queued)) rfl (fun hg => (cmv (v := .may ((bif (bif (bif (!r31) then true else (bif (decide (p16 > 0)) then (decide (y33.id ≥ y29.id)) else false)) then true else (decide (y29.until_ < 0))) then true else (decide (y29.until_ > y29.cap))) == false) (.bool (!y29.queued))) rfl (fun _ => hg))) ?_)
    refine ⟨trivial, ?_⟩
    refine dtake trivial (pg_ (u := .ptr 256 1) rfl (fun hg => (cp_ ⟨trivial, trivial⟩ rfl trivial)) ?_)
    refine ⟨trivial, ?_⟩
    refine dtake trivial (pg_ (u := iV y29.until_) rfl (fun hg => (cp_ ⟨(fun _ => hg), trivial⟩ rfl (nl rfl))) ?_)
    refine ⟨trivial, ?_⟩
    refine dtake trivial (pg_ (u := .ptr 64 0) rfl (fun hg => (cp_ ⟨trivial, trivial⟩ rfl trivial)) ?_)
    refine ⟨trivial, ?_⟩
    refine dtake trivial (pg_ (u := iV a0.clock) rfl (fun hg => (cp_ ⟨(fun _ => hg), trivial⟩ rfl (nl rfl))) ?_)
    refine ⟨trivial, ?_⟩
    refine dtake trivial (pg_ (u := .bool (decide (y29.until_ ≤ a0.clock))) rfl (fun hg => (cp_ ⟨(fun _ => hg), (fun _ => hg), trivial⟩ rfl trivial)) ?_)
    refine ⟨trivial, ?_⟩
    refine dtake trivial (pickg_ (u := .bool (bif (!y29.queued) then (decide (y29.until_ ≤ a0.clock)) else false)) rfl (fun hg => cpick rfl rfl (fun _ => hg) rfl rfl (fun h => and_ hg (eqt h)) trivial rfl) ?_)
    refine ⟨trivial, ?_⟩
    refine dtake trivial (pick_ rfl rfl rfl trivial (fun h => eqf h) rfl ?_)
    refine ⟨trivial, ?_⟩
    refine dfin ?_
    obtain ⟨v35, e36, h1⟩ := bl h1
    refine wk_ ⟨[(1, .ptr 64 0), (3, iV p16), (78, .bool v35)], [(64, [iV a0.clock, iV a0.next, .lst 4 (a0.list_.map eDLease)])], []⟩ (fgk (by subst e36; kernel_rfl)) ?_
    refine ite_ (cb := v35) rfl (fun c37 => ?_) (fun c37 => ?_)
    ·replace h1 := ip c37 h1
     refine seq_ ?_
     refine reg_ ?_
     refine st (mvc_ trivial ?_)
     refine oe_ ?_
     refine wk_ ⟨[(2, .bool false)], [], []⟩ (fgk (by kernel_rfl)) ?_
     obtain rfl := Option.some.inj h1
     obtain rfl := hx1 _ rfl
     obtain rfl := Option.some.inj h0
     exact rt_ (hR1 _ (ret_ rfl rfl rfl rfl rfl trivial))
    ·replace h1 := inb c37 h1
     refine sk_ ?_
     refine bn_ ?_
     refine wk_ ⟨[(1, .ptr 64 0), (3, iV p16)], [(64, [iV a0.clock, iV a0.next, .lst 4 (a0.list_.map eDLease)])], []⟩ (fgk (by kernel_rfl)) ?_
     refine reg_ ?_
     refine st (mv_ rfl trivial ?_)
     refine st (c_ (cp_ t3 rfl trivial) ?_)
     refine st (mv_ rfl trivial ?_)
     refine oe_ ?_
     obtain rfl := Option.some.inj h1
     exact hK1 _ rfl _ ⟨[(1, .ptr 64 0), (3, iV (IntKind.i64.wrap (p16 + 1)))], [(64, [iV a0.clock, iV a0.next, .lst 4 (a0.list_.map eDLease)])], []⟩ (fgk (by kernel_rfl)) rfl
   ·replace h1 := inb c28 h1
    obtain rfl := Option.some.inj h1
    obtain rfl := hx1 _ rfl
    refine exQ rfl ?_
    exact hE1 _ ⟨[], [], []⟩ (fgk (by kernel_rfl)) ⟨rfl, rfl⟩

/- loop.example/g00149/spec.l08Copy -/
def c111_r0 : List Ins := [⟨some 1, .box (.t 0), none⟩,
⟨some 2, .alloc [(iV 0), (iV 0), (.own 131 0 4 [])], none⟩]
def c111_r1 : List Ins := [⟨some 3, .mkS 4 [(iV 0), (iV 0), (iV 0), (.bool false)] 0 [], none⟩,
⟨some 4, .p (.fieldA (.t 1) 2), none⟩,
⟨some 5, .p (.load (.t 4) 1 false), none⟩,
⟨some 6, .app 4 32 (.t 3) (.t 5), none⟩,
⟨some 7, .p (.fieldA (.t 1) 2), none⟩,
⟨none, .store (.t 7) (.t 6) 1, none⟩]
def c111_r2 : List Ins := [⟨some 8, .p (.load (.t 1) 3 true), none⟩,
⟨none, .store (.t 2) (.t 8) 3, none⟩]
def c111 : XFn := { np := 1, nt := 9, res := [.cell 2 3 true], body := (.seq (.reg c111_r0) (.seq (.reg c111_r1) (.seq (.reg c111_r2) .ret))) }
def K111 (C : CRel) : Prop := ∀ (a0 : DTable) (r : DTable), g111 a0 = some r → C 111 ⟨[.agg (eDTable a0)], []⟩ ⟨.agg [iV r.clock, iV r.next, .own 0 0 4 (r.list_.map eDLease)], [], []⟩
theorem F111 {C : CRel}  (a0 : DTable) (r : DTable) (h0 : g111 a0 = some r) : FnOK C c111 ⟨[.agg (eDTable a0)], []⟩ ⟨.agg [iV r.clock, iV r.next, .own 0 0 4 (r.list_.map eDLease)], [], []⟩ := by
 refine fn_ (nl rfl) ?_
 refine seq_ ?_
 refine reg_ ?_
 refine st (box_ rfl trivial rfl ?_)
 refine st (alloc_ ?_)
 refine oe_ ?_
 refine wk_ ⟨[(1, .ptr 64 0), (2, .ptr 128 0)], [(64, [iV a0.clock, iV a0.next, .lst 4 (a0.list_.map eDLease)]), (128, [iV 0, iV 0, .own 131 0 4 (([] : List DLease).map eDLease)])], []⟩ (fgk (by kernel_rfl)) ?_
 refine seq_ ?_
 refine reg_ ?_
 refine st (mkS_ trivial trivial ?_)
 refine st (c_ (cp_ ⟨trivial, trivial⟩ rfl trivial) ?_)
 refine st (c_ (cp_ ⟨trivial, trivial⟩ rfl (nl rfl)) ?_)
 obtain ⟨c1, h0⟩ := grd h0
 refine st (app_ (e := eDLease) (l0 := ([] : List DLease)) (l1 := a0.list_) rfl rfl trivial rfl (by decide) c1 ?_)
 refine st (c_ (cp_ ⟨trivial, trivial⟩ rfl trivial) ?_)
 refine st (stp_ rfl rfl trivial rfl rfl rfl (nl rfl) ?_)
 refine oe_ ?_
 refine wk_ ⟨[(1, .ptr 64 0), (2, .ptr 128 0)], [(64, [iV a0.clock, iV a0.next, .own 192 0 4 ((([] : List DLease) ++ a0.list_).map eDLease)]), (128, [iV 0, iV 0, .own 131 0 4 (([] : List DLease).map eDLease)])], []⟩ (fgk (by kernel_rfl)) ?_
 refine seq_ ?_
 refine reg_ ?_
 refine st (c_ (v := .agg [iV a0.clock, iV a0.next, .own 192 0 4 ((([] : List DLease) ++ a0.list_).map eDLease)]) (cp_ ⟨trivial, trivial⟩ rfl (nl rfl)) ?_)
 refine st (stp_ rfl rfl trivial rfl rfl rfl (nl rfl) ?_)
 refine oe_ ?_
 refine wk_ ⟨[(2, .ptr 128 0)], [(128, [iV a0.clock, iV a0.next, .own 192 0 4 ((([] : List DLease) ++ a0.list_).map eDLease)])], []⟩ (fgk (by kernel_rfl)) ?_
 obtain rfl := Option.some.inj h0
 exact rt_ (ret_ rfl rfl rfl rfl rfl trivial)

/- loop.example/g00149/spec.l08Tick -/
def c81_r0 : List Ins := [⟨some 2, .box (.t 0), none⟩,
⟨some 4, .alloc [(iV 0), (iV 0), (.own 259 0 4 [])], none⟩,
⟨some 5, .nilS 1, none⟩]
def c81_r1 : List Ins := [⟨some 11, .p (.load (.t 2) 3 true), none⟩,
⟨some 12, .call 111 [(.t 11)], none⟩,
⟨some 6, .alloc [(iV 0), (iV 0), (.own 387 0 4 [])], none⟩,
⟨none, .store (.t 6) (.t 12) 3, none⟩]
def c81_r2 : List Ins := [⟨some 13, .p (.fieldA (.t 2) 0), none⟩,
⟨some 14, .p (.load (.t 13) 1 false), none⟩,
⟨some 15, .p (.mv (.t 1)), none⟩,
⟨some 16, .p (.mx (.t 14) (.t 15)), none⟩,
⟨some 17, .p (.fieldA (.t 6) 0), none⟩,
⟨none, .store (.t 17) (.t 16) 1, none⟩]
def c81_r3 : List Ins := [⟨some 18, .mkS 1 [(iV 0)] 0 [], none⟩,
⟨some 7, .p (.mv (.t 18)), none⟩]
def c81_r4 : List Ins := [⟨some 8, .p (.mv (.c (iV (-1)))), none⟩]
def c81_r5 : List Ins := [⟨some 9, .p (.mv (.c (iV 0))), none⟩]
def c81_r6 : List Ins := [⟨some 19, .p (.mv (.t 9)), none⟩,
⟨some 20, .p (.fieldA (.t 6) 2), none⟩,
⟨some 21, .p (.load (.t 20) 1 false), none⟩,
⟨some 22, .p (.len (.t 21)), none⟩,
⟨some 23, .p (.bin .lss (.t 19) (.t 22)), none⟩]
def c81_r7 : List Ins := [⟨some 26, .p (.fieldA (.t 6) 2), none⟩,
⟨some 27, .p (.load (.t 26) 1 false), none⟩,
⟨some 28, .p (.mv (.t 9)), none⟩,
⟨some 29, .p (.idxA (.t 27) (.t 28) 4), none⟩,
⟨some 30, .p (.load (.t 29) 4 true), none⟩,
⟨some 10, .alloc [(iV 0), (iV 0), (iV 0), (.bool false)], none⟩,
⟨none, .store (.t 10) (.t 30) 4, none⟩]
def c81_r8 : DP := (.take ⟨some 31, .p (.fieldA (.t 10) 3), none⟩
(.take ⟨some 32, .p (.load (.t 31) 1 false), none⟩
(.take ⟨some 33, .p (.un .not (.t 32)), none⟩
(.take ⟨some 34, .p (.mv (.t 33)), none⟩
(.take ⟨some 35, .p (.fieldA (.t 10) 1), some (34, true)⟩
(.take ⟨some 36, .p (.load (.t 35) 1 false), some (34, true)⟩
(.take ⟨some 37, .p (.fieldA (.t 6) 0), some (34, true)⟩
(.take ⟨some 38, .p (.load (.t 37) 1 false), some (34, true)⟩
(.take ⟨some 39, .p (.bin .leq (.t 36) (.t 38)), some (34, true)⟩
(.take ⟨some 40, .pick (.t 34) (.t 39) (.c (.bool false)), none⟩
(.take ⟨some 41, .p (.mv (.t 40)), none⟩
(.take ⟨some 42, .p (.mv (.t 8)), some (41, true)⟩
(.take ⟨some 43, .p (.bin .lss (.t 42) (.c (iV 0))), some (41, true)⟩
(.take ⟨some 44, .p (.mv (.t 43)), some (41, true)⟩
(.take ⟨some 45, .p (.fieldA (.t 10) 1), some (44, false)⟩
(.take ⟨some 46, .p (.load (.t 45) 1 false), some (44, false)⟩
(.take ⟨some 47, .p (.fieldA (.t 6) 2), some (44, false)⟩
(.take ⟨some 48, .p (.load (.t 47) 1 false), some (44, false)⟩
(.take ⟨some 49, .p (.mv (.t 8)), some (44, false)⟩
(.take ⟨some 50, .p (.idxA (.t 48) (.t 49) 4), some (44, false)⟩
(.take ⟨some 51, .p (.fieldA (.t 50) 1), some (44, false)⟩
(.take ⟨some 52, .p (.load (.t 51) 1 false), some (44, false)⟩
(.take ⟨some 53, .p (.bin .lss (.t 46) (.t 52)), some (44, false)⟩
(.take ⟨some 54, .pick (.t 44) (.c (.bool true)) (.t 53), some (41, true)⟩
(.take ⟨some 55, .pick (.t 41) (.t 54) (.c (.bool false)), none⟩
.fin)))))))))))))))))))))))))
def c81_r9 : List Ins := [⟨some 56, .p (.mv (.t 9)), none⟩,
⟨some 8, .p (.mv (.t 56)), none⟩]
def c81_r10 : List Ins := [⟨some 24, .p (.mv (.t 9)), none⟩,
⟨some 25, .p (.bin .add (.t 24) (.c (iV 1))), none⟩,
⟨some 9, .p (.mv (.t 25)), none⟩]
def c81_l0 : IR := (.seq (.seq (.reg c81_r6) (.ite (.t 23) .skip (.exit 2))) (.seq (.block 3 (.seq (.reg c81_r7) (.seq (.draw c81_r8) (.ite (.t 55) (.reg c81_r9) .skip)))) (.reg c81_r10)))
def c81_r11 : List Ins := [⟨some 57, .p (.mv (.t 8)), none⟩,
⟨some 58, .p (.bin .lss (.t 57) (.c (iV 0))), none⟩]
def c81_r12 : List Ins := [⟨some 59, .p (.load (.t 6) 3 true), none⟩,
⟨some 60, .p (.mv (.t 7)), none⟩,
⟨none, .store (.t 4) (.t 59) 3, none⟩,
⟨some 5, .p (.mv (.t 60)), none⟩]
def c81_r13 : List Ins := [⟨some 61, .p (.fieldA (.t 6) 2), none⟩,
⟨some 62, .p (.load (.t 61) 1 false), none⟩,
⟨some 63, .p (.mv (.t 8)), none⟩,
⟨some 64, .p (.idxA (.t 62) (.t 63) 4), none⟩,
⟨some 65, .p (.fieldA (.t 64) 3), none⟩,
⟨none, .store (.t 65) (.c (.bool true)) 1, none⟩]
def c81_r14 : List Ins := [⟨some 66, .p (.mv (.t 7)), none⟩,
⟨some 67, .p (.fieldA (.t 6) 2), none⟩,
⟨some 68, .p (.load (.t 67) 1 false), none⟩,
⟨some 69, .p (.mv (.t 8)), none⟩,
⟨some 70, .p (.idxA (.t 68) (.t 69) 4), none⟩,
⟨some 71, .p (.fieldA (.t 70) 0), none⟩,
⟨some 72, .p (.load (.t 71) 1 false), none⟩,
⟨some 73, .mkS 1 [(iV 0)] 1 [(0, (.t 72))], none⟩,
⟨some 74, .app 1 8 (.t 66) (.t 73), none⟩,
⟨some 7, .p (.mv (.t 74)), none⟩]
def c81_l1 : IR := (.block 1 (.seq (.reg c81_r4) (.seq (.seq (.reg c81_r5) (.block 2 (.loop c81_l0))) (.seq (.seq (.reg c81_r11) (.ite (.t 58) (.seq (.reg c81_r12) .ret) .skip)) (.seq (.reg c81_r13) (.reg c81_r14))))))
def c81 : XFn := { np := 2, nt := 75, res := [.cell 4 3 true, .t 5], body := (.seq (.reg c81_r0) (.seq (.reg c81_r1) (.seq (.reg c81_r2) (.seq (.reg c81_r3) (.block 0 (.loop c81_l1)))))) }
def K81 (C : CRel) : Prop := ∀ (a0 : DTable) (a1 : Int) (r : DTable × (List Int)), g81 a0 a1 = some r → C 81 ⟨[.agg (eDTable a0), iV a1], []⟩ ⟨.tup [.agg [iV r.1.clock, iV r.1.next, .own 0 0 4 (r.1.list_.map eDLease)], .own 1 0 1 (r.2.map eI)], [], []⟩
theorem F81 {C : CRel} (H111 : K111 C) (a0 : DTable) (a1 : Int) (r : DTable × (List Int)) (h0 : g81 a0 a1 = some r) : FnOK C c81 ⟨[.agg (eDTable a0), iV a1], []⟩ ⟨.tup [.agg [iV r.1.clock, iV r.1.next, .own 0 0 4 (r.1.list_.map eDLease)], .own 1 0 1 (r.2.map eI)], [], []⟩ := by
 refine fn_ (nl rfl) ?_
 refine seq_ ?_
 refine reg_ ?_
 refine st (box_ rfl trivial rfl ?_)
 refine st (alloc_ ?_)
 refine st (nilS_ ?_)
 refine oe_ ?_
 refine wk_ ⟨[(1, iV a1), (2, .ptr 128 0), (4, .ptr 256 0)], [(128, [iV a0.clock, iV a0.next, .lst 4 (a0.list_.map eDLease)]), (256, [iV 0, iV 0, .own 259 0 4 (([] : List DLease).map eDLease)])], []⟩ (fgk (by kernel_rfl)) ?_
 refine seq_ ?_
 refine reg_ ?_
 refine st (c_ (v := .agg (eDTable a0)) (cp_ ⟨trivial, trivial⟩ rfl (nl rfl)) ?_)
 obtain ⟨r1, e2, h0⟩ := bnd h0
 refine st (call0_ (r := .agg [iV r1.clock, iV r1.next, .own 0 0 4 (r1.list_.map eDLease)]) false (H111 a0 r1 e2) ⟨trivial, trivial⟩ rfl rfl (fun _ => (and_ rfl (and_ rfl (and_ (fl1 (fun _ => rfl)) rfl)))) ?_)
 refine st (alloc_ ?_)
 refine st (stp_ rfl rfl trivial rfl rfl rfl (nl rfl) ?_)
 refine oe_ ?_
 refine wk_ ⟨[(1, iV a1), (2, .ptr 128 0), (4, .ptr 256 0), (6, .ptr 384 0)], [(128, [iV a0.clock, iV a0.next, .lst 4 (a0.list_.map eDLease)]), (256, [iV 0, iV 0, .own 259 0 4 (([] : List DLease).map eDLease)]), (384, [iV r1.clock, iV r1.next, .own 768 0 4 (r1.list_.map eDLease)])], []⟩ (fgk (by kernel_rfl)) ?_
 refine seq_ ?_
 refine reg_ ?_
 refine st (c_ (cp_ ⟨trivial, trivial⟩ rfl trivial) ?_)
 refine st (c_ (cp_ ⟨trivial, trivial⟩ rfl (nl rfl)) ?_)
 refine st (mv_ rfl trivial ?_)
 refine st (c_ (cp_ ⟨trivial, trivial, trivial⟩ rfl rfl) ?_)
 refine st (c_ (cp_ ⟨trivial, trivial⟩ rfl trivial) ?_)
 refine st (stp_ rfl rfl trivial rfl rfl rfl (nl rfl) ?_)
 refine oe_ ?_
 refine wk_ ⟨[(4, .ptr 256 0), (6, .ptr 384 0)], [(256, [iV 0, iV 0, .own 259 0 4 (([] : List DLease).map eDLease)]), (384, [iV (if a1 > a0.clock then a1 else a0.clock), iV r1.next, .own 768 0 4 (r1.list_.map eDLease)])], []⟩ (fgk (by kernel_rfl)) ?_
 refine seq_ ?_
 refine reg_ ?_
 refine st (mkS_ trivial trivial ?_)
 refine st (mv_ rfl trivial ?_)
 refine oe_ ?_
 refine wk_ ⟨[(4, .ptr 256 0), (6, .ptr 384 0), (7, .own 1152 0 1 (([] : List Int).map eI))], [(256, [iV 0, iV 0, .own 259 0 4 (([] : List DLease).map eDLease)]), (384, [iV (if a1 > a0.clock then a1 else a0.clock), iV r1.next, .own 768 0 4 (r1.list_.map eDLease)])], []⟩ (fgk (by kernel_rfl)) ?_
 refine block_ ?_
 obtain ⟨r157, e158, h0⟩ := bnd h0
 refine loop_ (R := (fun _ => False)) (g81_l0 a0 a1 r1) (fun s S => match s with | (p44, p45) => S = ⟨[(4, .ptr 256 0), (6, .ptr 384 0), (7, .own 1152 0 1 (p44.map eI))], [(256, [iV 0, iV 0, .own 259 0 4 (([] : List DLease).map eDLease)]), (384, [iV (if a1 > a0.clock then a1 else a0.clock), iV r1.next, .own 768 0 4 (p45.map eDLease)])], []⟩) e158 ⟨[(4, .ptr 256 0), (6, .ptr 384 0), (7, .own 1152 0 1 (([] : List Int).map eI))], [(256, [iV 0, iV 0, .own 259 0 4 (([] : List DLease).map eDLease)]), (384, [iV (if a1 > a0.clock then a1 else a0.clock), iV r1.next, .own 768 0 4 (r1.list_.map eDLease)])], []⟩ (fgk (by kernel_rfl)) rfl 0 (fun h => h.elim fun _ h => h.elim) ?_ ?_
 ·exact fun _ _ _ h => h.elim
 ·rintro ⟨p44, p45⟩ o1 _ K1 rfl h1 hx1 hK1 hE1 hR1
  refine block_ ?_
  refine seq_ ?_
  refine reg_ ?_
  refine st (mvc_ trivial ?_)
  refine oe_ ?_
  refine wk_ ⟨[(4, .ptr 256 0), (6, .ptr 384 0), (7, .own 1152 0 1 (p44.map eI)), (8, iV (-1))], [(256, [iV 0, iV 0, .own 259 0 4 (([] : List DLease).map eDLease)]), (384, [iV (if a1 > a0.clock then a1 else a0.clock), iV r1.next, .own 768 0 4 (p45.map eDLease)])], []⟩ (fgk (by kernel_rfl)) ?_
  refine seq_ ?_
  refine seq_ ?_
  refine reg_ ?_
  refine st (mvc_ trivial ?_)
  refine oe_ ?_
  refine wk_ ⟨[(4, .ptr 256 0), (6, .ptr 384 0), (7, .own 1152 0 1 (p44.map eI)), (8, iV (-1)), (9, iV 0)], [(256, [iV 0, iV 0, .own 259 0 4 (([] : List DLease).map eDLease)]), (384, [iV (if a1 > a0.clock then a1 else a0.clock), iV r1.next, .own 768 0 4 (p45.map eDLease)])], []⟩ (fgk (by kernel_rfl)) ?_
  refine block_ ?_
  obtain ⟨r145, e146, h1⟩ := bnd h1
  refine loop_ (R := (fun S => ∃ p119 : Int, p119 = r145 ∧ S = ⟨[(4, .ptr 256 0), (6, .ptr 384 0), (7, .own 1152 0 1 (p44.map eI)), (8, iV p119)], [(256, [iV 0, iV 0, .own 259 0 4 (([] : List DLease).map eDLease)]), (384, [iV (if a1 > a0.clock then a1 else a0.clock), iV r1.next, .own 768 0 4 (p45.map eDLease)])], []⟩)) (g81_l1 a0 a1 p45) (fun s S => match s with | (p102, p103) => S = ⟨[(4, .ptr 256 0), (6, .ptr 384 0), (7, .own 1152 0 1 (p44.map eI)), (8, iV p102), (9, iV p103)], [(256, [iV 0, iV 0, .own 259 0 4 (([] : List DLease).map eDLease)]), (384, [iV (if a1 > a0.clock then a1 else a0.clock), iV r1.next, .own 768 0 4 (p45.map eDLease)])], []⟩) e146 ⟨[(4, .ptr 256 0), (6, .ptr 384 0), (7, .own 1152 0 1 (p44.map eI)), (8, iV (-1)), (9, iV 0)], [(256, [iV 0, iV 0, .own 259 0 4 (([] : List DLease).map eDLease)]), (384, [iV (if a1 > a0.clock then a1 else a0.clock), iV r1.next, .own 768 0 4 (p45.map eDLease)])], []⟩ (fgk (by kernel_rfl)) rfl 2 (fun _ => rfl) ?_ ?_
  ·rintro S _ hfg ⟨p119, rfl, rfl⟩
   refine wk_ ⟨[(4, .ptr 256 0), (6, .ptr 384 0), (7, .own 1152 0 1 (p44.map eI)), (8, iV p119)], [(256, [iV 0, iV 0, .own 259 0 4 (([] : List DLease).map eDLease)]), (384, [iV (if a1 > a0.clock then a1 else a0.clock), iV r1.next, .own 768 0 4 (p45.map eDLease)])], []⟩ (fglk hfg (by kernel_rfl)) ?_
   refine seq_ ?_
   refine seq_ ?_
   refine reg_ ?_
   refine st (mv_ rfl trivial ?_)
   refine st (c_ (cp_ t3 rfl trivial) ?_)
   refine oe_ ?_
   refine wk_ ⟨[(4, .ptr 256 0), (6, .ptr 384 0), (7, .own 1152 0 1 (p44.map eI)), (8, iV p119), (58, .bool (decide (p119 < 0)))], [(256, [iV 0, iV 0, .own 259 0 4 (([] : List DLease).map eDLease)]), (384, [iV (if a1 > a0.clock then a1 else a0.clock), iV r1.next, .own 768 0 4 (p45.map eDLease)])], []⟩ (fgk (by kernel_rfl)) ?_
   refine ite_ (cb := (decide (p119 < 0))) rfl (fun c147 => ?_) (fun c147 => ?_)
   ·replace h1 := ip c147 h1
    refine seq_ ?_
    refine reg_ ?_
    refine st (c_ (v := .agg [iV (if a1 > a0.clock then a1 else a0.clock), iV r1.next, .own 768 0 4 (p45.map eDLease)]) (cp_ ⟨trivial, trivial⟩ rfl (nl rfl)) ?_)
    refine st (mv_ rfl trivial ?_)
    refine st (stp_ rfl rfl trivial rfl rfl rfl (nl rfl) ?_)
    refine st (mv_ rfl trivial ?_)
    refine oe_ ?_
    refine wk_ ⟨[(4, .ptr 256 0), (5, .own 1152 0 1 (p44.map eI))], [(256, [iV (if a1 > a0.clock then a1 else a0.clock), iV r1.next, .own 768 0 4 (p45.map eDLease)])], []⟩ (fgk (by kernel_rfl)) ?_
    obtain rfl := Option.some.inj h1
    obtain rfl := hx1 _ rfl
    obtain rfl := Option.some.inj h0
    exact rt_ (hR1 _ (ret_ rfl rfl rfl rfl rfl trivial))
   ·replace h1 := inb c147 h1
    refine sk_ ?_
    refine wk_ ⟨[(4, .ptr 256 0), (6, .ptr 384 0), (7, .own 1152 0 1 (p44.map eI)), (8, iV p119)], [(256, [iV 0, iV 0, .own 259 0 4 (([] : List DLease).map eDLease)]), (384, [iV (if a1 > a0.clock then a1 else a0.clock), iV r1.next, .own 768 0 4 (p45.map eDLease)])], []⟩ (fgk (by kernel_rfl)) ?_
    refine seq_ ?_
    refine reg_ ?_
    refine st (c_ (cp_ ⟨trivial, trivial⟩ rfl trivial) ?_)
    refine st (c_ (cp_ ⟨trivial, trivial⟩ rfl (nl rfl)) ?_)
    refine st (mv_ rfl trivial ?_)
    obtain ⟨y148, e149, h1⟩ := bnd h1
    refine st (c_ (cidxO (e := eDLease) (y := y148) rfl rfl trivial rfl rfl trivial e149) ?_)
    refine st (c_ (cp_ ⟨trivial, trivial⟩ rfl trivial) ?_)
    obtain ⟨y150, e151, h1⟩ := bnd h1
    refine st (sto_ (y' := (DLease.mk y150.id y150.until_ y150.cap true)) rfl rfl trivial rfl rfl rfl rfl e151 (nl rfl) rfl rfl rfl rfl ?_)
    refine oe_ ?_
    refine wk_ ⟨[(4, .ptr 256 0), (6, .ptr 384 0), (7, .own 1152 0 1 (p44.map eI)), (8, iV p119)], [(256, [iV 0, iV 0, .own 259 0 4 (([] : List DLease).map eDLease)]), (384, [iV (if a1 > a0.clock then a1 else a0.clock), iV r1.next, .own 768 0 4 ((p45.set p119.toNat (DLease.mk y150.id y150.until_ y150.cap true)).map eDLease)])], []⟩ (fg ⟨rfl, rfl, rfl, rfl, trivial⟩ ⟨rfl, (congrArg (fun z => some (([iV (if a1 > a0.clock then a1 else a0.clock), iV r1.next, .own 768 0 4 z] : List V))) overlay_map), trivial⟩) ?_
    refine reg_ ?_
    refine st (mv_ rfl trivial ?_)
    refine st (c_ (cp_ ⟨trivial, trivial⟩ rfl trivial) ?_)
    refine st (c_ (cp_ ⟨trivial, trivial⟩ rfl (nl rfl)) ?_)
    refine st (mv_ rfl trivial ?_)
    obtain ⟨y152, e153, h1⟩ := bnd h1
    refine st (c_ (cidxO (e := eDLease) (y := y152) rfl rfl trivial rfl rfl trivial e153) ?_)
    refine st (c_ (cp_ ⟨trivial, trivial⟩ rfl trivial) ?_)
    obtain ⟨y154, e155, h1⟩ := bnd h1
    refine st (c_ (cloadO (e := eDLease) (y := y154) (v := iV y154.id) rfl rfl trivial rfl rfl e155 rfl (nl rfl) rfl) ?_)
    refine st (mkS_ ⟨trivial, trivial⟩ ⟨⟨nl rfl, rfl, rfl⟩, trivial⟩ ?_)
    obtain ⟨c156, h1⟩ := grd h1
    refine st (app_ (e := eI) (l0 := p44) (l1 := ([y154.id] : List Int)) rfl rfl trivial rfl (by decide) c156 ?_)
    refine st (mv_ rfl trivial ?_)
    refine oe_ ?_
    refine bn_ ?_
    obtain rfl := Option.some.inj h1
    exact hK1 _ rfl _ ⟨[(4, .ptr 256 0), (6, .ptr 384 0), (7, .own 1152 0 1 ((p44 ++ ([y154.id] : List Int)).map eI))], [(256, [iV 0, iV 0, .own 259 0 4 (([] : List DLease).map eDLease)]), (384, [iV (if a1 > a0.clock then a1 else a0.clock), iV r1.next, .own 768 0 4 ((p45.set p119.toNat (DLease.mk y150.id y150.until_ y150.cap true)).map eDLease)])], []⟩ (fgk (by kernel_rfl)) rfl
  ·rintro ⟨p102, p103⟩ o2 _ K2 rfl h2 hx2 hK2 hE2 hR2
   refine seq_ ?_
   refine seq_ ?_
   refine reg_ ?_
   refine st (mv_ rfl trivial ?_)
   refine st (c_ (cp_ ⟨trivial, trivial⟩ rfl trivial) ?_)
   refine st (c_ (cp_ ⟨trivial, trivial⟩ rfl (nl rfl)) ?_)
   refine st (c_ (clenO (e := eDLease) (l0 := p45) rfl rfl trivial) ?_)
   refine st (c_ (cp_ t3 rfl trivial) ?_)
   refine oe_ ?_
   refine wk_ ⟨[(4, .ptr 256 0), (6, .ptr 384 0), (7, .own 1152 0 1 (p44.map eI)), (8, iV p102), (9, iV p103), (23, .bool (decide (p103 < (p45.length : Int))))], [(256, [iV 0, iV 0, .own 259 0 4 (([] : List DLease).map eDLease)]), (384, [iV (if a1 > a0.clock then a1 else a0.clock), iV r1.next, .own 768 0 4 (p45.map eDLease)])], []⟩ (fgk (by kernel_rfl)) ?_
   refine ite_ (cb := (decide (p103 < (p45.length : Int)))) rfl (fun c120 => ?_) (fun c120 => ?_)
   ·replace h2 := ip c120 h2
    refine sk_ ?_
    refine wk_ ⟨[(4, .ptr 256 0), (6, .ptr 384 0), (7, .own 1152 0 1 (p44.map eI)), (8, iV p102), (9, iV p103)], [(256, [iV 0, iV 0, .own 259 0 4 (([] : List DLease).map eDLease)]), (384, [iV (if a1 > a0.clock then a1 else a0.clock), iV r1.next, .own 768 0 4 (p45.map eDLease)])], []⟩ (fgk (by kernel_rfl)) ?_
    refine seq_ ?_
    refine blockJ (fun S => ∃ p132 : Int, S = ⟨[(4, .ptr 256 0), (6, .ptr 384 0), (7, .own 1152 0 1 (p44.map eI)), (8, iV p132), (9, iV p103)], [(256, [iV 0, iV 0, .own 259 0 4 (([] : List DLease).map eDLease)]), (384, [iV (if a1 > a0.clock then a1 else a0.clock), iV r1.next, .own 768 0 4 (p45.map eDLease)])], []⟩ ∧ g81_j0 p103 p132 = some o2) ?_ (fun J133 => ?_)
    ·rintro _ ⟨p132, rfl, h2⟩
     refine wk_ ⟨[(4, .ptr 256 0), (6, .ptr 384 0), (7, .own 1152 0 1 (p44.map eI)), (8, iV p132), (9, iV p103)], [(256, [iV 0, iV 0, .own 259 0 4 (([] : List DLease).map eDLease)]), (384, [iV (if a1 > a0.clock then a1 else a0.clock), iV r1.next, .own 768 0 4 (p45.map eDLease)])], []⟩ (fgk (by kernel_rfl)) ?_
     refine reg_ ?_
     refine st (mv_ rfl trivial ?_)
     refine st (c_ (cp_ t3 rfl trivial) ?_)
     refine st (mv_ rfl trivial ?_)
     refine oe_ ?_
     obtain rfl := Option.some.inj h2
     exact hK2 _ rfl _ ⟨[(4, .ptr 256 0), (6, .ptr 384 0), (7, .own 1152 0 1 (p44.map eI)), (8, iV p132), (9, iV (IntKind.i64.wrap (p103 + 1)))], [(256, [iV 0, iV 0, .own 259 0 4 (([] : List DLease).map eDLease)]), (384, [iV (if a1 > a0.clock then a1 else a0.clock), iV r1.next, .own 768 0 4 (p45.map eDLease)])], []⟩ (fgk (by kernel_rfl)) rfl
    ·refine seq_ ?_
     refine reg_ ?_
     refine st (c_ (cp_ ⟨trivial, trivial⟩ rfl trivial) ?_)
     refine st (c_ (cp_ ⟨trivial, trivial⟩ rfl (nl rfl)) ?_)
     refine st (mv_ rfl trivial ?_)
     obtain ⟨y134, e135, h2⟩ := bnd h2
     refine st (c_ (cidxO (e := eDLease) (y := y134) rfl rfl trivial rfl rfl trivial e135) ?_)
     obtain ⟨y136, e137, h2⟩ := bnd h2
     refine st (c_ (v := .agg (eDLease y136)) (cloadO (e := eDLease) (y := y136) (v := .agg (eDLease y136)) rfl rfl trivial rfl rfl e137 rfl (nl rfl) rfl) ?_)
     refine st (alloc_ ?_)
     refine st (stp_ rfl rfl trivial rfl rfl rfl (nl rfl) ?_)
     refine oe_ ?_
     refine wk_ ⟨[(4, .ptr 256 0), (6, .ptr 384 0), (7, .own 1152 0 1 (p44.map eI)), (8, iV p102), (9, iV p103), (10, .ptr 640 0)], [(256, [iV 0, iV 0, .own 259 0 4 (([] : List DLease).map eDLease)]), (384, [iV (if a1 > a0.clock then a1 else a0.clock), iV r1.next, .own 768 0 4 (p45.map eDLease)]), (640, [iV y136.id, iV y136.until_, iV y136.cap, .bool y136.queued])], []⟩ (fgk (by kernel_rfl)) ?_
     refine seq_ ?_
     obtain ⟨y138, e139, h2⟩ := bnd h2
     obtain ⟨y140, e141, h2⟩ := bnd h2
     refine draw_ ?_
     refine dtake trivial (c_ (cp_ ⟨trivial, trivial⟩ rfl trivial) ?_)
     refine ⟨trivial, ?_⟩
     refine dtake trivial (c_ (cp_ ⟨trivial, trivial⟩ rfl (nl rfl)) ?_)
     refine ⟨trivial, ?_⟩
     refine dtake trivial (c_ (cp_ ⟨trivial, trivial⟩ rfl trivial) ?_)
     refine ⟨trivial, ?_⟩
     refine dtake trivial (mv_ rfl trivial ?_)
     refine ⟨trivial, ?_⟩
     refine dtake trivial (pg_ (u := .ptr 640 1) rfl (fun hg => (cp_ ⟨trivial, trivial⟩ rfl trivial)) ?_)
     refine ⟨trivial, ?_⟩
     refine dtake trivial (pg_ (u := iV y136.until_) rfl (fun hg => (cp_ ⟨(fun _ => hg), trivial⟩ rfl (nl rfl))) ?_)
     refine ⟨trivial, ?_⟩
     refine dtake trivial (pg_ (u := .ptr 384 0) rfl (fun hg => (cp_ ⟨trivial, trivial⟩ rfl trivial)) ?_)
     refine ⟨trivial, ?_⟩
     refine dtake trivial (pg_ (u := iV (if a1 > a0.clock then a1 else a0.clock)) rfl (fun hg => (cp_ ⟨(fun _ => hg), trivial⟩ rfl (nl rfl))) ?_)
     refine ⟨trivial, ?_⟩
     refine dtake trivial (pg_ (u := .bool (decide (y136.until_ ≤ (if a1 > a0.clock then a1 else a0.clock)))) rfl (fun hg => (cp_ ⟨(fun _ => hg), (fun _ => hg), trivial⟩ rfl trivial)) ?_)
     refine ⟨trivial, ?_⟩
     refine dtake trivial (pick_ rfl rfl rfl (fun h => eqt h) trivial rfl ?_)
     refine ⟨trivial, ?_⟩
     refine dtake trivial (mv_ rfl trivial ?_)
     refine ⟨trivial, ?_⟩
     refine dtake trivial (pg_ (u := iV p102) rfl (fun hg => (cmv (v := iV p102) rfl trivial)) ?_)
     refine ⟨trivial, ?_⟩
     refine dtake trivial (pg_ (u := .bool (decide (p102 < 0))) rfl (fun hg => (cp_ ⟨(fun _ => hg), trivial, trivial⟩ rfl trivial)) ?_)
     refine ⟨trivial, ?_⟩
     refine dtake trivial (pg_ (u := .bool (decide (p102 < 0))) rfl (fun hg => (cmv (v := .may ((bif (!y136.queued) then (decide (y136.until_ ≤ (if a1 > a0.clock then a1 else a0.clock))) else false) == true) (.bool (decide (p102 < 0)))) rfl (fun _ => hg))) ?_)
     refine ⟨trivial, ?_⟩
     refine dtake trivial (pg_ (u := .ptr 640 1) rfl (fun hg => (cp_ ⟨trivial, trivial⟩ rfl trivial)) ?_)
     refine ⟨trivial, ?_⟩
     refine dtake trivial (pg_ (u := iV y136.until_) rfl (fun hg => (cp_ ⟨(fun _ => hg), trivial⟩ rfl (nl rfl))) ?_)
     refine ⟨trivial, ?_⟩
     refine dtake trivial (pg_ (u := .ptr 384 2) rfl (fun hg => (cp_ ⟨trivial, trivial⟩ rfl trivial)) ?_)
     refine ⟨trivial, ?_⟩
     refine dtake trivial (pg_ (u := .own 768 0 4 (p45.map eDLease)) rfl (fun hg => (cp_ ⟨(fun _ => hg), trivial⟩ rfl (nl rfl))) ?_)
     refine ⟨trivial, ?_⟩
     refine dtake trivial (pg_ (u := iV p102) rfl (fun hg => (cmv (v := iV p102) rfl trivial)) ?_)
     refine ⟨trivial, ?_⟩
     refine dtake trivial (pg_ (u := .optr 768 4 (0 + p102.toNat) 0) rfl (fun hg => (cidxO (e := eDLease) (y := y138) rfl rfl (fun _ => hg) rfl rfl (fun _ => hg) (ip hg e139))) ?_)
     refine ⟨trivial, ?_⟩
     refine dtake trivial (pg_ (u := .optr 768 4 (0 + p102.toNat) 1) rfl (fun hg => (cp_ ⟨(fun _ => hg), trivial⟩ rfl trivial)) ?_)
     refine ⟨trivial, ?_⟩
     refine dtakeO (pg_ (u := iV y140.until_) rfl (fun hg => (cloadO (e := eDLease) (y := y140) (v := iV y140.until_) rfl rfl (fun _ => hg) rfl rfl (ip hg e141) rfl (nl rfl) rfl)) ?_)
     refine ⟨⟨(againg (v := iV y140.until_) rfl (fun hg => (cloadO (e := eDLease) (y := y140) (v := iV y140.until_) rfl rfl (fun _ => hg) rfl rfl (ip hg e141) rfl (nl rfl) rfl)) rfl), trivial⟩, ?_⟩
     refine dtake trivial (pg_ (u := .bool (decide (y136.until_ < y140.until_))) rfl (fun hg => (cp_ ⟨(fun _ => hg), (fun _ => hg), trivial⟩ rfl trivial)) ?_)
     refine ⟨⟨(againg (v := iV y140.until_) rfl (fun hg => (cloadO (e := eDLease) (y := y140) (v := iV y140.until_) rfl rfl (fun _ => hg) rfl rfl (ip hg e141) rfl (nl rfl) rfl)) rfl), trivial⟩, ?_⟩
     refine dtake trivial (pickg_ (u := .bool (bif (decide (p102 < 0)) then true else (decide (y136.until_ < y140.until_)))) rfl (fun hg => cpick rfl rfl (fun _ => hg) rfl rfl trivial (fun h => and_ hg (eqf h)) rfl) ?_)
     refine ⟨⟨(againg (v := iV y140.until_) rfl (fun hg => (cloadO (e := eDLease) (y := y140) (v := iV y140.until_) rfl rfl (fun _ => hg) rfl rfl (ip hg e141) rfl (nl rfl) rfl)) rfl), trivial⟩, ?_⟩
     refine dtake trivial (pick_ rfl rfl rfl (fun h => eqt h) trivial rfl ?_)
     refine ⟨⟨(againg (v := iV y140.until_) rfl (fun hg => (cloadO (e := eDLease) (y := y140) (v := iV y140.until_) rfl rfl (fun _ => hg) rfl rfl (ip hg e141) rfl (nl rfl) rfl)) rfl), trivial⟩, ?_⟩
     refine dfin ?_
     obtain ⟨v142, e143, h2⟩ := bl h2
     refine wk_ ⟨[(4, .ptr 256 0), (6, .ptr 384 0), (7, .own 1152 0 1 (p44.map eI)), (8, iV p102), (9, iV p103), (55, .bool v142)], [(256, [iV 0, iV 0, .own 259 0 4 (([] : List DLease).map eDLease)]), (384, [iV (if a1 > a0.clock then a1 else a0.clock), iV r1.next, .own 768 0 4 (p45.map eDLease)])], []⟩ (fgk (by subst e143; kernel_rfl)) ?_
     refine ite_ (cb := v142) rfl (fun c144 => ?_) (fun c144 => ?_)
     ·replace h2 := ip c144 h2
      refine reg_ ?_
      refine st (mv_ rfl trivial ?_)
      refine st (mv_ rfl trivial ?_)
      refine oe_ ?_
      refine bn_ ?_
      exact J133 _ ⟨[(4, .ptr 256 0), (6, .ptr 384 0), (7, .own 1152 0 1 (p44.map eI)), (8, iV p103), (9, iV p103)], [(256, [iV 0, iV 0, .own 259 0 4 (([] : List DLease).map eDLease)]), (384, [iV (if a1 > a0.clock then a1 else a0.clock), iV r1.next, .own 768 0 4 (p45.map eDLease)])], []⟩ (fgk (by kernel_rfl)) ⟨_, rfl, h2⟩
     ·replace h2 := inb c144 h2
      refine sk_ ?_
      refine bn_ ?_
      exact J133 _ ⟨[(4, .ptr 256 0), (6, .ptr 384 0), (7, .own 1152 0 1 (p44.map eI)), (8, iV p102), (9, iV p103)], [(256, [iV 0, iV 0, .own 259 0 4 (([] : List DLease).map eDLease)]), (384, [iV (if a1 > a0.clock then a1 else a0.clock), iV r1.next, .own 768 0 4 (p45.map eDLease)])], []⟩ (fgk (by kernel_rfl)) ⟨_, rfl, h2⟩
   ·replace h2 := inb c120 h2
    obtain rfl := Option.some.inj h2
    obtain rfl := hx2 _ rfl
    refine exQ rfl ?_
    exact hE2 _ ⟨[(4, .ptr 256 0), (6, .ptr 384 0), (7, .own 1152 0 1 (p44.map eI)), (8, iV p102)], [(256, [iV 0, iV 0, .own 259 0 4 (([] : List DLease).map eDLease)]), (384, [iV (if a1 > a0.clock then a1 else a0.clock), iV r1.next, .own 768 0 4 (p45.map eDLease)])], []⟩ (fgk (by kernel_rfl)) ⟨_, rfl, rfl⟩

/- loop.example/g00149/spec.Tick -/
def c34_r0 : List Ins := [⟨some 2, .box (.t 0), none⟩,
⟨some 4, .alloc [(iV 0), (iV 0), (.own 259 0 4 [])], none⟩,
⟨some 5, .nilS 1, none⟩,
⟨some 6, .p (.mv (.c (iV 0))), none⟩]
def c34_r1 : List Ins := [⟨some 9, .p (.load (.t 2) 3 true), none⟩,
⟨some 10, .call 18 [(.t 9)], none⟩,
⟨some 11, .p (.un .not (.t 10)), none⟩]
def c34_r2 : List Ins := [⟨some 12, .p (.build [(iV 0), (iV 0), (.own 771 0 4 [])] []), none⟩,
⟨some 13, .mkS 1 [(iV 0)] 0 [], none⟩,
⟨none, .store (.t 4) (.t 12) 3, none⟩,
⟨some 5, .p (.mv (.t 13)), none⟩,
⟨some 6, .p (.mv (.c (iV 1))), none⟩]
def c34_r3 : List Ins := [⟨some 15, .p (.load (.t 2) 3 true), none⟩,
⟨some 16, .p (.mv (.t 1)), none⟩,
⟨some 17, .call 81 [(.t 15), (.t 16)], none⟩,
⟨some 14, .p (.mv (.t 17)), none⟩,
⟨some 18, .p (.ext (.t 14) 0), none⟩,
⟨some 19, .p (.ext (.t 14) 1), none⟩,
⟨some 7, .alloc [(iV 0), (iV 0), (.own 451 0 4 [])], none⟩,
⟨none, .store (.t 7) (.t 18) 3, none⟩,
⟨some 8, .p (.mv (.t 19)), none⟩]
def c34_r4 : List Ins := [⟨some 20, .p (.load (.t 7) 3 true), none⟩,
⟨some 21, .p (.mv (.t 8)), none⟩,
⟨none, .store (.t 4) (.t 20) 3, none⟩,
⟨some 5, .p (.mv (.t 21)), none⟩,
⟨some 6, .p (.mv (.c (iV 0))), none⟩]
def c34 : XFn := { np := 2, nt := 22, res := [.cell 4 3 true, .t 5, .t 6], body := (.seq (.reg c34_r0) (.seq (.seq (.reg c34_r1) (.ite (.t 11) (.seq (.reg c34_r2) .ret) .skip)) (.seq (.reg c34_r3) (.seq (.reg c34_r4) .ret)))) }
def K34 (C : CRel) : Prop := ∀ (a0 : DTable) (a1 : Int) (r : DTable × (List Int) × Int), g34 a0 a1 = some r → C 34 ⟨[.agg (eDTable a0), iV a1], []⟩ ⟨.tup [.agg [iV r.1.clock, iV r.1.next, .own 0 0 4 (r.1.list_.map eDLease)], .own 1 0 1 (r.2.1.map eI), iV r.2.2], [], []⟩
theorem F34 {C : CRel} (H18 : K18 C) (H81 : K81 C) (a0 : DTable) (a1 : Int) (r : DTable × (List Int) × Int) (h0 : g34 a0 a1 = some r) : FnOK C c34 ⟨[.agg (eDTable a0), iV a1], []⟩ ⟨.tup [.agg [iV r.1.clock, iV r.1.next, .own 0 0 4 (r.1.list_.map eDLease)], .own 1 0 1 (r.2.1.map eI), iV r.2.2], [], []⟩ := by
 refine fn_ (nl rfl) ?_
 refine seq_ ?_
 refine reg_ ?_
 refine st (box_ rfl trivial rfl ?_)
 refine st (alloc_ ?_)
 refine st (nilS_ ?_)
 refine st (mvc_ trivial ?_)
 refine oe_ ?_
 refine wk_ ⟨[(1, iV a1), (2, .ptr 128 0), (4, .ptr 256 0)], [(128, [iV a0.clock, iV a0.next, .lst 4 (a0.list_.map eDLease)]), (256, [iV 0, iV 0, .own 259 0 4 (([] : List DLease).map eDLease)])], []⟩ (fgk (by kernel_rfl)) ?_
 refine seq_ ?_
 refine seq_ ?_
 refine reg_ ?_
 refine st (c_ (v := .agg (eDTable a0)) (cp_ ⟨trivial, trivial⟩ rfl (nl rfl)) ?_)
 obtain ⟨r1, e2, h0⟩ := bnd h0
 refine st (call0_ (r := .bool r1) false (H18 a0 r1 e2) ⟨trivial, trivial⟩ rfl rfl (fun _ => rfl) ?_)
 refine st (c_ (cp_ ⟨trivial, trivial⟩ rfl trivial) ?_)
 refine oe_ ?_
 refine wk_ ⟨[(1, iV a1), (2, .ptr 128 0), (4, .ptr 256 0), (11, .bool (!r1))], [(128, [iV a0.clock, iV a0.next, .lst 4 (a0.list_.map eDLease)]), (256, [iV 0, iV 0, .own 259 0 4 (([] : List DLease).map eDLease)])], []⟩ (fgk (by kernel_rfl)) ?_
 refine ite_ (cb := (!r1)) rfl (fun c3 => ?_) (fun c3 => ?_)
 ·replace h0 := ip c3 h0
  refine seq_ ?_
  refine reg_ ?_
  refine st (c_ (v := .agg [iV 0, iV 0, .own 771 0 4 (([] : List DLease).map eDLease)]) (cp_ trivial rfl trivial) ?_)
  refine st (mkS_ trivial trivial ?_)
  refine st (stp_ rfl rfl trivial rfl rfl rfl (nl rfl) ?_)
  refine st (mv_ rfl trivial ?_)
  refine st (mvc_ trivial ?_)
  refine oe_ ?_
  refine wk_ ⟨[(4, .ptr 256 0), (5, .own 832 0 1 (([] : List Int).map eI)), (6, iV 1)], [(256, [iV 0, iV 0, .own 771 0 4 (([] : List DLease).map eDLease)])], []⟩ (fgk (by kernel_rfl)) ?_
  obtain rfl := Option.some.inj h0
  exact rt_ (ret_ rfl rfl rfl rfl rfl trivial)
 ·replace h0 := inb c3 h0
  refine sk_ ?_
  refine wk_ ⟨[(1, iV a1), (2, .ptr 128 0), (4, .ptr 256 0)], [(128, [iV a0.clock, iV a0.next, .lst 4 (a0.list_.map eDLease)]), (256, [iV 0, iV 0, .own 259 0 4 (([] : List DLease).map eDLease)])], []⟩ (fgk (by kernel_rfl)) ?_
  refine seq_ ?_
  refine reg_ ?_
  refine st (c_ (v := .agg (eDTable a0)) (cp_ ⟨trivial, trivial⟩ rfl (nl rfl)) ?_)
  refine st (mv_ rfl trivial ?_)
  obtain ⟨r4, e5, h0⟩ := bnd h0
  refine st (call0_ (r := .tup [.agg [iV r4.1.clock, iV r4.1.next, .own 0 0 4 (r4.1.list_.map eDLease)], .own 1 0 1 (r4.2.map eI)]) false (H81 a0 a1 r4 e5) ⟨trivial, trivial, trivial⟩ rfl rfl (fun _ => (and_ rfl (and_ rfl (and_ (fl1 (fun _ => rfl)) (and_ (fl1 (fun _ => rfl)) rfl))))) ?_)
  refine st (mv_ rfl trivial ?_)
  refine st (c_ (cp_ ⟨trivial, trivial⟩ rfl trivial) ?_)
  refine st (c_ (cp_ ⟨trivial, trivial⟩ rfl trivial) ?_)
  refine st (alloc_ ?_)
  refine st (stp_ rfl rfl trivial rfl rfl rfl (nl rfl) ?_)
  refine sw ⟨[(4, .ptr 256 0), (7, .ptr 448 0), (19, .own 1089 0 1 (r4.2.map eI))], [(256, [iV 0, iV 0, .own 259 0 4 (([] : List DLease).map eDLease)]), (448, [iV r4.1.clock, iV r4.1.next, .own 1088 0 4 (r4.1.list_.map eDLease)])], []⟩ (fgk (by kernel_rfl)) (mv_ rfl trivial ?_)
  refine oe_ ?_
  refine wk_ ⟨[(4, .ptr 256 0), (7, .ptr 448 0), (8, .own 1089 0 1 (r4.2.map eI))], [(256, [iV 0, iV 0, .own 259 0 4 (([] : List DLease).map eDLease)]), (448, [iV r4.1.clock, iV r4.1.next, .own 1088 0 4 (r4.1.list_.map eDLease)])], []⟩ (fgk (by kernel_rfl)) ?_
  refine seq_ ?_
  refine reg_ ?_
  refine st (c_ (v := .agg [iV r4.1.clock, iV r4.1.next, .own 1088 0 4 (r4.1.list_.map eDLease)]) (cp_ ⟨trivial, trivial⟩ rfl (nl rfl)) ?_)
  refine st (mv_ rfl trivial ?_)
  refine st (stp_ rfl rfl trivial rfl rfl rfl (nl rfl) ?_)
  refine st (mv_ rfl trivial ?_)
  refine st (mvc_ trivial ?_)
  refine oe_ ?_
  refine wk_ ⟨[(4, .ptr 256 0), (5, .own 1089 0 1 (r4.2.map eI)), (6, iV 0)], [(256, [iV r4.1.clock, iV r4.1.next, .own 1088 0 4 (r4.1.list_.map eDLease)])], []⟩ (fgk (by kernel_rfl)) ?_
  obtain rfl := Option.some.inj h0
  exact rt_ (ret_ rfl rfl rfl rfl rfl trivial)

/- loop.example/g00149/impl.within -/
def c63_r0 : List Ins := [⟨some 6, .p (.mv (.c (.bool false))), none⟩]
def c63_r1 : List Ins := [⟨some 7, .p (.mv (.t 1)), none⟩,
⟨some 8, .p (.mv (.t 0)), none⟩,
⟨some 9, .p (.bin .leq (.t 7) (.t 8)), none⟩,
⟨some 10, .p (.mv (.t 9)), none⟩,
⟨some 11, .p (.mv (.t 0)), some (10, true)⟩,
⟨some 12, .p (.mv (.t 2)), some (10, true)⟩,
⟨some 13, .p (.bin .leq (.t 11) (.t 12)), some (10, true)⟩,
⟨some 14, .pick (.t 10) (.t 13) (.c (.bool false)), none⟩,
⟨some 6, .p (.mv (.t 14)), none⟩]
def c63 : XFn := { np := 3, nt := 15, res := [.t 6], body := (.seq (.reg c63_r0) (.seq (.reg c63_r1) .ret)) }
def K63 (C : CRel) : Prop := ∀ (a0 : Int) (a1 : Int) (a2 : Int) (r : Bool), g63 a0 a1 a2 = some r → C 63 ⟨[iV a0, iV a1, iV a2], []⟩ ⟨.bool r, [], []⟩
theorem F63 {C : CRel}  (a0 : Int) (a1 : Int) (a2 : Int) (r : Bool) (h0 : g63 a0 a1 a2 = some r) : FnOK C c63 ⟨[iV a0, iV a1, iV a2], []⟩ ⟨.bool r, [], []⟩ := by
 refine fn_ (nl rfl) ?_
 refine seq_ ?_
 refine reg_ ?_
 refine st (mvc_ trivial ?_)
 refine oe_ ?_
 refine wk_ ⟨[(0, iV a0), (1, iV a1), (2, iV a2)], [], []⟩ (fgk (by kernel_rfl)) ?_
 refine seq_ ?_
 refine reg_ ?_
 refine st (mv_ rfl trivial ?_)
 refine st (mv_ rfl trivial ?_)
 refine st (c_ (cp_ t3 rfl trivial) ?_)
 refine st (mv_ rfl trivial ?_)
 refine st (pg_ (u := iV a0) rfl (fun hg => (cmv (v := iV a0) rfl trivial)) ?_)
 refine st (pg_ (u := iV a2) rfl (fun hg => (cmv (v := iV a2) rfl trivial)) ?_)
 refine st (pg_ (u := .bool (decide (a0 ≤ a2))) rfl (fun hg => (cp_ ⟨(fun _ => hg), (fun _ => hg), trivial⟩ rfl trivial)) ?_)
 refine st (pick_ rfl rfl rfl (fun h => eqt h) trivial rfl ?_)
 refine st (mv_ rfl trivial ?_)
 refine oe_ ?_
 refine wk_ ⟨[(6, .bool (bif (decide (a1 ≤ a0)) then (decide (a0 ≤ a2)) else false))], [], []⟩ (fgk (by kernel_rfl)) ?_
 obtain rfl := Option.some.inj h0
 exact rt_ (ret_ rfl rfl rfl rfl rfl trivial)

/- loop.example/g00149/impl.isSerial -/
def c58_r0 : List Ins := [⟨some 2, .p (.mv (.c (.bool false))), none⟩]
def c58_r1 : List Ins := [⟨some 3, .p (.mv (.t 0)), none⟩,
⟨some 4, .call 63 [(.t 3), (.c (iV 1)), (.c (iV 1000000))], none⟩,
⟨some 2, .p (.mv (.t 4)), none⟩]
def c58 : XFn := { np := 1, nt := 5, res := [.t 2], body := (.seq (.reg c58_r0) (.seq (.reg c58_r1) .ret)) }
def K58 (C : CRel) : Prop := ∀ (a0 : Int) (r : Bool), g58 a0 = some r → C 58 ⟨[iV a0], []⟩ ⟨.bool r, [], []⟩
theorem F58 {C : CRel} (H63 : K63 C) (a0 : Int) (r : Bool) (h0 : g58 a0 = some r) : FnOK C c58 ⟨[iV a0], []⟩ ⟨.bool r, [], []⟩ := by
 refine fn_ (nl rfl) ?_
 refine seq_ ?_
 refine reg_ ?_
 refine st (mvc_ trivial ?_)
 refine oe_ ?_
 refine wk_ ⟨[(0, iV a0)], [], []⟩ (fgk (by kernel_rfl)) ?_
 refine seq_ ?_
 refine reg_ ?_
 refine st (mv_ rfl trivial ?_)
 obtain ⟨r1, e2, h0⟩ := bnd h0
 refine st (call0_ (r := .bool r1) false (H63 a0 1 1000000 r1 e2) ⟨trivial, trivial, trivial, trivial⟩ rfl rfl (fun _ => rfl) ?_)
 refine st (mv_ rfl trivial ?_)
 refine oe_ ?_
 refine wk_ ⟨[(2, .bool r1)], [], []⟩ (fgk (by kernel_rfl)) ?_
 obtain rfl := Option.some.inj h0
 exact rt_ (ret_ rfl rfl rfl rfl rfl trivial)

/- loop.example/g00149/impl.rises -/
def c59_r0 : List Ins := [⟨some 6, .p (.mv (.c (.bool false))), none⟩]
def c59_r1 : List Ins := [⟨some 9, .p (.mv (.t 0)), none⟩,
⟨some 10, .p (.len (.t 9)), none⟩,
⟨some 11, .p (.mv (.c (iV 0))), none⟩]
def c59_r2 : List Ins := [⟨some 12, .p (.bin .lss (.t 11) (.t 10)), none⟩]
def c59_r3 : List Ins := [⟨some 13, .p (.mv (.t 11)), none⟩,
⟨some 14, .p (.idxA (.t 9) (.t 11) 1), none⟩,
⟨some 15, .p (.load (.t 14) 1 false), none⟩,
⟨some 7, .p (.mv (.t 13)), none⟩,
⟨some 8, .p (.mv (.t 15)), none⟩]
def c59_r4 : List Ins := [⟨some 16, .p (.mv (.t 8)), none⟩,
⟨some 17, .p (.mv (.t 1)), none⟩,
⟨some 18, .p (.mv (.t 2)), none⟩,
⟨some 19, .call 63 [(.t 16), (.t 17), (.t 18)], none⟩,
⟨some 20, .p (.un .not (.t 19)), none⟩,
⟨some 21, .p (.mv (.t 20)), none⟩,
⟨some 22, .p (.mv (.t 7)), some (21, false)⟩,
⟨some 23, .p (.bin .gtr (.t 22) (.c (iV 0))), some (21, false)⟩,
⟨some 24, .p (.mv (.t 23)), some (21, false)⟩,
⟨some 25, .p (.mv (.t 0)), some (24, true)⟩,
⟨some 26, .p (.mv (.t 7)), some (24, true)⟩,
⟨some 27, .p (.bin .sub (.t 26) (.c (iV 1))), some (24, true)⟩,
⟨some 28, .p (.idxA (.t 25) (.t 27) 1), some (24, true)⟩,
⟨some 29, .p (.load (.t 28) 1 false), some (24, true)⟩,
⟨some 30, .p (.mv (.t 8)), some (24, true)⟩,
⟨some 31, .p (.bin .geq (.t 29) (.t 30)), some (24, true)⟩,
⟨some 32, .pick (.t 24) (.t 31) (.c (.bool false)), some (21, false)⟩,
⟨some 33, .pick (.t 21) (.c (.bool true)) (.t 32), none⟩]
def c59_r5 : List Ins := [⟨some 6, .p (.mv (.c (.bool false))), none⟩]
def c59_r6 : List Ins := [⟨some 34, .p (.bin .add (.t 11) (.c (iV 1))), none⟩,
⟨some 11, .p (.mv (.t 34)), none⟩]
def c59_l0 : IR := (.seq (.reg c59_r2) (.seq (.ite (.t 12) .skip (.exit 0)) (.seq (.block 1 (.seq (.reg c59_r3) (.seq (.reg c59_r4) (.ite (.t 33) (.seq (.reg c59_r5) .ret) .skip)))) (.reg c59_r6))))
def c59_r7 : List Ins := [⟨some 6, .p (.mv (.c (.bool true))), none⟩]
def c59 : XFn := { np := 3, nt := 35, res := [.t 6], body := (.seq (.reg c59_r0) (.seq (.seq (.reg c59_r1) (.block 0 (.loop c59_l0))) (.seq (.reg c59_r7) .ret))) }
def K59 (C : CRel) : Prop := ∀ (a0 : List Int) (a1 : Int) (a2 : Int) (r : Bool), g59 a0 a1 a2 = some r → C 59 ⟨[.lst 1 (a0.map eI), iV a1, iV a2], []⟩ ⟨.bool r, [], []⟩
theorem F59 {C : CRel} (H63 : K63 C) (a0 : List Int) (a1 : Int) (a2 : Int) (r : Bool) (h0 : g59 a0 a1 a2 = some r) : FnOK C c59 ⟨[.lst 1 (a0.map eI), iV a1, iV a2], []⟩ ⟨.bool r, [], []⟩ := by
 refine fn_ (nl rfl) ?_
 refine seq_ ?_
 refine reg_ ?_
 refine st (mvc_ trivial ?_)
 refine oe_ ?_
 refine wk_ ⟨[(0, .lst 1 (a0.map eI)), (1, iV a1), (2, iV a2)], [], []⟩ (fgk (by kernel_rfl)) ?_
 refine seq_ ?_
 refine seq_ ?_
 refine reg_ ?_
 refine st (mv_ rfl trivial ?_)
 refine st (c_ (clenL (e := eI) (l0 := a0) rfl rfl trivial) ?_)
 refine st (mvc_ trivial ?_)
 refine oe_ ?_
 refine wk_ ⟨[(0, .lst 1 (a0.map eI)), (1, iV a1), (2, iV a2), (9, .lst 1 (a0.map eI)), (10, iV (a0.length : Int)), (11, iV 0)], [], []⟩ (fgk (by kernel_rfl)) ?_
 refine block_ ?_
 obtain ⟨r33, e34, h0⟩ := bnd h0
 refine loop_ (R := (fun S => .inl () = r33 ∧ S = ⟨[], [], []⟩)) (g59_l0 a0 a1 a2) (fun s S => match s with | p11 => S = ⟨[(0, .lst 1 (a0.map eI)), (1, iV a1), (2, iV a2), (9, .lst 1 (a0.map eI)), (10, iV (a0.length : Int)), (11, iV p11)], [], []⟩) e34 ⟨[(0, .lst 1 (a0.map eI)), (1, iV a1), (2, iV a2), (9, .lst 1 (a0.map eI)), (10, iV (a0.length : Int)), (11, iV 0)], [], []⟩ (fgk (by kernel_rfl)) rfl 0 (fun _ => rfl) ?_ ?_
 ·rintro S _ hfg ⟨rfl, rfl⟩
  refine wk_ ⟨[], [], []⟩ (fglk hfg (by kernel_rfl)) ?_
  refine seq_ ?_
  refine reg_ ?_
  refine st (mvc_ trivial ?_)
  refine oe_ ?_
  refine wk_ ⟨[(6, .bool true)], [], []⟩ (fgk (by kernel_rfl)) ?_
  obtain rfl := Option.some.inj h0
  exact rt_ (ret_ rfl rfl rfl rfl rfl trivial)
 ·rintro p11 o1 _ K1 rfl h1 hx1 hK1 hE1 hR1
  refine seq_ ?_
  refine reg_ ?_
  refine st (c_ (cp_ t3 rfl trivial) ?_)
  refine oe_ ?_
  refine wk_ ⟨[(0, .lst 1 (a0.map eI)), (1, iV a1), (2, iV a2), (9, .lst 1 (a0.map eI)), (10, iV (a0.length : Int)), (11, iV p11), (12, .bool (decide (p11 < (a0.length : Int))))], [], []⟩ (fgk (by kernel_rfl)) ?_
  refine seq_ ?_
  refine ite_ (cb := (decide (p11 < (a0.length : Int)))) rfl (fun c23 => ?_) (fun c23 => ?_)
  ·replace h1 := ip c23 h1
   refine sk_ ?_
   refine wk_ ⟨[(0, .lst 1 (a0.map eI)), (1, iV a1), (2, iV a2), (9, .lst 1 (a0.map eI)), (10, iV (a0.length : Int)), (11, iV p11)], [], []⟩ (fgk (by kernel_rfl)) ?_
   refine seq_ ?_
   refine block_ ?_
   refine seq_ ?_
   refine reg_ ?_
   refine st (mv_ rfl trivial ?_)
   obtain ⟨y24, e25, h1⟩ := bnd h1
   refine st (c_ (cidxL (e := eI) (y := y24) rfl rfl trivial rfl rfl trivial e25) ?_)
   refine st (c_ (cp_ ⟨trivial, trivial⟩ rfl (nl rfl)) ?_)
   refine st (mv_ rfl trivial ?_)
   refine st (mv_ rfl trivial ?_)
   refine oe_ ?_
   refine wk_ ⟨[(0, .lst 1 (a0.map eI)), (1, iV a1), (2, iV a2), (7, iV p11), (8, iV y24), (9, .lst 1 (a0.map eI)), (10, iV (a0.length : Int)), (11, iV p11)], [], []⟩ (fgk (by kernel_rfl)) ?_
   refine seq_ ?_
   refine reg_ ?_
   refine st (mv_ rfl trivial ?_)
   refine st (mv_ rfl trivial ?_)
   refine st (mv_ rfl trivial ?_)
   obtain ⟨r26, e27, h1⟩ := bnd h1
   refine st (call0_ (r := .bool r26) false (H63 y24 a1 a2 r26 e27) ⟨trivial, trivial, trivial, trivial⟩ rfl rfl (fun _ => rfl) ?_)
   refine st (c_ (cp_ ⟨trivial, trivial⟩ rfl trivial) ?_)
   refine st (mv_ rfl trivial ?_)
   refine st (pg_ (u := iV p11) rfl (fun hg => (cmv (v := iV p11) rfl trivial)) ?_)
   refine st (pg_ (u := .bool (decide (p11 > 0))) rfl (fun hg => (cp_ ⟨(fun _ => hg), trivial, trivial⟩ rfl trivial)) ?_)
   refine st (pg_ (u := .bool (decide (p11 > 0))) rfl (fun hg => (cmv (v := .may ((!r26) == false) (.bool (decide (p11 > 0)))) rfl (fun _ => hg))) ?_)
   refine st (pg_ (u := .lst 1 (a0.map eI)) rfl (fun hg => (cmv (v := .lst 1 (a0.map eI)) rfl trivial)) ?_)
   refine st (pg_ (u := iV p11) rfl (fun hg => (cmv (v := iV p11) rfl trivial)) ?_)
   refine st (pg_ (u := iV (IntKind.i64.wrap (p11 - 1))) rfl (fun hg => (cp_ ⟨(fun _ => hg), trivial, trivial⟩ rfl trivial)) ?_)
   obtain ⟨y28, e29, h1⟩ := bnd h1
   refine sw ⟨[(0, .lst 1 (a0.map eI)), (1, iV a1), (2, iV a2), (8, iV y24), (9, .lst 1 (a0.map eI)), (10, iV (a0.length : Int)), (11, iV p11), (21, .bool (!r26)), (24, .may ((!r26) == false) (.bool (decide (p11 > 0)))), (25, .may (((!r26) == false) && ((decide (p11 > 0)) == true)) (.lst 1 (a0.map eI))), (27, .may (((!r26) == false) && ((decide (p11 > 0)) == true)) (iV (IntKind.i64.wrap (p11 - 1))))], [], []⟩ (fgk (by kernel_rfl)) (pg_ (u := .iptr [iV y28]) rfl (fun hg => (cidxL (e := eI) (y := y28) rfl rfl (fun _ => hg) rfl rfl (fun _ => hg) (ip hg e29))) ?_)
   refine st (pg_ (u := iV y28) rfl (fun hg => (cp_ ⟨(fun _ => hg), trivial⟩ rfl (nl rfl))) ?_)
   refine st (pg_ (u := iV y24) rfl (fun hg => (cmv (v := iV y24) rfl trivial)) ?_)
   refine st (pg_ (u := .bool (decide (y28 ≥ y24))) rfl (fun hg => (cp_ ⟨(fun _ => hg), (fun _ => hg), trivial⟩ rfl trivial)) ?_)
   refine st (pickg_ (u := .bool (bif (decide (p11 > 0)) then (decide (y28 ≥ y24)) else false)) rfl (fun hg => cpick rfl rfl (fun _ => hg) rfl rfl (fun h => and_ hg (eqt h)) trivial rfl) ?_)
   refine st (pick_ rfl rfl rfl trivial (fun h => eqf h) rfl ?_)
   refine oe_ ?_
   obtain ⟨v30, e31, h1⟩ := bl h1
   refine wk_ ⟨[(0, .lst 1 (a0.map eI)), (1, iV a1), (2, iV a2), (9, .lst 1 (a0.map eI)), (10, iV (a0.length : Int)), (11, iV p11), (33, .bool v30)], [], []⟩ (fgk (by subst e31; kernel_rfl)) ?_
   refine ite_ (cb := v30) rfl (fun c32 => ?_) (fun c32 => ?_)
   ·replace h1 := ip c32 h1
    refine seq_ ?_
    refine reg_ ?_
    refine st (mvc_ trivial ?_)
    refine oe_ ?_
    refine wk_ ⟨[(6, .bool false)], [], []⟩ (fgk (by kernel_rfl)) ?_
    obtain rfl := Option.some.inj h1
    obtain rfl := hx1 _ rfl
    obtain rfl := Option.some.inj h0
    exact rt_ (hR1 _ (ret_ rfl rfl rfl rfl rfl trivial))
   ·replace h1 := inb c32 h1
    refine sk_ ?_
    refine bn_ ?_
    refine wk_ ⟨[(0, .lst 1 (a0.map eI)), (1, iV a1), (2, iV a2), (9, .lst 1 (a0.map eI)), (10, iV (a0.length : Int)), (11, iV p11)], [], []⟩ (fgk (by kernel_rfl)) ?_
    refine reg_ ?_
    refine st (c_ (cp_ t3 rfl trivial) ?_)
    refine st (mv_ rfl trivial ?_)
    refine oe_ ?_
    obtain rfl := Option.some.inj h1
    exact hK1 _ rfl _ ⟨[(0, .lst 1 (a0.map eI)), (1, iV a1), (2, iV a2), (9, .lst 1 (a0.map eI)), (10, iV (a0.length : Int)), (11, iV (IntKind.i64.wrap (p11 + 1)))], [], []⟩ (fgk (by kernel_rfl)) rfl
  ·replace h1 := inb c23 h1
   obtain rfl := Option.some.inj h1
   obtain rfl := hx1 _ rfl
   refine exQ rfl ?_
   exact hE1 _ ⟨[], [], []⟩ (fgk (by kernel_rfl)) ⟨rfl, rfl⟩

/- (loop.example/g00149/impl.Table).ids -/
def c60_r0 : List Ins := [⟨some 1, .box (.t 0), none⟩,
⟨some 2, .nilS 1, none⟩]
def c60_r1 : List Ins := [⟨some 3, .nilS 1, none⟩]
def c60_r2 : List Ins := [⟨some 6, .p (.fieldA (.t 1) 2), none⟩,
⟨some 7, .p (.load (.t 6) 1 false), none⟩,
⟨some 8, .p (.len (.t 7)), none⟩,
⟨some 9, .p (.mv (.c (iV 0))), none⟩]
def c60_r3 : List Ins := [⟨some 10, .p (.bin .lss (.t 9) (.t 8)), none⟩]
def c60_r4 : List Ins := [⟨some 11, .p (.idxA (.t 7) (.t 9) 4), none⟩,
⟨some 12, .p (.load (.t 11) 4 true), none⟩,
⟨some 5, .alloc [(iV 0), (iV 0), (iV 0), (.bool false)], none⟩,
⟨none, .store (.t 5) (.t 12) 4, none⟩]
def c60_r5 : List Ins := [⟨some 13, .p (.mv (.t 3)), none⟩,
⟨some 14, .p (.fieldA (.t 5) 0), none⟩,
⟨some 15, .p (.load (.t 14) 1 false), none⟩,
⟨some 16, .mkS 1 [(iV 0)] 1 [(0, (.t 15))], none⟩,
⟨some 17, .app 1 8 (.t 13) (.t 16), none⟩,
⟨some 3, .p (.mv (.t 17)), none⟩]
def c60_r6 : List Ins := [⟨some 18, .p (.bin .add (.t 9) (.c (iV 1))), none⟩,
⟨some 9, .p (.mv (.t 18)), none⟩]
def c60_l0 : IR := (.seq (.reg c60_r3) (.seq (.ite (.t 10) .skip (.exit 0)) (.seq (.block 1 (.seq (.reg c60_r4) (.reg c60_r5))) (.reg c60_r6))))
def c60_r7 : List Ins := [⟨some 19, .p (.mv (.t 3)), none⟩,
⟨some 2, .p (.mv (.t 19)), none⟩]
def c60 : XFn := { np := 1, nt := 20, res := [.t 2], body := (.seq (.reg c60_r0) (.seq (.reg c60_r1) (.seq (.seq (.reg c60_r2) (.block 0 (.loop c60_l0))) (.seq (.reg c60_r7) .ret)))) }
def K60 (C : CRel) : Prop := ∀ (a0 : DTable) (r : (List Int)), g60 a0 = some r → C 60 ⟨[.agg (eDTable a0)], []⟩ ⟨.own 0 0 1 (r.map eI), [], []⟩
theorem F60 {C : CRel}  (a0 : DTable) (r : (List Int)) (h0 : g60 a0 = some r) : FnOK C c60 ⟨[.agg (eDTable a0)], []⟩ ⟨.own 0 0 1 (r.map eI), [], []⟩ := by
 refine fn_ (nl rfl) ?_
 refine seq_ ?_
 refine reg_ ?_
 refine st (box_ rfl trivial rfl ?_)
 refine st (nilS_ ?_)
 refine oe_ ?_
 refine wk_ ⟨[(1, .ptr 64 0)], [(64, [iV a0.clock, iV a0.next, .lst 4 (a0.list_.map eDLease)])], []⟩ (fgk (by kernel_rfl)) ?_
 refine seq_ ?_
 refine reg_ ?_
 refine st (nilS_ ?_)
 refine oe_ ?_
 refine wk_ ⟨[(1, .ptr 64 0), (3, .own 192 0 1 ([].map eI))], [(64, [iV a0.clock, iV a0.next, .lst 4 (a0.list_.map eDLease)])], []⟩ (fgk (by kernel_rfl)) ?_
 refine seq_ ?_
 refine seq_ ?_
 refine reg_ ?_
 refine st (c_ (cp_ ⟨trivial, trivial⟩ rfl trivial) ?_)
 refine st (c_ (cp_ ⟨trivial, trivial⟩ rfl (nl rfl)) ?_)
 refine st (c_ (clenL (e := eDLease) (l0 := a0.list_) rfl rfl trivial) ?_)
 refine st (mvc_ trivial ?_)
 refine oe_ ?_
 refine wk_ ⟨[(3, .own 192 0 1 ([].map eI)), (7, .lst 4 (a0.list_.map eDLease)), (8, iV (a0.list_.length : Int)), (9, iV 0)], [], []⟩ (fgk (by kernel_rfl)) ?_
 refine block_ ?_
 obtain ⟨r18, e19, h0⟩ := bnd h0
 refine loop_ (R := (fun S => ∃ p13 : List Int, p13 = r18 ∧ S = ⟨[(3, .own 192 0 1 (p13.map eI))], [], []⟩)) (g60_l0 a0) (fun s S => match s with | (p5, p6) => S = ⟨[(3, .own 192 0 1 (p5.map eI)), (7, .lst 4 (a0.list_.map eDLease)), (8, iV (a0.list_.length : Int)), (9, iV p6)], [], []⟩) e19 ⟨[(3, .own 192 0 1 ([].map eI)), (7, .lst 4 (a0.list_.map eDLease)), (8, iV (a0.list_.length : Int)), (9, iV 0)], [], []⟩ (fgk (by kernel_rfl)) rfl 0 (fun _ => rfl) ?_ ?_
 ·rintro S _ hfg ⟨p13, rfl, rfl⟩
  refine wk_ ⟨[(3, .own 192 0 1 (p13.map eI))], [], []⟩ (fglk hfg (by kernel_rfl)) ?_
  refine seq_ ?_
  refine reg_ ?_
  refine st (mv_ rfl trivial ?_)
  refine st (mv_ rfl trivial ?_)
  refine oe_ ?_
  refine wk_ ⟨[(2, .own 192 0 1 (p13.map eI))], [], []⟩ (fgk (by kernel_rfl)) ?_
  obtain rfl := Option.some.inj h0
  exact rt_ (ret_ rfl rfl rfl rfl rfl trivial)
 ·rintro ⟨p5, p6⟩ o1 _ K1 rfl h1 hx1 hK1 hE1 hR1
  refine seq_ ?_
  refine reg_ ?_
  refine st (c_ (cp_ t3 rfl trivial) ?_)
  refine oe_ ?_
  refine wk_ ⟨[(3, .own 192 0 1 (p5.map eI)), (7, .lst 4 (a0.list_.map eDLease)), (8, iV (a0.list_.length : Int)), (9, iV p6), (10, .bool (decide (p6 < (a0.list_.length : Int))))], [], []⟩ (fgk (by kernel_rfl)) ?_
  refine seq_ ?_
  refine ite_ (cb := (decide (p6 < (a0.list_.length : Int)))) rfl (fun c14 => ?_) (fun c14 => ?_)
  ·replace h1 := ip c14 h1
   refine sk_ ?_
   refine wk_ ⟨[(3, .own 192 0 1 (p5.map eI)), (7, .lst 4 (a0.list_.map eDLease)), (8, iV (a0.list_.length : Int)), (9, iV p6)], [], []⟩ (fgk (by kernel_rfl)) ?_
   refine seq_ ?_
   refine block_ ?_
   refine seq_ ?_
   refine reg_ ?_
   obtain ⟨y15, e16, h1⟩ := bnd h1
   refine st (c_ (cidxL (e := eDLease) (y := y15) rfl rfl trivial rfl rfl trivial e16) ?_)
   refine st (c_ (v := .agg (eDLease y15)) (cp_ ⟨trivial, trivial⟩ rfl (nl rfl)) ?_)
   refine st (alloc_ ?_)
   refine st (stp_ rfl rfl trivial rfl rfl rfl (nl rfl) ?_)
   refine oe_ ?_
   refine wk_ ⟨[(3, .own 192 0 1 (p5.map eI)), (5, .ptr 320 0), (7, .lst 4 (a0.list_.map eDLease)), (8, iV (a0.list_.length : Int)), (9, iV p6)], [(320, [iV y15.id, iV y15.until_, iV y15.cap, .bool y15.queued])], []⟩ (fgk (by kernel_rfl)) ?_
   refine reg_ ?_
   refine st (mv_ rfl trivial ?_)
   refine st (c_ (cp_ ⟨trivial, trivial⟩ rfl trivial) ?_)
   refine st (c_ (cp_ ⟨trivial, trivial⟩ rfl (nl rfl)) ?_)
   refine st (mkS_ ⟨trivial, trivial⟩ ⟨⟨nl rfl, rfl, rfl⟩, trivial⟩ ?_)
   obtain ⟨c17, h1⟩ := grd h1
   refine st (app_ (e := eI) (l0 := p5) (l1 := ([y15.id] : List Int)) rfl rfl trivial rfl (by decide) c17 ?_)
   refine st (mv_ rfl trivial ?_)
   refine oe_ ?_
   refine bn_ ?_
   refine wk_ ⟨[(3, .own 192 0 1 ((p5 ++ ([y15.id] : List Int)).map eI)), (7, .lst 4 (a0.list_.map eDLease)), (8, iV (a0.list_.length : Int)), (9, iV p6)], [], []⟩ (fgk (by kernel_rfl)) ?_
   refine reg_ ?_
   refine st (c_ (cp_ t3 rfl trivial) ?_)
   refine st (mv_ rfl trivial ?_)
   refine oe_ ?_
   obtain rfl := Option.some.inj h1
   exact hK1 _ rfl _ ⟨[(3, .own 192 0 1 ((p5 ++ ([y15.id] : List Int)).map eI)), (7, .lst 4 (a0.list_.map eDLease)), (8, iV (a0.list_.length : Int)), (9, iV (IntKind.i64.wrap (p6 + 1)))], [], []⟩ (fgk (by kernel_rfl)) rfl
  ·replace h1 := inb c14 h1
   obtain rfl := Option.some.inj h1
   obtain rfl := hx1 _ rfl
   refine exQ rfl ?_
   exact hE1 _ ⟨[(3, .own 192 0 1 (p5.map eI))], [], []⟩ (fgk (by kernel_rfl)) ⟨_, rfl, rfl⟩

/- slices.IndexFunc[[]loop.example/g00149/impl.Lease,loop.example/g00149/impl.Lease] -/
def c108_r0 : List Ins := [⟨some 4, .p (.mv (.c (iV 0))), none⟩]
def c108_r1 : List Ins := [⟨some 6, .p (.mv (.t 0)), none⟩,
⟨some 7, .p (.len (.t 6)), none⟩,
⟨some 8, .p (.mv (.c (iV 0))), none⟩]
def c108_r2 : List Ins := [⟨some 9, .p (.bin .lss (.t 8) (.t 7)), none⟩]
def c108_r3 : List Ins := [⟨some 10, .p (.mv (.t 8)), none⟩,
⟨some 5, .p (.mv (.t 10)), none⟩]
def c108_r4 : List Ins := [⟨some 11, .p (.mv (.t 1)), none⟩,
⟨some 12, .p (.mv (.t 0)), none⟩,
⟨some 13, .p (.mv (.t 5)), none⟩,
⟨some 14, .p (.idxA (.t 12) (.t 13) 4), none⟩,
⟨some 15, .p (.load (.t 14) 4 true), none⟩,
⟨some 16, .callv (.t 11) [(.t 15)], none⟩]
def c108_r5 : List Ins := [⟨some 17, .p (.mv (.t 5)), none⟩,
⟨some 4, .p (.mv (.t 17)), none⟩]
def c108_r6 : List Ins := [⟨some 18, .p (.bin .add (.t 8) (.c (iV 1))), none⟩,
⟨some 8, .p (.mv (.t 18)), none⟩]
def c108_l0 : IR := (.seq (.reg c108_r2) (.seq (.ite (.t 9) .skip (.exit 0)) (.seq (.block 1 (.seq (.reg c108_r3) (.seq (.reg c108_r4) (.ite (.t 16) (.seq (.reg c108_r5) .ret) .skip)))) (.reg c108_r6))))
def c108_r7 : List Ins := [⟨some 4, .p (.mv (.c (iV (-1)))), none⟩]
def c108 : XFn := { np := 2, nt := 19, res := [.t 4], body := (.seq (.reg c108_r0) (.seq (.seq (.reg c108_r1) (.block 0 (.loop c108_l0))) (.seq (.reg c108_r7) .ret))) }
def K108 (C : CRel) : Prop := ∀ (a0 : List DLease) (f1 : Nat) (k1 : List V) (is1 : DLease → Option Bool) (hs1 : Shut k1) (hf1 : ∀ (x0 : DLease) r, is1 x0 = some r → C f1 ⟨.agg (eDLease x0) :: k1, []⟩ ⟨.bool r, [], []⟩) (r : Int), g108 a0 is1 = some r → C 108 ⟨[.lst 4 (a0.map eDLease), .clo f1 k1], []⟩ ⟨iV r, [], []⟩
theorem F108 {C : CRel}  (a0 : List DLease) (f1 : Nat) (k1 : List V) (is1 : DLease → Option Bool) (hs1 : Shut k1) (hf1 : ∀ (x0 : DLease) r, is1 x0 = some r → C f1 ⟨.agg (eDLease x0) :: k1, []⟩ ⟨.bool r, [], []⟩) (r : Int) (h0 : g108 a0 is1 = some r) : FnOK C c108 ⟨[.lst 4 (a0.map eDLease), .clo f1 k1], []⟩ ⟨iV r, [], []⟩ := by
 refine fn_ (nl rfl) ?_
 refine seq_ ?_
 refine reg_ ?_
 refine st (mvc_ trivial ?_)
 refine oe_ ?_
 refine wk_ ⟨[(0, .lst 4 (a0.map eDLease)), (1, .clo f1 k1)], [], []⟩ (fg ⟨rfl, rfl, trivial⟩ trivial) ?_
 refine seq_ ?_
 refine seq_ ?_
 refine reg_ ?_
 refine st (mv_ rfl trivial ?_)
 refine st (c_ (clenL (e := eDLease) (l0 := a0) rfl rfl trivial) ?_)
 refine st (mvc_ trivial ?_)
 refine oe_ ?_
 refine wk_ ⟨[(0, .lst 4 (a0.map eDLease)), (1, .clo f1 k1), (7, iV (a0.length : Int)), (8, iV 0)], [], []⟩ (fg ⟨rfl, rfl, rfl, rfl, trivial⟩ trivial) ?_
 refine block_ ?_
 obtain ⟨r21, e22, h0⟩ := bnd h0
 refine loop_ (R := (fun S => .inl () = r21 ∧ S = ⟨[], [], []⟩)) (g108_l0 a0 is1) (fun s S => match s with | p7 => S = ⟨[(0, .lst 4 (a0.map eDLease)), (1, .clo f1 k1), (7, iV (a0.length : Int)), (8, iV p7)], [], []⟩) e22 ⟨[(0, .lst 4 (a0.map eDLease)), (1, .clo f1 k1), (7, iV (a0.length : Int)), (8, iV 0)], [], []⟩ (fg ⟨rfl, rfl, rfl, rfl, trivial⟩ trivial) rfl 0 (fun _ => rfl) ?_ ?_
 ·rintro S _ hfg ⟨rfl, rfl⟩
  refine wk_ ⟨[], [], []⟩ (fglk hfg (by kernel_rfl)) ?_
  refine seq_ ?_
  refine reg_ ?_
  refine st (mvc_ trivial ?_)
  refine oe_ ?_
  refine wk_ ⟨[(4, iV (-1))], [], []⟩ (fgk (by kernel_rfl)) ?_
  obtain rfl := Option.some.inj h0
  exact rt_ (ret_ rfl rfl rfl rfl rfl trivial)
 ·rintro p7 o1 _ K1 rfl h1 hx1 hK1 hE1 hR1
  refine seq_ ?_
  refine reg_ ?_
  refine st (c_ (cp_ t3 rfl trivial) ?_)
  refine oe_ ?_
  refine wk_ ⟨[(0, .lst 4 (a0.map eDLease)), (1, .clo f1 k1), (7, iV (a0.length : Int)), (8, iV p7), (9, .bool (decide (p7 < (a0.length : Int))))], [], []⟩ (fg ⟨rfl, rfl, rfl, rfl, rfl, trivial⟩ trivial) ?_
  refine seq_ ?_
  refine ite_ (cb := (decide (p7 < (a0.length : Int)))) rfl (fun c15 => ?_) (fun c15 => ?_)
  ·replace h1 := ip c15 h1
   refine sk_ ?_
   refine wk_ ⟨[(0, .lst 4 (a0.map eDLease)), (1, .clo f1 k1), (7, iV (a0.length : Int)), (8, iV p7)], [], []⟩ (fg ⟨rfl, rfl, rfl, rfl, trivial⟩ trivial) ?_
   refine seq_ ?_
   refine block_ ?_
   refine seq_ ?_
   refine reg_ ?_
   refine st (mv_ rfl trivial ?_)
   refine st (mv_ rfl trivial ?_)
   refine oe_ ?_
   refine wk_ ⟨[(0, .lst 4 (a0.map eDLease)), (1, .clo f1 k1), (5, iV p7), (7, iV (a0.length : Int)), (8, iV p7)], [], []⟩ (fg ⟨rfl, rfl, rfl, rfl, rfl, trivial⟩ trivial) ?_
   refine seq_ ?_
   refine reg_ ?_
   refine st (mv_ rfl trivial ?_)
   refine st (mv_ rfl trivial ?_)
   refine st (mv_ rfl trivial ?_)
   obtain ⟨y16, e17, h1⟩ := bnd h1
   refine st (c_ (cidxL (e := eDLease) (y := y16) rfl rfl trivial rfl rfl trivial e17) ?_)
   refine st (c_ (v := .agg (eDLease y16)) (cp_ ⟨trivial, trivial⟩ rfl (nl rfl)) ?_)
   obtain ⟨r18, e19, h1⟩ := bnd h1
   refine st (callv0_ (r := .bool r18) rfl false (hf1 _ r18 e19) ⟨trivial, trivial⟩ (and_ rfl hs1.2.2.1) (mapc1 rfl (hs1.2.1 _ _ _ _ _)) (fun _ => rfl) ?_)
   refine oe_ ?_
   refine wk_ ⟨[(0, .lst 4 (a0.map eDLease)), (1, .clo f1 k1), (5, iV p7), (7, iV (a0.length : Int)), (8, iV p7), (16, .bool r18)], [], []⟩ (fg ⟨rfl, rfl, rfl, rfl, rfl, rfl, trivial⟩ trivial) ?_
   refine ite_ (cb := r18) rfl (fun c20 => ?_) (fun c20 => ?_)
   ·replace h1 := ip c20 h1
    refine seq_ ?_
    refine reg_ ?_
    refine st (mv_ rfl trivial ?_)
    refine st (mv_ rfl trivial ?_)
    refine oe_ ?_
    refine wk_ ⟨[(4, iV p7)], [], []⟩ (fgk (by kernel_rfl)) ?_
    obtain rfl := Option.some.inj h1
    obtain rfl := hx1 _ rfl
    obtain rfl := Option.some.inj h0
    exact rt_ (hR1 _ (ret_ rfl rfl rfl rfl rfl trivial))
   ·replace h1 := inb c20 h1
    refine sk_ ?_
    refine bn_ ?_
    refine wk_ ⟨[(0, .lst 4 (a0.map eDLease)), (1, .clo f1 k1), (7, iV (a0.length : Int)), (8, iV p7)], [], []⟩ (fg ⟨rfl, rfl, rfl, rfl, trivial⟩ trivial) ?_
    refine reg_ ?_
    refine st (c_ (cp_ t3 rfl trivial) ?_)
    refine st (mv_ rfl trivial ?_)
    refine oe_ ?_
    obtain rfl := Option.some.inj h1
    exact hK1 _ rfl _ ⟨[(0, .lst 4 (a0.map eDLease)), (1, .clo f1 k1), (7, iV (a0.length : Int)), (8, iV (IntKind.i64.wrap (p7 + 1)))], [], []⟩ (fg ⟨rfl, rfl, rfl, rfl, trivial⟩ trivial) rfl
  ·replace h1 := inb c15 h1
   obtain rfl := Option.some.inj h1
   obtain rfl := hx1 _ rfl
   refine exQ rfl ?_
   exact hE1 _ ⟨[], [], []⟩ (fgk (by kernel_rfl)) ⟨rfl, rfl⟩

/- slices.ContainsFunc[[]loop.example/g00149/impl.Lease,loop.example/g00149/impl.Lease] -/
def c105_r0 : List Ins := [⟨some 4, .p (.mv (.c (.bool false))), none⟩]
def c105_r1 : List Ins := [⟨some 5, .p (.mv (.t 0)), none⟩,
⟨some 6, .p (.mv (.t 1)), none⟩,
⟨some 7, .call 108 [(.t 5), (.t 6)], none⟩,
⟨some 8, .p (.bin .geq (.t 7) (.c (iV 0))), none⟩,
⟨some 4, .p (.mv (.t 8)), none⟩]
def c105 : XFn := { np := 2, nt := 9, res := [.t 4], body := (.seq (.reg c105_r0) (.seq (.reg c105_r1) .ret)) }
def K105 (C : CRel) : Prop := ∀ (a0 : List DLease) (f1 : Nat) (k1 : List V) (is1 : DLease → Option Bool) (hs1 : Shut k1) (hf1 : ∀ (x0 : DLease) r, is1 x0 = some r → C f1 ⟨.agg (eDLease x0) :: k1, []⟩ ⟨.bool r, [], []⟩) (r : Bool), g105 a0 is1 = some r → C 105 ⟨[.lst 4 (a0.map eDLease), .clo f1 k1], []⟩ ⟨.bool r, [], []⟩
theorem F105 {C : CRel} (H108 : K108 C) (a0 : List DLease) (f1 : Nat) (k1 : List V) (is1 : DLease → Option Bool) (hs1 : Shut k1) (hf1 : ∀ (x0 : DLease) r, is1 x0 = some r → C f1 ⟨.agg (eDLease x0) :: k1, []⟩ ⟨.bool r, [], []⟩) (r : Bool) (h0 : g105 a0 is1 = some r) : FnOK C c105 ⟨[.lst 4 (a0.map eDLease), .clo f1 k1], []⟩ ⟨.bool r, [], []⟩ := by
 refine fn_ (nl rfl) ?_
 refine seq_ ?_
 refine reg_ ?_
 refine st (mvc_ trivial ?_)
 refine oe_ ?_
 refine wk_ ⟨[(0, .lst 4 (a0.map eDLease)), (1, .clo f1 k1)], [], []⟩ (fg ⟨rfl, rfl, trivial⟩ trivial) ?_
 refine seq_ ?_
 refine reg_ ?_
 refine st (mv_ rfl trivial ?_)
 refine st (mv_ rfl trivial ?_)
 obtain ⟨r1, e2, h0⟩ := bnd h0
 refine st (call0_ (r := iV r1) false (H108 a0 f1 k1 is1 hs1 hf1 r1 e2) ⟨trivial, trivial, trivial⟩ rfl (mapc1 rfl (mapc1 (clo_sh hs1) rfl)) (fun _ => rfl) ?_)
 refine st (c_ (cp_ t3 rfl trivial) ?_)
 refine st (mv_ rfl trivial ?_)
 refine oe_ ?_
 refine wk_ ⟨[(4, .bool (decide (r1 ≥ 0)))], [], []⟩ (fgk (by kernel_rfl)) ?_
 obtain rfl := Option.some.inj h0
 exact rt_ (ret_ rfl rfl rfl rfl rfl trivial)

/- loop.example/g00149/impl.areAll[loop.example/g00149/impl.Lease]$1 -/
def c106_r0 : List Ins := [⟨some 2, .box (.t 0), none⟩,
⟨some 3, .p (.mv (.c (.bool false))), none⟩]
def c106_r1 : List Ins := [⟨some 4, .p (.load (.t 1) 1 false), none⟩,
⟨some 5, .p (.load (.t 2) 4 true), none⟩,
⟨some 6, .callv (.t 4) [(.t 5)], none⟩,
⟨some 7, .p (.un .not (.t 6)), none⟩,
⟨some 3, .p (.mv (.t 7)), none⟩]
def c106 : XFn := { np := 2, nt := 8, res := [.t 3], body := (.seq (.reg c106_r0) (.seq (.reg c106_r1) .ret)) }
def K106 (C : CRel) : Prop := ∀ (a0 : DLease) (f1 : Nat) (k1 : List V) (is1 : DLease → Option Bool) (hs1 : Shut k1) (hf1 : ∀ (x0 : DLease) r, is1 x0 = some r → C f1 ⟨.agg (eDLease x0) :: k1, []⟩ ⟨.bool r, [], []⟩) (r : Bool), g106 a0 is1 = some r → C 106 ⟨[.agg (eDLease a0), .iptr [.clo f1 k1]], []⟩ ⟨.bool r, [], []⟩
theorem F106 {C : CRel}  (a0 : DLease) (f1 : Nat) (k1 : List V) (is1 : DLease → Option Bool) (hs1 : Shut k1) (hf1 : ∀ (x0 : DLease) r, is1 x0 = some r → C f1 ⟨.agg (eDLease x0) :: k1, []⟩ ⟨.bool r, [], []⟩) (r : Bool) (h0 : g106 a0 is1 = some r) : FnOK C c106 ⟨[.agg (eDLease a0), .iptr [.clo f1 k1]], []⟩ ⟨.bool r, [], []⟩ := by
 refine fn_ (nl rfl) ?_
 refine seq_ ?_
 refine reg_ ?_
 refine st (box_ rfl trivial rfl ?_)
 refine sw ⟨[(1, .iptr [.clo f1 k1]), (2, .ptr 128 0)], [(128, [iV a0.id, iV a0.until_, iV a0.cap, .bool a0.queued])], []⟩ (fg ⟨rfl, rfl, trivial⟩ ⟨rfl, trivial⟩) (mvc_ trivial ?_)
 refine oe_ ?_
 refine wk_ ⟨[(1, .iptr [.clo f1 k1]), (2, .ptr 128 0)], [(128, [iV a0.id, iV a0.until_, iV a0.cap, .bool a0.queued])], []⟩ (fg ⟨rfl, rfl, trivial⟩ ⟨rfl, trivial⟩) ?_
 refine seq_ ?_
 refine reg_ ?_
 refine st (c_ (cp_ ⟨trivial, trivial⟩ rfl (nl rfl)) ?_)
 refine st (c_ (v := .agg (eDLease a0)) (cp_ ⟨trivial, trivial⟩ rfl (nl rfl)) ?_)
 obtain ⟨r1, e2, h0⟩ := bnd h0
 refine st (callv0_ (r := .bool r1) rfl false (hf1 _ r1 e2) ⟨trivial, trivial⟩ (and_ rfl hs1.2.2.1) (mapc1 rfl (hs1.2.1 _ _ _ _ _)) (fun _ => rfl) ?_)
 refine st (c_ (cp_ ⟨trivial, trivial⟩ rfl trivial) ?_)
 refine st (mv_ rfl trivial ?_)
 refine oe_ ?_
 refine wk_ ⟨[(3, .bool (!r1))], [], []⟩ (fgk (by kernel_rfl)) ?_
 obtain rfl := Option.some.inj h0
 exact rt_ (ret_ rfl rfl rfl rfl rfl trivial)

/- loop.example/g00149/impl.areAll[loop.example/g00149/impl.Lease] -/
def c61_r0 : List Ins := [⟨some 3, .box (.t 1), none⟩,
⟨some 4, .p (.mv (.c (.bool false))), none⟩]
def c61_r1 : List Ins := [⟨some 5, .p (.mv (.t 0)), none⟩,
⟨some 6, .p (.fn 106 [(.t 3)]), none⟩,
⟨some 7, .call 105 [(.t 5), (.t 6)], none⟩,
⟨some 8, .p (.un .not (.t 7)), none⟩,
⟨some 4, .p (.mv (.t 8)), none⟩]
def c61 : XFn := { np := 2, nt := 9, res := [.t 4], body := (.seq (.reg c61_r0) (.seq (.reg c61_r1) .ret)) }
def K61 (C : CRel) : Prop := ∀ (a0 : List DLease) (f1 : Nat) (k1 : List V) (is1 : DLease → Option Bool) (hs1 : Shut k1) (hf1 : ∀ (x0 : DLease) r, is1 x0 = some r → C f1 ⟨.agg (eDLease x0) :: k1, []⟩ ⟨.bool r, [], []⟩) (r : Bool), g61 a0 is1 = some r → C 61 ⟨[.lst 4 (a0.map eDLease), .clo f1 k1], []⟩ ⟨.bool r, [], []⟩
theorem F61 {C : CRel} (H105 : K105 C) (H106 : K106 C) (a0 : List DLease) (f1 : Nat) (k1 : List V) (is1 : DLease → Option Bool) (hs1 : Shut k1) (hf1 : ∀ (x0 : DLease) r, is1 x0 = some r → C f1 ⟨.agg (eDLease x0) :: k1, []⟩ ⟨.bool r, [], []⟩) (r : Bool) (h0 : g61 a0 is1 = some r) : FnOK C c61 ⟨[.lst 4 (a0.map eDLease), .clo f1 k1], []⟩ ⟨.bool r, [], []⟩ := by
 refine fn_ (nl rfl) ?_
 refine seq_ ?_
 refine reg_ ?_
 refine st (box_ (dr_sh hs1) trivial rfl ?_)
 refine sw ⟨[(0, .lst 4 (a0.map eDLease)), (3, .ptr 192 0)], [(192, [.clo f1 k1])], []⟩ (fg ⟨rfl, rfl, trivial⟩ ⟨rfl, trivial⟩) (mvc_ trivial ?_)
 refine oe_ ?_
 refine wk_ ⟨[(0, .lst 4 (a0.map eDLease)), (3, .ptr 192 0)], [(192, [.clo f1 k1])], []⟩ (fg ⟨rfl, rfl, trivial⟩ ⟨rfl, trivial⟩) ?_
 refine seq_ ?_
 refine reg_ ?_
 refine st (mv_ rfl trivial ?_)
 refine st (c_ (cp_ ⟨trivial, trivial⟩ rfl rfl) ?_)
 obtain ⟨r1, e2, h0⟩ := bnd h0
 refine st (call0_ (r := .bool r1) false (H105 a0 106 [.iptr [.clo f1 k1]] (fun z106_0 => g106 z106_0 is1) (⟨fun _ _ _ _ _ => rfl, fun _ _ _ _ _ => rfl, rfl, fun _ _ _ n => by cases n <;> rfl, fun _ => rfl⟩) (fun z106_0 r h => H106 z106_0 f1 k1 is1 hs1 hf1 r h) r1 e2) ⟨trivial, trivial, trivial⟩ rfl (mapc1 rfl (mapc1 (congrArg (fun z => V.clo 106 [.iptr [.clo f1 z]]) (hs1.2.2.2.1 _ _ _ _)) rfl)) (fun _ => rfl) ?_)
 refine st (c_ (cp_ ⟨trivial, trivial⟩ rfl trivial) ?_)
 refine st (mv_ rfl trivial ?_)
 refine oe_ ?_
 refine wk_ ⟨[(4, .bool (!r1))], [], []⟩ (fgk (by kernel_rfl)) ?_
 obtain rfl := Option.some.inj h0
 exact rt_ (ret_ rfl rfl rfl rfl rfl trivial)

/- loop.example/g00149/impl.TableOK$1 -/
def c62_r0 : List Ins := [⟨some 2, .box (.t 0), none⟩,
⟨some 3, .p (.mv (.c (.bool false))), none⟩]
def c62_r1 : List Ins := [⟨some 4, .p (.fieldA (.t 2) 1), none⟩,
⟨some 5, .p (.load (.t 4) 1 false), none⟩,
⟨some 6, .p (.fieldA (.t 2) 2), none⟩,
⟨some 7, .p (.load (.t 6) 1 false), none⟩,
⟨some 8, .call 63 [(.t 5), (.c (iV 0)), (.t 7)], none⟩,
⟨some 9, .p (.mv (.t 8)), none⟩,
⟨some 10, .p (.fieldA (.t 2) 3), some (9, true)⟩,
⟨some 11, .p (.load (.t 10) 1 false), some (9, true)⟩,
⟨some 12, .p (.mv (.t 11)), some (9, true)⟩,
⟨some 13, .p (.fieldA (.t 2) 1), some (12, false)⟩,
⟨some 14, .p (.load (.t 13) 1 false), some (12, false)⟩,
⟨some 15, .p (.fieldA (.t 1) 0), some (12, false)⟩,
⟨some 16, .p (.load (.t 15) 1 false), some (12, false)⟩,
⟨some 17, .p (.bin .gtr (.t 14) (.t 16)), some (12, false)⟩,
⟨some 18, .pick (.t 12) (.c (.bool true)) (.t 17), some (9, true)⟩,
⟨some 19, .pick (.t 9) (.t 18) (.c (.bool false)), none⟩,
⟨some 3, .p (.mv (.t 19)), none⟩]
def c62 : XFn := { np := 2, nt := 20, res := [.t 3], body := (.seq (.reg c62_r0) (.seq (.reg c62_r1) .ret)) }
def K62 (C : CRel) : Prop := ∀ (a0 : DLease) (a1 : DTable) (r : Bool), g62 a0 a1 = some r → C 62 ⟨[.agg (eDLease a0), .iptr [iV a1.clock, iV a1.next, .lst 4 (a1.list_.map eDLease)]], []⟩ ⟨.bool r, [], []⟩
theorem F62 {C : CRel} (H63 : K63 C) (a0 : DLease) (a1 : DTable) (r : Bool) (h0 : g62 a0 a1 = some r) : FnOK C c62 ⟨[.agg (eDLease a0), .iptr [iV a1.clock, iV a1.next, .lst 4 (a1.list_.map eDLease)]], []⟩ ⟨.bool r, [], []⟩ := by
 refine fn_ (nl rfl) ?_
 refine seq_ ?_
 refine reg_ ?_
 refine st (box_ rfl trivial rfl ?_)
 refine st (mvc_ trivial ?_)
 refine oe_ ?_
 refine wk_ ⟨[(1, .iptr [iV a1.clock, iV a1.next, .lst 4 (a1.list_.map eDLease)]), (2, .ptr 128 0)], [(128, [iV a0.id, iV a0.until_, iV a0.cap, .bool a0.queued])], []⟩ (fgk (by kernel_rfl)) ?_
 refine seq_ ?_
 refine reg_ ?_
 refine st (c_ (cp_ ⟨trivial, trivial⟩ rfl trivial) ?_)
 refine st (c_ (cp_ ⟨trivial, trivial⟩ rfl (nl rfl)) ?_)
 refine st (c_ (cp_ ⟨trivial, trivial⟩ rfl trivial) ?_)
 refine st (c_ (cp_ ⟨trivial, trivial⟩ rfl (nl rfl)) ?_)
 obtain ⟨r1, e2, h0⟩ := bnd h0
 refine st (call0_ (r := .bool r1) false (H63 a0.until_ 0 a0.cap r1 e2) ⟨trivial, trivial, trivial, trivial⟩ rfl rfl (fun _ => rfl) ?_)
 refine st (mv_ rfl trivial ?_)
 refine st (pg_ (u := .ptr 128 3) rfl (fun hg => (cp_ ⟨trivial, trivial⟩ rfl trivial)) ?_)
 refine st (pg_ (u := .bool a0.queued) rfl (fun hg => (cp_ ⟨(fun _ => hg), trivial⟩ rfl (nl rfl))) ?_)
 refine st (pg_ (u := .bool a0.queued) rfl (fun hg => (cmv (v := .may (r1 == true) (.bool a0.queued)) rfl (fun _ => hg))) ?_)
 refine st (pg_ (u := .ptr 128 1) rfl (fun hg => (cp_ ⟨trivial, trivial⟩ rfl trivial)) ?_)
 refine st (pg_ (u := iV a0.until_) rfl (fun hg => (cp_ ⟨(fun _ => hg), trivial⟩ rfl (nl rfl))) ?_)
 refine st (pg_ (u := .iptr [iV a1.clock, iV a1.next, .lst 4 (a1.list_.map eDLease)]) rfl (fun hg => (cp_ ⟨trivial, trivial⟩ rfl (nl rfl))) ?_)
 refine sw ⟨[(9, .bool r1), (12, .may (r1 == true) (.bool a0.queued)), (14, .may ((r1 == true) && (a0.queued == false)) (iV a0.until_)), (15, .may ((r1 == true) && (a0.queued == false)) (.iptr [iV a1.clock, iV a1.next, .lst 4 (a1.list_.map eDLease)]))], [], []⟩ (fgk (by kernel_rfl)) (pg_ (u := iV a1.clock) rfl (fun hg => (cp_ ⟨(fun _ => hg), trivial⟩ rfl (nl rfl))) ?_)
 refine st (pg_ (u := .bool (decide (a0.until_ > a1.clock))) rfl (fun hg => (cp_ ⟨(fun _ => hg), (fun _ => hg), trivial⟩ rfl trivial)) ?_)
 refine st (pickg_ (u := .bool (bif a0.queued then true else (decide (a0.until_ > a1.clock)))) rfl (fun hg => cpick rfl rfl (fun _ => hg) rfl rfl trivial (fun h => and_ hg (eqf h)) rfl) ?_)
 refine st (pick_ rfl rfl rfl (fun h => eqt h) trivial rfl ?_)
 refine st (mv_ rfl trivial ?_)
 refine oe_ ?_
 obtain ⟨v3, e4, h0⟩ := bl h0
 refine wk_ ⟨[(3, .bool v3)], [], []⟩ (fgk (by subst e4; kernel_rfl)) ?_
 obtain rfl := Option.some.inj h0
 exact rt_ (ret_ rfl rfl rfl rfl rfl trivial)

/- loop.example/g00149/impl.TableOK -/
def c20_r0 : List Ins := [⟨some 1, .box (.t 0), none⟩,
⟨some 2, .p (.mv (.c (.bool false))), none⟩]
def c20_r1 : DP := (.take ⟨some 3, .p (.fieldA (.t 1) 0), none⟩
(.take ⟨some 4, .p (.load (.t 3) 1 false), none⟩
(.take ⟨some 5, .p (.bin .geq (.t 4) (.c (iV 0))), none⟩
(.take ⟨some 6, .p (.mv (.t 5)), none⟩
(.take ⟨some 7, .p (.fieldA (.t 1) 1), some (6, true)⟩
(.take ⟨some 8, .p (.load (.t 7) 1 false), some (6, true)⟩
(.alt [] ⟨some 9, .call 58 [(.t 8)], some (6, true)⟩
(.take ⟨some 10, .pick (.t 6) (.t 9) (.c (.bool false)), none⟩
(.take ⟨some 11, .p (.mv (.t 10)), none⟩
(.take ⟨some 12, .p (.fieldA (.t 1) 2), some (11, true)⟩
(.take ⟨some 13, .p (.load (.t 12) 1 false), some (11, true)⟩
(.take ⟨some 14, .p (.len (.t 13)), some (11, true)⟩
(.take ⟨some 15, .p (.bin .leq (.t 14) (.c (iV 40))), some (11, true)⟩
(.take ⟨some 16, .pick (.t 11) (.t 15) (.c (.bool false)), none⟩
(.take ⟨some 17, .p (.mv (.t 16)), none⟩
(.take ⟨some 18, .p (.load (.t 1) 3 true), some (17, true)⟩
(.take ⟨some 20, .p (.fieldA (.t 1) 1), some (17, true)⟩
(.take ⟨some 21, .p (.load (.t 20) 1 false), some (17, true)⟩
(.take ⟨some 22, .p (.bin .sub (.t 21) (.c (iV 1))), some (17, true)⟩
(.alt [⟨some 22, .p (.bin .sub (.t 21) (.c (iV 1))), some (17, true)⟩, ⟨some 21, .p (.load (.t 20) 1 false), some (17, true)⟩, ⟨some 20, .p (.fieldA (.t 1) 1), some (17, true)⟩] ⟨some 19, .call 60 [(.t 18)], some (17, true)⟩
(.alt [] ⟨some 23, .call 59 [(.t 19), (.c (iV 1)), (.t 22)], some (17, true)⟩
(.take ⟨some 24, .pick (.t 17) (.t 23) (.c (.bool false)), none⟩
(.take ⟨some 25, .p (.mv (.t 24)), none⟩
(.take ⟨some 26, .p (.fieldA (.t 1) 2), some (25, true)⟩
(.take ⟨some 27, .p (.load (.t 26) 1 false), some (25, true)⟩
(.take ⟨some 28, .p (.fn 62 [(.t 1)]), some (25, true)⟩
(.alt [] ⟨some 29, .call 61 [(.t 27), (.t 28)], some (25, true)⟩
(.take ⟨some 30, .pick (.t 25) (.t 29) (.c (.bool false)), none⟩
(.take ⟨some 2, .p (.mv (.t 30)), none⟩
.fin))
.stop))))))
.stop)
.stop)))))))))))))
.stop)))))))
def c20 : XFn := { np := 1, nt := 31, res := [.t 2], body := (.seq (.reg c20_r0) (.seq (.draw c20_r1) .ret)) }
def K20 (C : CRel) : Prop := ∀ (a0 : DTable) (r : Bool), g20 a0 = some r → C 20 ⟨[.agg (eDTable a0)], []⟩ ⟨.bool r, [], []⟩
theorem F20 {C : CRel} (H58 : K58 C) (H59 : K59 C) (H60 : K60 C) (H61 : K61 C) (H62 : K62 C) (a0 : DTable) (r : Bool) (h0 : g20 a0 = some r) : FnOK C c20 ⟨[.agg (eDTable a0)], []⟩ ⟨.bool r, [], []⟩ := by
 refine fn_ (nl rfl) ?_
 refine seq_ ?_
 refine reg_ ?_
 refine st (box_ rfl trivial rfl ?_)
 refine st (mvc_ trivial ?_)
 refine oe_ ?_
 refine wk_ ⟨[(1, .ptr 64 0)], [(64, [iV a0.clock, iV a0.next, .lst 4 (a0.list_.map eDLease)])], []⟩ (fgk (by kernel_rfl)) ?_
 refine seq_ ?_
 obtain ⟨r1, e2, h0⟩ := bnd h0
 obtain ⟨r3, e4, h0⟩ := bnd h0
 obtain ⟨r5, e6, h0⟩ := bnd h0
 obtain ⟨r7, e8, h0⟩ := bnd h0
 refine draw_ ?_
 refine dtake trivial (c_ (cp_ ⟨trivial, trivial⟩ rfl trivial) ?_)
 refine ⟨trivial, ?_⟩
 refine dtake trivial (c_ (cp_ ⟨trivial, trivial⟩ rfl (nl rfl)) ?_)
 refine ⟨trivial, ?_⟩
 refine dtake trivial (c_ (cp_ t3 rfl trivial) ?_)
 refine ⟨trivial, ?_⟩
 refine dtake trivial (mv_ rfl trivial ?_)
 refine ⟨trivial, ?_⟩
 refine dtake trivial (pg_ (u := .ptr 64 1) rfl (fun hg => (cp_ ⟨trivial, trivial⟩ rfl trivial)) ?_)
 refine ⟨trivial, ?_⟩
 refine dtake trivial (pg_ (u := iV a0.next) rfl (fun hg => (cp_ ⟨(fun _ => hg), trivial⟩ rfl (nl rfl))) ?_)
 refine ⟨trivial, ?_⟩
 refine dalt (callg_ (r := .bool r1) rfl false (fun hg => H58 a0.next r1 (ip hg e2)) ⟨(fun hg => hg), trivial⟩ (fun _ => rfl) (fun _ => rfl) (fun _ => rfl) (fun h => nomatch h) ?_) dstop
 refine dkw ⟨[(1, .ptr 64 0), (6, .bool (decide (a0.clock ≥ 0))), (9, .may ((decide (a0.clock ≥ 0)) == true) (.bool r1))], [(64, [iV a0.clock, iV a0.next, .lst 4 (a0.list_.map eDLease)])], []⟩ (fgk (by kernel_rfl)) ⟨[], trivial, trivial, ?_⟩
 refine dtake trivial (pick_ rfl rfl rfl (fun h => eqt h) trivial rfl ?_)
 refine ⟨trivial, ?_⟩
 refine dtake trivial (mv_ rfl trivial ?_)
 refine ⟨trivial, ?_⟩
 refine dtake trivial (pg_ (u := .ptr 64 2) rfl (fun hg => (cp_ ⟨trivial, trivial⟩ rfl trivial)) ?_)
 refine ⟨trivial, ?_⟩
 refine dtake trivial (pg_ (u := .lst 4 (a0.list_.map eDLease)) rfl (fun hg => (cp_ ⟨(fun _ => hg), trivial⟩ rfl (nl rfl))) ?_)
 refine ⟨trivial, ?_⟩
 refine dtake trivial (pg_ (u := iV (a0.list_.length : Int)) rfl (fun hg => (clenL (e := eDLease) (l0 := a0.list_) rfl rfl (fun _ => hg))) ?_)
 refine ⟨trivial, ?_⟩
 refine dtake trivial (pg_ (u := .bool (decide ((a0.list_.length : Int) ≤ 40))) rfl (fun hg => (cp_ ⟨(fun _ => hg), trivial, trivial⟩ rfl trivial)) ?_)
 refine ⟨trivial, ?_⟩
 refine dtake trivial (pick_ rfl rfl rfl (fun h => eqt h) trivial rfl ?_)
 refine ⟨trivial, ?_⟩
 refine dtake trivial (mv_ rfl trivial ?_)
 refine ⟨trivial, ?_⟩
 refine dtake trivial (pg_ (u := .agg (eDTable a0)) rfl (fun hg => (cp_ ⟨trivial, trivial⟩ rfl (nl rfl))) ?_)
 refine ⟨trivial, ?_⟩
 refine dtake trivial (pg_ (u := .ptr 64 1) rfl (fun hg => (cp_ ⟨trivial, trivial⟩ rfl trivial)) ?_)
 refine ⟨trivial, ?_⟩
 refine dtake trivial (pg_ (u := iV a0.next) rfl (fun hg => (cp_ ⟨(fun _ => hg), trivial⟩ rfl (nl rfl))) ?_)
 refine ⟨trivial, ?_⟩
 refine dtake trivial (pg_ (u := iV (IntKind.i64.wrap (a0.next - 1))) rfl (fun hg => (cp_ ⟨(fun _ => hg), trivial, trivial⟩ rfl trivial)) ?_)
 refine ⟨trivial, ?_⟩
 refine dalt (callg_ (r := .own 0 0 1 (r3.map eI)) rfl false (fun hg => H60 a0 r3 (ip hg e4)) ⟨(fun hg => hg), trivial⟩ (fun _ => rfl) (fun _ => rfl) (fun _ => (and_ (fl1 (fun _ => rfl)) rfl)) (fun h => nomatch h) ?_) dstop
 refine dkw ⟨[(1, .ptr 64 0), (17, .bool (bif (bif (decide (a0.clock ≥ 0)) then r1 else false) then (decide ((a0.list_.length : Int) ≤ 40)) else false)), (19, .may ((bif (bif (decide (a0.clock ≥ 0)) then r1 else false) then (decide ((a0.list_.length : Int) ≤ 40)) else false) == true) (.lst 1 (r3.map eI))), (20, .may ((bif (bif (decide (a0.clock ≥ 0)) then r1 else false) then (decide ((a0.list_.length : Int) ≤ 40)) else false) == true) (.ptr 64 1)), (21, .may ((bif (bif (decide (a0.clock ≥ 0)) then r1 else false) then (decide ((a0.list_.length : Int) ≤ 40)) else false) == true) (iV a0.next)), (22, .may ((bif (bif (decide (a0.clock ≥ 0)) then r1 else false) then (decide ((a0.list_.length : Int) ≤ 40)) else false) == true) (iV (IntKind.i64.wrap (a0.next - 1))))], [(64, [iV a0.clock, iV a0.next, .lst 4 (a0.list_.map eDLease)])], []⟩ (fgk (by kernel_rfl)) ⟨[], ⟨⟨.inl trivial, (againg (v := iV (IntKind.i64.wrap (a0.next - 1))) rfl (fun hg => (cp_ ⟨(fun _ => hg), trivial, trivial⟩ rfl trivial)) rfl)⟩, ⟨.inl trivial, (againg (v := iV a0.next) rfl (fun hg => (cp_ ⟨(fun _ => hg), trivial⟩ rfl (nl rfl))) rfl)⟩, ⟨.inl trivial, (againg (v := .ptr 64 1) rfl (fun hg => (cp_ ⟨trivial, trivial⟩ rfl trivial)) rfl)⟩, trivial⟩, trivial, ?_⟩
 refine dalt (callg_ (r := .bool r5) rfl false (fun hg => H59 r3 1 (IntKind.i64.wrap (a0.next - 1)) r5 (ip hg e6)) ⟨(fun hg => hg), trivial, (fun hg => hg), trivial⟩ (fun _ => rfl) (fun _ => rfl) (fun _ => rfl) (fun h => nomatch h) ?_) dstop
 refine dkw ⟨[(1, .ptr 64 0), (17, .bool (bif (bif (decide (a0.clock ≥ 0)) then r1 else false) then (decide ((a0.list_.length : Int) ≤ 40)) else false)), (23, .may ((bif (bif (decide (a0.clock ≥ 0)) then r1 else false) then (decide ((a0.list_.length : Int) ≤ 40)) else false) == true) (.bool r5))], [(64, [iV a0.clock, iV a0.next, .lst 4 (a0.list_.map eDLease)])], []⟩ (fgk (by kernel_rfl)) ⟨[], trivial, trivial, ?_⟩
 refine dtake trivial (pick_ rfl rfl rfl (fun h => eqt h) trivial rfl ?_)
 refine ⟨trivial, ?_⟩
 refine dtake trivial (mv_ rfl trivial ?_)
 refine ⟨trivial, ?_⟩
 refine dtake trivial (pg_ (u := .ptr 64 2) rfl (fun hg => (cp_ ⟨trivial, trivial⟩ rfl trivial)) ?_)
 refine ⟨trivial, ?_⟩
 refine dtake trivial (pg_ (u := .lst 4 (a0.list_.map eDLease)) rfl (fun hg => (cp_ ⟨(fun _ => hg), trivial⟩ rfl (nl rfl))) ?_)
 refine ⟨trivial, ?_⟩
 refine dtake trivial (pg_ (u := .clo 62 [.ptr 64 0]) rfl (fun hg => (cp_ ⟨trivial, trivial⟩ rfl rfl)) ?_)
 refine ⟨trivial, ?_⟩
 refine dalt (callg_ (r := .bool r7) rfl false (fun hg => H61 a0.list_ 62 [.iptr [iV a0.clock, iV a0.next, .lst 4 (a0.list_.map eDLease)]] (fun z62_0 => g62 z62_0 a0) (⟨fun _ _ _ _ _ => rfl, fun _ _ _ _ _ => rfl, rfl, fun _ _ _ n => by cases n <;> rfl, fun _ => rfl⟩) (fun z62_0 r h => H62 z62_0 a0 r h) r7 (ip hg e8)) ⟨(fun hg => hg), (fun hg => hg), trivial⟩ (fun _ => rfl) (fun _ => rfl) (fun _ => rfl) (fun h => nomatch h) ?_) dstop
 refine dkw ⟨[(25, .bool (bif (bif (bif (decide (a0.clock ≥ 0)) then r1 else false) then (decide ((a0.list_.length : Int) ≤ 40)) else false) then r5 else false)), (29, .may ((bif (bif (bif (decide (a0.clock ≥ 0)) then r1 else false) then (decide ((a0.list_.length : Int) ≤ 40)) else false) then r5 else false) == true) (.bool r7))], [], []⟩ (fgk (by kernel_rfl)) ⟨[], trivial, trivial, ?_⟩
 refine dtake trivial (pick_ rfl rfl rfl (fun h => eqt h) trivial rfl ?_)
 refine ⟨trivial, ?_⟩
 refine dtake trivial (mv_ rfl trivial ?_)
 refine ⟨trivial, ?_⟩
 refine dfin ?_
 obtain ⟨v9, e10, h0⟩ := bl h0
 refine wk_ ⟨[(2, .bool v9)], [], []⟩ (fgk (by subst e10; kernel_rfl)) ?_
 obtain rfl := Option.some.inj h0
 exact rt_ (ret_ rfl rfl rfl rfl rfl trivial)
end Go.Ev
