/- The walks of functions: the code comes to the answers that QgD tells. Written by a program of ours. -/
import Derived.Test.YtdkeomfbpdodiaaQgD
set_option linter.all false
set_option linter.unusedVariables false
set_option maxRecDepth 100000
namespace Go.Ev

/- loop.example/g00149/laws.szLeaseS -/
def c55_r0 : List Ins := [⟨some 4, .p (.mv (.c (.int .i64 0))), none⟩]
def c55_r1 : List Ins := [⟨some 5, .p (.mv (.t 1)), none⟩,
 ⟨some 6, .p (.mv (.t 0)), none⟩,
 ⟨some 7, .p (.len (.t 6)), none⟩,
 ⟨some 8, .p (.bin .sub (.t 5) (.t 7)), none⟩,
 ⟨some 1, .p (.mv (.t 8)), none⟩]
def c55_r2 : List Ins := [⟨some 9, .p (.mv (.t 1)), none⟩,
 ⟨some 10, .p (.bin .lss (.t 9) (.c (.int .i64 0))), none⟩]
def c55_r3 : List Ins := [⟨some 4, .p (.mv (.c (.int .i64 (-1)))), none⟩]
def c55_r4 : List Ins := [⟨some 11, .p (.mv (.t 1)), none⟩,
 ⟨some 4, .p (.mv (.t 11)), none⟩]
def c55 : XFn := { np := 2, nt := 12, res := [.t 4], body := (.seq (.reg c55_r0) (.seq (.reg c55_r1) (.seq (.seq (.reg c55_r2) (.ite (.t 10) (.seq (.reg c55_r3) .ret) .skip)) (.seq (.reg c55_r4) .ret)))) }
def K55 (C : CRel) : Prop := ∀ (a0 : List DLease) (a1 : Int) (r : Int), g55 a0 a1 = some r → C 55 ⟨[.lst 4 (a0.map eDLease), .int .i64 a1], []⟩ ⟨.int .i64 r, [], []⟩
theorem F55 {C : CRel}  (a0 : List DLease) (a1 : Int) (r : Int) (h0 : g55 a0 a1 = some r) : FnOK C c55 ⟨[.lst 4 (a0.map eDLease), .int .i64 a1], []⟩ ⟨.int .i64 r, [], []⟩ := by
  refine fn_ (Nat.le_of_ble_eq_true rfl) ?_
  refine seq_ ?_
  refine reg_ ?_
  refine st (mvc_ trivial ?_)
  refine oe_ ?_
  refine wk_ ⟨[(0, .lst 4 (a0.map eDLease)), (1, .int .i64 a1)], []⟩ (fg ⟨rfl, rfl, trivial⟩ trivial) ?_
  refine seq_ ?_
  refine reg_ ?_
  refine st (mv_ rfl trivial ?_)
  refine st (mv_ rfl trivial ?_)
  refine st (c_ (clenL (e := eDLease) (l0 := a0) rfl rfl trivial) ?_)
  refine st (c_ (cp_ ⟨trivial, trivial, trivial⟩ rfl trivial) ?_)
  refine st (mv_ rfl trivial ?_)
  refine oe_ ?_
  refine wk_ ⟨[(1, .int .i64 (IntKind.i64.wrap (a1 - (a0.length : Int))))], []⟩ (fg ⟨rfl, trivial⟩ trivial) ?_
  refine seq_ ?_
  refine seq_ ?_
  refine reg_ ?_
  refine st (mv_ rfl trivial ?_)
  refine st (c_ (cp_ ⟨trivial, trivial, trivial⟩ rfl trivial) ?_)
  refine oe_ ?_
  refine wk_ ⟨[(1, .int .i64 (IntKind.i64.wrap (a1 - (a0.length : Int)))), (10, .bool (decide ((IntKind.i64.wrap (a1 - (a0.length : Int))) < 0)))], []⟩ (fg ⟨rfl, rfl, trivial⟩ trivial) ?_
  refine ite_ (cb := (decide ((IntKind.i64.wrap (a1 - (a0.length : Int))) < 0))) rfl (fun c1 => ?_) (fun c1 => ?_)
  · replace h0 := ip c1 h0
    refine seq_ ?_
    refine reg_ ?_
    refine st (mvc_ trivial ?_)
    refine oe_ ?_
    refine wk_ ⟨[(4, .int .i64 (-1))], []⟩ (fg ⟨rfl, trivial⟩ trivial) ?_
    obtain rfl := Option.some.inj h0
    exact rt_ (ret_ rfl rfl rfl rfl rfl trivial)
  · replace h0 := inb c1 h0
    refine sk_ ?_
    refine wk_ ⟨[(1, .int .i64 (IntKind.i64.wrap (a1 - (a0.length : Int))))], []⟩ (fg ⟨rfl, trivial⟩ trivial) ?_
    refine seq_ ?_
    refine reg_ ?_
    refine st (mv_ rfl trivial ?_)
    refine st (mv_ rfl trivial ?_)
    refine oe_ ?_
    refine wk_ ⟨[(4, .int .i64 (IntKind.i64.wrap (a1 - (a0.length : Int))))], []⟩ (fg ⟨rfl, trivial⟩ trivial) ?_
    obtain rfl := Option.some.inj h0
    exact rt_ (ret_ rfl rfl rfl rfl rfl trivial)

/- loop.example/g00149/laws.szTable -/
def c17_r0 : List Ins := [⟨some 2, .box (.t 0), none⟩,
 ⟨some 4, .p (.mv (.c (.int .i64 0))), none⟩]
def c17_r1 : List Ins := [⟨some 5, .p (.fieldA (.t 2) 2), none⟩,
 ⟨some 6, .p (.load (.t 5) 1 false), none⟩,
 ⟨some 7, .p (.mv (.t 1)), none⟩,
 ⟨some 8, .call 55 [(.t 6), (.t 7)], none⟩,
 ⟨some 1, .p (.mv (.t 8)), none⟩]
def c17_r2 : List Ins := [⟨some 9, .p (.mv (.t 1)), none⟩,
 ⟨some 10, .p (.bin .lss (.t 9) (.c (.int .i64 0))), none⟩]
def c17_r3 : List Ins := [⟨some 4, .p (.mv (.c (.int .i64 (-1)))), none⟩]
def c17_r4 : List Ins := [⟨some 11, .p (.mv (.t 1)), none⟩,
 ⟨some 4, .p (.mv (.t 11)), none⟩]
def c17 : XFn := { np := 2, nt := 12, res := [.t 4], body := (.seq (.reg c17_r0) (.seq (.reg c17_r1) (.seq (.seq (.reg c17_r2) (.ite (.t 10) (.seq (.reg c17_r3) .ret) .skip)) (.seq (.reg c17_r4) .ret)))) }
def K17 (C : CRel) : Prop := ∀ (a0 : DTable) (a1 : Int) (r : Int), g17 a0 a1 = some r → C 17 ⟨[.agg [.int .i64 a0.clock, .int .i64 a0.next, .lst 4 (a0.list_.map eDLease)], .int .i64 a1], []⟩ ⟨.int .i64 r, [], []⟩
theorem F17 {C : CRel} (H55 : K55 C) (a0 : DTable) (a1 : Int) (r : Int) (h0 : g17 a0 a1 = some r) : FnOK C c17 ⟨[.agg [.int .i64 a0.clock, .int .i64 a0.next, .lst 4 (a0.list_.map eDLease)], .int .i64 a1], []⟩ ⟨.int .i64 r, [], []⟩ := by
  refine fn_ (Nat.le_of_ble_eq_true rfl) ?_
  refine seq_ ?_
  refine reg_ ?_
  refine st (box_ rfl trivial rfl ?_)
  refine st (mvc_ trivial ?_)
  refine oe_ ?_
  refine wk_ ⟨[(1, .int .i64 a1), (2, .ptr 128 0)], [(128, [.int .i64 a0.clock, .int .i64 a0.next, .lst 4 (a0.list_.map eDLease)])]⟩ (fg ⟨rfl, rfl, trivial⟩ ⟨rfl, trivial⟩) ?_
  refine seq_ ?_
  refine reg_ ?_
  refine st (c_ (cp_ ⟨trivial, trivial⟩ rfl trivial) ?_)
  refine st (c_ (cp_ ⟨trivial, trivial⟩ rfl (Nat.le_of_ble_eq_true rfl)) ?_)
  refine st (mv_ rfl trivial ?_)
  obtain ⟨r1, e2, h0⟩ := bnd h0
  refine st (call0_ (r := .int .i64 r1) false (H55 a0.list_ a1 r1 e2) ⟨trivial, trivial, trivial⟩ rfl rfl (fun _ => rfl) ?_)
  refine st (mv_ rfl trivial ?_)
  refine oe_ ?_
  refine wk_ ⟨[(1, .int .i64 r1)], []⟩ (fg ⟨rfl, trivial⟩ trivial) ?_
  refine seq_ ?_
  refine seq_ ?_
  refine reg_ ?_
  refine st (mv_ rfl trivial ?_)
  refine st (c_ (cp_ ⟨trivial, trivial, trivial⟩ rfl trivial) ?_)
  refine oe_ ?_
  refine wk_ ⟨[(1, .int .i64 r1), (10, .bool (decide (r1 < 0)))], []⟩ (fg ⟨rfl, rfl, trivial⟩ trivial) ?_
  refine ite_ (cb := (decide (r1 < 0))) rfl (fun c3 => ?_) (fun c3 => ?_)
  · replace h0 := ip c3 h0
    refine seq_ ?_
    refine reg_ ?_
    refine st (mvc_ trivial ?_)
    refine oe_ ?_
    refine wk_ ⟨[(4, .int .i64 (-1))], []⟩ (fg ⟨rfl, trivial⟩ trivial) ?_
    obtain rfl := Option.some.inj h0
    exact rt_ (ret_ rfl rfl rfl rfl rfl trivial)
  · replace h0 := inb c3 h0
    refine sk_ ?_
    refine wk_ ⟨[(1, .int .i64 r1)], []⟩ (fg ⟨rfl, trivial⟩ trivial) ?_
    refine seq_ ?_
    refine reg_ ?_
    refine st (mv_ rfl trivial ?_)
    refine st (mv_ rfl trivial ?_)
    refine oe_ ?_
    refine wk_ ⟨[(4, .int .i64 r1)], []⟩ (fg ⟨rfl, trivial⟩ trivial) ?_
    obtain rfl := Option.some.inj h0
    exact rt_ (ret_ rfl rfl rfl rfl rfl trivial)

/- loop.example/g00149/laws.toLease -/
def c104_r0 : List Ins := [⟨some 1, .box (.t 0), none⟩,
 ⟨some 2, .alloc [(.int .i64 0), (.int .i64 0), (.int .i64 0), (.bool false)], none⟩]
def c104_r1 : List Ins := [⟨some 3, .alloc [(.int .i64 0), (.int .i64 0), (.int .i64 0), (.bool false)], none⟩]
def c104_r2 : List Ins := [⟨some 4, .p (.fieldA (.t 1) 0), none⟩,
 ⟨some 5, .p (.load (.t 4) 1 false), none⟩,
 ⟨some 6, .p (.fieldA (.t 3) 0), none⟩,
 ⟨none, .store (.t 6) (.t 5) 1, none⟩]
def c104_r3 : List Ins := [⟨some 7, .p (.fieldA (.t 1) 1), none⟩,
 ⟨some 8, .p (.load (.t 7) 1 false), none⟩,
 ⟨some 9, .p (.fieldA (.t 3) 1), none⟩,
 ⟨none, .store (.t 9) (.t 8) 1, none⟩]
def c104_r4 : List Ins := [⟨some 10, .p (.fieldA (.t 1) 2), none⟩,
 ⟨some 11, .p (.load (.t 10) 1 false), none⟩,
 ⟨some 12, .p (.fieldA (.t 3) 2), none⟩,
 ⟨none, .store (.t 12) (.t 11) 1, none⟩]
def c104_r5 : List Ins := [⟨some 13, .p (.fieldA (.t 1) 3), none⟩,
 ⟨some 14, .p (.load (.t 13) 1 false), none⟩,
 ⟨some 15, .p (.fieldA (.t 3) 3), none⟩,
 ⟨none, .store (.t 15) (.t 14) 1, none⟩]
def c104_r6 : List Ins := [⟨some 16, .p (.load (.t 3) 4 true), none⟩,
 ⟨none, .store (.t 2) (.t 16) 4, none⟩]
def c104 : XFn := { np := 1, nt := 17, res := [.cell 2 4 true], body := (.seq (.reg c104_r0) (.seq (.reg c104_r1) (.seq (.reg c104_r2) (.seq (.reg c104_r3) (.seq (.reg c104_r4) (.seq (.reg c104_r5) (.seq (.reg c104_r6) .ret))))))) }
def K104 (C : CRel) : Prop := ∀ (a0 : DLease) (r : DLease), g104 a0 = some r → C 104 ⟨[.agg [.int .i64 a0.id, .int .i64 a0.until_, .int .i64 a0.cap, .bool a0.queued]], []⟩ ⟨.agg [.int .i64 r.id, .int .i64 r.until_, .int .i64 r.cap, .bool r.queued], [], []⟩
theorem F104 {C : CRel}  (a0 : DLease) (r : DLease) (h0 : g104 a0 = some r) : FnOK C c104 ⟨[.agg [.int .i64 a0.id, .int .i64 a0.until_, .int .i64 a0.cap, .bool a0.queued]], []⟩ ⟨.agg [.int .i64 r.id, .int .i64 r.until_, .int .i64 r.cap, .bool r.queued], [], []⟩ := by
  refine fn_ (Nat.le_of_ble_eq_true rfl) ?_
  refine seq_ ?_
  refine reg_ ?_
  refine st (box_ rfl trivial rfl ?_)
  refine st (alloc_ ?_)
  refine oe_ ?_
  refine wk_ ⟨[(1, .ptr 64 0), (2, .ptr 128 0)], [(64, [.int .i64 a0.id, .int .i64 a0.until_, .int .i64 a0.cap, .bool a0.queued]), (128, [.int .i64 0, .int .i64 0, .int .i64 0, .bool false])]⟩ (fg ⟨rfl, rfl, trivial⟩ ⟨rfl, rfl, trivial⟩) ?_
  refine seq_ ?_
  refine reg_ ?_
  refine st (alloc_ ?_)
  refine oe_ ?_
  refine wk_ ⟨[(1, .ptr 64 0), (2, .ptr 128 0), (3, .ptr 192 0)], [(64, [.int .i64 a0.id, .int .i64 a0.until_, .int .i64 a0.cap, .bool a0.queued]), (128, [.int .i64 0, .int .i64 0, .int .i64 0, .bool false]), (192, [.int .i64 0, .int .i64 0, .int .i64 0, .bool false])]⟩ (fg ⟨rfl, rfl, rfl, trivial⟩ ⟨rfl, rfl, rfl, trivial⟩) ?_
  refine seq_ ?_
  refine reg_ ?_
  refine st (c_ (cp_ ⟨trivial, trivial⟩ rfl trivial) ?_)
  refine st (c_ (cp_ ⟨trivial, trivial⟩ rfl (Nat.le_of_ble_eq_true rfl)) ?_)
  refine st (c_ (cp_ ⟨trivial, trivial⟩ rfl trivial) ?_)
  refine st (stp_ rfl rfl trivial rfl rfl rfl (Nat.le_of_ble_eq_true rfl) ?_)
  refine oe_ ?_
  refine wk_ ⟨[(1, .ptr 64 0), (2, .ptr 128 0), (3, .ptr 192 0)], [(64, [.int .i64 a0.id, .int .i64 a0.until_, .int .i64 a0.cap, .bool a0.queued]), (128, [.int .i64 0, .int .i64 0, .int .i64 0, .bool false]), (192, [.int .i64 a0.id, .int .i64 0, .int .i64 0, .bool false])]⟩ (fg ⟨rfl, rfl, rfl, trivial⟩ ⟨rfl, rfl, rfl, trivial⟩) ?_
  refine seq_ ?_
  refine reg_ ?_
  refine st (c_ (cp_ ⟨trivial, trivial⟩ rfl trivial) ?_)
  refine st (c_ (cp_ ⟨trivial, trivial⟩ rfl (Nat.le_of_ble_eq_true rfl)) ?_)
  refine st (c_ (cp_ ⟨trivial, trivial⟩ rfl trivial) ?_)
  refine st (stp_ rfl rfl trivial rfl rfl rfl (Nat.le_of_ble_eq_true rfl) ?_)
  refine oe_ ?_
  refine wk_ ⟨[(1, .ptr 64 0), (2, .ptr 128 0), (3, .ptr 192 0)], [(64, [.int .i64 a0.id, .int .i64 a0.until_, .int .i64 a0.cap, .bool a0.queued]), (128, [.int .i64 0, .int .i64 0, .int .i64 0, .bool false]), (192, [.int .i64 a0.id, .int .i64 a0.until_, .int .i64 0, .bool false])]⟩ (fg ⟨rfl, rfl, rfl, trivial⟩ ⟨rfl, rfl, rfl, trivial⟩) ?_
  refine seq_ ?_
  refine reg_ ?_
  refine st (c_ (cp_ ⟨trivial, trivial⟩ rfl trivial) ?_)
  refine st (c_ (cp_ ⟨trivial, trivial⟩ rfl (Nat.le_of_ble_eq_true rfl)) ?_)
  refine st (c_ (cp_ ⟨trivial, trivial⟩ rfl trivial) ?_)
  refine st (stp_ rfl rfl trivial rfl rfl rfl (Nat.le_of_ble_eq_true rfl) ?_)
  refine oe_ ?_
  refine wk_ ⟨[(1, .ptr 64 0), (2, .ptr 128 0), (3, .ptr 192 0)], [(64, [.int .i64 a0.id, .int .i64 a0.until_, .int .i64 a0.cap, .bool a0.queued]), (128, [.int .i64 0, .int .i64 0, .int .i64 0, .bool false]), (192, [.int .i64 a0.id, .int .i64 a0.until_, .int .i64 a0.cap, .bool false])]⟩ (fg ⟨rfl, rfl, rfl, trivial⟩ ⟨rfl, rfl, rfl, trivial⟩) ?_
  refine seq_ ?_
  refine reg_ ?_
  refine st (c_ (cp_ ⟨trivial, trivial⟩ rfl trivial) ?_)
  refine st (c_ (cp_ ⟨trivial, trivial⟩ rfl (Nat.le_of_ble_eq_true rfl)) ?_)
  refine st (c_ (cp_ ⟨trivial, trivial⟩ rfl trivial) ?_)
  refine st (stp_ rfl rfl trivial rfl rfl rfl (Nat.le_of_ble_eq_true rfl) ?_)
  refine oe_ ?_
  refine wk_ ⟨[(2, .ptr 128 0), (3, .ptr 192 0)], [(128, [.int .i64 0, .int .i64 0, .int .i64 0, .bool false]), (192, [.int .i64 a0.id, .int .i64 a0.until_, .int .i64 a0.cap, .bool a0.queued])]⟩ (fg ⟨rfl, rfl, trivial⟩ ⟨rfl, rfl, trivial⟩) ?_
  refine seq_ ?_
  refine reg_ ?_
  refine st (c_ (v := .agg [.int .i64 a0.id, .int .i64 a0.until_, .int .i64 a0.cap, .bool a0.queued]) (cp_ ⟨trivial, trivial⟩ rfl (Nat.le_of_ble_eq_true rfl)) ?_)
  refine st (stp_ rfl rfl trivial rfl rfl rfl (Nat.le_of_ble_eq_true rfl) ?_)
  refine oe_ ?_
  refine wk_ ⟨[(2, .ptr 128 0)], [(128, [.int .i64 a0.id, .int .i64 a0.until_, .int .i64 a0.cap, .bool a0.queued])]⟩ (fg ⟨rfl, trivial⟩ ⟨rfl, trivial⟩) ?_
  obtain rfl := Option.some.inj h0
  exact rt_ (ret_ rfl rfl rfl rfl rfl trivial)

/- loop.example/g00149/laws.toLeaseS -/
def c57_r0 : List Ins := [⟨some 2, .nilS 4, none⟩]
def c57_r1 : List Ins := [⟨some 5, .p (.mv (.t 0)), none⟩,
 ⟨some 6, .p (.len (.t 5)), none⟩,
 ⟨some 7, .make 4 32 [(.int .i64 0), (.int .i64 0), (.int .i64 0), (.bool false)] (.t 6) (.t 6), none⟩,
 ⟨some 3, .p (.mv (.t 7)), none⟩]
def c57_r2 : List Ins := [⟨some 4, .p (.mv (.c (.int .i64 0))), none⟩]
def c57_r3 : List Ins := [⟨some 8, .p (.mv (.t 4)), none⟩,
 ⟨some 9, .p (.mv (.t 0)), none⟩,
 ⟨some 10, .p (.len (.t 9)), none⟩,
 ⟨some 11, .p (.bin .lss (.t 8) (.t 10)), none⟩]
def c57_r4 : List Ins := [⟨some 14, .p (.mv (.t 3)), none⟩,
 ⟨some 15, .p (.mv (.t 4)), none⟩,
 ⟨some 16, .p (.mv (.t 0)), none⟩,
 ⟨some 17, .p (.mv (.t 4)), none⟩,
 ⟨some 18, .p (.idxA (.t 16) (.t 17) 4), none⟩,
 ⟨some 19, .p (.load (.t 18) 4 true), none⟩,
 ⟨some 20, .call 104 [(.t 19)], none⟩,
 ⟨some 21, .p (.idxA (.t 14) (.t 15) 4), none⟩,
 ⟨none, .store (.t 21) (.t 20) 4, none⟩]
def c57_r5 : List Ins := [⟨some 12, .p (.mv (.t 4)), none⟩,
 ⟨some 13, .p (.bin .add (.t 12) (.c (.int .i64 1))), none⟩,
 ⟨some 4, .p (.mv (.t 13)), none⟩]
def c57_l0 : IR := (.seq (.seq (.reg c57_r3) (.ite (.t 11) .skip (.exit 0))) (.seq (.block 1 (.reg c57_r4)) (.reg c57_r5)))
def c57_r6 : List Ins := [⟨some 22, .p (.mv (.t 3)), none⟩,
 ⟨some 2, .p (.mv (.t 22)), none⟩]
def c57 : XFn := { np := 1, nt := 23, res := [.t 2], body := (.seq (.reg c57_r0) (.seq (.reg c57_r1) (.seq (.seq (.reg c57_r2) (.block 0 (.loop c57_l0))) (.seq (.reg c57_r6) .ret)))) }
def K57 (C : CRel) : Prop := ∀ (a0 : List DLease) (r : (List DLease)), g57 a0 = some r → C 57 ⟨[.lst 4 (a0.map eDLease)], []⟩ ⟨.own 0 0 4 (r.map eDLease), [], []⟩
theorem F57 {C : CRel} (H104 : K104 C) (a0 : List DLease) (r : (List DLease)) (h0 : g57 a0 = some r) : FnOK C c57 ⟨[.lst 4 (a0.map eDLease)], []⟩ ⟨.own 0 0 4 (r.map eDLease), [], []⟩ := by
  refine fn_ (Nat.le_of_ble_eq_true rfl) ?_
  refine seq_ ?_
  refine reg_ ?_
  refine st (nilS_ ?_)
  refine oe_ ?_
  refine wk_ ⟨[(0, .lst 4 (a0.map eDLease))], []⟩ (fg ⟨rfl, trivial⟩ trivial) ?_
  refine seq_ ?_
  refine reg_ ?_
  refine st (mv_ rfl trivial ?_)
  refine st (c_ (clenL (e := eDLease) (l0 := a0) rfl rfl trivial) ?_)
  obtain ⟨c1, h0⟩ := grd h0
  obtain ⟨c2, h0⟩ := grd h0
  refine st (make_ (e := eDLease) (DLease.mk 0 0 0 false) rfl rfl c1 rfl c2 rfl ?_)
  refine st (mv_ rfl trivial ?_)
  refine oe_ ?_
  refine wk_ ⟨[(0, .lst 4 (a0.map eDLease)), (3, .own 448 0 4 ((List.replicate (a0.length : Int).toNat (DLease.mk 0 0 0 false)).map eDLease))], []⟩ (fg ⟨rfl, rfl, trivial⟩ trivial) ?_
  refine seq_ ?_
  refine seq_ ?_
  refine reg_ ?_
  refine st (mvc_ trivial ?_)
  refine oe_ ?_
  refine wk_ ⟨[(0, .lst 4 (a0.map eDLease)), (3, .own 448 0 4 ((List.replicate (a0.length : Int).toNat (DLease.mk 0 0 0 false)).map eDLease)), (4, .int .i64 0)], []⟩ (fg ⟨rfl, rfl, rfl, trivial⟩ trivial) ?_
  refine block_ ?_
  obtain ⟨r35, e36, h0⟩ := bnd h0
  refine loop_ (R := (fun S => ∃ p25 : List DLease, p25 = r35 ∧ S = ⟨[(3, .own 448 0 4 (p25.map eDLease))], []⟩)) (g57_l0 a0) (fun s S => match s with | (p12, p13) => S = ⟨[(0, .lst 4 (a0.map eDLease)), (3, .own 448 0 4 (p12.map eDLease)), (4, .int .i64 p13)], []⟩) e36 ⟨[(0, .lst 4 (a0.map eDLease)), (3, .own 448 0 4 ((List.replicate (a0.length : Int).toNat (DLease.mk 0 0 0 false)).map eDLease)), (4, .int .i64 0)], []⟩ (fg ⟨rfl, rfl, rfl, trivial⟩ trivial) rfl 0 (fun _ => rfl) ?_ ?_
  · rintro S _ hfg ⟨p25, rfl, rfl⟩
    refine wk_ ⟨[(3, .own 448 0 4 (p25.map eDLease))], []⟩ (fgl hfg ⟨rfl, trivial⟩ trivial) ?_
    refine seq_ ?_
    refine reg_ ?_
    refine st (mv_ rfl trivial ?_)
    refine st (mv_ rfl trivial ?_)
    refine oe_ ?_
    refine wk_ ⟨[(2, .own 448 0 4 (p25.map eDLease))], []⟩ (fg ⟨rfl, trivial⟩ trivial) ?_
    obtain rfl := Option.some.inj h0
    exact rt_ (ret_ rfl rfl rfl rfl rfl trivial)
  · rintro ⟨p12, p13⟩ o1 _ K1 rfl h1 hx1 hK1 hE1 hR1
    refine seq_ ?_
    refine seq_ ?_
    refine reg_ ?_
    refine st (mv_ rfl trivial ?_)
    refine st (mv_ rfl trivial ?_)
    refine st (c_ (clenL (e := eDLease) (l0 := a0) rfl rfl trivial) ?_)
    refine st (c_ (cp_ ⟨trivial, trivial, trivial⟩ rfl trivial) ?_)
    refine oe_ ?_
    refine wk_ ⟨[(0, .lst 4 (a0.map eDLease)), (3, .own 448 0 4 (p12.map eDLease)), (4, .int .i64 p13), (11, .bool (decide (p13 < (a0.length : Int))))], []⟩ (fg ⟨rfl, rfl, rfl, rfl, trivial⟩ trivial) ?_
    refine ite_ (cb := (decide (p13 < (a0.length : Int)))) rfl (fun c26 => ?_) (fun c26 => ?_)
    · replace h1 := ip c26 h1
      refine sk_ ?_
      refine wk_ ⟨[(0, .lst 4 (a0.map eDLease)), (3, .own 448 0 4 (p12.map eDLease)), (4, .int .i64 p13)], []⟩ (fg ⟨rfl, rfl, rfl, trivial⟩ trivial) ?_
      refine seq_ ?_
      refine block_ ?_
      refine reg_ ?_
      refine st (mv_ rfl trivial ?_)
      refine st (mv_ rfl trivial ?_)
      refine st (mv_ rfl trivial ?_)
      refine st (mv_ rfl trivial ?_)
      obtain ⟨y27, e28, h1⟩ := bnd h1
      refine st (c_ (cidxL (e := eDLease) (y := y27) rfl rfl trivial rfl rfl trivial e28) ?_)
      refine st (c_ (v := .agg [.int .i64 y27.id, .int .i64 y27.until_, .int .i64 y27.cap, .bool y27.queued]) (cp_ ⟨trivial, trivial⟩ rfl (Nat.le_of_ble_eq_true rfl)) ?_)
      obtain ⟨r29, e30, h1⟩ := bnd h1
      refine st (call0_ (r := .agg [.int .i64 r29.id, .int .i64 r29.until_, .int .i64 r29.cap, .bool r29.queued]) false (H104 y27 r29 e30) ⟨trivial, trivial⟩ rfl rfl (fun _ => rfl) ?_)
      obtain ⟨y31, e32, h1⟩ := bnd h1
      refine st (c_ (cidxO (e := eDLease) (y := y31) rfl rfl trivial rfl rfl trivial e32) ?_)
      obtain ⟨y33, e34, h1⟩ := bnd h1
      refine st (sto_ (y' := r29) rfl rfl trivial rfl rfl rfl rfl e34 (Nat.le_of_ble_eq_true rfl) rfl rfl rfl rfl ?_)
      refine oe_ ?_
      refine bn_ ?_
      refine wk_ ⟨[(0, .lst 4 (a0.map eDLease)), (3, .own 448 0 4 ((p12.set p13.toNat r29).map eDLease)), (4, .int .i64 p13)], []⟩ (fg ⟨rfl, (congrArg (fun z => some ((.own 448 0 4 z : V))) overlay_map), rfl, trivial⟩ trivial) ?_
      refine reg_ ?_
      refine st (mv_ rfl trivial ?_)
      refine st (c_ (cp_ ⟨trivial, trivial, trivial⟩ rfl trivial) ?_)
      refine st (mv_ rfl trivial ?_)
      refine oe_ ?_
      obtain rfl := Option.some.inj h1
      exact hK1 _ rfl _ ⟨[(0, .lst 4 (a0.map eDLease)), (3, .own 448 0 4 ((p12.set p13.toNat r29).map eDLease)), (4, .int .i64 (IntKind.i64.wrap (p13 + 1)))], []⟩ (fg ⟨rfl, rfl, rfl, trivial⟩ trivial) rfl
    · replace h1 := inb c26 h1
      obtain rfl := Option.some.inj h1
      obtain rfl := hx1 _ rfl
      refine exQ rfl ?_
      exact hE1 _ ⟨[(3, .own 448 0 4 (p12.map eDLease))], []⟩ (fg ⟨rfl, trivial⟩ trivial) ⟨_, rfl, rfl⟩

/- loop.example/g00149/laws.toTable -/
def c19_r0 : List Ins := [⟨some 1, .box (.t 0), none⟩,
 ⟨some 2, .alloc [(.int .i64 0), (.int .i64 0), (.own 131 0 4 [])], none⟩]
def c19_r1 : List Ins := [⟨some 3, .alloc [(.int .i64 0), (.int .i64 0), (.own 195 0 4 [])], none⟩]
def c19_r2 : List Ins := [⟨some 4, .p (.fieldA (.t 1) 0), none⟩,
 ⟨some 5, .p (.load (.t 4) 1 false), none⟩,
 ⟨some 6, .p (.fieldA (.t 3) 0), none⟩,
 ⟨none, .store (.t 6) (.t 5) 1, none⟩]
def c19_r3 : List Ins := [⟨some 7, .p (.fieldA (.t 1) 1), none⟩,
 ⟨some 8, .p (.load (.t 7) 1 false), none⟩,
 ⟨some 9, .p (.fieldA (.t 3) 1), none⟩,
 ⟨none, .store (.t 9) (.t 8) 1, none⟩]
def c19_r4 : List Ins := [⟨some 10, .p (.fieldA (.t 1) 2), none⟩,
 ⟨some 11, .p (.load (.t 10) 1 false), none⟩,
 ⟨some 12, .call 57 [(.t 11)], none⟩,
 ⟨some 13, .p (.fieldA (.t 3) 2), none⟩,
 ⟨none, .store (.t 13) (.t 12) 1, none⟩]
def c19_r5 : List Ins := [⟨some 14, .p (.load (.t 3) 3 true), none⟩,
 ⟨none, .store (.t 2) (.t 14) 3, none⟩]
def c19 : XFn := { np := 1, nt := 15, res := [.cell 2 3 true], body := (.seq (.reg c19_r0) (.seq (.reg c19_r1) (.seq (.reg c19_r2) (.seq (.reg c19_r3) (.seq (.reg c19_r4) (.seq (.reg c19_r5) .ret)))))) }
def K19 (C : CRel) : Prop := ∀ (a0 : DTable) (r : DTable), g19 a0 = some r → C 19 ⟨[.agg [.int .i64 a0.clock, .int .i64 a0.next, .lst 4 (a0.list_.map eDLease)]], []⟩ ⟨.agg [.int .i64 r.clock, .int .i64 r.next, .own 0 0 4 (r.list_.map eDLease)], [], []⟩
theorem F19 {C : CRel} (H57 : K57 C) (a0 : DTable) (r : DTable) (h0 : g19 a0 = some r) : FnOK C c19 ⟨[.agg [.int .i64 a0.clock, .int .i64 a0.next, .lst 4 (a0.list_.map eDLease)]], []⟩ ⟨.agg [.int .i64 r.clock, .int .i64 r.next, .own 0 0 4 (r.list_.map eDLease)], [], []⟩ := by
  refine fn_ (Nat.le_of_ble_eq_true rfl) ?_
  refine seq_ ?_
  refine reg_ ?_
  refine st (box_ rfl trivial rfl ?_)
  refine st (alloc_ ?_)
  refine oe_ ?_
  refine wk_ ⟨[(1, .ptr 64 0), (2, .ptr 128 0)], [(64, [.int .i64 a0.clock, .int .i64 a0.next, .lst 4 (a0.list_.map eDLease)]), (128, [.int .i64 0, .int .i64 0, .own 131 0 4 (([] : List DLease).map eDLease)])]⟩ (fg ⟨rfl, rfl, trivial⟩ ⟨rfl, rfl, trivial⟩) ?_
  refine seq_ ?_
  refine reg_ ?_
  refine st (alloc_ ?_)
  refine oe_ ?_
  refine wk_ ⟨[(1, .ptr 64 0), (2, .ptr 128 0), (3, .ptr 192 0)], [(64, [.int .i64 a0.clock, .int .i64 a0.next, .lst 4 (a0.list_.map eDLease)]), (128, [.int .i64 0, .int .i64 0, .own 131 0 4 (([] : List DLease).map eDLease)]), (192, [.int .i64 0, .int .i64 0, .own 195 0 4 (([] : List DLease).map eDLease)])]⟩ (fg ⟨rfl, rfl, rfl, trivial⟩ ⟨rfl, rfl, rfl, trivial⟩) ?_
  refine seq_ ?_
  refine reg_ ?_
  refine st (c_ (cp_ ⟨trivial, trivial⟩ rfl trivial) ?_)
  refine st (c_ (cp_ ⟨trivial, trivial⟩ rfl (Nat.le_of_ble_eq_true rfl)) ?_)
  refine st (c_ (cp_ ⟨trivial, trivial⟩ rfl trivial) ?_)
  refine st (stp_ rfl rfl trivial rfl rfl rfl (Nat.le_of_ble_eq_true rfl) ?_)
  refine oe_ ?_
  refine wk_ ⟨[(1, .ptr 64 0), (2, .ptr 128 0), (3, .ptr 192 0)], [(64, [.int .i64 a0.clock, .int .i64 a0.next, .lst 4 (a0.list_.map eDLease)]), (128, [.int .i64 0, .int .i64 0, .own 131 0 4 (([] : List DLease).map eDLease)]), (192, [.int .i64 a0.clock, .int .i64 0, .own 195 0 4 (([] : List DLease).map eDLease)])]⟩ (fg ⟨rfl, rfl, rfl, trivial⟩ ⟨rfl, rfl, rfl, trivial⟩) ?_
  refine seq_ ?_
  refine reg_ ?_
  refine st (c_ (cp_ ⟨trivial, trivial⟩ rfl trivial) ?_)
  refine st (c_ (cp_ ⟨trivial, trivial⟩ rfl (Nat.le_of_ble_eq_true rfl)) ?_)
  refine st (c_ (cp_ ⟨trivial, trivial⟩ rfl trivial) ?_)
  refine st (stp_ rfl rfl trivial rfl rfl rfl (Nat.le_of_ble_eq_true rfl) ?_)
  refine oe_ ?_
  refine wk_ ⟨[(1, .ptr 64 0), (2, .ptr 128 0), (3, .ptr 192 0)], [(64, [.int .i64 a0.clock, .int .i64 a0.next, .lst 4 (a0.list_.map eDLease)]), (128, [.int .i64 0, .int .i64 0, .own 131 0 4 (([] : List DLease).map eDLease)]), (192, [.int .i64 a0.clock, .int .i64 a0.next, .own 195 0 4 (([] : List DLease).map eDLease)])]⟩ (fg ⟨rfl, rfl, rfl, trivial⟩ ⟨rfl, rfl, rfl, trivial⟩) ?_
  refine seq_ ?_
  refine reg_ ?_
  refine st (c_ (cp_ ⟨trivial, trivial⟩ rfl trivial) ?_)
  refine st (c_ (cp_ ⟨trivial, trivial⟩ rfl (Nat.le_of_ble_eq_true rfl)) ?_)
  obtain ⟨r1, e2, h0⟩ := bnd h0
  refine st (call0_ (r := .own 0 0 4 (r1.map eDLease)) false (H57 a0.list_ r1 e2) ⟨trivial, trivial⟩ rfl rfl (fun _ => (and_ (fl1 (fun _ => rfl)) rfl)) ?_)
  refine st (c_ (cp_ ⟨trivial, trivial⟩ rfl trivial) ?_)
  refine st (stp_ rfl rfl trivial rfl rfl rfl (Nat.le_of_ble_eq_true rfl) ?_)
  refine oe_ ?_
  refine wk_ ⟨[(2, .ptr 128 0), (3, .ptr 192 0)], [(128, [.int .i64 0, .int .i64 0, .own 131 0 4 (([] : List DLease).map eDLease)]), (192, [.int .i64 a0.clock, .int .i64 a0.next, .own 768 0 4 (r1.map eDLease)])]⟩ (fg ⟨rfl, rfl, trivial⟩ ⟨rfl, rfl, trivial⟩) ?_
  refine seq_ ?_
  refine reg_ ?_
  refine st (c_ (v := .agg [.int .i64 a0.clock, .int .i64 a0.next, .own 768 0 4 (r1.map eDLease)]) (cp_ ⟨trivial, trivial⟩ rfl (Nat.le_of_ble_eq_true rfl)) ?_)
  refine st (stp_ rfl rfl trivial rfl rfl rfl (Nat.le_of_ble_eq_true rfl) ?_)
  refine oe_ ?_
  refine wk_ ⟨[(2, .ptr 128 0)], [(128, [.int .i64 a0.clock, .int .i64 a0.next, .own 768 0 4 (r1.map eDLease)])]⟩ (fg ⟨rfl, trivial⟩ ⟨rfl, trivial⟩) ?_
  obtain rfl := Option.some.inj h0
  exact rt_ (ret_ rfl rfl rfl rfl rfl trivial)

/- loop.example/g00149/laws.eqLease -/
def c107_r0 : List Ins := [⟨some 2, .box (.t 0), none⟩,
 ⟨some 3, .box (.t 1), none⟩,
 ⟨some 4, .p (.mv (.c (.bool false))), none⟩]
def c107_r1 : List Ins := [⟨some 5, .p (.fieldA (.t 2) 0), none⟩,
 ⟨some 6, .p (.load (.t 5) 1 false), none⟩,
 ⟨some 7, .p (.fieldA (.t 3) 0), none⟩,
 ⟨some 8, .p (.load (.t 7) 1 false), none⟩,
 ⟨some 9, .p (.bin .neq (.t 6) (.t 8)), none⟩]
def c107_r2 : List Ins := [⟨some 4, .p (.mv (.c (.bool false))), none⟩]
def c107_r3 : List Ins := [⟨some 10, .p (.fieldA (.t 2) 1), none⟩,
 ⟨some 11, .p (.load (.t 10) 1 false), none⟩,
 ⟨some 12, .p (.fieldA (.t 3) 1), none⟩,
 ⟨some 13, .p (.load (.t 12) 1 false), none⟩,
 ⟨some 14, .p (.bin .neq (.t 11) (.t 13)), none⟩]
def c107_r4 : List Ins := [⟨some 4, .p (.mv (.c (.bool false))), none⟩]
def c107_r5 : List Ins := [⟨some 15, .p (.fieldA (.t 2) 2), none⟩,
 ⟨some 16, .p (.load (.t 15) 1 false), none⟩,
 ⟨some 17, .p (.fieldA (.t 3) 2), none⟩,
 ⟨some 18, .p (.load (.t 17) 1 false), none⟩,
 ⟨some 19, .p (.bin .neq (.t 16) (.t 18)), none⟩]
def c107_r6 : List Ins := [⟨some 4, .p (.mv (.c (.bool false))), none⟩]
def c107_r7 : List Ins := [⟨some 20, .p (.fieldA (.t 2) 3), none⟩,
 ⟨some 21, .p (.load (.t 20) 1 false), none⟩,
 ⟨some 22, .p (.fieldA (.t 3) 3), none⟩,
 ⟨some 23, .p (.load (.t 22) 1 false), none⟩,
 ⟨some 24, .p (.binB .neq (.t 21) (.t 23)), none⟩]
def c107_r8 : List Ins := [⟨some 4, .p (.mv (.c (.bool false))), none⟩]
def c107_r9 : List Ins := [⟨some 4, .p (.mv (.c (.bool true))), none⟩]
def c107 : XFn := { np := 2, nt := 25, res := [.t 4], body := (.seq (.reg c107_r0) (.seq (.seq (.reg c107_r1) (.ite (.t 9) (.seq (.reg c107_r2) .ret) .skip)) (.seq (.seq (.reg c107_r3) (.ite (.t 14) (.seq (.reg c107_r4) .ret) .skip)) (.seq (.seq (.reg c107_r5) (.ite (.t 19) (.seq (.reg c107_r6) .ret) .skip)) (.seq (.seq (.reg c107_r7) (.ite (.t 24) (.seq (.reg c107_r8) .ret) .skip)) (.seq (.reg c107_r9) .ret)))))) }
def K107 (C : CRel) : Prop := ∀ (a0 : DLease) (a1 : DLease) (r : Bool), g107 a0 a1 = some r → C 107 ⟨[.agg [.int .i64 a0.id, .int .i64 a0.until_, .int .i64 a0.cap, .bool a0.queued], .agg [.int .i64 a1.id, .int .i64 a1.until_, .int .i64 a1.cap, .bool a1.queued]], []⟩ ⟨.bool r, [], []⟩
theorem F107 {C : CRel}  (a0 : DLease) (a1 : DLease) (r : Bool) (h0 : g107 a0 a1 = some r) : FnOK C c107 ⟨[.agg [.int .i64 a0.id, .int .i64 a0.until_, .int .i64 a0.cap, .bool a0.queued], .agg [.int .i64 a1.id, .int .i64 a1.until_, .int .i64 a1.cap, .bool a1.queued]], []⟩ ⟨.bool r, [], []⟩ := by
  refine fn_ (Nat.le_of_ble_eq_true rfl) ?_
  refine seq_ ?_
  refine reg_ ?_
  refine st (box_ rfl trivial rfl ?_)
  refine st (box_ rfl trivial rfl ?_)
  refine st (mvc_ trivial ?_)
  refine oe_ ?_
  refine wk_ ⟨[(2, .ptr 128 0), (3, .ptr 192 0)], [(128, [.int .i64 a0.id, .int .i64 a0.until_, .int .i64 a0.cap, .bool a0.queued]), (192, [.int .i64 a1.id, .int .i64 a1.until_, .int .i64 a1.cap, .bool a1.queued])]⟩ (fg ⟨rfl, rfl, trivial⟩ ⟨rfl, rfl, trivial⟩) ?_
  refine seq_ ?_
  refine seq_ ?_
  refine reg_ ?_
  refine st (c_ (cp_ ⟨trivial, trivial⟩ rfl trivial) ?_)
  refine st (c_ (cp_ ⟨trivial, trivial⟩ rfl (Nat.le_of_ble_eq_true rfl)) ?_)
  refine st (c_ (cp_ ⟨trivial, trivial⟩ rfl trivial) ?_)
  refine st (c_ (cp_ ⟨trivial, trivial⟩ rfl (Nat.le_of_ble_eq_true rfl)) ?_)
  refine st (c_ (cp_ ⟨trivial, trivial, trivial⟩ rfl trivial) ?_)
  refine oe_ ?_
  refine wk_ ⟨[(2, .ptr 128 0), (3, .ptr 192 0), (9, .bool (a0.id != a1.id))], [(128, [.int .i64 a0.id, .int .i64 a0.until_, .int .i64 a0.cap, .bool a0.queued]), (192, [.int .i64 a1.id, .int .i64 a1.until_, .int .i64 a1.cap, .bool a1.queued])]⟩ (fg ⟨rfl, rfl, rfl, trivial⟩ ⟨rfl, rfl, trivial⟩) ?_
  refine ite_ (cb := (a0.id != a1.id)) rfl (fun c1 => ?_) (fun c1 => ?_)
  · replace h0 := ip c1 h0
    refine seq_ ?_
    refine reg_ ?_
    refine st (mvc_ trivial ?_)
    refine oe_ ?_
    refine wk_ ⟨[(4, .bool false)], []⟩ (fg ⟨rfl, trivial⟩ trivial) ?_
    obtain rfl := Option.some.inj h0
    exact rt_ (ret_ rfl rfl rfl rfl rfl trivial)
  · replace h0 := inb c1 h0
    refine sk_ ?_
    refine wk_ ⟨[(2, .ptr 128 0), (3, .ptr 192 0)], [(128, [.int .i64 a0.id, .int .i64 a0.until_, .int .i64 a0.cap, .bool a0.queued]), (192, [.int .i64 a1.id, .int .i64 a1.until_, .int .i64 a1.cap, .bool a1.queued])]⟩ (fg ⟨rfl, rfl, trivial⟩ ⟨rfl, rfl, trivial⟩) ?_
    refine seq_ ?_
    refine seq_ ?_
    refine reg_ ?_
    refine st (c_ (cp_ ⟨trivial, trivial⟩ rfl trivial) ?_)
    refine st (c_ (cp_ ⟨trivial, trivial⟩ rfl (Nat.le_of_ble_eq_true rfl)) ?_)
    refine st (c_ (cp_ ⟨trivial, trivial⟩ rfl trivial) ?_)
    refine st (c_ (cp_ ⟨trivial, trivial⟩ rfl (Nat.le_of_ble_eq_true rfl)) ?_)
    refine st (c_ (cp_ ⟨trivial, trivial, trivial⟩ rfl trivial) ?_)
    refine oe_ ?_
    refine wk_ ⟨[(2, .ptr 128 0), (3, .ptr 192 0), (14, .bool (a0.until_ != a1.until_))], [(128, [.int .i64 a0.id, .int .i64 a0.until_, .int .i64 a0.cap, .bool a0.queued]), (192, [.int .i64 a1.id, .int .i64 a1.until_, .int .i64 a1.cap, .bool a1.queued])]⟩ (fg ⟨rfl, rfl, rfl, trivial⟩ ⟨rfl, rfl, trivial⟩) ?_
    refine ite_ (cb := (a0.until_ != a1.until_)) rfl (fun c2 => ?_) (fun c2 => ?_)
    · replace h0 := ip c2 h0
      refine seq_ ?_
      refine reg_ ?_
      refine st (mvc_ trivial ?_)
      refine oe_ ?_
      refine wk_ ⟨[(4, .bool false)], []⟩ (fg ⟨rfl, trivial⟩ trivial) ?_
      obtain rfl := Option.some.inj h0
      exact rt_ (ret_ rfl rfl rfl rfl rfl trivial)
    · replace h0 := inb c2 h0
      refine sk_ ?_
      refine wk_ ⟨[(2, .ptr 128 0), (3, .ptr 192 0)], [(128, [.int .i64 a0.id, .int .i64 a0.until_, .int .i64 a0.cap, .bool a0.queued]), (192, [.int .i64 a1.id, .int .i64 a1.until_, .int .i64 a1.cap, .bool a1.queued])]⟩ (fg ⟨rfl, rfl, trivial⟩ ⟨rfl, rfl, trivial⟩) ?_
      refine seq_ ?_
      refine seq_ ?_
      refine reg_ ?_
      refine st (c_ (cp_ ⟨trivial, trivial⟩ rfl trivial) ?_)
      refine st (c_ (cp_ ⟨trivial, trivial⟩ rfl (Nat.le_of_ble_eq_true rfl)) ?_)
      refine st (c_ (cp_ ⟨trivial, trivial⟩ rfl trivial) ?_)
      refine st (c_ (cp_ ⟨trivial, trivial⟩ rfl (Nat.le_of_ble_eq_true rfl)) ?_)
      refine st (c_ (cp_ ⟨trivial, trivial, trivial⟩ rfl trivial) ?_)
      refine oe_ ?_
      refine wk_ ⟨[(2, .ptr 128 0), (3, .ptr 192 0), (19, .bool (a0.cap != a1.cap))], [(128, [.int .i64 a0.id, .int .i64 a0.until_, .int .i64 a0.cap, .bool a0.queued]), (192, [.int .i64 a1.id, .int .i64 a1.until_, .int .i64 a1.cap, .bool a1.queued])]⟩ (fg ⟨rfl, rfl, rfl, trivial⟩ ⟨rfl, rfl, trivial⟩) ?_
      refine ite_ (cb := (a0.cap != a1.cap)) rfl (fun c3 => ?_) (fun c3 => ?_)
      · replace h0 := ip c3 h0
        refine seq_ ?_
        refine reg_ ?_
        refine st (mvc_ trivial ?_)
        refine oe_ ?_
        refine wk_ ⟨[(4, .bool false)], []⟩ (fg ⟨rfl, trivial⟩ trivial) ?_
        obtain rfl := Option.some.inj h0
        exact rt_ (ret_ rfl rfl rfl rfl rfl trivial)
      · replace h0 := inb c3 h0
        refine sk_ ?_
        refine wk_ ⟨[(2, .ptr 128 0), (3, .ptr 192 0)], [(128, [.int .i64 a0.id, .int .i64 a0.until_, .int .i64 a0.cap, .bool a0.queued]), (192, [.int .i64 a1.id, .int .i64 a1.until_, .int .i64 a1.cap, .bool a1.queued])]⟩ (fg ⟨rfl, rfl, trivial⟩ ⟨rfl, rfl, trivial⟩) ?_
        refine seq_ ?_
        refine seq_ ?_
        refine reg_ ?_
        refine st (c_ (cp_ ⟨trivial, trivial⟩ rfl trivial) ?_)
        refine st (c_ (cp_ ⟨trivial, trivial⟩ rfl (Nat.le_of_ble_eq_true rfl)) ?_)
        refine st (c_ (cp_ ⟨trivial, trivial⟩ rfl trivial) ?_)
        refine st (c_ (cp_ ⟨trivial, trivial⟩ rfl (Nat.le_of_ble_eq_true rfl)) ?_)
        refine st (c_ (cp_ ⟨trivial, trivial, trivial⟩ rfl trivial) ?_)
        refine oe_ ?_
        refine wk_ ⟨[(24, .bool (!(a0.queued == a1.queued)))], []⟩ (fg ⟨rfl, trivial⟩ trivial) ?_
        refine ite_ (cb := (!(a0.queued == a1.queued))) rfl (fun c4 => ?_) (fun c4 => ?_)
        · replace h0 := ip c4 h0
          refine seq_ ?_
          refine reg_ ?_
          refine st (mvc_ trivial ?_)
          refine oe_ ?_
          refine wk_ ⟨[(4, .bool false)], []⟩ (fg ⟨rfl, trivial⟩ trivial) ?_
          obtain rfl := Option.some.inj h0
          exact rt_ (ret_ rfl rfl rfl rfl rfl trivial)
        · replace h0 := inb c4 h0
          refine sk_ ?_
          refine wk_ ⟨[], []⟩ (fg trivial trivial) ?_
          refine seq_ ?_
          refine reg_ ?_
          refine st (mvc_ trivial ?_)
          refine oe_ ?_
          refine wk_ ⟨[(4, .bool true)], []⟩ (fg ⟨rfl, trivial⟩ trivial) ?_
          obtain rfl := Option.some.inj h0
          exact rt_ (ret_ rfl rfl rfl rfl rfl trivial)

/- loop.example/g00149/laws.eqLeaseS -/
def c64_r0 : List Ins := [⟨some 4, .p (.mv (.c (.bool false))), none⟩]
def c64_r1 : List Ins := [⟨some 6, .p (.mv (.t 0)), none⟩,
 ⟨some 7, .p (.len (.t 6)), none⟩,
 ⟨some 8, .p (.mv (.t 1)), none⟩,
 ⟨some 9, .p (.len (.t 8)), none⟩,
 ⟨some 10, .p (.bin .neq (.t 7) (.t 9)), none⟩]
def c64_r2 : List Ins := [⟨some 4, .p (.mv (.c (.bool false))), none⟩]
def c64_r3 : List Ins := [⟨some 5, .p (.mv (.c (.int .i64 0))), none⟩]
def c64_r4 : List Ins := [⟨some 11, .p (.mv (.t 5)), none⟩,
 ⟨some 12, .p (.mv (.t 0)), none⟩,
 ⟨some 13, .p (.len (.t 12)), none⟩,
 ⟨some 14, .p (.bin .lss (.t 11) (.t 13)), none⟩]
def c64_r5 : DP := (.take ⟨some 17, .p (.mv (.t 0)), none⟩
 (.take ⟨some 18, .p (.mv (.t 5)), none⟩
 (.take ⟨some 19, .p (.idxA (.t 17) (.t 18) 4), none⟩
 (.take ⟨some 20, .p (.load (.t 19) 4 true), none⟩
 (.take ⟨some 21, .p (.mv (.t 1)), none⟩
 (.take ⟨some 22, .p (.mv (.t 5)), none⟩
 (.take ⟨some 23, .p (.idxA (.t 21) (.t 22) 4), none⟩
 (.take ⟨some 24, .p (.load (.t 23) 4 true), none⟩
 (.alt [] ⟨some 25, .call 107 [(.t 20), (.t 24)], none⟩
 (.take ⟨some 26, .p (.un .not (.t 25)), none⟩
 .fin)
 .stop)))))))))
def c64_r6 : List Ins := [⟨some 4, .p (.mv (.c (.bool false))), none⟩]
def c64_r7 : List Ins := [⟨some 15, .p (.mv (.t 5)), none⟩,
 ⟨some 16, .p (.bin .add (.t 15) (.c (.int .i64 1))), none⟩,
 ⟨some 5, .p (.mv (.t 16)), none⟩]
def c64_l0 : IR := (.seq (.seq (.reg c64_r4) (.ite (.t 14) .skip (.exit 0))) (.seq (.block 1 (.seq (.draw c64_r5) (.ite (.t 26) (.seq (.reg c64_r6) .ret) .skip))) (.reg c64_r7)))
def c64_r8 : List Ins := [⟨some 4, .p (.mv (.c (.bool true))), none⟩]
def c64 : XFn := { np := 2, nt := 27, res := [.t 4], body := (.seq (.reg c64_r0) (.seq (.seq (.reg c64_r1) (.ite (.t 10) (.seq (.reg c64_r2) .ret) .skip)) (.seq (.seq (.reg c64_r3) (.block 0 (.loop c64_l0))) (.seq (.reg c64_r8) .ret)))) }
def K64 (C : CRel) : Prop := ∀ (a0 : List DLease) (a1 : List DLease) (r : Bool), g64 a0 a1 = some r → C 64 ⟨[.lst 4 (a0.map eDLease), .lst 4 (a1.map eDLease)], []⟩ ⟨.bool r, [], []⟩
theorem F64 {C : CRel} (H107 : K107 C) (a0 : List DLease) (a1 : List DLease) (r : Bool) (h0 : g64 a0 a1 = some r) : FnOK C c64 ⟨[.lst 4 (a0.map eDLease), .lst 4 (a1.map eDLease)], []⟩ ⟨.bool r, [], []⟩ := by
  refine fn_ (Nat.le_of_ble_eq_true rfl) ?_
  refine seq_ ?_
  refine reg_ ?_
  refine st (mvc_ trivial ?_)
  refine oe_ ?_
  refine wk_ ⟨[(0, .lst 4 (a0.map eDLease)), (1, .lst 4 (a1.map eDLease))], []⟩ (fg ⟨rfl, rfl, trivial⟩ trivial) ?_
  refine seq_ ?_
  refine seq_ ?_
  refine reg_ ?_
  refine st (mv_ rfl trivial ?_)
  refine st (c_ (clenL (e := eDLease) (l0 := a0) rfl rfl trivial) ?_)
  refine st (mv_ rfl trivial ?_)
  refine st (c_ (clenL (e := eDLease) (l0 := a1) rfl rfl trivial) ?_)
  refine st (c_ (cp_ ⟨trivial, trivial, trivial⟩ rfl trivial) ?_)
  refine oe_ ?_
  refine wk_ ⟨[(0, .lst 4 (a0.map eDLease)), (1, .lst 4 (a1.map eDLease)), (10, .bool ((a0.length : Int) != (a1.length : Int)))], []⟩ (fg ⟨rfl, rfl, rfl, trivial⟩ trivial) ?_
  refine ite_ (cb := ((a0.length : Int) != (a1.length : Int))) rfl (fun c1 => ?_) (fun c1 => ?_)
  · replace h0 := ip c1 h0
    refine seq_ ?_
    refine reg_ ?_
    refine st (mvc_ trivial ?_)
    refine oe_ ?_
    refine wk_ ⟨[(4, .bool false)], []⟩ (fg ⟨rfl, trivial⟩ trivial) ?_
    obtain rfl := Option.some.inj h0
    exact rt_ (ret_ rfl rfl rfl rfl rfl trivial)
  · replace h0 := inb c1 h0
    refine sk_ ?_
    refine wk_ ⟨[(0, .lst 4 (a0.map eDLease)), (1, .lst 4 (a1.map eDLease))], []⟩ (fg ⟨rfl, rfl, trivial⟩ trivial) ?_
    refine seq_ ?_
    refine seq_ ?_
    refine reg_ ?_
    refine st (mvc_ trivial ?_)
    refine oe_ ?_
    refine wk_ ⟨[(0, .lst 4 (a0.map eDLease)), (1, .lst 4 (a1.map eDLease)), (5, .int .i64 0)], []⟩ (fg ⟨rfl, rfl, rfl, trivial⟩ trivial) ?_
    refine block_ ?_
    obtain ⟨r28, e29, h0⟩ := bnd h0
    refine loop_ (R := (fun S => .inl () = r28 ∧ S = ⟨[], []⟩)) (g64_l0 a0 a1) (fun s S => match s with | p10 => S = ⟨[(0, .lst 4 (a0.map eDLease)), (1, .lst 4 (a1.map eDLease)), (5, .int .i64 p10)], []⟩) e29 ⟨[(0, .lst 4 (a0.map eDLease)), (1, .lst 4 (a1.map eDLease)), (5, .int .i64 0)], []⟩ (fg ⟨rfl, rfl, rfl, trivial⟩ trivial) rfl 0 (fun _ => rfl) ?_ ?_
    · rintro S _ hfg ⟨rfl, rfl⟩
      refine wk_ ⟨[], []⟩ (fgl hfg trivial trivial) ?_
      refine seq_ ?_
      refine reg_ ?_
      refine st (mvc_ trivial ?_)
      refine oe_ ?_
      refine wk_ ⟨[(4, .bool true)], []⟩ (fg ⟨rfl, trivial⟩ trivial) ?_
      obtain rfl := Option.some.inj h0
      exact rt_ (ret_ rfl rfl rfl rfl rfl trivial)
    · rintro p10 o1 _ K1 rfl h1 hx1 hK1 hE1 hR1
      refine seq_ ?_
      refine seq_ ?_
      refine reg_ ?_
      refine st (mv_ rfl trivial ?_)
      refine st (mv_ rfl trivial ?_)
      refine st (c_ (clenL (e := eDLease) (l0 := a0) rfl rfl trivial) ?_)
      refine st (c_ (cp_ ⟨trivial, trivial, trivial⟩ rfl trivial) ?_)
      refine oe_ ?_
      refine wk_ ⟨[(0, .lst 4 (a0.map eDLease)), (1, .lst 4 (a1.map eDLease)), (5, .int .i64 p10), (14, .bool (decide (p10 < (a0.length : Int))))], []⟩ (fg ⟨rfl, rfl, rfl, rfl, trivial⟩ trivial) ?_
      refine ite_ (cb := (decide (p10 < (a0.length : Int)))) rfl (fun c20 => ?_) (fun c20 => ?_)
      · replace h1 := ip c20 h1
        refine sk_ ?_
        refine wk_ ⟨[(0, .lst 4 (a0.map eDLease)), (1, .lst 4 (a1.map eDLease)), (5, .int .i64 p10)], []⟩ (fg ⟨rfl, rfl, rfl, trivial⟩ trivial) ?_
        refine seq_ ?_
        refine block_ ?_
        refine seq_ ?_
        obtain ⟨y21, e22, h1⟩ := bnd h1
        obtain ⟨y23, e24, h1⟩ := bnd h1
        obtain ⟨r25, e26, h1⟩ := bnd h1
        refine draw_ ?_
        refine dtake trivial (mv_ rfl trivial ?_)
        refine ⟨trivial, ?_⟩
        refine dtake trivial (mv_ rfl trivial ?_)
        refine ⟨trivial, ?_⟩
        refine dtake trivial (c_ (cidxL (e := eDLease) (y := y21) rfl rfl trivial rfl rfl trivial e22) ?_)
        refine ⟨trivial, ?_⟩
        refine dtake trivial (c_ (v := .agg [.int .i64 y21.id, .int .i64 y21.until_, .int .i64 y21.cap, .bool y21.queued]) (cp_ ⟨trivial, trivial⟩ rfl (Nat.le_of_ble_eq_true rfl)) ?_)
        refine ⟨trivial, ?_⟩
        refine dtake trivial (mv_ rfl trivial ?_)
        refine ⟨trivial, ?_⟩
        refine dtake trivial (mv_ rfl trivial ?_)
        refine ⟨trivial, ?_⟩
        refine dtake trivial (c_ (cidxL (e := eDLease) (y := y23) rfl rfl trivial rfl rfl trivial e24) ?_)
        refine ⟨trivial, ?_⟩
        refine dtake trivial (c_ (v := .agg [.int .i64 y23.id, .int .i64 y23.until_, .int .i64 y23.cap, .bool y23.queued]) (cp_ ⟨trivial, trivial⟩ rfl (Nat.le_of_ble_eq_true rfl)) ?_)
        refine ⟨trivial, ?_⟩
        refine dalt (call0_ (r := .bool r25) false (H107 y21 y23 r25 e26) ⟨trivial, trivial, trivial⟩ rfl rfl (fun _ => rfl) ?_) dstop
        refine ⟨[], trivial, trivial, ?_⟩
        refine dtake trivial (c_ (cp_ ⟨trivial, trivial⟩ rfl trivial) ?_)
        refine ⟨trivial, ?_⟩
        refine dfin ?_
        refine wk_ ⟨[(0, .lst 4 (a0.map eDLease)), (1, .lst 4 (a1.map eDLease)), (5, .int .i64 p10), (26, .bool (!r25))], []⟩ (fg ⟨rfl, rfl, rfl, rfl, trivial⟩ trivial) ?_
        refine ite_ (cb := (!r25)) rfl (fun c27 => ?_) (fun c27 => ?_)
        · replace h1 := ip c27 h1
          refine seq_ ?_
          refine reg_ ?_
          refine st (mvc_ trivial ?_)
          refine oe_ ?_
          refine wk_ ⟨[(4, .bool false)], []⟩ (fg ⟨rfl, trivial⟩ trivial) ?_
          obtain rfl := Option.some.inj h1
          obtain rfl := hx1 _ rfl
          obtain rfl := Option.some.inj h0
          exact rt_ (hR1 _ (ret_ rfl rfl rfl rfl rfl trivial))
        · replace h1 := inb c27 h1
          refine sk_ ?_
          refine bn_ ?_
          refine wk_ ⟨[(0, .lst 4 (a0.map eDLease)), (1, .lst 4 (a1.map eDLease)), (5, .int .i64 p10)], []⟩ (fg ⟨rfl, rfl, rfl, trivial⟩ trivial) ?_
          refine reg_ ?_
          refine st (mv_ rfl trivial ?_)
          refine st (c_ (cp_ ⟨trivial, trivial, trivial⟩ rfl trivial) ?_)
          refine st (mv_ rfl trivial ?_)
          refine oe_ ?_
          obtain rfl := Option.some.inj h1
          exact hK1 _ rfl _ ⟨[(0, .lst 4 (a0.map eDLease)), (1, .lst 4 (a1.map eDLease)), (5, .int .i64 (IntKind.i64.wrap (p10 + 1)))], []⟩ (fg ⟨rfl, rfl, rfl, trivial⟩ trivial) rfl
      · replace h1 := inb c20 h1
        obtain rfl := Option.some.inj h1
        obtain rfl := hx1 _ rfl
        refine exQ rfl ?_
        exact hE1 _ ⟨[], []⟩ (fg trivial trivial) ⟨rfl, rfl⟩

/- loop.example/g00149/laws.eqTable -/
def c21_r0 : List Ins := [⟨some 2, .box (.t 0), none⟩,
 ⟨some 3, .box (.t 1), none⟩,
 ⟨some 4, .p (.mv (.c (.bool false))), none⟩]
def c21_r1 : List Ins := [⟨some 5, .p (.fieldA (.t 2) 0), none⟩,
 ⟨some 6, .p (.load (.t 5) 1 false), none⟩,
 ⟨some 7, .p (.fieldA (.t 3) 0), none⟩,
 ⟨some 8, .p (.load (.t 7) 1 false), none⟩,
 ⟨some 9, .p (.bin .neq (.t 6) (.t 8)), none⟩]
def c21_r2 : List Ins := [⟨some 4, .p (.mv (.c (.bool false))), none⟩]
def c21_r3 : List Ins := [⟨some 10, .p (.fieldA (.t 2) 1), none⟩,
 ⟨some 11, .p (.load (.t 10) 1 false), none⟩,
 ⟨some 12, .p (.fieldA (.t 3) 1), none⟩,
 ⟨some 13, .p (.load (.t 12) 1 false), none⟩,
 ⟨some 14, .p (.bin .neq (.t 11) (.t 13)), none⟩]
def c21_r4 : List Ins := [⟨some 4, .p (.mv (.c (.bool false))), none⟩]
def c21_r5 : List Ins := [⟨some 15, .p (.fieldA (.t 2) 2), none⟩,
 ⟨some 16, .p (.load (.t 15) 1 false), none⟩,
 ⟨some 17, .p (.fieldA (.t 3) 2), none⟩,
 ⟨some 18, .p (.load (.t 17) 1 false), none⟩,
 ⟨some 19, .call 64 [(.t 16), (.t 18)], none⟩,
 ⟨some 20, .p (.un .not (.t 19)), none⟩]
def c21_r6 : List Ins := [⟨some 4, .p (.mv (.c (.bool false))), none⟩]
def c21_r7 : List Ins := [⟨some 4, .p (.mv (.c (.bool true))), none⟩]
def c21 : XFn := { np := 2, nt := 21, res := [.t 4], body := (.seq (.reg c21_r0) (.seq (.seq (.reg c21_r1) (.ite (.t 9) (.seq (.reg c21_r2) .ret) .skip)) (.seq (.seq (.reg c21_r3) (.ite (.t 14) (.seq (.reg c21_r4) .ret) .skip)) (.seq (.seq (.reg c21_r5) (.ite (.t 20) (.seq (.reg c21_r6) .ret) .skip)) (.seq (.reg c21_r7) .ret))))) }
def K21 (C : CRel) : Prop := ∀ (a0 : DTable) (a1 : DTable) (r : Bool), g21 a0 a1 = some r → C 21 ⟨[.agg [.int .i64 a0.clock, .int .i64 a0.next, .lst 4 (a0.list_.map eDLease)], .agg [.int .i64 a1.clock, .int .i64 a1.next, .lst 4 (a1.list_.map eDLease)]], []⟩ ⟨.bool r, [], []⟩
theorem F21 {C : CRel} (H64 : K64 C) (a0 : DTable) (a1 : DTable) (r : Bool) (h0 : g21 a0 a1 = some r) : FnOK C c21 ⟨[.agg [.int .i64 a0.clock, .int .i64 a0.next, .lst 4 (a0.list_.map eDLease)], .agg [.int .i64 a1.clock, .int .i64 a1.next, .lst 4 (a1.list_.map eDLease)]], []⟩ ⟨.bool r, [], []⟩ := by
  refine fn_ (Nat.le_of_ble_eq_true rfl) ?_
  refine seq_ ?_
  refine reg_ ?_
  refine st (box_ rfl trivial rfl ?_)
  refine st (box_ rfl trivial rfl ?_)
  refine st (mvc_ trivial ?_)
  refine oe_ ?_
  refine wk_ ⟨[(2, .ptr 128 0), (3, .ptr 192 0)], [(128, [.int .i64 a0.clock, .int .i64 a0.next, .lst 4 (a0.list_.map eDLease)]), (192, [.int .i64 a1.clock, .int .i64 a1.next, .lst 4 (a1.list_.map eDLease)])]⟩ (fg ⟨rfl, rfl, trivial⟩ ⟨rfl, rfl, trivial⟩) ?_
  refine seq_ ?_
  refine seq_ ?_
  refine reg_ ?_
  refine st (c_ (cp_ ⟨trivial, trivial⟩ rfl trivial) ?_)
  refine st (c_ (cp_ ⟨trivial, trivial⟩ rfl (Nat.le_of_ble_eq_true rfl)) ?_)
  refine st (c_ (cp_ ⟨trivial, trivial⟩ rfl trivial) ?_)
  refine st (c_ (cp_ ⟨trivial, trivial⟩ rfl (Nat.le_of_ble_eq_true rfl)) ?_)
  refine st (c_ (cp_ ⟨trivial, trivial, trivial⟩ rfl trivial) ?_)
  refine oe_ ?_
  refine wk_ ⟨[(2, .ptr 128 0), (3, .ptr 192 0), (9, .bool (a0.clock != a1.clock))], [(128, [.int .i64 a0.clock, .int .i64 a0.next, .lst 4 (a0.list_.map eDLease)]), (192, [.int .i64 a1.clock, .int .i64 a1.next, .lst 4 (a1.list_.map eDLease)])]⟩ (fg ⟨rfl, rfl, rfl, trivial⟩ ⟨rfl, rfl, trivial⟩) ?_
  refine ite_ (cb := (a0.clock != a1.clock)) rfl (fun c1 => ?_) (fun c1 => ?_)
  · replace h0 := ip c1 h0
    refine seq_ ?_
    refine reg_ ?_
    refine st (mvc_ trivial ?_)
    refine oe_ ?_
    refine wk_ ⟨[(4, .bool false)], []⟩ (fg ⟨rfl, trivial⟩ trivial) ?_
    obtain rfl := Option.some.inj h0
    exact rt_ (ret_ rfl rfl rfl rfl rfl trivial)
  · replace h0 := inb c1 h0
    refine sk_ ?_
    refine wk_ ⟨[(2, .ptr 128 0), (3, .ptr 192 0)], [(128, [.int .i64 a0.clock, .int .i64 a0.next, .lst 4 (a0.list_.map eDLease)]), (192, [.int .i64 a1.clock, .int .i64 a1.next, .lst 4 (a1.list_.map eDLease)])]⟩ (fg ⟨rfl, rfl, trivial⟩ ⟨rfl, rfl, trivial⟩) ?_
    refine seq_ ?_
    refine seq_ ?_
    refine reg_ ?_
    refine st (c_ (cp_ ⟨trivial, trivial⟩ rfl trivial) ?_)
    refine st (c_ (cp_ ⟨trivial, trivial⟩ rfl (Nat.le_of_ble_eq_true rfl)) ?_)
    refine st (c_ (cp_ ⟨trivial, trivial⟩ rfl trivial) ?_)
    refine st (c_ (cp_ ⟨trivial, trivial⟩ rfl (Nat.le_of_ble_eq_true rfl)) ?_)
    refine st (c_ (cp_ ⟨trivial, trivial, trivial⟩ rfl trivial) ?_)
    refine oe_ ?_
    refine wk_ ⟨[(2, .ptr 128 0), (3, .ptr 192 0), (14, .bool (a0.next != a1.next))], [(128, [.int .i64 a0.clock, .int .i64 a0.next, .lst 4 (a0.list_.map eDLease)]), (192, [.int .i64 a1.clock, .int .i64 a1.next, .lst 4 (a1.list_.map eDLease)])]⟩ (fg ⟨rfl, rfl, rfl, trivial⟩ ⟨rfl, rfl, trivial⟩) ?_
    refine ite_ (cb := (a0.next != a1.next)) rfl (fun c2 => ?_) (fun c2 => ?_)
    · replace h0 := ip c2 h0
      refine seq_ ?_
      refine reg_ ?_
      refine st (mvc_ trivial ?_)
      refine oe_ ?_
      refine wk_ ⟨[(4, .bool false)], []⟩ (fg ⟨rfl, trivial⟩ trivial) ?_
      obtain rfl := Option.some.inj h0
      exact rt_ (ret_ rfl rfl rfl rfl rfl trivial)
    · replace h0 := inb c2 h0
      refine sk_ ?_
      refine wk_ ⟨[(2, .ptr 128 0), (3, .ptr 192 0)], [(128, [.int .i64 a0.clock, .int .i64 a0.next, .lst 4 (a0.list_.map eDLease)]), (192, [.int .i64 a1.clock, .int .i64 a1.next, .lst 4 (a1.list_.map eDLease)])]⟩ (fg ⟨rfl, rfl, trivial⟩ ⟨rfl, rfl, trivial⟩) ?_
      refine seq_ ?_
      refine seq_ ?_
      refine reg_ ?_
      refine st (c_ (cp_ ⟨trivial, trivial⟩ rfl trivial) ?_)
      refine st (c_ (cp_ ⟨trivial, trivial⟩ rfl (Nat.le_of_ble_eq_true rfl)) ?_)
      refine st (c_ (cp_ ⟨trivial, trivial⟩ rfl trivial) ?_)
      refine st (c_ (cp_ ⟨trivial, trivial⟩ rfl (Nat.le_of_ble_eq_true rfl)) ?_)
      obtain ⟨r3, e4, h0⟩ := bnd h0
      refine st (call0_ (r := .bool r3) false (H64 a0.list_ a1.list_ r3 e4) ⟨trivial, trivial, trivial⟩ rfl rfl (fun _ => rfl) ?_)
      refine st (c_ (cp_ ⟨trivial, trivial⟩ rfl trivial) ?_)
      refine oe_ ?_
      refine wk_ ⟨[(20, .bool (!r3))], []⟩ (fg ⟨rfl, trivial⟩ trivial) ?_
      refine ite_ (cb := (!r3)) rfl (fun c5 => ?_) (fun c5 => ?_)
      · replace h0 := ip c5 h0
        refine seq_ ?_
        refine reg_ ?_
        refine st (mvc_ trivial ?_)
        refine oe_ ?_
        refine wk_ ⟨[(4, .bool false)], []⟩ (fg ⟨rfl, trivial⟩ trivial) ?_
        obtain rfl := Option.some.inj h0
        exact rt_ (ret_ rfl rfl rfl rfl rfl trivial)
      · replace h0 := inb c5 h0
        refine sk_ ?_
        refine wk_ ⟨[], []⟩ (fg trivial trivial) ?_
        refine seq_ ?_
        refine reg_ ?_
        refine st (mvc_ trivial ?_)
        refine oe_ ?_
        refine wk_ ⟨[(4, .bool true)], []⟩ (fg ⟨rfl, trivial⟩ trivial) ?_
        obtain rfl := Option.some.inj h0
        exact rt_ (ret_ rfl rfl rfl rfl rfl trivial)

/- loop.example/g00149/spec.l01In -/
def c56_r0 : List Ins := [⟨some 6, .p (.mv (.c (.bool false))), none⟩]
def c56_r1 : List Ins := [⟨some 7, .p (.mv (.t 0)), none⟩,
 ⟨some 8, .p (.mv (.t 1)), none⟩,
 ⟨some 9, .p (.bin .geq (.t 7) (.t 8)), none⟩,
 ⟨some 10, .p (.mv (.t 9)), none⟩,
 ⟨some 11, .p (.mv (.t 0)), some (10, true)⟩,
 ⟨some 12, .p (.mv (.t 2)), some (10, true)⟩,
 ⟨some 13, .p (.bin .leq (.t 11) (.t 12)), some (10, true)⟩,
 ⟨some 14, .pick (.t 10) (.t 13) (.c (.bool false)), none⟩,
 ⟨some 6, .p (.mv (.t 14)), none⟩]
def c56 : XFn := { np := 3, nt := 15, res := [.t 6], body := (.seq (.reg c56_r0) (.seq (.reg c56_r1) .ret)) }
def K56 (C : CRel) : Prop := ∀ (a0 : Int) (a1 : Int) (a2 : Int) (r : Bool), g56 a0 a1 a2 = some r → C 56 ⟨[.int .i64 a0, .int .i64 a1, .int .i64 a2], []⟩ ⟨.bool r, [], []⟩
theorem F56 {C : CRel}  (a0 : Int) (a1 : Int) (a2 : Int) (r : Bool) (h0 : g56 a0 a1 a2 = some r) : FnOK C c56 ⟨[.int .i64 a0, .int .i64 a1, .int .i64 a2], []⟩ ⟨.bool r, [], []⟩ := by
  refine fn_ (Nat.le_of_ble_eq_true rfl) ?_
  refine seq_ ?_
  refine reg_ ?_
  refine st (mvc_ trivial ?_)
  refine oe_ ?_
  refine wk_ ⟨[(0, .int .i64 a0), (1, .int .i64 a1), (2, .int .i64 a2)], []⟩ (fg ⟨rfl, rfl, rfl, trivial⟩ trivial) ?_
  refine seq_ ?_
  refine reg_ ?_
  refine st (mv_ rfl trivial ?_)
  refine st (mv_ rfl trivial ?_)
  refine st (c_ (cp_ ⟨trivial, trivial, trivial⟩ rfl trivial) ?_)
  refine st (mv_ rfl trivial ?_)
  refine st (pg_ (u := .int .i64 a0) rfl (fun hg => (cmv (v := .int .i64 a0) rfl trivial)) ?_)
  refine st (pg_ (u := .int .i64 a2) rfl (fun hg => (cmv (v := .int .i64 a2) rfl trivial)) ?_)
  refine st (pg_ (u := .bool (decide (a0 ≤ a2))) rfl (fun hg => (cp_ ⟨(fun _ => hg), (fun _ => hg), trivial⟩ rfl trivial)) ?_)
  refine st (pick_ rfl rfl rfl (fun h => eqt h) trivial rfl ?_)
  refine st (mv_ rfl trivial ?_)
  refine oe_ ?_
  refine wk_ ⟨[(6, .bool (bif (decide (a0 ≥ a1)) then (decide (a0 ≤ a2)) else false))], []⟩ (fg ⟨rfl, trivial⟩ trivial) ?_
  obtain rfl := Option.some.inj h0
  exact rt_ (ret_ rfl rfl rfl rfl rfl trivial)

/- loop.example/g00149/spec.TableOK -/
def c18_r0 : List Ins := [⟨some 1, .box (.t 0), none⟩,
 ⟨some 2, .p (.mv (.c (.bool false))), none⟩]
def c18_r1 : List Ins := [⟨some 5, .p (.fieldA (.t 1) 0), none⟩,
 ⟨some 6, .p (.load (.t 5) 1 false), none⟩,
 ⟨some 7, .p (.bin .lss (.t 6) (.c (.int .i64 0))), none⟩,
 ⟨some 8, .p (.mv (.t 7)), none⟩,
 ⟨some 9, .p (.fieldA (.t 1) 1), some (8, false)⟩,
 ⟨some 10, .p (.load (.t 9) 1 false), some (8, false)⟩,
 ⟨some 11, .call 56 [(.t 10), (.c (.int .i64 1)), (.c (.int .i64 1000000))], some (8, false)⟩,
 ⟨some 12, .p (.un .not (.t 11)), some (8, false)⟩,
 ⟨some 13, .pick (.t 8) (.c (.bool true)) (.t 12), none⟩,
 ⟨some 14, .p (.mv (.t 13)), none⟩,
 ⟨some 15, .p (.fieldA (.t 1) 2), some (14, false)⟩,
 ⟨some 16, .p (.load (.t 15) 1 false), some (14, false)⟩,
 ⟨some 17, .p (.len (.t 16)), some (14, false)⟩,
 ⟨some 18, .p (.bin .gtr (.t 17) (.c (.int .i64 40))), some (14, false)⟩,
 ⟨some 19, .pick (.t 14) (.c (.bool true)) (.t 18), none⟩]
def c18_r2 : List Ins := [⟨some 2, .p (.mv (.c (.bool false))), none⟩]
def c18_r3 : List Ins := [⟨some 3, .p (.mv (.c (.int .i64 0))), none⟩]
def c18_r4 : List Ins := [⟨some 20, .p (.mv (.t 3)), none⟩,
 ⟨some 21, .p (.fieldA (.t 1) 2), none⟩,
 ⟨some 22, .p (.load (.t 21) 1 false), none⟩,
 ⟨some 23, .p (.len (.t 22)), none⟩,
 ⟨some 24, .p (.bin .lss (.t 20) (.t 23)), none⟩]
def c18_r5 : List Ins := [⟨some 27, .p (.fieldA (.t 1) 2), none⟩,
 ⟨some 28, .p (.load (.t 27) 1 false), none⟩,
 ⟨some 29, .p (.mv (.t 3)), none⟩,
 ⟨some 30, .p (.idxA (.t 28) (.t 29) 4), none⟩,
 ⟨some 31, .p (.load (.t 30) 4 true), none⟩,
 ⟨some 4, .alloc [(.int .i64 0), (.int .i64 0), (.int .i64 0), (.bool false)], none⟩,
 ⟨none, .store (.t 4) (.t 31) 4, none⟩]
def c18_r6 : DP := (.take ⟨some 32, .p (.fieldA (.t 4) 0), none⟩
 (.take ⟨some 33, .p (.load (.t 32) 1 false), none⟩
 (.take ⟨some 34, .p (.fieldA (.t 1) 1), none⟩
 (.take ⟨some 35, .p (.load (.t 34) 1 false), none⟩
 (.take ⟨some 36, .p (.bin .sub (.t 35) (.c (.int .i64 1))), none⟩
 (.alt [] ⟨some 37, .call 56 [(.t 33), (.c (.int .i64 1)), (.t 36)], none⟩
 (.take ⟨some 38, .p (.un .not (.t 37)), none⟩
 (.take ⟨some 39, .p (.mv (.t 38)), none⟩
 (.take ⟨some 40, .p (.mv (.t 3)), some (39, false)⟩
 (.take ⟨some 41, .p (.bin .gtr (.t 40) (.c (.int .i64 0))), some (39, false)⟩
 (.take ⟨some 42, .p (.mv (.t 41)), some (39, false)⟩
 (.take ⟨some 43, .p (.fieldA (.t 1) 2), some (42, true)⟩
 (.take ⟨some 44, .p (.load (.t 43) 1 false), some (42, true)⟩
 (.take ⟨some 45, .p (.mv (.t 3)), some (42, true)⟩
 (.take ⟨some 46, .p (.bin .sub (.t 45) (.c (.int .i64 1))), some (42, true)⟩
 (.take ⟨some 47, .p (.idxA (.t 44) (.t 46) 4), some (42, true)⟩
 (.take ⟨some 48, .p (.fieldA (.t 47) 0), some (42, true)⟩
 (.take ⟨some 49, .p (.load (.t 48) 1 false), some (42, true)⟩
 (.take ⟨some 50, .p (.fieldA (.t 4) 0), some (42, true)⟩
 (.take ⟨some 51, .p (.load (.t 50) 1 false), some (42, true)⟩
 (.take ⟨some 52, .p (.bin .geq (.t 49) (.t 51)), some (42, true)⟩
 (.take ⟨some 53, .pick (.t 42) (.t 52) (.c (.bool false)), some (39, false)⟩
 (.take ⟨some 54, .pick (.t 39) (.c (.bool true)) (.t 53), none⟩
 (.take ⟨some 55, .p (.mv (.t 54)), none⟩
 (.take ⟨some 56, .p (.fieldA (.t 4) 1), some (55, false)⟩
 (.take ⟨some 57, .p (.load (.t 56) 1 false), some (55, false)⟩
 (.take ⟨some 58, .p (.bin .lss (.t 57) (.c (.int .i64 0))), some (55, false)⟩
 (.take ⟨some 59, .pick (.t 55) (.c (.bool true)) (.t 58), none⟩
 (.take ⟨some 60, .p (.mv (.t 59)), none⟩
 (.take ⟨some 61, .p (.fieldA (.t 4) 1), some (60, false)⟩
 (.take ⟨some 62, .p (.load (.t 61) 1 false), some (60, false)⟩
 (.take ⟨some 63, .p (.fieldA (.t 4) 2), some (60, false)⟩
 (.take ⟨some 64, .p (.load (.t 63) 1 false), some (60, false)⟩
 (.take ⟨some 65, .p (.bin .gtr (.t 62) (.t 64)), some (60, false)⟩
 (.take ⟨some 66, .pick (.t 60) (.c (.bool true)) (.t 65), none⟩
 (.take ⟨some 67, .p (.mv (.t 66)), none⟩
 (.take ⟨some 68, .p (.fieldA (.t 4) 3), some (67, false)⟩
 (.take ⟨some 69, .p (.load (.t 68) 1 false), some (67, false)⟩
 (.take ⟨some 70, .p (.un .not (.t 69)), some (67, false)⟩
 (.take ⟨some 71, .p (.mv (.t 70)), some (67, false)⟩
 (.take ⟨some 72, .p (.fieldA (.t 4) 1), some (71, true)⟩
 (.take ⟨some 73, .p (.load (.t 72) 1 false), some (71, true)⟩
 (.take ⟨some 74, .p (.fieldA (.t 1) 0), some (71, true)⟩
 (.take ⟨some 75, .p (.load (.t 74) 1 false), some (71, true)⟩
 (.take ⟨some 76, .p (.bin .leq (.t 73) (.t 75)), some (71, true)⟩
 (.take ⟨some 77, .pick (.t 71) (.t 76) (.c (.bool false)), some (67, false)⟩
 (.take ⟨some 78, .pick (.t 67) (.c (.bool true)) (.t 77), none⟩
 .fin)))))))))))))))))))))))))))))))))))))))))
 .stop))))))
def c18_r7 : List Ins := [⟨some 2, .p (.mv (.c (.bool false))), none⟩]
def c18_r8 : List Ins := [⟨some 25, .p (.mv (.t 3)), none⟩,
 ⟨some 26, .p (.bin .add (.t 25) (.c (.int .i64 1))), none⟩,
 ⟨some 3, .p (.mv (.t 26)), none⟩]
def c18_l0 : IR := (.seq (.seq (.reg c18_r4) (.ite (.t 24) .skip (.exit 0))) (.seq (.block 1 (.seq (.reg c18_r5) (.seq (.draw c18_r6) (.ite (.t 78) (.seq (.reg c18_r7) .ret) .skip)))) (.reg c18_r8)))
def c18_r9 : List Ins := [⟨some 2, .p (.mv (.c (.bool true))), none⟩]
def c18 : XFn := { np := 1, nt := 79, res := [.t 2], body := (.seq (.reg c18_r0) (.seq (.seq (.reg c18_r1) (.ite (.t 19) (.seq (.reg c18_r2) .ret) .skip)) (.seq (.seq (.reg c18_r3) (.block 0 (.loop c18_l0))) (.seq (.reg c18_r9) .ret)))) }
def K18 (C : CRel) : Prop := ∀ (a0 : DTable) (r : Bool), g18 a0 = some r → C 18 ⟨[.agg [.int .i64 a0.clock, .int .i64 a0.next, .lst 4 (a0.list_.map eDLease)]], []⟩ ⟨.bool r, [], []⟩
theorem F18 {C : CRel} (H56 : K56 C) (a0 : DTable) (r : Bool) (h0 : g18 a0 = some r) : FnOK C c18 ⟨[.agg [.int .i64 a0.clock, .int .i64 a0.next, .lst 4 (a0.list_.map eDLease)]], []⟩ ⟨.bool r, [], []⟩ := by
  refine fn_ (Nat.le_of_ble_eq_true rfl) ?_
  refine seq_ ?_
  refine reg_ ?_
  refine st (box_ rfl trivial rfl ?_)
  refine st (mvc_ trivial ?_)
  refine oe_ ?_
  refine wk_ ⟨[(1, .ptr 64 0)], [(64, [.int .i64 a0.clock, .int .i64 a0.next, .lst 4 (a0.list_.map eDLease)])]⟩ (fg ⟨rfl, trivial⟩ ⟨rfl, trivial⟩) ?_
  refine seq_ ?_
  refine seq_ ?_
  refine reg_ ?_
  refine st (c_ (cp_ ⟨trivial, trivial⟩ rfl trivial) ?_)
  refine st (c_ (cp_ ⟨trivial, trivial⟩ rfl (Nat.le_of_ble_eq_true rfl)) ?_)
  refine st (c_ (cp_ ⟨trivial, trivial, trivial⟩ rfl trivial) ?_)
  refine st (mv_ rfl trivial ?_)
  refine st (pg_ (u := .ptr 64 1) rfl (fun hg => (cp_ ⟨trivial, trivial⟩ rfl trivial)) ?_)
  refine st (pg_ (u := .int .i64 a0.next) rfl (fun hg => (cp_ ⟨(fun _ => hg), trivial⟩ rfl (Nat.le_of_ble_eq_true rfl))) ?_)
  obtain ⟨r1, e2, h0⟩ := bnd h0
  refine st (callg_ (r := .bool r1) rfl false (fun hg => H56 a0.next 1 1000000 r1 (ip hg e2)) ⟨(fun hg => hg), trivial, trivial, trivial⟩ (fun _ => rfl) (fun _ => rfl) (fun _ => rfl) (fun h => nomatch h) ?_)
  refine st (pg_ (u := .bool (!r1)) rfl (fun hg => (cp_ ⟨(fun _ => hg), trivial⟩ rfl trivial)) ?_)
  refine st (pick_ rfl rfl rfl trivial (fun h => eqf h) rfl ?_)
  refine st (mv_ rfl trivial ?_)
  refine st (pg_ (u := .ptr 64 2) rfl (fun hg => (cp_ ⟨trivial, trivial⟩ rfl trivial)) ?_)
  refine st (pg_ (u := .lst 4 (a0.list_.map eDLease)) rfl (fun hg => (cp_ ⟨(fun _ => hg), trivial⟩ rfl (Nat.le_of_ble_eq_true rfl))) ?_)
  refine st (pg_ (u := .int .i64 (a0.list_.length : Int)) rfl (fun hg => (clenL (e := eDLease) (l0 := a0.list_) rfl rfl (fun _ => hg))) ?_)
  refine st (pg_ (u := .bool (decide ((a0.list_.length : Int) > 40))) rfl (fun hg => (cp_ ⟨(fun _ => hg), trivial, trivial⟩ rfl trivial)) ?_)
  refine st (pick_ rfl rfl rfl trivial (fun h => eqf h) rfl ?_)
  refine oe_ ?_
  obtain ⟨v3, e4, h0⟩ := bl h0
  refine wk_ ⟨[(1, .ptr 64 0), (19, .bool v3)], [(64, [.int .i64 a0.clock, .int .i64 a0.next, .lst 4 (a0.list_.map eDLease)])]⟩ (fg ⟨(by subst e4; rfl), (by subst e4; rfl), trivial⟩ ⟨(by subst e4; rfl), trivial⟩) ?_
  refine ite_ (cb := v3) rfl (fun c5 => ?_) (fun c5 => ?_)
  · replace h0 := ip c5 h0
    refine seq_ ?_
    refine reg_ ?_
    refine st (mvc_ trivial ?_)
    refine oe_ ?_
    refine wk_ ⟨[(2, .bool false)], []⟩ (fg ⟨rfl, trivial⟩ trivial) ?_
    obtain rfl := Option.some.inj h0
    exact rt_ (ret_ rfl rfl rfl rfl rfl trivial)
  · replace h0 := inb c5 h0
    refine sk_ ?_
    refine wk_ ⟨[(1, .ptr 64 0)], [(64, [.int .i64 a0.clock, .int .i64 a0.next, .lst 4 (a0.list_.map eDLease)])]⟩ (fg ⟨rfl, trivial⟩ ⟨rfl, trivial⟩) ?_
    refine seq_ ?_
    refine seq_ ?_
    refine reg_ ?_
    refine st (mvc_ trivial ?_)
    refine oe_ ?_
    refine wk_ ⟨[(1, .ptr 64 0), (3, .int .i64 0)], [(64, [.int .i64 a0.clock, .int .i64 a0.next, .lst 4 (a0.list_.map eDLease)])]⟩ (fg ⟨rfl, rfl, trivial⟩ ⟨rfl, trivial⟩) ?_
    refine block_ ?_
    obtain ⟨r38, e39, h0⟩ := bnd h0
    refine loop_ (R := (fun S => .inl () = r38 ∧ S = ⟨[], []⟩)) (g18_l0 a0) (fun s S => match s with | p16 => S = ⟨[(1, .ptr 64 0), (3, .int .i64 p16)], [(64, [.int .i64 a0.clock, .int .i64 a0.next, .lst 4 (a0.list_.map eDLease)])]⟩) e39 ⟨[(1, .ptr 64 0), (3, .int .i64 0)], [(64, [.int .i64 a0.clock, .int .i64 a0.next, .lst 4 (a0.list_.map eDLease)])]⟩ (fg ⟨rfl, rfl, trivial⟩ ⟨rfl, trivial⟩) rfl 0 (fun _ => rfl) ?_ ?_
    · rintro S _ hfg ⟨rfl, rfl⟩
      refine wk_ ⟨[], []⟩ (fgl hfg trivial trivial) ?_
      refine seq_ ?_
      refine reg_ ?_
      refine st (mvc_ trivial ?_)
      refine oe_ ?_
      refine wk_ ⟨[(2, .bool true)], []⟩ (fg ⟨rfl, trivial⟩ trivial) ?_
      obtain rfl := Option.some.inj h0
      exact rt_ (ret_ rfl rfl rfl rfl rfl trivial)
    · rintro p16 o1 _ K1 rfl h1 hx1 hK1 hE1 hR1
      refine seq_ ?_
      refine seq_ ?_
      refine reg_ ?_
      refine st (mv_ rfl trivial ?_)
      refine st (c_ (cp_ ⟨trivial, trivial⟩ rfl trivial) ?_)
      refine st (c_ (cp_ ⟨trivial, trivial⟩ rfl (Nat.le_of_ble_eq_true rfl)) ?_)
      refine st (c_ (clenL (e := eDLease) (l0 := a0.list_) rfl rfl trivial) ?_)
      refine st (c_ (cp_ ⟨trivial, trivial, trivial⟩ rfl trivial) ?_)
      refine oe_ ?_
      refine wk_ ⟨[(1, .ptr 64 0), (3, .int .i64 p16), (24, .bool (decide (p16 < (a0.list_.length : Int))))], [(64, [.int .i64 a0.clock, .int .i64 a0.next, .lst 4 (a0.list_.map eDLease)])]⟩ (fg ⟨rfl, rfl, rfl, trivial⟩ ⟨rfl, trivial⟩) ?_
      refine ite_ (cb := (decide (p16 < (a0.list_.length : Int)))) rfl (fun c28 => ?_) (fun c28 => ?_)
      · replace h1 := ip c28 h1
        refine sk_ ?_
        refine wk_ ⟨[(1, .ptr 64 0), (3, .int .i64 p16)], [(64, [.int .i64 a0.clock, .int .i64 a0.next, .lst 4 (a0.list_.map eDLease)])]⟩ (fg ⟨rfl, rfl, trivial⟩ ⟨rfl, trivial⟩) ?_
        refine seq_ ?_
        refine block_ ?_
        refine seq_ ?_
        refine reg_ ?_
        refine st (c_ (cp_ ⟨trivial, trivial⟩ rfl trivial) ?_)
        refine st (c_ (cp_ ⟨trivial, trivial⟩ rfl (Nat.le_of_ble_eq_true rfl)) ?_)
        refine st (mv_ rfl trivial ?_)
        obtain ⟨y29, e30, h1⟩ := bnd h1
        refine st (c_ (cidxL (e := eDLease) (y := y29) rfl rfl trivial rfl rfl trivial e30) ?_)
        refine st (c_ (v := .agg [.int .i64 y29.id, .int .i64 y29.until_, .int .i64 y29.cap, .bool y29.queued]) (cp_ ⟨trivial, trivial⟩ rfl (Nat.le_of_ble_eq_true rfl)) ?_)
        refine st (alloc_ ?_)
        refine st (stp_ rfl rfl trivial rfl rfl rfl (Nat.le_of_ble_eq_true rfl) ?_)
        refine oe_ ?_
        refine wk_ ⟨[(1, .ptr 64 0), (3, .int .i64 p16), (4, .ptr 256 0)], [(64, [.int .i64 a0.clock, .int .i64 a0.next, .lst 4 (a0.list_.map eDLease)]), (256, [.int .i64 y29.id, .int .i64 y29.until_, .int .i64 y29.cap, .bool y29.queued])]⟩ (fg ⟨rfl, rfl, rfl, trivial⟩ ⟨rfl, rfl, trivial⟩) ?_
        refine seq_ ?_
        obtain ⟨r31, e32, h1⟩ := bnd h1
        obtain ⟨y33, e34, h1⟩ := bnd h1
        refine draw_ ?_
        refine dtake trivial (c_ (cp_ ⟨trivial, trivial⟩ rfl trivial) ?_)
        refine ⟨trivial, ?_⟩
        refine dtake trivial (c_ (cp_ ⟨trivial, trivial⟩ rfl (Nat.le_of_ble_eq_true rfl)) ?_)
        refine ⟨trivial, ?_⟩
        refine dtake trivial (c_ (cp_ ⟨trivial, trivial⟩ rfl trivial) ?_)
        refine ⟨trivial, ?_⟩
        refine dtake trivial (c_ (cp_ ⟨trivial, trivial⟩ rfl (Nat.le_of_ble_eq_true rfl)) ?_)
        refine ⟨trivial, ?_⟩
        refine dtake trivial (c_ (cp_ ⟨trivial, trivial, trivial⟩ rfl trivial) ?_)
        refine ⟨trivial, ?_⟩
        refine dalt (call0_ (r := .bool r31) false (H56 y29.id 1 (IntKind.i64.wrap (a0.next - 1)) r31 e32) ⟨trivial, trivial, trivial, trivial⟩ rfl rfl (fun _ => rfl) ?_) dstop
        refine ⟨[], trivial, trivial, ?_⟩
        refine dtake trivial (c_ (cp_ ⟨trivial, trivial⟩ rfl trivial) ?_)
        refine ⟨trivial, ?_⟩
        refine dtake trivial (mv_ rfl trivial ?_)
        refine ⟨trivial, ?_⟩
        refine dtake trivial (pg_ (u := .int .i64 p16) rfl (fun hg => (cmv (v := .int .i64 p16) rfl trivial)) ?_)
        refine ⟨trivial, ?_⟩
        refine dtake trivial (pg_ (u := .bool (decide (p16 > 0))) rfl (fun hg => (cp_ ⟨(fun _ => hg), trivial, trivial⟩ rfl trivial)) ?_)
        refine ⟨trivial, ?_⟩
        refine dtake trivial (pg_ (u := .bool (decide (p16 > 0))) rfl (fun hg => (cmv (v := .may ((!r31) == false) (.bool (decide (p16 > 0)))) rfl (fun _ => hg))) ?_)
        refine ⟨trivial, ?_⟩
        refine dtake trivial (pg_ (u := .ptr 64 2) rfl (fun hg => (cp_ ⟨trivial, trivial⟩ rfl trivial)) ?_)
        refine ⟨trivial, ?_⟩
        refine dtake trivial (pg_ (u := .lst 4 (a0.list_.map eDLease)) rfl (fun hg => (cp_ ⟨(fun _ => hg), trivial⟩ rfl (Nat.le_of_ble_eq_true rfl))) ?_)
        refine ⟨trivial, ?_⟩
        refine dtake trivial (pg_ (u := .int .i64 p16) rfl (fun hg => (cmv (v := .int .i64 p16) rfl trivial)) ?_)
        refine ⟨trivial, ?_⟩
        refine dtake trivial (pg_ (u := .int .i64 (IntKind.i64.wrap (p16 - 1))) rfl (fun hg => (cp_ ⟨(fun _ => hg), trivial, trivial⟩ rfl trivial)) ?_)
        refine ⟨trivial, ?_⟩
        refine dtake trivial (pg_ (u := .iptr [.int .i64 y33.id, .int .i64 y33.until_, .int .i64 y33.cap, .bool y33.queued]) rfl (fun hg => (cidxL (e := eDLease) (y := y33) rfl rfl (fun _ => hg) rfl rfl (fun _ => hg) (ip hg e34))) ?_)
        refine ⟨trivial, ?_⟩
        refine dtake trivial (pg_ (u := .iptr [.int .i64 y33.id, .int .i64 y33.until_, .int .i64 y33.cap, .bool y33.queued]) rfl (fun hg => (cp_ ⟨(fun _ => hg), trivial⟩ rfl (Nat.le_of_ble_eq_true rfl))) ?_)
        refine ⟨trivial, ?_⟩
        refine dtake trivial (pg_ (u := .int .i64 y33.id) rfl (fun hg => (cp_ ⟨(fun _ => hg), trivial⟩ rfl (Nat.le_of_ble_eq_true rfl))) ?_)
        refine ⟨trivial, ?_⟩
        refine dtake trivial (pg_ (u := .ptr 256 0) rfl (fun hg => (cp_ ⟨trivial, trivial⟩ rfl trivial)) ?_)
        refine ⟨trivial, ?_⟩
        refine dtake trivial (pg_ (u := .int .i64 y29.id) rfl (fun hg => (cp_ ⟨(fun _ => hg), trivial⟩ rfl (Nat.le_of_ble_eq_true rfl))) ?_)
        refine ⟨trivial, ?_⟩
        refine dtake trivial (pg_ (u := .bool (decide (y33.id ≥ y29.id))) rfl (fun hg => (cp_ ⟨(fun _ => hg), (fun _ => hg), trivial⟩ rfl trivial)) ?_)
        refine ⟨trivial, ?_⟩
        refine dtake trivial (pickg_ (u := .bool (bif (decide (p16 > 0)) then (decide (y33.id ≥ y29.id)) else false)) rfl (fun hg => cpick rfl rfl (fun _ => hg) rfl rfl (fun h => and_ hg (eqt h)) trivial rfl) ?_)
        refine ⟨trivial, ?_⟩
        refine dtake trivial (pick_ rfl rfl rfl trivial (fun h => eqf h) rfl ?_)
        refine ⟨trivial, ?_⟩
        refine dtake trivial (mv_ rfl trivial ?_)
        refine ⟨trivial, ?_⟩
        refine dtake trivial (pg_ (u := .ptr 256 1) rfl (fun hg => (cp_ ⟨trivial, trivial⟩ rfl trivial)) ?_)
        refine ⟨trivial, ?_⟩
        refine dtake trivial (pg_ (u := .int .i64 y29.until_) rfl (fun hg => (cp_ ⟨(fun _ => hg), trivial⟩ rfl (Nat.le_of_ble_eq_true rfl))) ?_)
        refine ⟨trivial, ?_⟩
        refine dtake trivial (pg_ (u := .bool (decide (y29.until_ < 0))) rfl (fun hg => (cp_ ⟨(fun _ => hg), trivial, trivial⟩ rfl trivial)) ?_)
        refine ⟨trivial, ?_⟩
        refine dtake trivial (pick_ rfl rfl rfl trivial (fun h => eqf h) rfl ?_)
        refine ⟨trivial, ?_⟩
        refine dtake trivial (mv_ rfl trivial ?_)
        refine ⟨trivial, ?_⟩
        refine dtake trivial (pg_ (u := .ptr 256 1) rfl (fun hg => (cp_ ⟨trivial, trivial⟩ rfl trivial)) ?_)
        refine ⟨trivial, ?_⟩
        refine dtake trivial (pg_ (u := .int .i64 y29.until_) rfl (fun hg => (cp_ ⟨(fun _ => hg), trivial⟩ rfl (Nat.le_of_ble_eq_true rfl))) ?_)
        refine ⟨trivial, ?_⟩
        refine dtake trivial (pg_ (u := .ptr 256 2) rfl (fun hg => (cp_ ⟨trivial, trivial⟩ rfl trivial)) ?_)
        refine ⟨trivial, ?_⟩
        refine dtake trivial (pg_ (u := .int .i64 y29.cap) rfl (fun hg => (cp_ ⟨(fun _ => hg), trivial⟩ rfl (Nat.le_of_ble_eq_true rfl))) ?_)
        refine ⟨trivial, ?_⟩
        refine dtake trivial (pg_ (u := .bool (decide (y29.until_ > y29.cap))) rfl (fun hg => (cp_ ⟨(fun _ => hg), (fun _ => hg), trivial⟩ rfl trivial)) ?_)
        refine ⟨trivial, ?_⟩
        refine dtake trivial (pick_ rfl rfl rfl trivial (fun h => eqf h) rfl ?_)
        refine ⟨trivial, ?_⟩
        refine dtake trivial (mv_ rfl trivial ?_)
        refine ⟨trivial, ?_⟩
        refine dtake trivial (pg_ (u := .ptr 256 3) rfl (fun hg => (cp_ ⟨trivial, trivial⟩ rfl trivial)) ?_)
        refine ⟨trivial, ?_⟩
        refine dtake trivial (pg_ (u := .bool y29.queued) rfl (fun hg => (cp_ ⟨(fun _ => hg), trivial⟩ rfl (Nat.le_of_ble_eq_true rfl))) ?_)
        refine ⟨trivial, ?_⟩
        refine dtake trivial (pg_ (u := .bool (!y29.queued)) rfl (fun hg => (cp_ ⟨(fun _ => hg), trivial⟩ rfl trivial)) ?_)
        refine ⟨trivial, ?_⟩
        refine dtake trivial (pg_ (u := .bool (!y29.queued)) rfl (fun hg => (cmv (v := .may ((bif (bif (bif (!r31) then true else (bif (decide (p16 > 0)) then (decide (y33.id ≥ y29.id)) else false)) then true else (decide (y29.until_ < 0))) then true else (decide (y29.until_ > y29.cap))) == false) (.bool (!y29.queued))) rfl (fun _ => hg))) ?_)
        refine ⟨trivial, ?_⟩
        refine dtake trivial (pg_ (u := .ptr 256 1) rfl (fun hg => (cp_ ⟨trivial, trivial⟩ rfl trivial)) ?_)
        refine ⟨trivial, ?_⟩
        refine dtake trivial (pg_ (u := .int .i64 y29.until_) rfl (fun hg => (cp_ ⟨(fun _ => hg), trivial⟩ rfl (Nat.le_of_ble_eq_true rfl))) ?_)
        refine ⟨trivial, ?_⟩
        refine dtake trivial (pg_ (u := .ptr 64 0) rfl (fun hg => (cp_ ⟨trivial, trivial⟩ rfl trivial)) ?_)
        refine ⟨trivial, ?_⟩
        refine dtake trivial (pg_ (u := .int .i64 a0.clock) rfl (fun hg => (cp_ ⟨(fun _ => hg), trivial⟩ rfl (Nat.le_of_ble_eq_true rfl))) ?_)
        refine ⟨trivial, ?_⟩
        refine dtake trivial (pg_ (u := .bool (decide (y29.until_ ≤ a0.clock))) rfl (fun hg => (cp_ ⟨(fun _ => hg), (fun _ => hg), trivial⟩ rfl trivial)) ?_)
        refine ⟨trivial, ?_⟩
        refine dtake trivial (pickg_ (u := .bool (bif (!y29.queued) then (decide (y29.until_ ≤ a0.clock)) else false)) rfl (fun hg => cpick rfl rfl (fun _ => hg) rfl rfl (fun h => and_ hg (eqt h)) trivial rfl) ?_)
        refine ⟨trivial, ?_⟩
        refine dtake trivial (pick_ rfl rfl rfl trivial (fun h => eqf h) rfl ?_)
        refine ⟨trivial, ?_⟩
        refine dfin ?_
        obtain ⟨v35, e36, h1⟩ := bl h1
        refine wk_ ⟨[(1, .ptr 64 0), (3, .int .i64 p16), (78, .bool v35)], [(64, [.int .i64 a0.clock, .int .i64 a0.next, .lst 4 (a0.list_.map eDLease)])]⟩ (fg ⟨(by subst e36; rfl), (by subst e36; rfl), (by subst e36; rfl), trivial⟩ ⟨(by subst e36; rfl), trivial⟩) ?_
        refine ite_ (cb := v35) rfl (fun c37 => ?_) (fun c37 => ?_)
        · replace h1 := ip c37 h1
          refine seq_ ?_
          refine reg_ ?_
          refine st (mvc_ trivial ?_)
          refine oe_ ?_
          refine wk_ ⟨[(2, .bool false)], []⟩ (fg ⟨rfl, trivial⟩ trivial) ?_
          obtain rfl := Option.some.inj h1
          obtain rfl := hx1 _ rfl
          obtain rfl := Option.some.inj h0
          exact rt_ (hR1 _ (ret_ rfl rfl rfl rfl rfl trivial))
        · replace h1 := inb c37 h1
          refine sk_ ?_
          refine bn_ ?_
          refine wk_ ⟨[(1, .ptr 64 0), (3, .int .i64 p16)], [(64, [.int .i64 a0.clock, .int .i64 a0.next, .lst 4 (a0.list_.map eDLease)])]⟩ (fg ⟨rfl, rfl, trivial⟩ ⟨rfl, trivial⟩) ?_
          refine reg_ ?_
          refine st (mv_ rfl trivial ?_)
          refine st (c_ (cp_ ⟨trivial, trivial, trivial⟩ rfl trivial) ?_)
          refine st (mv_ rfl trivial ?_)
          refine oe_ ?_
          obtain rfl := Option.some.inj h1
          exact hK1 _ rfl _ ⟨[(1, .ptr 64 0), (3, .int .i64 (IntKind.i64.wrap (p16 + 1)))], [(64, [.int .i64 a0.clock, .int .i64 a0.next, .lst 4 (a0.list_.map eDLease)])]⟩ (fg ⟨rfl, rfl, trivial⟩ ⟨rfl, trivial⟩) rfl
      · replace h1 := inb c28 h1
        obtain rfl := Option.some.inj h1
        obtain rfl := hx1 _ rfl
        refine exQ rfl ?_
        exact hE1 _ ⟨[], []⟩ (fg trivial trivial) ⟨rfl, rfl⟩

/- loop.example/g00149/spec.Due -/
def c22_r0 : List Ins := [⟨some 1, .box (.t 0), none⟩,
 ⟨some 2, .p (.mv (.c (.int .i64 0))), none⟩,
 ⟨some 3, .p (.mv (.c (.int .i64 0))), none⟩]
def c22_r1 : List Ins := [⟨some 6, .p (.load (.t 1) 3 true), none⟩,
 ⟨some 7, .call 18 [(.t 6)], none⟩,
 ⟨some 8, .p (.un .not (.t 7)), none⟩]
def c22_r2 : List Ins := [⟨some 2, .p (.mv (.c (.int .i64 0))), none⟩,
 ⟨some 3, .p (.mv (.c (.int .i64 1))), none⟩]
def c22_r3 : List Ins := [⟨some 4, .p (.mv (.c (.int .i64 (-1)))), none⟩]
def c22_r4 : List Ins := [⟨some 5, .p (.mv (.c (.int .i64 0))), none⟩]
def c22_r5 : List Ins := [⟨some 9, .p (.mv (.t 5)), none⟩,
 ⟨some 10, .p (.fieldA (.t 1) 2), none⟩,
 ⟨some 11, .p (.load (.t 10) 1 false), none⟩,
 ⟨some 12, .p (.len (.t 11)), none⟩,
 ⟨some 13, .p (.bin .lss (.t 9) (.t 12)), none⟩]
def c22_r6 : DP := (.take ⟨some 16, .p (.fieldA (.t 1) 2), none⟩
 (.take ⟨some 17, .p (.load (.t 16) 1 false), none⟩
 (.take ⟨some 18, .p (.mv (.t 5)), none⟩
 (.take ⟨some 19, .p (.idxA (.t 17) (.t 18) 4), none⟩
 (.take ⟨some 20, .p (.fieldA (.t 19) 3), none⟩
 (.take ⟨some 21, .p (.load (.t 20) 1 false), none⟩
 (.take ⟨some 22, .p (.un .not (.t 21)), none⟩
 (.take ⟨some 23, .p (.mv (.t 22)), none⟩
 (.take ⟨some 24, .p (.mv (.t 4)), some (23, true)⟩
 (.take ⟨some 25, .p (.bin .lss (.t 24) (.c (.int .i64 0))), some (23, true)⟩
 (.take ⟨some 26, .p (.mv (.t 25)), some (23, true)⟩
 (.take ⟨some 27, .p (.fieldA (.t 1) 2), some (26, false)⟩
 (.take ⟨some 28, .p (.load (.t 27) 1 false), some (26, false)⟩
 (.take ⟨some 29, .p (.mv (.t 5)), some (26, false)⟩
 (.take ⟨some 30, .p (.idxA (.t 28) (.t 29) 4), some (26, false)⟩
 (.take ⟨some 31, .p (.fieldA (.t 30) 1), some (26, false)⟩
 (.take ⟨some 32, .p (.load (.t 31) 1 false), some (26, false)⟩
 (.take ⟨some 33, .p (.fieldA (.t 1) 2), some (26, false)⟩
 (.take ⟨some 34, .p (.load (.t 33) 1 false), some (26, false)⟩
 (.take ⟨some 35, .p (.mv (.t 4)), some (26, false)⟩
 (.take ⟨some 36, .p (.idxA (.t 34) (.t 35) 4), some (26, false)⟩
 (.take ⟨some 37, .p (.fieldA (.t 36) 1), some (26, false)⟩
 (.take ⟨some 38, .p (.load (.t 37) 1 false), some (26, false)⟩
 (.take ⟨some 39, .p (.bin .lss (.t 32) (.t 38)), some (26, false)⟩
 (.take ⟨some 40, .pick (.t 26) (.c (.bool true)) (.t 39), some (23, true)⟩
 (.take ⟨some 41, .pick (.t 23) (.t 40) (.c (.bool false)), none⟩
 .fin))))))))))))))))))))))))))
def c22_r7 : List Ins := [⟨some 42, .p (.mv (.t 5)), none⟩,
 ⟨some 4, .p (.mv (.t 42)), none⟩]
def c22_r8 : List Ins := [⟨some 14, .p (.mv (.t 5)), none⟩,
 ⟨some 15, .p (.bin .add (.t 14) (.c (.int .i64 1))), none⟩,
 ⟨some 5, .p (.mv (.t 15)), none⟩]
def c22_l0 : IR := (.seq (.seq (.reg c22_r5) (.ite (.t 13) .skip (.exit 0))) (.seq (.block 1 (.seq (.draw c22_r6) (.ite (.t 41) (.reg c22_r7) .skip))) (.reg c22_r8)))
def c22_r9 : List Ins := [⟨some 43, .p (.mv (.t 4)), none⟩,
 ⟨some 44, .p (.bin .lss (.t 43) (.c (.int .i64 0))), none⟩]
def c22_r10 : List Ins := [⟨some 2, .p (.mv (.c (.int .i64 0))), none⟩,
 ⟨some 3, .p (.mv (.c (.int .i64 5))), none⟩]
def c22_r11 : List Ins := [⟨some 45, .p (.fieldA (.t 1) 2), none⟩,
 ⟨some 46, .p (.load (.t 45) 1 false), none⟩,
 ⟨some 47, .p (.mv (.t 4)), none⟩,
 ⟨some 48, .p (.idxA (.t 46) (.t 47) 4), none⟩,
 ⟨some 49, .p (.fieldA (.t 48) 0), none⟩,
 ⟨some 50, .p (.load (.t 49) 1 false), none⟩,
 ⟨some 2, .p (.mv (.t 50)), none⟩,
 ⟨some 3, .p (.mv (.c (.int .i64 0))), none⟩]
def c22 : XFn := { np := 1, nt := 51, res := [.t 2, .t 3], body := (.seq (.reg c22_r0) (.seq (.seq (.reg c22_r1) (.ite (.t 8) (.seq (.reg c22_r2) .ret) .skip)) (.seq (.reg c22_r3) (.seq (.seq (.reg c22_r4) (.block 0 (.loop c22_l0))) (.seq (.seq (.reg c22_r9) (.ite (.t 44) (.seq (.reg c22_r10) .ret) .skip)) (.seq (.reg c22_r11) .ret)))))) }
def K22 (C : CRel) : Prop := ∀ (a0 : DTable) (r : Int × Int), g22 a0 = some r → C 22 ⟨[.agg [.int .i64 a0.clock, .int .i64 a0.next, .lst 4 (a0.list_.map eDLease)]], []⟩ ⟨.tup [.int .i64 r.1, .int .i64 r.2], [], []⟩
theorem F22 {C : CRel} (H18 : K18 C) (a0 : DTable) (r : Int × Int) (h0 : g22 a0 = some r) : FnOK C c22 ⟨[.agg [.int .i64 a0.clock, .int .i64 a0.next, .lst 4 (a0.list_.map eDLease)]], []⟩ ⟨.tup [.int .i64 r.1, .int .i64 r.2], [], []⟩ := by
  refine fn_ (Nat.le_of_ble_eq_true rfl) ?_
  refine seq_ ?_
  refine reg_ ?_
  refine st (box_ rfl trivial rfl ?_)
  refine st (mvc_ trivial ?_)
  refine st (mvc_ trivial ?_)
  refine oe_ ?_
  refine wk_ ⟨[(1, .ptr 64 0)], [(64, [.int .i64 a0.clock, .int .i64 a0.next, .lst 4 (a0.list_.map eDLease)])]⟩ (fg ⟨rfl, trivial⟩ ⟨rfl, trivial⟩) ?_
  refine seq_ ?_
  refine seq_ ?_
  refine reg_ ?_
  refine st (c_ (v := .agg [.int .i64 a0.clock, .int .i64 a0.next, .lst 4 (a0.list_.map eDLease)]) (cp_ ⟨trivial, trivial⟩ rfl (Nat.le_of_ble_eq_true rfl)) ?_)
  obtain ⟨r1, e2, h0⟩ := bnd h0
  refine st (call0_ (r := .bool r1) false (H18 a0 r1 e2) ⟨trivial, trivial⟩ rfl rfl (fun _ => rfl) ?_)
  refine st (c_ (cp_ ⟨trivial, trivial⟩ rfl trivial) ?_)
  refine oe_ ?_
  refine wk_ ⟨[(1, .ptr 64 0), (8, .bool (!r1))], [(64, [.int .i64 a0.clock, .int .i64 a0.next, .lst 4 (a0.list_.map eDLease)])]⟩ (fg ⟨rfl, rfl, trivial⟩ ⟨rfl, trivial⟩) ?_
  refine ite_ (cb := (!r1)) rfl (fun c3 => ?_) (fun c3 => ?_)
  · replace h0 := ip c3 h0
    refine seq_ ?_
    refine reg_ ?_
    refine st (mvc_ trivial ?_)
    refine st (mvc_ trivial ?_)
    refine oe_ ?_
    refine wk_ ⟨[(2, .int .i64 0), (3, .int .i64 1)], []⟩ (fg ⟨rfl, rfl, trivial⟩ trivial) ?_
    obtain rfl := Option.some.inj h0
    exact rt_ (ret_ rfl rfl rfl rfl rfl trivial)
  · replace h0 := inb c3 h0
    refine sk_ ?_
    refine wk_ ⟨[(1, .ptr 64 0)], [(64, [.int .i64 a0.clock, .int .i64 a0.next, .lst 4 (a0.list_.map eDLease)])]⟩ (fg ⟨rfl, trivial⟩ ⟨rfl, trivial⟩) ?_
    refine seq_ ?_
    refine reg_ ?_
    refine st (mvc_ trivial ?_)
    refine oe_ ?_
    refine wk_ ⟨[(1, .ptr 64 0), (4, .int .i64 (-1))], [(64, [.int .i64 a0.clock, .int .i64 a0.next, .lst 4 (a0.list_.map eDLease)])]⟩ (fg ⟨rfl, rfl, trivial⟩ ⟨rfl, trivial⟩) ?_
    refine seq_ ?_
    refine seq_ ?_
    refine reg_ ?_
    refine st (mvc_ trivial ?_)
    refine oe_ ?_
    refine wk_ ⟨[(1, .ptr 64 0), (4, .int .i64 (-1)), (5, .int .i64 0)], [(64, [.int .i64 a0.clock, .int .i64 a0.next, .lst 4 (a0.list_.map eDLease)])]⟩ (fg ⟨rfl, rfl, rfl, trivial⟩ ⟨rfl, trivial⟩) ?_
    refine block_ ?_
    obtain ⟨r52, e53, h0⟩ := bnd h0
    refine loop_ (R := (fun S => ∃ p30 : Int, p30 = r52 ∧ S = ⟨[(1, .ptr 64 0), (4, .int .i64 p30)], [(64, [.int .i64 a0.clock, .int .i64 a0.next, .lst 4 (a0.list_.map eDLease)])]⟩)) (g22_l0 a0) (fun s S => match s with | (p15, p16) => S = ⟨[(1, .ptr 64 0), (4, .int .i64 p15), (5, .int .i64 p16)], [(64, [.int .i64 a0.clock, .int .i64 a0.next, .lst 4 (a0.list_.map eDLease)])]⟩) e53 ⟨[(1, .ptr 64 0), (4, .int .i64 (-1)), (5, .int .i64 0)], [(64, [.int .i64 a0.clock, .int .i64 a0.next, .lst 4 (a0.list_.map eDLease)])]⟩ (fg ⟨rfl, rfl, rfl, trivial⟩ ⟨rfl, trivial⟩) rfl 0 (fun _ => rfl) ?_ ?_
    · rintro S _ hfg ⟨p30, rfl, rfl⟩
      refine wk_ ⟨[(1, .ptr 64 0), (4, .int .i64 p30)], [(64, [.int .i64 a0.clock, .int .i64 a0.next, .lst 4 (a0.list_.map eDLease)])]⟩ (fgl hfg ⟨rfl, rfl, trivial⟩ ⟨rfl, trivial⟩) ?_
      refine seq_ ?_
      refine seq_ ?_
      refine reg_ ?_
      refine st (mv_ rfl trivial ?_)
      refine st (c_ (cp_ ⟨trivial, trivial, trivial⟩ rfl trivial) ?_)
      refine oe_ ?_
      refine wk_ ⟨[(1, .ptr 64 0), (4, .int .i64 p30), (44, .bool (decide (p30 < 0)))], [(64, [.int .i64 a0.clock, .int .i64 a0.next, .lst 4 (a0.list_.map eDLease)])]⟩ (fg ⟨rfl, rfl, rfl, trivial⟩ ⟨rfl, trivial⟩) ?_
      refine ite_ (cb := (decide (p30 < 0))) rfl (fun c54 => ?_) (fun c54 => ?_)
      · replace h0 := ip c54 h0
        refine seq_ ?_
        refine reg_ ?_
        refine st (mvc_ trivial ?_)
        refine st (mvc_ trivial ?_)
        refine oe_ ?_
        refine wk_ ⟨[(2, .int .i64 0), (3, .int .i64 5)], []⟩ (fg ⟨rfl, rfl, trivial⟩ trivial) ?_
        obtain rfl := Option.some.inj h0
        exact rt_ (ret_ rfl rfl rfl rfl rfl trivial)
      · replace h0 := inb c54 h0
        refine sk_ ?_
        refine wk_ ⟨[(1, .ptr 64 0), (4, .int .i64 p30)], [(64, [.int .i64 a0.clock, .int .i64 a0.next, .lst 4 (a0.list_.map eDLease)])]⟩ (fg ⟨rfl, rfl, trivial⟩ ⟨rfl, trivial⟩) ?_
        refine seq_ ?_
        refine reg_ ?_
        refine st (c_ (cp_ ⟨trivial, trivial⟩ rfl trivial) ?_)
        refine st (c_ (cp_ ⟨trivial, trivial⟩ rfl (Nat.le_of_ble_eq_true rfl)) ?_)
        refine st (mv_ rfl trivial ?_)
        obtain ⟨y55, e56, h0⟩ := bnd h0
        refine st (c_ (cidxL (e := eDLease) (y := y55) rfl rfl trivial rfl rfl trivial e56) ?_)
        refine st (c_ (cp_ ⟨trivial, trivial⟩ rfl (Nat.le_of_ble_eq_true rfl)) ?_)
        refine st (c_ (cp_ ⟨trivial, trivial⟩ rfl (Nat.le_of_ble_eq_true rfl)) ?_)
        refine st (mv_ rfl trivial ?_)
        refine st (mvc_ trivial ?_)
        refine oe_ ?_
        refine wk_ ⟨[(2, .int .i64 y55.id), (3, .int .i64 0)], []⟩ (fg ⟨rfl, rfl, trivial⟩ trivial) ?_
        obtain rfl := Option.some.inj h0
        exact rt_ (ret_ rfl rfl rfl rfl rfl trivial)
    · rintro ⟨p15, p16⟩ o1 _ K1 rfl h1 hx1 hK1 hE1 hR1
      refine seq_ ?_
      refine seq_ ?_
      refine reg_ ?_
      refine st (mv_ rfl trivial ?_)
      refine st (c_ (cp_ ⟨trivial, trivial⟩ rfl trivial) ?_)
      refine st (c_ (cp_ ⟨trivial, trivial⟩ rfl (Nat.le_of_ble_eq_true rfl)) ?_)
      refine st (c_ (clenL (e := eDLease) (l0 := a0.list_) rfl rfl trivial) ?_)
      refine st (c_ (cp_ ⟨trivial, trivial, trivial⟩ rfl trivial) ?_)
      refine oe_ ?_
      refine wk_ ⟨[(1, .ptr 64 0), (4, .int .i64 p15), (5, .int .i64 p16), (13, .bool (decide (p16 < (a0.list_.length : Int))))], [(64, [.int .i64 a0.clock, .int .i64 a0.next, .lst 4 (a0.list_.map eDLease)])]⟩ (fg ⟨rfl, rfl, rfl, rfl, trivial⟩ ⟨rfl, trivial⟩) ?_
      refine ite_ (cb := (decide (p16 < (a0.list_.length : Int)))) rfl (fun c31 => ?_) (fun c31 => ?_)
      · replace h1 := ip c31 h1
        refine sk_ ?_
        refine wk_ ⟨[(1, .ptr 64 0), (4, .int .i64 p15), (5, .int .i64 p16)], [(64, [.int .i64 a0.clock, .int .i64 a0.next, .lst 4 (a0.list_.map eDLease)])]⟩ (fg ⟨rfl, rfl, rfl, trivial⟩ ⟨rfl, trivial⟩) ?_
        refine seq_ ?_
        refine blockJ (fun S => ∃ p41 : Int, S = ⟨[(1, .ptr 64 0), (4, .int .i64 p41), (5, .int .i64 p16)], [(64, [.int .i64 a0.clock, .int .i64 a0.next, .lst 4 (a0.list_.map eDLease)])]⟩ ∧ g22_j0 p16 p41 = some o1) ?_ (fun J42 => ?_)
        · rintro _ ⟨p41, rfl, h1⟩
          refine wk_ ⟨[(1, .ptr 64 0), (4, .int .i64 p41), (5, .int .i64 p16)], [(64, [.int .i64 a0.clock, .int .i64 a0.next, .lst 4 (a0.list_.map eDLease)])]⟩ (fg ⟨rfl, rfl, rfl, trivial⟩ ⟨rfl, trivial⟩) ?_
          refine reg_ ?_
          refine st (mv_ rfl trivial ?_)
          refine st (c_ (cp_ ⟨trivial, trivial, trivial⟩ rfl trivial) ?_)
          refine st (mv_ rfl trivial ?_)
          refine oe_ ?_
          obtain rfl := Option.some.inj h1
          exact hK1 _ rfl _ ⟨[(1, .ptr 64 0), (4, .int .i64 p41), (5, .int .i64 (IntKind.i64.wrap (p16 + 1)))], [(64, [.int .i64 a0.clock, .int .i64 a0.next, .lst 4 (a0.list_.map eDLease)])]⟩ (fg ⟨rfl, rfl, rfl, trivial⟩ ⟨rfl, trivial⟩) rfl
        · refine seq_ ?_
          obtain ⟨y43, e44, h1⟩ := bnd h1
          obtain ⟨y45, e46, h1⟩ := bnd h1
          obtain ⟨y47, e48, h1⟩ := bnd h1
          refine draw_ ?_
          refine dtake trivial (c_ (cp_ ⟨trivial, trivial⟩ rfl trivial) ?_)
          refine ⟨trivial, ?_⟩
          refine dtake trivial (c_ (cp_ ⟨trivial, trivial⟩ rfl (Nat.le_of_ble_eq_true rfl)) ?_)
          refine ⟨trivial, ?_⟩
          refine dtake trivial (mv_ rfl trivial ?_)
          refine ⟨trivial, ?_⟩
          refine dtake trivial (c_ (cidxL (e := eDLease) (y := y43) rfl rfl trivial rfl rfl trivial e44) ?_)
          refine ⟨trivial, ?_⟩
          refine dtake trivial (c_ (cp_ ⟨trivial, trivial⟩ rfl (Nat.le_of_ble_eq_true rfl)) ?_)
          refine ⟨trivial, ?_⟩
          refine dtake trivial (c_ (cp_ ⟨trivial, trivial⟩ rfl (Nat.le_of_ble_eq_true rfl)) ?_)
          refine ⟨trivial, ?_⟩
          refine dtake trivial (c_ (cp_ ⟨trivial, trivial⟩ rfl trivial) ?_)
          refine ⟨trivial, ?_⟩
          refine dtake trivial (mv_ rfl trivial ?_)
          refine ⟨trivial, ?_⟩
          refine dtake trivial (pg_ (u := .int .i64 p15) rfl (fun hg => (cmv (v := .int .i64 p15) rfl trivial)) ?_)
          refine ⟨trivial, ?_⟩
          refine dtake trivial (pg_ (u := .bool (decide (p15 < 0))) rfl (fun hg => (cp_ ⟨(fun _ => hg), trivial, trivial⟩ rfl trivial)) ?_)
          refine ⟨trivial, ?_⟩
          refine dtake trivial (pg_ (u := .bool (decide (p15 < 0))) rfl (fun hg => (cmv (v := .may ((!y43.queued) == true) (.bool (decide (p15 < 0)))) rfl (fun _ => hg))) ?_)
          refine ⟨trivial, ?_⟩
          refine dtake trivial (pg_ (u := .ptr 64 2) rfl (fun hg => (cp_ ⟨trivial, trivial⟩ rfl trivial)) ?_)
          refine ⟨trivial, ?_⟩
          refine dtake trivial (pg_ (u := .lst 4 (a0.list_.map eDLease)) rfl (fun hg => (cp_ ⟨(fun _ => hg), trivial⟩ rfl (Nat.le_of_ble_eq_true rfl))) ?_)
          refine ⟨trivial, ?_⟩
          refine dtake trivial (pg_ (u := .int .i64 p16) rfl (fun hg => (cmv (v := .int .i64 p16) rfl trivial)) ?_)
          refine ⟨trivial, ?_⟩
          refine dtake trivial (pg_ (u := .iptr [.int .i64 y45.id, .int .i64 y45.until_, .int .i64 y45.cap, .bool y45.queued]) rfl (fun hg => (cidxL (e := eDLease) (y := y45) rfl rfl (fun _ => hg) rfl rfl (fun _ => hg) (ip hg e46))) ?_)
          refine ⟨trivial, ?_⟩
          refine dtake trivial (pg_ (u := .iptr [.int .i64 y45.until_, .int .i64 y45.cap, .bool y45.queued]) rfl (fun hg => (cp_ ⟨(fun _ => hg), trivial⟩ rfl (Nat.le_of_ble_eq_true rfl))) ?_)
          refine ⟨trivial, ?_⟩
          refine dtake trivial (pg_ (u := .int .i64 y45.until_) rfl (fun hg => (cp_ ⟨(fun _ => hg), trivial⟩ rfl (Nat.le_of_ble_eq_true rfl))) ?_)
          refine ⟨trivial, ?_⟩
          refine dtake trivial (pg_ (u := .ptr 64 2) rfl (fun hg => (cp_ ⟨trivial, trivial⟩ rfl trivial)) ?_)
          refine ⟨trivial, ?_⟩
          refine dtake trivial (pg_ (u := .lst 4 (a0.list_.map eDLease)) rfl (fun hg => (cp_ ⟨(fun _ => hg), trivial⟩ rfl (Nat.le_of_ble_eq_true rfl))) ?_)
          refine ⟨trivial, ?_⟩
          refine dtake trivial (pg_ (u := .int .i64 p15) rfl (fun hg => (cmv (v := .int .i64 p15) rfl trivial)) ?_)
          refine ⟨trivial, ?_⟩
          refine dtake trivial (pg_ (u := .iptr [.int .i64 y47.id, .int .i64 y47.until_, .int .i64 y47.cap, .bool y47.queued]) rfl (fun hg => (cidxL (e := eDLease) (y := y47) rfl rfl (fun _ => hg) rfl rfl (fun _ => hg) (ip hg e48))) ?_)
          refine ⟨trivial, ?_⟩
          refine dtake trivial (pg_ (u := .iptr [.int .i64 y47.until_, .int .i64 y47.cap, .bool y47.queued]) rfl (fun hg => (cp_ ⟨(fun _ => hg), trivial⟩ rfl (Nat.le_of_ble_eq_true rfl))) ?_)
          refine ⟨trivial, ?_⟩
          refine dtake trivial (pg_ (u := .int .i64 y47.until_) rfl (fun hg => (cp_ ⟨(fun _ => hg), trivial⟩ rfl (Nat.le_of_ble_eq_true rfl))) ?_)
          refine ⟨trivial, ?_⟩
          refine dtake trivial (pg_ (u := .bool (decide (y45.until_ < y47.until_))) rfl (fun hg => (cp_ ⟨(fun _ => hg), (fun _ => hg), trivial⟩ rfl trivial)) ?_)
          refine ⟨trivial, ?_⟩
          refine dtake trivial (pickg_ (u := .bool (bif (decide (p15 < 0)) then true else (decide (y45.until_ < y47.until_)))) rfl (fun hg => cpick rfl rfl (fun _ => hg) rfl rfl trivial (fun h => and_ hg (eqf h)) rfl) ?_)
          refine ⟨trivial, ?_⟩
          refine dtake trivial (pick_ rfl rfl rfl (fun h => eqt h) trivial rfl ?_)
          refine ⟨trivial, ?_⟩
          refine dfin ?_
          obtain ⟨v49, e50, h1⟩ := bl h1
          refine wk_ ⟨[(1, .ptr 64 0), (4, .int .i64 p15), (5, .int .i64 p16), (41, .bool v49)], [(64, [.int .i64 a0.clock, .int .i64 a0.next, .lst 4 (a0.list_.map eDLease)])]⟩ (fg ⟨(by subst e50; rfl), (by subst e50; rfl), (by subst e50; rfl), (by subst e50; rfl), trivial⟩ ⟨(by subst e50; rfl), trivial⟩) ?_
          refine ite_ (cb := v49) rfl (fun c51 => ?_) (fun c51 => ?_)
          · replace h1 := ip c51 h1
            refine reg_ ?_
            refine st (mv_ rfl trivial ?_)
            refine st (mv_ rfl trivial ?_)
            refine oe_ ?_
            refine bn_ ?_
            exact J42 _ ⟨[(1, .ptr 64 0), (4, .int .i64 p16), (5, .int .i64 p16)], [(64, [.int .i64 a0.clock, .int .i64 a0.next, .lst 4 (a0.list_.map eDLease)])]⟩ (fg ⟨rfl, rfl, rfl, trivial⟩ ⟨rfl, trivial⟩) ⟨_, rfl, h1⟩
          · replace h1 := inb c51 h1
            refine sk_ ?_
            refine bn_ ?_
            exact J42 _ ⟨[(1, .ptr 64 0), (4, .int .i64 p15), (5, .int .i64 p16)], [(64, [.int .i64 a0.clock, .int .i64 a0.next, .lst 4 (a0.list_.map eDLease)])]⟩ (fg ⟨rfl, rfl, rfl, trivial⟩ ⟨rfl, trivial⟩) ⟨_, rfl, h1⟩
      · replace h1 := inb c31 h1
        obtain rfl := Option.some.inj h1
        obtain rfl := hx1 _ rfl
        refine exQ rfl ?_
        exact hE1 _ ⟨[(1, .ptr 64 0), (4, .int .i64 p15)], [(64, [.int .i64 a0.clock, .int .i64 a0.next, .lst 4 (a0.list_.map eDLease)])]⟩ (fg ⟨rfl, rfl, trivial⟩ ⟨rfl, trivial⟩) ⟨_, rfl, rfl⟩

/- loop.example/g00149/impl.within -/
def c63_r0 : List Ins := [⟨some 6, .p (.mv (.c (.bool false))), none⟩]
def c63_r1 : List Ins := [⟨some 7, .p (.mv (.t 1)), none⟩,
 ⟨some 8, .p (.mv (.t 0)), none⟩,
 ⟨some 9, .p (.bin .leq (.t 7) (.t 8)), none⟩,
 ⟨some 10, .p (.mv (.t 9)), none⟩,
 ⟨some 11, .p (.mv (.t 0)), some (10, true)⟩,
 ⟨some 12, .p (.mv (.t 2)), some (10, true)⟩,
 ⟨some 13, .p (.bin .leq (.t 11) (.t 12)), some (10, true)⟩,
 ⟨some 14, .pick (.t 10) (.t 13) (.c (.bool false)), none⟩,
 ⟨some 6, .p (.mv (.t 14)), none⟩]
def c63 : XFn := { np := 3, nt := 15, res := [.t 6], body := (.seq (.reg c63_r0) (.seq (.reg c63_r1) .ret)) }
def K63 (C : CRel) : Prop := ∀ (a0 : Int) (a1 : Int) (a2 : Int) (r : Bool), g63 a0 a1 a2 = some r → C 63 ⟨[.int .i64 a0, .int .i64 a1, .int .i64 a2], []⟩ ⟨.bool r, [], []⟩
theorem F63 {C : CRel}  (a0 : Int) (a1 : Int) (a2 : Int) (r : Bool) (h0 : g63 a0 a1 a2 = some r) : FnOK C c63 ⟨[.int .i64 a0, .int .i64 a1, .int .i64 a2], []⟩ ⟨.bool r, [], []⟩ := by
  refine fn_ (Nat.le_of_ble_eq_true rfl) ?_
  refine seq_ ?_
  refine reg_ ?_
  refine st (mvc_ trivial ?_)
  refine oe_ ?_
  refine wk_ ⟨[(0, .int .i64 a0), (1, .int .i64 a1), (2, .int .i64 a2)], []⟩ (fg ⟨rfl, rfl, rfl, trivial⟩ trivial) ?_
  refine seq_ ?_
  refine reg_ ?_
  refine st (mv_ rfl trivial ?_)
  refine st (mv_ rfl trivial ?_)
  refine st (c_ (cp_ ⟨trivial, trivial, trivial⟩ rfl trivial) ?_)
  refine st (mv_ rfl trivial ?_)
  refine st (pg_ (u := .int .i64 a0) rfl (fun hg => (cmv (v := .int .i64 a0) rfl trivial)) ?_)
  refine st (pg_ (u := .int .i64 a2) rfl (fun hg => (cmv (v := .int .i64 a2) rfl trivial)) ?_)
  refine st (pg_ (u := .bool (decide (a0 ≤ a2))) rfl (fun hg => (cp_ ⟨(fun _ => hg), (fun _ => hg), trivial⟩ rfl trivial)) ?_)
  refine st (pick_ rfl rfl rfl (fun h => eqt h) trivial rfl ?_)
  refine st (mv_ rfl trivial ?_)
  refine oe_ ?_
  refine wk_ ⟨[(6, .bool (bif (decide (a1 ≤ a0)) then (decide (a0 ≤ a2)) else false))], []⟩ (fg ⟨rfl, trivial⟩ trivial) ?_
  obtain rfl := Option.some.inj h0
  exact rt_ (ret_ rfl rfl rfl rfl rfl trivial)

/- loop.example/g00149/impl.isSerial -/
def c58_r0 : List Ins := [⟨some 2, .p (.mv (.c (.bool false))), none⟩]
def c58_r1 : List Ins := [⟨some 3, .p (.mv (.t 0)), none⟩,
 ⟨some 4, .call 63 [(.t 3), (.c (.int .i64 1)), (.c (.int .i64 1000000))], none⟩,
 ⟨some 2, .p (.mv (.t 4)), none⟩]
def c58 : XFn := { np := 1, nt := 5, res := [.t 2], body := (.seq (.reg c58_r0) (.seq (.reg c58_r1) .ret)) }
def K58 (C : CRel) : Prop := ∀ (a0 : Int) (r : Bool), g58 a0 = some r → C 58 ⟨[.int .i64 a0], []⟩ ⟨.bool r, [], []⟩
theorem F58 {C : CRel} (H63 : K63 C) (a0 : Int) (r : Bool) (h0 : g58 a0 = some r) : FnOK C c58 ⟨[.int .i64 a0], []⟩ ⟨.bool r, [], []⟩ := by
  refine fn_ (Nat.le_of_ble_eq_true rfl) ?_
  refine seq_ ?_
  refine reg_ ?_
  refine st (mvc_ trivial ?_)
  refine oe_ ?_
  refine wk_ ⟨[(0, .int .i64 a0)], []⟩ (fg ⟨rfl, trivial⟩ trivial) ?_
  refine seq_ ?_
  refine reg_ ?_
  refine st (mv_ rfl trivial ?_)
  obtain ⟨r1, e2, h0⟩ := bnd h0
  refine st (call0_ (r := .bool r1) false (H63 a0 1 1000000 r1 e2) ⟨trivial, trivial, trivial, trivial⟩ rfl rfl (fun _ => rfl) ?_)
  refine st (mv_ rfl trivial ?_)
  refine oe_ ?_
  refine wk_ ⟨[(2, .bool r1)], []⟩ (fg ⟨rfl, trivial⟩ trivial) ?_
  obtain rfl := Option.some.inj h0
  exact rt_ (ret_ rfl rfl rfl rfl rfl trivial)

/- loop.example/g00149/impl.rises -/
def c59_r0 : List Ins := [⟨some 6, .p (.mv (.c (.bool false))), none⟩]
def c59_r1 : List Ins := [⟨some 9, .p (.mv (.t 0)), none⟩,
 ⟨some 10, .p (.len (.t 9)), none⟩,
 ⟨some 11, .p (.mv (.c (.int .i64 0))), none⟩]
def c59_r2 : List Ins := [⟨some 12, .p (.bin .lss (.t 11) (.t 10)), none⟩]
def c59_r3 : List Ins := [⟨some 13, .p (.mv (.t 11)), none⟩,
 ⟨some 14, .p (.idxA (.t 9) (.t 11) 1), none⟩,
 ⟨some 15, .p (.load (.t 14) 1 false), none⟩,
 ⟨some 7, .p (.mv (.t 13)), none⟩,
 ⟨some 8, .p (.mv (.t 15)), none⟩]
def c59_r4 : List Ins := [⟨some 16, .p (.mv (.t 8)), none⟩,
 ⟨some 17, .p (.mv (.t 1)), none⟩,
 ⟨some 18, .p (.mv (.t 2)), none⟩,
 ⟨some 19, .call 63 [(.t 16), (.t 17), (.t 18)], none⟩,
 ⟨some 20, .p (.un .not (.t 19)), none⟩,
 ⟨some 21, .p (.mv (.t 20)), none⟩,
 ⟨some 22, .p (.mv (.t 7)), some (21, false)⟩,
 ⟨some 23, .p (.bin .gtr (.t 22) (.c (.int .i64 0))), some (21, false)⟩,
 ⟨some 24, .p (.mv (.t 23)), some (21, false)⟩,
 ⟨some 25, .p (.mv (.t 0)), some (24, true)⟩,
 ⟨some 26, .p (.mv (.t 7)), some (24, true)⟩,
 ⟨some 27, .p (.bin .sub (.t 26) (.c (.int .i64 1))), some (24, true)⟩,
 ⟨some 28, .p (.idxA (.t 25) (.t 27) 1), some (24, true)⟩,
 ⟨some 29, .p (.load (.t 28) 1 false), some (24, true)⟩,
 ⟨some 30, .p (.mv (.t 8)), some (24, true)⟩,
 ⟨some 31, .p (.bin .geq (.t 29) (.t 30)), some (24, true)⟩,
 ⟨some 32, .pick (.t 24) (.t 31) (.c (.bool false)), some (21, false)⟩,
 ⟨some 33, .pick (.t 21) (.c (.bool true)) (.t 32), none⟩]
def c59_r5 : List Ins := [⟨some 6, .p (.mv (.c (.bool false))), none⟩]
def c59_r6 : List Ins := [⟨some 34, .p (.bin .add (.t 11) (.c (.int .i64 1))), none⟩,
 ⟨some 11, .p (.mv (.t 34)), none⟩]
def c59_l0 : IR := (.seq (.reg c59_r2) (.seq (.ite (.t 12) .skip (.exit 0)) (.seq (.block 1 (.seq (.reg c59_r3) (.seq (.reg c59_r4) (.ite (.t 33) (.seq (.reg c59_r5) .ret) .skip)))) (.reg c59_r6))))
def c59_r7 : List Ins := [⟨some 6, .p (.mv (.c (.bool true))), none⟩]
def c59 : XFn := { np := 3, nt := 35, res := [.t 6], body := (.seq (.reg c59_r0) (.seq (.seq (.reg c59_r1) (.block 0 (.loop c59_l0))) (.seq (.reg c59_r7) .ret))) }
def K59 (C : CRel) : Prop := ∀ (a0 : List Int) (a1 : Int) (a2 : Int) (r : Bool), g59 a0 a1 a2 = some r → C 59 ⟨[.lst 1 (a0.map eI), .int .i64 a1, .int .i64 a2], []⟩ ⟨.bool r, [], []⟩
theorem F59 {C : CRel} (H63 : K63 C) (a0 : List Int) (a1 : Int) (a2 : Int) (r : Bool) (h0 : g59 a0 a1 a2 = some r) : FnOK C c59 ⟨[.lst 1 (a0.map eI), .int .i64 a1, .int .i64 a2], []⟩ ⟨.bool r, [], []⟩ := by
  refine fn_ (Nat.le_of_ble_eq_true rfl) ?_
  refine seq_ ?_
  refine reg_ ?_
  refine st (mvc_ trivial ?_)
  refine oe_ ?_
  refine wk_ ⟨[(0, .lst 1 (a0.map eI)), (1, .int .i64 a1), (2, .int .i64 a2)], []⟩ (fg ⟨rfl, rfl, rfl, trivial⟩ trivial) ?_
  refine seq_ ?_
  refine seq_ ?_
  refine reg_ ?_
  refine st (mv_ rfl trivial ?_)
  refine st (c_ (clenL (e := eI) (l0 := a0) rfl rfl trivial) ?_)
  refine st (mvc_ trivial ?_)
  refine oe_ ?_
  refine wk_ ⟨[(0, .lst 1 (a0.map eI)), (1, .int .i64 a1), (2, .int .i64 a2), (9, .lst 1 (a0.map eI)), (10, .int .i64 (a0.length : Int)), (11, .int .i64 0)], []⟩ (fg ⟨rfl, rfl, rfl, rfl, rfl, rfl, trivial⟩ trivial) ?_
  refine block_ ?_
  obtain ⟨r33, e34, h0⟩ := bnd h0
  refine loop_ (R := (fun S => .inl () = r33 ∧ S = ⟨[], []⟩)) (g59_l0 a0 a1 a2) (fun s S => match s with | p11 => S = ⟨[(0, .lst 1 (a0.map eI)), (1, .int .i64 a1), (2, .int .i64 a2), (9, .lst 1 (a0.map eI)), (10, .int .i64 (a0.length : Int)), (11, .int .i64 p11)], []⟩) e34 ⟨[(0, .lst 1 (a0.map eI)), (1, .int .i64 a1), (2, .int .i64 a2), (9, .lst 1 (a0.map eI)), (10, .int .i64 (a0.length : Int)), (11, .int .i64 0)], []⟩ (fg ⟨rfl, rfl, rfl, rfl, rfl, rfl, trivial⟩ trivial) rfl 0 (fun _ => rfl) ?_ ?_
  · rintro S _ hfg ⟨rfl, rfl⟩
    refine wk_ ⟨[], []⟩ (fgl hfg trivial trivial) ?_
    refine seq_ ?_
    refine reg_ ?_
    refine st (mvc_ trivial ?_)
    refine oe_ ?_
    refine wk_ ⟨[(6, .bool true)], []⟩ (fg ⟨rfl, trivial⟩ trivial) ?_
    obtain rfl := Option.some.inj h0
    exact rt_ (ret_ rfl rfl rfl rfl rfl trivial)
  · rintro p11 o1 _ K1 rfl h1 hx1 hK1 hE1 hR1
    refine seq_ ?_
    refine reg_ ?_
    refine st (c_ (cp_ ⟨trivial, trivial, trivial⟩ rfl trivial) ?_)
    refine oe_ ?_
    refine wk_ ⟨[(0, .lst 1 (a0.map eI)), (1, .int .i64 a1), (2, .int .i64 a2), (9, .lst 1 (a0.map eI)), (10, .int .i64 (a0.length : Int)), (11, .int .i64 p11), (12, .bool (decide (p11 < (a0.length : Int))))], []⟩ (fg ⟨rfl, rfl, rfl, rfl, rfl, rfl, rfl, trivial⟩ trivial) ?_
    refine seq_ ?_
    refine ite_ (cb := (decide (p11 < (a0.length : Int)))) rfl (fun c23 => ?_) (fun c23 => ?_)
    · replace h1 := ip c23 h1
      refine sk_ ?_
      refine wk_ ⟨[(0, .lst 1 (a0.map eI)), (1, .int .i64 a1), (2, .int .i64 a2), (9, .lst 1 (a0.map eI)), (10, .int .i64 (a0.length : Int)), (11, .int .i64 p11)], []⟩ (fg ⟨rfl, rfl, rfl, rfl, rfl, rfl, trivial⟩ trivial) ?_
      refine seq_ ?_
      refine block_ ?_
      refine seq_ ?_
      refine reg_ ?_
      refine st (mv_ rfl trivial ?_)
      obtain ⟨y24, e25, h1⟩ := bnd h1
      refine st (c_ (cidxL (e := eI) (y := y24) rfl rfl trivial rfl rfl trivial e25) ?_)
      refine st (c_ (cp_ ⟨trivial, trivial⟩ rfl (Nat.le_of_ble_eq_true rfl)) ?_)
      refine st (mv_ rfl trivial ?_)
      refine st (mv_ rfl trivial ?_)
      refine oe_ ?_
      refine wk_ ⟨[(0, .lst 1 (a0.map eI)), (1, .int .i64 a1), (2, .int .i64 a2), (7, .int .i64 p11), (8, .int .i64 y24), (9, .lst 1 (a0.map eI)), (10, .int .i64 (a0.length : Int)), (11, .int .i64 p11)], []⟩ (fg ⟨rfl, rfl, rfl, rfl, rfl, rfl, rfl, rfl, trivial⟩ trivial) ?_
      refine seq_ ?_
      refine reg_ ?_
      refine st (mv_ rfl trivial ?_)
      refine st (mv_ rfl trivial ?_)
      refine st (mv_ rfl trivial ?_)
      obtain ⟨r26, e27, h1⟩ := bnd h1
      refine st (call0_ (r := .bool r26) false (H63 y24 a1 a2 r26 e27) ⟨trivial, trivial, trivial, trivial⟩ rfl rfl (fun _ => rfl) ?_)
      refine st (c_ (cp_ ⟨trivial, trivial⟩ rfl trivial) ?_)
      refine st (mv_ rfl trivial ?_)
      refine st (pg_ (u := .int .i64 p11) rfl (fun hg => (cmv (v := .int .i64 p11) rfl trivial)) ?_)
      refine st (pg_ (u := .bool (decide (p11 > 0))) rfl (fun hg => (cp_ ⟨(fun _ => hg), trivial, trivial⟩ rfl trivial)) ?_)
      refine st (pg_ (u := .bool (decide (p11 > 0))) rfl (fun hg => (cmv (v := .may ((!r26) == false) (.bool (decide (p11 > 0)))) rfl (fun _ => hg))) ?_)
      refine st (pg_ (u := .lst 1 (a0.map eI)) rfl (fun hg => (cmv (v := .lst 1 (a0.map eI)) rfl trivial)) ?_)
      refine st (pg_ (u := .int .i64 p11) rfl (fun hg => (cmv (v := .int .i64 p11) rfl trivial)) ?_)
      refine st (pg_ (u := .int .i64 (IntKind.i64.wrap (p11 - 1))) rfl (fun hg => (cp_ ⟨(fun _ => hg), trivial, trivial⟩ rfl trivial)) ?_)
      obtain ⟨y28, e29, h1⟩ := bnd h1
      refine st (pg_ (u := .iptr [.int .i64 y28]) rfl (fun hg => (cidxL (e := eI) (y := y28) rfl rfl (fun _ => hg) rfl rfl (fun _ => hg) (ip hg e29))) ?_)
      refine st (pg_ (u := .int .i64 y28) rfl (fun hg => (cp_ ⟨(fun _ => hg), trivial⟩ rfl (Nat.le_of_ble_eq_true rfl))) ?_)
      refine st (pg_ (u := .int .i64 y24) rfl (fun hg => (cmv (v := .int .i64 y24) rfl trivial)) ?_)
      refine st (pg_ (u := .bool (decide (y28 ≥ y24))) rfl (fun hg => (cp_ ⟨(fun _ => hg), (fun _ => hg), trivial⟩ rfl trivial)) ?_)
      refine st (pickg_ (u := .bool (bif (decide (p11 > 0)) then (decide (y28 ≥ y24)) else false)) rfl (fun hg => cpick rfl rfl (fun _ => hg) rfl rfl (fun h => and_ hg (eqt h)) trivial rfl) ?_)
      refine st (pick_ rfl rfl rfl trivial (fun h => eqf h) rfl ?_)
      refine oe_ ?_
      obtain ⟨v30, e31, h1⟩ := bl h1
      refine wk_ ⟨[(0, .lst 1 (a0.map eI)), (1, .int .i64 a1), (2, .int .i64 a2), (9, .lst 1 (a0.map eI)), (10, .int .i64 (a0.length : Int)), (11, .int .i64 p11), (33, .bool v30)], []⟩ (fg ⟨(by subst e31; rfl), (by subst e31; rfl), (by subst e31; rfl), (by subst e31; rfl), (by subst e31; rfl), (by subst e31; rfl), (by subst e31; rfl), trivial⟩ trivial) ?_
      refine ite_ (cb := v30) rfl (fun c32 => ?_) (fun c32 => ?_)
      · replace h1 := ip c32 h1
        refine seq_ ?_
        refine reg_ ?_
        refine st (mvc_ trivial ?_)
        refine oe_ ?_
        refine wk_ ⟨[(6, .bool false)], []⟩ (fg ⟨rfl, trivial⟩ trivial) ?_
        obtain rfl := Option.some.inj h1
        obtain rfl := hx1 _ rfl
        obtain rfl := Option.some.inj h0
        exact rt_ (hR1 _ (ret_ rfl rfl rfl rfl rfl trivial))
      · replace h1 := inb c32 h1
        refine sk_ ?_
        refine bn_ ?_
        refine wk_ ⟨[(0, .lst 1 (a0.map eI)), (1, .int .i64 a1), (2, .int .i64 a2), (9, .lst 1 (a0.map eI)), (10, .int .i64 (a0.length : Int)), (11, .int .i64 p11)], []⟩ (fg ⟨rfl, rfl, rfl, rfl, rfl, rfl, trivial⟩ trivial) ?_
        refine reg_ ?_
        refine st (c_ (cp_ ⟨trivial, trivial, trivial⟩ rfl trivial) ?_)
        refine st (mv_ rfl trivial ?_)
        refine oe_ ?_
        obtain rfl := Option.some.inj h1
        exact hK1 _ rfl _ ⟨[(0, .lst 1 (a0.map eI)), (1, .int .i64 a1), (2, .int .i64 a2), (9, .lst 1 (a0.map eI)), (10, .int .i64 (a0.length : Int)), (11, .int .i64 (IntKind.i64.wrap (p11 + 1)))], []⟩ (fg ⟨rfl, rfl, rfl, rfl, rfl, rfl, trivial⟩ trivial) rfl
    · replace h1 := inb c23 h1
      obtain rfl := Option.some.inj h1
      obtain rfl := hx1 _ rfl
      refine exQ rfl ?_
      exact hE1 _ ⟨[], []⟩ (fg trivial trivial) ⟨rfl, rfl⟩

/- (loop.example/g00149/impl.Table).ids -/
def c60_r0 : List Ins := [⟨some 1, .box (.t 0), none⟩,
 ⟨some 2, .nilS 1, none⟩]
def c60_r1 : List Ins := [⟨some 3, .nilS 1, none⟩]
def c60_r2 : List Ins := [⟨some 6, .p (.fieldA (.t 1) 2), none⟩,
 ⟨some 7, .p (.load (.t 6) 1 false), none⟩,
 ⟨some 8, .p (.len (.t 7)), none⟩,
 ⟨some 9, .p (.mv (.c (.int .i64 0))), none⟩]
def c60_r3 : List Ins := [⟨some 10, .p (.bin .lss (.t 9) (.t 8)), none⟩]
def c60_r4 : List Ins := [⟨some 11, .p (.idxA (.t 7) (.t 9) 4), none⟩,
 ⟨some 12, .p (.load (.t 11) 4 true), none⟩,
 ⟨some 5, .alloc [(.int .i64 0), (.int .i64 0), (.int .i64 0), (.bool false)], none⟩,
 ⟨none, .store (.t 5) (.t 12) 4, none⟩]
def c60_r5 : List Ins := [⟨some 13, .p (.mv (.t 3)), none⟩,
 ⟨some 14, .p (.fieldA (.t 5) 0), none⟩,
 ⟨some 15, .p (.load (.t 14) 1 false), none⟩,
 ⟨some 16, .mkS 1 [(.int .i64 0)] 1 [(0, (.t 15))], none⟩,
 ⟨some 17, .app 1 8 (.t 13) (.t 16), none⟩,
 ⟨some 3, .p (.mv (.t 17)), none⟩]
def c60_r6 : List Ins := [⟨some 18, .p (.bin .add (.t 9) (.c (.int .i64 1))), none⟩,
 ⟨some 9, .p (.mv (.t 18)), none⟩]
def c60_l0 : IR := (.seq (.reg c60_r3) (.seq (.ite (.t 10) .skip (.exit 0)) (.seq (.block 1 (.seq (.reg c60_r4) (.reg c60_r5))) (.reg c60_r6))))
def c60_r7 : List Ins := [⟨some 19, .p (.mv (.t 3)), none⟩,
 ⟨some 2, .p (.mv (.t 19)), none⟩]
def c60 : XFn := { np := 1, nt := 20, res := [.t 2], body := (.seq (.reg c60_r0) (.seq (.reg c60_r1) (.seq (.seq (.reg c60_r2) (.block 0 (.loop c60_l0))) (.seq (.reg c60_r7) .ret)))) }
def K60 (C : CRel) : Prop := ∀ (a0 : DTable) (r : (List Int)), g60 a0 = some r → C 60 ⟨[.agg [.int .i64 a0.clock, .int .i64 a0.next, .lst 4 (a0.list_.map eDLease)]], []⟩ ⟨.own 0 0 1 (r.map eI), [], []⟩
theorem F60 {C : CRel}  (a0 : DTable) (r : (List Int)) (h0 : g60 a0 = some r) : FnOK C c60 ⟨[.agg [.int .i64 a0.clock, .int .i64 a0.next, .lst 4 (a0.list_.map eDLease)]], []⟩ ⟨.own 0 0 1 (r.map eI), [], []⟩ := by
  refine fn_ (Nat.le_of_ble_eq_true rfl) ?_
  refine seq_ ?_
  refine reg_ ?_
  refine st (box_ rfl trivial rfl ?_)
  refine st (nilS_ ?_)
  refine oe_ ?_
  refine wk_ ⟨[(1, .ptr 64 0)], [(64, [.int .i64 a0.clock, .int .i64 a0.next, .lst 4 (a0.list_.map eDLease)])]⟩ (fg ⟨rfl, trivial⟩ ⟨rfl, trivial⟩) ?_
  refine seq_ ?_
  refine reg_ ?_
  refine st (nilS_ ?_)
  refine oe_ ?_
  refine wk_ ⟨[(1, .ptr 64 0), (3, .own 192 0 1 ([].map eI))], [(64, [.int .i64 a0.clock, .int .i64 a0.next, .lst 4 (a0.list_.map eDLease)])]⟩ (fg ⟨rfl, rfl, trivial⟩ ⟨rfl, trivial⟩) ?_
  refine seq_ ?_
  refine seq_ ?_
  refine reg_ ?_
  refine st (c_ (cp_ ⟨trivial, trivial⟩ rfl trivial) ?_)
  refine st (c_ (cp_ ⟨trivial, trivial⟩ rfl (Nat.le_of_ble_eq_true rfl)) ?_)
  refine st (c_ (clenL (e := eDLease) (l0 := a0.list_) rfl rfl trivial) ?_)
  refine st (mvc_ trivial ?_)
  refine oe_ ?_
  refine wk_ ⟨[(3, .own 192 0 1 ([].map eI)), (7, .lst 4 (a0.list_.map eDLease)), (8, .int .i64 (a0.list_.length : Int)), (9, .int .i64 0)], []⟩ (fg ⟨rfl, rfl, rfl, rfl, trivial⟩ trivial) ?_
  refine block_ ?_
  obtain ⟨r18, e19, h0⟩ := bnd h0
  refine loop_ (R := (fun S => ∃ p13 : List Int, p13 = r18 ∧ S = ⟨[(3, .own 192 0 1 (p13.map eI))], []⟩)) (g60_l0 a0) (fun s S => match s with | (p5, p6) => S = ⟨[(3, .own 192 0 1 (p5.map eI)), (7, .lst 4 (a0.list_.map eDLease)), (8, .int .i64 (a0.list_.length : Int)), (9, .int .i64 p6)], []⟩) e19 ⟨[(3, .own 192 0 1 ([].map eI)), (7, .lst 4 (a0.list_.map eDLease)), (8, .int .i64 (a0.list_.length : Int)), (9, .int .i64 0)], []⟩ (fg ⟨rfl, rfl, rfl, rfl, trivial⟩ trivial) rfl 0 (fun _ => rfl) ?_ ?_
  · rintro S _ hfg ⟨p13, rfl, rfl⟩
    refine wk_ ⟨[(3, .own 192 0 1 (p13.map eI))], []⟩ (fgl hfg ⟨rfl, trivial⟩ trivial) ?_
    refine seq_ ?_
    refine reg_ ?_
    refine st (mv_ rfl trivial ?_)
    refine st (mv_ rfl trivial ?_)
    refine oe_ ?_
    refine wk_ ⟨[(2, .own 192 0 1 (p13.map eI))], []⟩ (fg ⟨rfl, trivial⟩ trivial) ?_
    obtain rfl := Option.some.inj h0
    exact rt_ (ret_ rfl rfl rfl rfl rfl trivial)
  · rintro ⟨p5, p6⟩ o1 _ K1 rfl h1 hx1 hK1 hE1 hR1
    refine seq_ ?_
    refine reg_ ?_
    refine st (c_ (cp_ ⟨trivial, trivial, trivial⟩ rfl trivial) ?_)
    refine oe_ ?_
    refine wk_ ⟨[(3, .own 192 0 1 (p5.map eI)), (7, .lst 4 (a0.list_.map eDLease)), (8, .int .i64 (a0.list_.length : Int)), (9, .int .i64 p6), (10, .bool (decide (p6 < (a0.list_.length : Int))))], []⟩ (fg ⟨rfl, rfl, rfl, rfl, rfl, trivial⟩ trivial) ?_
    refine seq_ ?_
    refine ite_ (cb := (decide (p6 < (a0.list_.length : Int)))) rfl (fun c14 => ?_) (fun c14 => ?_)
    · replace h1 := ip c14 h1
      refine sk_ ?_
      refine wk_ ⟨[(3, .own 192 0 1 (p5.map eI)), (7, .lst 4 (a0.list_.map eDLease)), (8, .int .i64 (a0.list_.length : Int)), (9, .int .i64 p6)], []⟩ (fg ⟨rfl, rfl, rfl, rfl, trivial⟩ trivial) ?_
      refine seq_ ?_
      refine block_ ?_
      refine seq_ ?_
      refine reg_ ?_
      obtain ⟨y15, e16, h1⟩ := bnd h1
      refine st (c_ (cidxL (e := eDLease) (y := y15) rfl rfl trivial rfl rfl trivial e16) ?_)
      refine st (c_ (v := .agg [.int .i64 y15.id, .int .i64 y15.until_, .int .i64 y15.cap, .bool y15.queued]) (cp_ ⟨trivial, trivial⟩ rfl (Nat.le_of_ble_eq_true rfl)) ?_)
      refine st (alloc_ ?_)
      refine st (stp_ rfl rfl trivial rfl rfl rfl (Nat.le_of_ble_eq_true rfl) ?_)
      refine oe_ ?_
      refine wk_ ⟨[(3, .own 192 0 1 (p5.map eI)), (5, .ptr 320 0), (7, .lst 4 (a0.list_.map eDLease)), (8, .int .i64 (a0.list_.length : Int)), (9, .int .i64 p6)], [(320, [.int .i64 y15.id, .int .i64 y15.until_, .int .i64 y15.cap, .bool y15.queued])]⟩ (fg ⟨rfl, rfl, rfl, rfl, rfl, trivial⟩ ⟨rfl, trivial⟩) ?_
      refine reg_ ?_
      refine st (mv_ rfl trivial ?_)
      refine st (c_ (cp_ ⟨trivial, trivial⟩ rfl trivial) ?_)
      refine st (c_ (cp_ ⟨trivial, trivial⟩ rfl (Nat.le_of_ble_eq_true rfl)) ?_)
      refine st (mkS_ ⟨trivial, trivial⟩ ⟨⟨Nat.le_of_ble_eq_true rfl, rfl, rfl⟩, trivial⟩ ?_)
      obtain ⟨c17, h1⟩ := grd h1
      refine st (app_ (e := eI) (l0 := p5) (l1 := ([y15.id] : List Int)) rfl rfl trivial rfl (by decide) c17 ?_)
      refine st (mv_ rfl trivial ?_)
      refine oe_ ?_
      refine bn_ ?_
      refine wk_ ⟨[(3, .own 192 0 1 ((p5 ++ ([y15.id] : List Int)).map eI)), (7, .lst 4 (a0.list_.map eDLease)), (8, .int .i64 (a0.list_.length : Int)), (9, .int .i64 p6)], []⟩ (fg ⟨rfl, rfl, rfl, rfl, trivial⟩ trivial) ?_
      refine reg_ ?_
      refine st (c_ (cp_ ⟨trivial, trivial, trivial⟩ rfl trivial) ?_)
      refine st (mv_ rfl trivial ?_)
      refine oe_ ?_
      obtain rfl := Option.some.inj h1
      exact hK1 _ rfl _ ⟨[(3, .own 192 0 1 ((p5 ++ ([y15.id] : List Int)).map eI)), (7, .lst 4 (a0.list_.map eDLease)), (8, .int .i64 (a0.list_.length : Int)), (9, .int .i64 (IntKind.i64.wrap (p6 + 1)))], []⟩ (fg ⟨rfl, rfl, rfl, rfl, trivial⟩ trivial) rfl
    · replace h1 := inb c14 h1
      obtain rfl := Option.some.inj h1
      obtain rfl := hx1 _ rfl
      refine exQ rfl ?_
      exact hE1 _ ⟨[(3, .own 192 0 1 (p5.map eI))], []⟩ (fg ⟨rfl, trivial⟩ trivial) ⟨_, rfl, rfl⟩

/- slices.IndexFunc[[]loop.example/g00149/impl.Lease,loop.example/g00149/impl.Lease] -/
def c108_r0 : List Ins := [⟨some 4, .p (.mv (.c (.int .i64 0))), none⟩]
def c108_r1 : List Ins := [⟨some 6, .p (.mv (.t 0)), none⟩,
 ⟨some 7, .p (.len (.t 6)), none⟩,
 ⟨some 8, .p (.mv (.c (.int .i64 0))), none⟩]
def c108_r2 : List Ins := [⟨some 9, .p (.bin .lss (.t 8) (.t 7)), none⟩]
def c108_r3 : List Ins := [⟨some 10, .p (.mv (.t 8)), none⟩,
 ⟨some 5, .p (.mv (.t 10)), none⟩]
def c108_r4 : List Ins := [⟨some 11, .p (.mv (.t 1)), none⟩,
 ⟨some 12, .p (.mv (.t 0)), none⟩,
 ⟨some 13, .p (.mv (.t 5)), none⟩,
 ⟨some 14, .p (.idxA (.t 12) (.t 13) 4), none⟩,
 ⟨some 15, .p (.load (.t 14) 4 true), none⟩,
 ⟨some 16, .callv (.t 11) [(.t 15)], none⟩]
def c108_r5 : List Ins := [⟨some 17, .p (.mv (.t 5)), none⟩,
 ⟨some 4, .p (.mv (.t 17)), none⟩]
def c108_r6 : List Ins := [⟨some 18, .p (.bin .add (.t 8) (.c (.int .i64 1))), none⟩,
 ⟨some 8, .p (.mv (.t 18)), none⟩]
def c108_l0 : IR := (.seq (.reg c108_r2) (.seq (.ite (.t 9) .skip (.exit 0)) (.seq (.block 1 (.seq (.reg c108_r3) (.seq (.reg c108_r4) (.ite (.t 16) (.seq (.reg c108_r5) .ret) .skip)))) (.reg c108_r6))))
def c108_r7 : List Ins := [⟨some 4, .p (.mv (.c (.int .i64 (-1)))), none⟩]
def c108 : XFn := { np := 2, nt := 19, res := [.t 4], body := (.seq (.reg c108_r0) (.seq (.seq (.reg c108_r1) (.block 0 (.loop c108_l0))) (.seq (.reg c108_r7) .ret))) }
def K108 (C : CRel) : Prop := ∀ (a0 : List DLease) (f1 : Nat) (k1 : List V) (is1 : DLease → Option Bool) (hs1 : Shut k1) (hf1 : ∀ (x0 : DLease) r, is1 x0 = some r → C f1 ⟨.agg [.int .i64 x0.id, .int .i64 x0.until_, .int .i64 x0.cap, .bool x0.queued] :: k1, []⟩ ⟨.bool r, [], []⟩) (r : Int), g108 a0 is1 = some r → C 108 ⟨[.lst 4 (a0.map eDLease), .clo f1 k1], []⟩ ⟨.int .i64 r, [], []⟩
theorem F108 {C : CRel}  (a0 : List DLease) (f1 : Nat) (k1 : List V) (is1 : DLease → Option Bool) (hs1 : Shut k1) (hf1 : ∀ (x0 : DLease) r, is1 x0 = some r → C f1 ⟨.agg [.int .i64 x0.id, .int .i64 x0.until_, .int .i64 x0.cap, .bool x0.queued] :: k1, []⟩ ⟨.bool r, [], []⟩) (r : Int) (h0 : g108 a0 is1 = some r) : FnOK C c108 ⟨[.lst 4 (a0.map eDLease), .clo f1 k1], []⟩ ⟨.int .i64 r, [], []⟩ := by
  refine fn_ (Nat.le_of_ble_eq_true rfl) ?_
  refine seq_ ?_
  refine reg_ ?_
  refine st (mvc_ trivial ?_)
  refine oe_ ?_
  refine wk_ ⟨[(0, .lst 4 (a0.map eDLease)), (1, .clo f1 k1)], []⟩ (fg ⟨rfl, rfl, trivial⟩ trivial) ?_
  refine seq_ ?_
  refine seq_ ?_
  refine reg_ ?_
  refine st (mv_ rfl trivial ?_)
  refine st (c_ (clenL (e := eDLease) (l0 := a0) rfl rfl trivial) ?_)
  refine st (mvc_ trivial ?_)
  refine oe_ ?_
  refine wk_ ⟨[(0, .lst 4 (a0.map eDLease)), (1, .clo f1 k1), (7, .int .i64 (a0.length : Int)), (8, .int .i64 0)], []⟩ (fg ⟨rfl, rfl, rfl, rfl, trivial⟩ trivial) ?_
  refine block_ ?_
  obtain ⟨r21, e22, h0⟩ := bnd h0
  refine loop_ (R := (fun S => .inl () = r21 ∧ S = ⟨[], []⟩)) (g108_l0 a0 is1) (fun s S => match s with | p7 => S = ⟨[(0, .lst 4 (a0.map eDLease)), (1, .clo f1 k1), (7, .int .i64 (a0.length : Int)), (8, .int .i64 p7)], []⟩) e22 ⟨[(0, .lst 4 (a0.map eDLease)), (1, .clo f1 k1), (7, .int .i64 (a0.length : Int)), (8, .int .i64 0)], []⟩ (fg ⟨rfl, rfl, rfl, rfl, trivial⟩ trivial) rfl 0 (fun _ => rfl) ?_ ?_
  · rintro S _ hfg ⟨rfl, rfl⟩
    refine wk_ ⟨[], []⟩ (fgl hfg trivial trivial) ?_
    refine seq_ ?_
    refine reg_ ?_
    refine st (mvc_ trivial ?_)
    refine oe_ ?_
    refine wk_ ⟨[(4, .int .i64 (-1))], []⟩ (fg ⟨rfl, trivial⟩ trivial) ?_
    obtain rfl := Option.some.inj h0
    exact rt_ (ret_ rfl rfl rfl rfl rfl trivial)
  · rintro p7 o1 _ K1 rfl h1 hx1 hK1 hE1 hR1
    refine seq_ ?_
    refine reg_ ?_
    refine st (c_ (cp_ ⟨trivial, trivial, trivial⟩ rfl trivial) ?_)
    refine oe_ ?_
    refine wk_ ⟨[(0, .lst 4 (a0.map eDLease)), (1, .clo f1 k1), (7, .int .i64 (a0.length : Int)), (8, .int .i64 p7), (9, .bool (decide (p7 < (a0.length : Int))))], []⟩ (fg ⟨rfl, rfl, rfl, rfl, rfl, trivial⟩ trivial) ?_
    refine seq_ ?_
    refine ite_ (cb := (decide (p7 < (a0.length : Int)))) rfl (fun c15 => ?_) (fun c15 => ?_)
    · replace h1 := ip c15 h1
      refine sk_ ?_
      refine wk_ ⟨[(0, .lst 4 (a0.map eDLease)), (1, .clo f1 k1), (7, .int .i64 (a0.length : Int)), (8, .int .i64 p7)], []⟩ (fg ⟨rfl, rfl, rfl, rfl, trivial⟩ trivial) ?_
      refine seq_ ?_
      refine block_ ?_
      refine seq_ ?_
      refine reg_ ?_
      refine st (mv_ rfl trivial ?_)
      refine st (mv_ rfl trivial ?_)
      refine oe_ ?_
      refine wk_ ⟨[(0, .lst 4 (a0.map eDLease)), (1, .clo f1 k1), (5, .int .i64 p7), (7, .int .i64 (a0.length : Int)), (8, .int .i64 p7)], []⟩ (fg ⟨rfl, rfl, rfl, rfl, rfl, trivial⟩ trivial) ?_
      refine seq_ ?_
      refine reg_ ?_
      refine st (mv_ rfl trivial ?_)
      refine st (mv_ rfl trivial ?_)
      refine st (mv_ rfl trivial ?_)
      obtain ⟨y16, e17, h1⟩ := bnd h1
      refine st (c_ (cidxL (e := eDLease) (y := y16) rfl rfl trivial rfl rfl trivial e17) ?_)
      refine st (c_ (v := .agg [.int .i64 y16.id, .int .i64 y16.until_, .int .i64 y16.cap, .bool y16.queued]) (cp_ ⟨trivial, trivial⟩ rfl (Nat.le_of_ble_eq_true rfl)) ?_)
      obtain ⟨r18, e19, h1⟩ := bnd h1
      refine st (callv0_ (r := .bool r18) rfl false (hf1 _ r18 e19) ⟨trivial, trivial⟩ (and_ rfl hs1.2.2.1) (mapc1 rfl (hs1.2.1 _ _ _ _ _)) (fun _ => rfl) ?_)
      refine oe_ ?_
      refine wk_ ⟨[(0, .lst 4 (a0.map eDLease)), (1, .clo f1 k1), (5, .int .i64 p7), (7, .int .i64 (a0.length : Int)), (8, .int .i64 p7), (16, .bool r18)], []⟩ (fg ⟨rfl, rfl, rfl, rfl, rfl, rfl, trivial⟩ trivial) ?_
      refine ite_ (cb := r18) rfl (fun c20 => ?_) (fun c20 => ?_)
      · replace h1 := ip c20 h1
        refine seq_ ?_
        refine reg_ ?_
        refine st (mv_ rfl trivial ?_)
        refine st (mv_ rfl trivial ?_)
        refine oe_ ?_
        refine wk_ ⟨[(4, .int .i64 p7)], []⟩ (fg ⟨rfl, trivial⟩ trivial) ?_
        obtain rfl := Option.some.inj h1
        obtain rfl := hx1 _ rfl
        obtain rfl := Option.some.inj h0
        exact rt_ (hR1 _ (ret_ rfl rfl rfl rfl rfl trivial))
      · replace h1 := inb c20 h1
        refine sk_ ?_
        refine bn_ ?_
        refine wk_ ⟨[(0, .lst 4 (a0.map eDLease)), (1, .clo f1 k1), (7, .int .i64 (a0.length : Int)), (8, .int .i64 p7)], []⟩ (fg ⟨rfl, rfl, rfl, rfl, trivial⟩ trivial) ?_
        refine reg_ ?_
        refine st (c_ (cp_ ⟨trivial, trivial, trivial⟩ rfl trivial) ?_)
        refine st (mv_ rfl trivial ?_)
        refine oe_ ?_
        obtain rfl := Option.some.inj h1
        exact hK1 _ rfl _ ⟨[(0, .lst 4 (a0.map eDLease)), (1, .clo f1 k1), (7, .int .i64 (a0.length : Int)), (8, .int .i64 (IntKind.i64.wrap (p7 + 1)))], []⟩ (fg ⟨rfl, rfl, rfl, rfl, trivial⟩ trivial) rfl
    · replace h1 := inb c15 h1
      obtain rfl := Option.some.inj h1
      obtain rfl := hx1 _ rfl
      refine exQ rfl ?_
      exact hE1 _ ⟨[], []⟩ (fg trivial trivial) ⟨rfl, rfl⟩

/- slices.ContainsFunc[[]loop.example/g00149/impl.Lease,loop.example/g00149/impl.Lease] -/
def c105_r0 : List Ins := [⟨some 4, .p (.mv (.c (.bool false))), none⟩]
def c105_r1 : List Ins := [⟨some 5, .p (.mv (.t 0)), none⟩,
 ⟨some 6, .p (.mv (.t 1)), none⟩,
 ⟨some 7, .call 108 [(.t 5), (.t 6)], none⟩,
 ⟨some 8, .p (.bin .geq (.t 7) (.c (.int .i64 0))), none⟩,
 ⟨some 4, .p (.mv (.t 8)), none⟩]
def c105 : XFn := { np := 2, nt := 9, res := [.t 4], body := (.seq (.reg c105_r0) (.seq (.reg c105_r1) .ret)) }
def K105 (C : CRel) : Prop := ∀ (a0 : List DLease) (f1 : Nat) (k1 : List V) (is1 : DLease → Option Bool) (hs1 : Shut k1) (hf1 : ∀ (x0 : DLease) r, is1 x0 = some r → C f1 ⟨.agg [.int .i64 x0.id, .int .i64 x0.until_, .int .i64 x0.cap, .bool x0.queued] :: k1, []⟩ ⟨.bool r, [], []⟩) (r : Bool), g105 a0 is1 = some r → C 105 ⟨[.lst 4 (a0.map eDLease), .clo f1 k1], []⟩ ⟨.bool r, [], []⟩
theorem F105 {C : CRel} (H108 : K108 C) (a0 : List DLease) (f1 : Nat) (k1 : List V) (is1 : DLease → Option Bool) (hs1 : Shut k1) (hf1 : ∀ (x0 : DLease) r, is1 x0 = some r → C f1 ⟨.agg [.int .i64 x0.id, .int .i64 x0.until_, .int .i64 x0.cap, .bool x0.queued] :: k1, []⟩ ⟨.bool r, [], []⟩) (r : Bool) (h0 : g105 a0 is1 = some r) : FnOK C c105 ⟨[.lst 4 (a0.map eDLease), .clo f1 k1], []⟩ ⟨.bool r, [], []⟩ := by
  refine fn_ (Nat.le_of_ble_eq_true rfl) ?_
  refine seq_ ?_
  refine reg_ ?_
  refine st (mvc_ trivial ?_)
  refine oe_ ?_
  refine wk_ ⟨[(0, .lst 4 (a0.map eDLease)), (1, .clo f1 k1)], []⟩ (fg ⟨rfl, rfl, trivial⟩ trivial) ?_
  refine seq_ ?_
  refine reg_ ?_
  refine st (mv_ rfl trivial ?_)
  refine st (mv_ rfl trivial ?_)
  obtain ⟨r1, e2, h0⟩ := bnd h0
  refine st (call0_ (r := .int .i64 r1) false (H108 a0 f1 k1 is1 hs1 hf1 r1 e2) ⟨trivial, trivial, trivial⟩ rfl (mapc1 rfl (mapc1 (clo_sh hs1) rfl)) (fun _ => rfl) ?_)
  refine st (c_ (cp_ ⟨trivial, trivial, trivial⟩ rfl trivial) ?_)
  refine st (mv_ rfl trivial ?_)
  refine oe_ ?_
  refine wk_ ⟨[(4, .bool (decide (r1 ≥ 0)))], []⟩ (fg ⟨rfl, trivial⟩ trivial) ?_
  obtain rfl := Option.some.inj h0
  exact rt_ (ret_ rfl rfl rfl rfl rfl trivial)

/- loop.example/g00149/impl.areAll[loop.example/g00149/impl.Lease]$1 -/
def c106_r0 : List Ins := [⟨some 2, .box (.t 0), none⟩,
 ⟨some 3, .p (.mv (.c (.bool false))), none⟩]
def c106_r1 : List Ins := [⟨some 4, .p (.load (.t 1) 1 false), none⟩,
 ⟨some 5, .p (.load (.t 2) 4 true), none⟩,
 ⟨some 6, .callv (.t 4) [(.t 5)], none⟩,
 ⟨some 7, .p (.un .not (.t 6)), none⟩,
 ⟨some 3, .p (.mv (.t 7)), none⟩]
def c106 : XFn := { np := 2, nt := 8, res := [.t 3], body := (.seq (.reg c106_r0) (.seq (.reg c106_r1) .ret)) }
def K106 (C : CRel) : Prop := ∀ (a0 : DLease) (f1 : Nat) (k1 : List V) (is1 : DLease → Option Bool) (hs1 : Shut k1) (hf1 : ∀ (x0 : DLease) r, is1 x0 = some r → C f1 ⟨.agg [.int .i64 x0.id, .int .i64 x0.until_, .int .i64 x0.cap, .bool x0.queued] :: k1, []⟩ ⟨.bool r, [], []⟩) (r : Bool), g106 a0 is1 = some r → C 106 ⟨[.agg [.int .i64 a0.id, .int .i64 a0.until_, .int .i64 a0.cap, .bool a0.queued], .iptr [.clo f1 k1]], []⟩ ⟨.bool r, [], []⟩
theorem F106 {C : CRel}  (a0 : DLease) (f1 : Nat) (k1 : List V) (is1 : DLease → Option Bool) (hs1 : Shut k1) (hf1 : ∀ (x0 : DLease) r, is1 x0 = some r → C f1 ⟨.agg [.int .i64 x0.id, .int .i64 x0.until_, .int .i64 x0.cap, .bool x0.queued] :: k1, []⟩ ⟨.bool r, [], []⟩) (r : Bool) (h0 : g106 a0 is1 = some r) : FnOK C c106 ⟨[.agg [.int .i64 a0.id, .int .i64 a0.until_, .int .i64 a0.cap, .bool a0.queued], .iptr [.clo f1 k1]], []⟩ ⟨.bool r, [], []⟩ := by
  refine fn_ (Nat.le_of_ble_eq_true rfl) ?_
  refine seq_ ?_
  refine reg_ ?_
  refine st (box_ rfl trivial rfl ?_)
  refine sw ⟨[(1, .iptr [.clo f1 k1]), (2, .ptr 128 0)], [(128, [.int .i64 a0.id, .int .i64 a0.until_, .int .i64 a0.cap, .bool a0.queued])]⟩ (fg ⟨rfl, rfl, trivial⟩ ⟨rfl, trivial⟩) (mvc_ trivial ?_)
  refine oe_ ?_
  refine wk_ ⟨[(1, .iptr [.clo f1 k1]), (2, .ptr 128 0)], [(128, [.int .i64 a0.id, .int .i64 a0.until_, .int .i64 a0.cap, .bool a0.queued])]⟩ (fg ⟨rfl, rfl, trivial⟩ ⟨rfl, trivial⟩) ?_
  refine seq_ ?_
  refine reg_ ?_
  refine st (c_ (cp_ ⟨trivial, trivial⟩ rfl (Nat.le_of_ble_eq_true rfl)) ?_)
  refine st (c_ (v := .agg [.int .i64 a0.id, .int .i64 a0.until_, .int .i64 a0.cap, .bool a0.queued]) (cp_ ⟨trivial, trivial⟩ rfl (Nat.le_of_ble_eq_true rfl)) ?_)
  obtain ⟨r1, e2, h0⟩ := bnd h0
  refine st (callv0_ (r := .bool r1) rfl false (hf1 _ r1 e2) ⟨trivial, trivial⟩ (and_ rfl hs1.2.2.1) (mapc1 rfl (hs1.2.1 _ _ _ _ _)) (fun _ => rfl) ?_)
  refine st (c_ (cp_ ⟨trivial, trivial⟩ rfl trivial) ?_)
  refine st (mv_ rfl trivial ?_)
  refine oe_ ?_
  refine wk_ ⟨[(3, .bool (!r1))], []⟩ (fg ⟨rfl, trivial⟩ trivial) ?_
  obtain rfl := Option.some.inj h0
  exact rt_ (ret_ rfl rfl rfl rfl rfl trivial)

/- loop.example/g00149/impl.areAll[loop.example/g00149/impl.Lease] -/
def c61_r0 : List Ins := [⟨some 3, .box (.t 1), none⟩,
 ⟨some 4, .p (.mv (.c (.bool false))), none⟩]
def c61_r1 : List Ins := [⟨some 5, .p (.mv (.t 0)), none⟩,
 ⟨some 6, .p (.fn 106 [(.t 3)]), none⟩,
 ⟨some 7, .call 105 [(.t 5), (.t 6)], none⟩,
 ⟨some 8, .p (.un .not (.t 7)), none⟩,
 ⟨some 4, .p (.mv (.t 8)), none⟩]
def c61 : XFn := { np := 2, nt := 9, res := [.t 4], body := (.seq (.reg c61_r0) (.seq (.reg c61_r1) .ret)) }
def K61 (C : CRel) : Prop := ∀ (a0 : List DLease) (f1 : Nat) (k1 : List V) (is1 : DLease → Option Bool) (hs1 : Shut k1) (hf1 : ∀ (x0 : DLease) r, is1 x0 = some r → C f1 ⟨.agg [.int .i64 x0.id, .int .i64 x0.until_, .int .i64 x0.cap, .bool x0.queued] :: k1, []⟩ ⟨.bool r, [], []⟩) (r : Bool), g61 a0 is1 = some r → C 61 ⟨[.lst 4 (a0.map eDLease), .clo f1 k1], []⟩ ⟨.bool r, [], []⟩
theorem F61 {C : CRel} (H105 : K105 C) (H106 : K106 C) (a0 : List DLease) (f1 : Nat) (k1 : List V) (is1 : DLease → Option Bool) (hs1 : Shut k1) (hf1 : ∀ (x0 : DLease) r, is1 x0 = some r → C f1 ⟨.agg [.int .i64 x0.id, .int .i64 x0.until_, .int .i64 x0.cap, .bool x0.queued] :: k1, []⟩ ⟨.bool r, [], []⟩) (r : Bool) (h0 : g61 a0 is1 = some r) : FnOK C c61 ⟨[.lst 4 (a0.map eDLease), .clo f1 k1], []⟩ ⟨.bool r, [], []⟩ := by
  refine fn_ (Nat.le_of_ble_eq_true rfl) ?_
  refine seq_ ?_
  refine reg_ ?_
  refine st (box_ (dr_sh hs1) trivial rfl ?_)
  refine sw ⟨[(0, .lst 4 (a0.map eDLease)), (3, .ptr 192 0)], [(192, [.clo f1 k1])]⟩ (fg ⟨rfl, rfl, trivial⟩ ⟨rfl, trivial⟩) (mvc_ trivial ?_)
  refine oe_ ?_
  refine wk_ ⟨[(0, .lst 4 (a0.map eDLease)), (3, .ptr 192 0)], [(192, [.clo f1 k1])]⟩ (fg ⟨rfl, rfl, trivial⟩ ⟨rfl, trivial⟩) ?_
  refine seq_ ?_
  refine reg_ ?_
  refine st (mv_ rfl trivial ?_)
  refine st (c_ (cp_ ⟨trivial, trivial⟩ rfl rfl) ?_)
  obtain ⟨r1, e2, h0⟩ := bnd h0
  refine st (call0_ (r := .bool r1) false (H105 a0 106 [.iptr [.clo f1 k1]] (fun z106_0 => g106 z106_0 is1) (⟨fun _ _ _ _ _ => rfl, fun _ _ _ _ _ => rfl, rfl, fun _ _ _ n => by cases n <;> rfl, fun _ => rfl⟩) (fun z106_0 r h => H106 z106_0 f1 k1 is1 hs1 hf1 r h) r1 e2) ⟨trivial, trivial, trivial⟩ rfl (mapc1 rfl (mapc1 (congrArg (fun z => V.clo 106 [.iptr [.clo f1 z]]) (hs1.2.2.2.1 _ _ _ _)) rfl)) (fun _ => rfl) ?_)
  refine st (c_ (cp_ ⟨trivial, trivial⟩ rfl trivial) ?_)
  refine st (mv_ rfl trivial ?_)
  refine oe_ ?_
  refine wk_ ⟨[(4, .bool (!r1))], []⟩ (fg ⟨rfl, trivial⟩ trivial) ?_
  obtain rfl := Option.some.inj h0
  exact rt_ (ret_ rfl rfl rfl rfl rfl trivial)

/- loop.example/g00149/impl.TableOK$1 -/
def c62_r0 : List Ins := [⟨some 2, .box (.t 0), none⟩,
 ⟨some 3, .p (.mv (.c (.bool false))), none⟩]
def c62_r1 : List Ins := [⟨some 4, .p (.fieldA (.t 2) 1), none⟩,
 ⟨some 5, .p (.load (.t 4) 1 false), none⟩,
 ⟨some 6, .p (.fieldA (.t 2) 2), none⟩,
 ⟨some 7, .p (.load (.t 6) 1 false), none⟩,
 ⟨some 8, .call 63 [(.t 5), (.c (.int .i64 0)), (.t 7)], none⟩,
 ⟨some 9, .p (.mv (.t 8)), none⟩,
 ⟨some 10, .p (.fieldA (.t 2) 3), some (9, true)⟩,
 ⟨some 11, .p (.load (.t 10) 1 false), some (9, true)⟩,
 ⟨some 12, .p (.mv (.t 11)), some (9, true)⟩,
 ⟨some 13, .p (.fieldA (.t 2) 1), some (12, false)⟩,
 ⟨some 14, .p (.load (.t 13) 1 false), some (12, false)⟩,
 ⟨some 15, .p (.fieldA (.t 1) 0), some (12, false)⟩,
 ⟨some 16, .p (.load (.t 15) 1 false), some (12, false)⟩,
 ⟨some 17, .p (.bin .gtr (.t 14) (.t 16)), some (12, false)⟩,
 ⟨some 18, .pick (.t 12) (.c (.bool true)) (.t 17), some (9, true)⟩,
 ⟨some 19, .pick (.t 9) (.t 18) (.c (.bool false)), none⟩,
 ⟨some 3, .p (.mv (.t 19)), none⟩]
def c62 : XFn := { np := 2, nt := 20, res := [.t 3], body := (.seq (.reg c62_r0) (.seq (.reg c62_r1) .ret)) }
def K62 (C : CRel) : Prop := ∀ (a0 : DLease) (a1 : DTable) (r : Bool), g62 a0 a1 = some r → C 62 ⟨[.agg [.int .i64 a0.id, .int .i64 a0.until_, .int .i64 a0.cap, .bool a0.queued], .iptr [.int .i64 a1.clock, .int .i64 a1.next, .lst 4 (a1.list_.map eDLease)]], []⟩ ⟨.bool r, [], []⟩
theorem F62 {C : CRel} (H63 : K63 C) (a0 : DLease) (a1 : DTable) (r : Bool) (h0 : g62 a0 a1 = some r) : FnOK C c62 ⟨[.agg [.int .i64 a0.id, .int .i64 a0.until_, .int .i64 a0.cap, .bool a0.queued], .iptr [.int .i64 a1.clock, .int .i64 a1.next, .lst 4 (a1.list_.map eDLease)]], []⟩ ⟨.bool r, [], []⟩ := by
  refine fn_ (Nat.le_of_ble_eq_true rfl) ?_
  refine seq_ ?_
  refine reg_ ?_
  refine st (box_ rfl trivial rfl ?_)
  refine st (mvc_ trivial ?_)
  refine oe_ ?_
  refine wk_ ⟨[(1, .iptr [.int .i64 a1.clock, .int .i64 a1.next, .lst 4 (a1.list_.map eDLease)]), (2, .ptr 128 0)], [(128, [.int .i64 a0.id, .int .i64 a0.until_, .int .i64 a0.cap, .bool a0.queued])]⟩ (fg ⟨rfl, rfl, trivial⟩ ⟨rfl, trivial⟩) ?_
  refine seq_ ?_
  refine reg_ ?_
  refine st (c_ (cp_ ⟨trivial, trivial⟩ rfl trivial) ?_)
  refine st (c_ (cp_ ⟨trivial, trivial⟩ rfl (Nat.le_of_ble_eq_true rfl)) ?_)
  refine st (c_ (cp_ ⟨trivial, trivial⟩ rfl trivial) ?_)
  refine st (c_ (cp_ ⟨trivial, trivial⟩ rfl (Nat.le_of_ble_eq_true rfl)) ?_)
  obtain ⟨r1, e2, h0⟩ := bnd h0
  refine st (call0_ (r := .bool r1) false (H63 a0.until_ 0 a0.cap r1 e2) ⟨trivial, trivial, trivial, trivial⟩ rfl rfl (fun _ => rfl) ?_)
  refine st (mv_ rfl trivial ?_)
  refine st (pg_ (u := .ptr 128 3) rfl (fun hg => (cp_ ⟨trivial, trivial⟩ rfl trivial)) ?_)
  refine st (pg_ (u := .bool a0.queued) rfl (fun hg => (cp_ ⟨(fun _ => hg), trivial⟩ rfl (Nat.le_of_ble_eq_true rfl))) ?_)
  refine st (pg_ (u := .bool a0.queued) rfl (fun hg => (cmv (v := .may (r1 == true) (.bool a0.queued)) rfl (fun _ => hg))) ?_)
  refine st (pg_ (u := .ptr 128 1) rfl (fun hg => (cp_ ⟨trivial, trivial⟩ rfl trivial)) ?_)
  refine st (pg_ (u := .int .i64 a0.until_) rfl (fun hg => (cp_ ⟨(fun _ => hg), trivial⟩ rfl (Nat.le_of_ble_eq_true rfl))) ?_)
  refine st (pg_ (u := .iptr [.int .i64 a1.clock, .int .i64 a1.next, .lst 4 (a1.list_.map eDLease)]) rfl (fun hg => (cp_ ⟨trivial, trivial⟩ rfl (Nat.le_of_ble_eq_true rfl))) ?_)
  refine st (pg_ (u := .int .i64 a1.clock) rfl (fun hg => (cp_ ⟨(fun _ => hg), trivial⟩ rfl (Nat.le_of_ble_eq_true rfl))) ?_)
  refine st (pg_ (u := .bool (decide (a0.until_ > a1.clock))) rfl (fun hg => (cp_ ⟨(fun _ => hg), (fun _ => hg), trivial⟩ rfl trivial)) ?_)
  refine st (pickg_ (u := .bool (bif a0.queued then true else (decide (a0.until_ > a1.clock)))) rfl (fun hg => cpick rfl rfl (fun _ => hg) rfl rfl trivial (fun h => and_ hg (eqf h)) rfl) ?_)
  refine st (pick_ rfl rfl rfl (fun h => eqt h) trivial rfl ?_)
  refine st (mv_ rfl trivial ?_)
  refine oe_ ?_
  obtain ⟨v3, e4, h0⟩ := bl h0
  refine wk_ ⟨[(3, .bool v3)], []⟩ (fg ⟨(by subst e4; rfl), trivial⟩ trivial) ?_
  obtain rfl := Option.some.inj h0
  exact rt_ (ret_ rfl rfl rfl rfl rfl trivial)

/- loop.example/g00149/impl.TableOK -/
def c20_r0 : List Ins := [⟨some 1, .box (.t 0), none⟩,
 ⟨some 2, .p (.mv (.c (.bool false))), none⟩]
def c20_r1 : DP := (.take ⟨some 3, .p (.fieldA (.t 1) 0), none⟩
 (.take ⟨some 4, .p (.load (.t 3) 1 false), none⟩
 (.take ⟨some 5, .p (.bin .geq (.t 4) (.c (.int .i64 0))), none⟩
 (.take ⟨some 6, .p (.mv (.t 5)), none⟩
 (.take ⟨some 7, .p (.fieldA (.t 1) 1), some (6, true)⟩
 (.take ⟨some 8, .p (.load (.t 7) 1 false), some (6, true)⟩
 (.alt [] ⟨some 9, .call 58 [(.t 8)], some (6, true)⟩
 (.take ⟨some 10, .pick (.t 6) (.t 9) (.c (.bool false)), none⟩
 (.take ⟨some 11, .p (.mv (.t 10)), none⟩
 (.take ⟨some 12, .p (.fieldA (.t 1) 2), some (11, true)⟩
 (.take ⟨some 13, .p (.load (.t 12) 1 false), some (11, true)⟩
 (.take ⟨some 14, .p (.len (.t 13)), some (11, true)⟩
 (.take ⟨some 15, .p (.bin .leq (.t 14) (.c (.int .i64 40))), some (11, true)⟩
 (.take ⟨some 16, .pick (.t 11) (.t 15) (.c (.bool false)), none⟩
 (.take ⟨some 17, .p (.mv (.t 16)), none⟩
 (.take ⟨some 18, .p (.load (.t 1) 3 true), some (17, true)⟩
 (.take ⟨some 20, .p (.fieldA (.t 1) 1), some (17, true)⟩
 (.take ⟨some 21, .p (.load (.t 20) 1 false), some (17, true)⟩
 (.take ⟨some 22, .p (.bin .sub (.t 21) (.c (.int .i64 1))), some (17, true)⟩
 (.alt [⟨some 22, .p (.bin .sub (.t 21) (.c (.int .i64 1))), some (17, true)⟩, ⟨some 21, .p (.load (.t 20) 1 false), some (17, true)⟩, ⟨some 20, .p (.fieldA (.t 1) 1), some (17, true)⟩] ⟨some 19, .call 60 [(.t 18)], some (17, true)⟩
 (.alt [] ⟨some 23, .call 59 [(.t 19), (.c (.int .i64 1)), (.t 22)], some (17, true)⟩
 (.take ⟨some 24, .pick (.t 17) (.t 23) (.c (.bool false)), none⟩
 (.take ⟨some 25, .p (.mv (.t 24)), none⟩
 (.take ⟨some 26, .p (.fieldA (.t 1) 2), some (25, true)⟩
 (.take ⟨some 27, .p (.load (.t 26) 1 false), some (25, true)⟩
 (.take ⟨some 28, .p (.fn 62 [(.t 1)]), some (25, true)⟩
 (.alt [] ⟨some 29, .call 61 [(.t 27), (.t 28)], some (25, true)⟩
 (.take ⟨some 30, .pick (.t 25) (.t 29) (.c (.bool false)), none⟩
 (.take ⟨some 2, .p (.mv (.t 30)), none⟩
 .fin))
 .stop))))))
 .stop)
 .stop)))))))))))))
 .stop)))))))
def c20 : XFn := { np := 1, nt := 31, res := [.t 2], body := (.seq (.reg c20_r0) (.seq (.draw c20_r1) .ret)) }
def K20 (C : CRel) : Prop := ∀ (a0 : DTable) (r : Bool), g20 a0 = some r → C 20 ⟨[.agg [.int .i64 a0.clock, .int .i64 a0.next, .lst 4 (a0.list_.map eDLease)]], []⟩ ⟨.bool r, [], []⟩
theorem F20 {C : CRel} (H58 : K58 C) (H59 : K59 C) (H60 : K60 C) (H61 : K61 C) (H62 : K62 C) (a0 : DTable) (r : Bool) (h0 : g20 a0 = some r) : FnOK C c20 ⟨[.agg [.int .i64 a0.clock, .int .i64 a0.next, .lst 4 (a0.list_.map eDLease)]], []⟩ ⟨.bool r, [], []⟩ := by
  refine fn_ (Nat.le_of_ble_eq_true rfl) ?_
  refine seq_ ?_
  refine reg_ ?_
  refine st (box_ rfl trivial rfl ?_)
  refine st (mvc_ trivial ?_)
  refine oe_ ?_
  refine wk_ ⟨[(1, .ptr 64 0)], [(64, [.int .i64 a0.clock, .int .i64 a0.next, .lst 4 (a0.list_.map eDLease)])]⟩ (fg ⟨rfl, trivial⟩ ⟨rfl, trivial⟩) ?_
  refine seq_ ?_
  obtain ⟨r1, e2, h0⟩ := bnd h0
  obtain ⟨r3, e4, h0⟩ := bnd h0
  obtain ⟨r5, e6, h0⟩ := bnd h0
  obtain ⟨r7, e8, h0⟩ := bnd h0
  refine draw_ ?_
  refine dtake trivial (c_ (cp_ ⟨trivial, trivial⟩ rfl trivial) ?_)
  refine ⟨trivial, ?_⟩
  refine dtake trivial (c_ (cp_ ⟨trivial, trivial⟩ rfl (Nat.le_of_ble_eq_true rfl)) ?_)
  refine ⟨trivial, ?_⟩
  refine dtake trivial (c_ (cp_ ⟨trivial, trivial, trivial⟩ rfl trivial) ?_)
  refine ⟨trivial, ?_⟩
  refine dtake trivial (mv_ rfl trivial ?_)
  refine ⟨trivial, ?_⟩
  refine dtake trivial (pg_ (u := .ptr 64 1) rfl (fun hg => (cp_ ⟨trivial, trivial⟩ rfl trivial)) ?_)
  refine ⟨trivial, ?_⟩
  refine dtake trivial (pg_ (u := .int .i64 a0.next) rfl (fun hg => (cp_ ⟨(fun _ => hg), trivial⟩ rfl (Nat.le_of_ble_eq_true rfl))) ?_)
  refine ⟨trivial, ?_⟩
  refine dalt (callg_ (r := .bool r1) rfl false (fun hg => H58 a0.next r1 (ip hg e2)) ⟨(fun hg => hg), trivial⟩ (fun _ => rfl) (fun _ => rfl) (fun _ => rfl) (fun h => nomatch h) ?_) dstop
  refine ⟨[], trivial, trivial, ?_⟩
  refine dtake trivial (pick_ rfl rfl rfl (fun h => eqt h) trivial rfl ?_)
  refine ⟨trivial, ?_⟩
  refine dtake trivial (mv_ rfl trivial ?_)
  refine ⟨trivial, ?_⟩
  refine dtake trivial (pg_ (u := .ptr 64 2) rfl (fun hg => (cp_ ⟨trivial, trivial⟩ rfl trivial)) ?_)
  refine ⟨trivial, ?_⟩
  refine dtake trivial (pg_ (u := .lst 4 (a0.list_.map eDLease)) rfl (fun hg => (cp_ ⟨(fun _ => hg), trivial⟩ rfl (Nat.le_of_ble_eq_true rfl))) ?_)
  refine ⟨trivial, ?_⟩
  refine dtake trivial (pg_ (u := .int .i64 (a0.list_.length : Int)) rfl (fun hg => (clenL (e := eDLease) (l0 := a0.list_) rfl rfl (fun _ => hg))) ?_)
  refine ⟨trivial, ?_⟩
  refine dtake trivial (pg_ (u := .bool (decide ((a0.list_.length : Int) ≤ 40))) rfl (fun hg => (cp_ ⟨(fun _ => hg), trivial, trivial⟩ rfl trivial)) ?_)
  refine ⟨trivial, ?_⟩
  refine dtake trivial (pick_ rfl rfl rfl (fun h => eqt h) trivial rfl ?_)
  refine ⟨trivial, ?_⟩
  refine dtake trivial (mv_ rfl trivial ?_)
  refine ⟨trivial, ?_⟩
  refine dtake trivial (pg_ (u := .agg [.int .i64 a0.clock, .int .i64 a0.next, .lst 4 (a0.list_.map eDLease)]) rfl (fun hg => (cp_ ⟨trivial, trivial⟩ rfl (Nat.le_of_ble_eq_true rfl))) ?_)
  refine ⟨trivial, ?_⟩
  refine dtake trivial (pg_ (u := .ptr 64 1) rfl (fun hg => (cp_ ⟨trivial, trivial⟩ rfl trivial)) ?_)
  refine ⟨trivial, ?_⟩
  refine dtake trivial (pg_ (u := .int .i64 a0.next) rfl (fun hg => (cp_ ⟨(fun _ => hg), trivial⟩ rfl (Nat.le_of_ble_eq_true rfl))) ?_)
  refine ⟨trivial, ?_⟩
  refine dtake trivial (pg_ (u := .int .i64 (IntKind.i64.wrap (a0.next - 1))) rfl (fun hg => (cp_ ⟨(fun _ => hg), trivial, trivial⟩ rfl trivial)) ?_)
  refine ⟨trivial, ?_⟩
  refine dalt (callg_ (r := .own 0 0 1 (r3.map eI)) rfl false (fun hg => H60 a0 r3 (ip hg e4)) ⟨(fun hg => hg), trivial⟩ (fun _ => rfl) (fun _ => rfl) (fun _ => (and_ (fl1 (fun _ => rfl)) rfl)) (fun h => nomatch h) ?_) dstop
  refine ⟨[], ⟨⟨.inl trivial, (againg (v := .int .i64 (IntKind.i64.wrap (a0.next - 1))) rfl (fun hg => (cp_ ⟨(fun _ => hg), trivial, trivial⟩ rfl trivial)) rfl)⟩, ⟨.inl trivial, (againg (v := .int .i64 a0.next) rfl (fun hg => (cp_ ⟨(fun _ => hg), trivial⟩ rfl (Nat.le_of_ble_eq_true rfl))) rfl)⟩, ⟨.inl trivial, (againg (v := .ptr 64 1) rfl (fun hg => (cp_ ⟨trivial, trivial⟩ rfl trivial)) rfl)⟩, trivial⟩, trivial, ?_⟩
  refine dalt (callg_ (r := .bool r5) rfl false (fun hg => H59 r3 1 (IntKind.i64.wrap (a0.next - 1)) r5 (ip hg e6)) ⟨(fun hg => hg), trivial, (fun hg => hg), trivial⟩ (fun _ => rfl) (fun _ => rfl) (fun _ => rfl) (fun h => nomatch h) ?_) dstop
  refine ⟨[], trivial, trivial, ?_⟩
  refine dtake trivial (pick_ rfl rfl rfl (fun h => eqt h) trivial rfl ?_)
  refine ⟨trivial, ?_⟩
  refine dtake trivial (mv_ rfl trivial ?_)
  refine ⟨trivial, ?_⟩
  refine dtake trivial (pg_ (u := .ptr 64 2) rfl (fun hg => (cp_ ⟨trivial, trivial⟩ rfl trivial)) ?_)
  refine ⟨trivial, ?_⟩
  refine dtake trivial (pg_ (u := .lst 4 (a0.list_.map eDLease)) rfl (fun hg => (cp_ ⟨(fun _ => hg), trivial⟩ rfl (Nat.le_of_ble_eq_true rfl))) ?_)
  refine ⟨trivial, ?_⟩
  refine dtake trivial (pg_ (u := .clo 62 [.ptr 64 0]) rfl (fun hg => (cp_ ⟨trivial, trivial⟩ rfl rfl)) ?_)
  refine ⟨trivial, ?_⟩
  refine dalt (callg_ (r := .bool r7) rfl false (fun hg => H61 a0.list_ 62 [.iptr [.int .i64 a0.clock, .int .i64 a0.next, .lst 4 (a0.list_.map eDLease)]] (fun z62_0 => g62 z62_0 a0) (⟨fun _ _ _ _ _ => rfl, fun _ _ _ _ _ => rfl, rfl, fun _ _ _ n => by cases n <;> rfl, fun _ => rfl⟩) (fun z62_0 r h => H62 z62_0 a0 r h) r7 (ip hg e8)) ⟨(fun hg => hg), (fun hg => hg), trivial⟩ (fun _ => rfl) (fun _ => rfl) (fun _ => rfl) (fun h => nomatch h) ?_) dstop
  refine ⟨[], trivial, trivial, ?_⟩
  refine dtake trivial (pick_ rfl rfl rfl (fun h => eqt h) trivial rfl ?_)
  refine ⟨trivial, ?_⟩
  refine dtake trivial (mv_ rfl trivial ?_)
  refine ⟨trivial, ?_⟩
  refine dfin ?_
  obtain ⟨v9, e10, h0⟩ := bl h0
  refine wk_ ⟨[(2, .bool v9)], []⟩ (fg ⟨(by subst e10; rfl), trivial⟩ trivial) ?_
  obtain rfl := Option.some.inj h0
  exact rt_ (ret_ rfl rfl rfl rfl rfl trivial)

/- slices.DeleteFunc[[]loop.example/g00149/impl.Lease,loop.example/g00149/impl.Lease] -/
def c65_r0 : List Ins := [⟨some 4, .nilS 4, none⟩]
def c65_r1 : List Ins := [⟨some 8, .p (.mv (.t 0)), none⟩,
 ⟨some 9, .p (.mv (.t 1)), none⟩,
 ⟨some 10, .call 108 [(.t 8), (.t 9)], none⟩,
 ⟨some 5, .p (.mv (.t 10)), none⟩]
def c65_r2 : List Ins := [⟨some 11, .p (.mv (.t 5)), none⟩,
 ⟨some 12, .p (.bin .eql (.t 11) (.c (.int .i64 (-1)))), none⟩]
def c65_r3 : List Ins := [⟨some 13, .p (.mv (.t 0)), none⟩,
 ⟨some 4, .p (.mv (.t 13)), none⟩]
def c65_r4 : List Ins := [⟨some 14, .p (.mv (.t 5)), none⟩,
 ⟨some 15, .p (.bin .add (.t 14) (.c (.int .i64 1))), none⟩,
 ⟨some 6, .p (.mv (.t 15)), none⟩]
def c65_r5 : List Ins := [⟨some 16, .p (.mv (.t 6)), none⟩,
 ⟨some 17, .p (.mv (.t 0)), none⟩,
 ⟨some 18, .p (.len (.t 17)), none⟩,
 ⟨some 19, .p (.bin .lss (.t 16) (.t 18)), none⟩]
def c65_r6 : List Ins := [⟨some 22, .p (.mv (.t 0)), none⟩,
 ⟨some 23, .p (.mv (.t 6)), none⟩,
 ⟨some 24, .p (.idxA (.t 22) (.t 23) 4), none⟩,
 ⟨some 25, .p (.load (.t 24) 4 true), none⟩,
 ⟨some 7, .alloc [(.int .i64 0), (.int .i64 0), (.int .i64 0), (.bool false)], none⟩,
 ⟨none, .store (.t 7) (.t 25) 4, none⟩]
def c65_r7 : List Ins := [⟨some 26, .p (.mv (.t 1)), none⟩,
 ⟨some 27, .p (.load (.t 7) 4 true), none⟩,
 ⟨some 28, .callv (.t 26) [(.t 27)], none⟩,
 ⟨some 29, .p (.un .not (.t 28)), none⟩]
def c65_r8 : List Ins := [⟨some 30, .p (.mv (.t 0)), none⟩,
 ⟨some 31, .p (.mv (.t 5)), none⟩,
 ⟨some 32, .p (.load (.t 7) 4 true), none⟩,
 ⟨some 33, .p (.idxA (.t 30) (.t 31) 4), none⟩,
 ⟨none, .store (.t 33) (.t 32) 4, none⟩]
def c65_r9 : List Ins := [⟨some 34, .p (.mv (.t 5)), none⟩,
 ⟨some 35, .p (.bin .add (.t 34) (.c (.int .i64 1))), none⟩,
 ⟨some 5, .p (.mv (.t 35)), none⟩]
def c65_r10 : List Ins := [⟨some 20, .p (.mv (.t 6)), none⟩,
 ⟨some 21, .p (.bin .add (.t 20) (.c (.int .i64 1))), none⟩,
 ⟨some 6, .p (.mv (.t 21)), none⟩]
def c65_l0 : IR := (.seq (.seq (.reg c65_r5) (.ite (.t 19) .skip (.exit 0))) (.seq (.block 1 (.seq (.reg c65_r6) (.seq (.reg c65_r7) (.ite (.t 29) (.seq (.reg c65_r8) (.reg c65_r9)) .skip)))) (.reg c65_r10)))
def c65_r11 : List Ins := [⟨some 36, .p (.mv (.t 0)), none⟩,
 ⟨some 37, .p (.mv (.t 5)), none⟩,
 ⟨some 38, .p (.slice (.t 36) (some (.t 37)) none 4), none⟩,
 ⟨none, .clear 4 [(.int .i64 0), (.int .i64 0), (.int .i64 0), (.bool false)] (.t 38), none⟩]
def c65_r12 : List Ins := [⟨some 39, .p (.mv (.t 0)), none⟩,
 ⟨some 40, .p (.mv (.t 5)), none⟩,
 ⟨some 41, .p (.slice (.t 39) none (some (.t 40)) 4), none⟩,
 ⟨some 4, .p (.mv (.t 41)), none⟩]
def c65 : XFn := { np := 2, nt := 42, res := [.t 4], body := (.seq (.reg c65_r0) (.seq (.reg c65_r1) (.seq (.seq (.reg c65_r2) (.ite (.t 12) (.seq (.reg c65_r3) .ret) .skip)) (.seq (.seq (.reg c65_r4) (.block 0 (.loop c65_l0))) (.seq (.reg c65_r11) (.seq (.reg c65_r12) .ret)))))) }
def K65 (C : CRel) : Prop := ∀ (a0 : List DLease) (f1 : Nat) (k1 : List V) (is1 : DLease → Option Bool) (hs1 : Shut k1) (hf1 : ∀ (x0 : DLease) r, is1 x0 = some r → C f1 ⟨.agg [.int .i64 x0.id, .int .i64 x0.until_, .int .i64 x0.cap, .bool x0.queued] :: k1, []⟩ ⟨.bool r, [], []⟩) (r : (List DLease)), g65 a0 is1 = some r → C 65 ⟨[.own 1024000 0 4 (a0.map eDLease), .clo f1 k1], []⟩ ⟨.own 0 0 4 (r.map eDLease), [], []⟩
theorem F65 {C : CRel} (H108 : K108 C) (a0 : List DLease) (f1 : Nat) (k1 : List V) (is1 : DLease → Option Bool) (hs1 : Shut k1) (hf1 : ∀ (x0 : DLease) r, is1 x0 = some r → C f1 ⟨.agg [.int .i64 x0.id, .int .i64 x0.until_, .int .i64 x0.cap, .bool x0.queued] :: k1, []⟩ ⟨.bool r, [], []⟩) (r : (List DLease)) (h0 : g65 a0 is1 = some r) : FnOK C c65 ⟨[.own 1024000 0 4 (a0.map eDLease), .clo f1 k1], []⟩ ⟨.own 0 0 4 (r.map eDLease), [], []⟩ := by
  refine fn_ (Nat.le_of_ble_eq_true rfl) ?_
  refine seq_ ?_
  refine reg_ ?_
  refine st (nilS_ ?_)
  refine oe_ ?_
  refine wk_ ⟨[(0, .own 1024000 0 4 (a0.map eDLease)), (1, .clo f1 k1)], []⟩ (fg ⟨rfl, (congrArg (fun z => some z) (dr_sh hs1)), trivial⟩ trivial) ?_
  refine seq_ ?_
  refine reg_ ?_
  refine st (mv_ rfl trivial ?_)
  refine st (mv_ rfl trivial ?_)
  obtain ⟨r1, e2, h0⟩ := bnd h0
  refine st (call0_ (r := .int .i64 r1) false (H108 a0 f1 k1 is1 hs1 hf1 r1 e2) ⟨trivial, trivial, trivial⟩ rfl (mapc1 rfl (mapc1 (clo_sh hs1) rfl)) (fun _ => rfl) ?_)
  refine st (mv_ rfl trivial ?_)
  refine oe_ ?_
  refine wk_ ⟨[(0, .own 1024000 0 4 (a0.map eDLease)), (1, .clo f1 k1), (5, .int .i64 r1)], []⟩ (fg ⟨rfl, rfl, rfl, trivial⟩ trivial) ?_
  refine seq_ ?_
  refine seq_ ?_
  refine reg_ ?_
  refine st (mv_ rfl trivial ?_)
  refine st (c_ (cp_ ⟨trivial, trivial, trivial⟩ rfl trivial) ?_)
  refine oe_ ?_
  refine wk_ ⟨[(0, .own 1024000 0 4 (a0.map eDLease)), (1, .clo f1 k1), (5, .int .i64 r1), (12, .bool (r1 == (-1)))], []⟩ (fg ⟨rfl, rfl, rfl, rfl, trivial⟩ trivial) ?_
  refine ite_ (cb := (r1 == (-1))) rfl (fun c3 => ?_) (fun c3 => ?_)
  · replace h0 := ip c3 h0
    refine seq_ ?_
    refine reg_ ?_
    refine st (mv_ rfl trivial ?_)
    refine st (mv_ rfl trivial ?_)
    refine oe_ ?_
    refine wk_ ⟨[(4, .own 1024000 0 4 (a0.map eDLease))], []⟩ (fg ⟨rfl, trivial⟩ trivial) ?_
    obtain rfl := Option.some.inj h0
    exact rt_ (ret_ rfl rfl rfl rfl rfl trivial)
  · replace h0 := inb c3 h0
    refine sk_ ?_
    refine wk_ ⟨[(0, .own 1024000 0 4 (a0.map eDLease)), (1, .clo f1 k1), (5, .int .i64 r1)], []⟩ (fg ⟨rfl, rfl, rfl, trivial⟩ trivial) ?_
    refine seq_ ?_
    refine seq_ ?_
    refine reg_ ?_
    refine st (mv_ rfl trivial ?_)
    refine st (c_ (cp_ ⟨trivial, trivial, trivial⟩ rfl trivial) ?_)
    refine st (mv_ rfl trivial ?_)
    refine oe_ ?_
    refine wk_ ⟨[(0, .own 1024000 0 4 (a0.map eDLease)), (1, .clo f1 k1), (5, .int .i64 r1), (6, .int .i64 (IntKind.i64.wrap (r1 + 1)))], []⟩ (fg ⟨rfl, rfl, rfl, rfl, trivial⟩ trivial) ?_
    refine block_ ?_
    obtain ⟨r66, e67, h0⟩ := bnd h0
    refine loop_ (R := (fun S => ∃ p38 : List DLease, ∃ p39 : Int, (p38, p39) = r66 ∧ S = ⟨[(0, .own 1024000 0 4 (p38.map eDLease)), (5, .int .i64 p39)], []⟩)) (g65_l0 is1) (fun s S => match s with | (p18, p19, p20) => S = ⟨[(0, .own 1024000 0 4 (p18.map eDLease)), (1, .clo f1 k1), (5, .int .i64 p19), (6, .int .i64 p20)], []⟩) e67 ⟨[(0, .own 1024000 0 4 (a0.map eDLease)), (1, .clo f1 k1), (5, .int .i64 r1), (6, .int .i64 (IntKind.i64.wrap (r1 + 1)))], []⟩ (fg ⟨rfl, rfl, rfl, rfl, trivial⟩ trivial) rfl 0 (fun _ => rfl) ?_ ?_
    · rintro S _ hfg ⟨p38, p39, rfl, rfl⟩
      refine wk_ ⟨[(0, .own 1024000 0 4 (p38.map eDLease)), (5, .int .i64 p39)], []⟩ (fgl hfg ⟨rfl, rfl, trivial⟩ trivial) ?_
      refine seq_ ?_
      refine reg_ ?_
      refine st (mv_ rfl trivial ?_)
      refine st (mv_ rfl trivial ?_)
      obtain ⟨s68, e69, h0⟩ := bnd h0
      refine st (c_ (csliceO (e := eDLease) (y := s68) rfl rfl trivial ⟨trivial, trivial⟩ rfl rfl e69) ?_)
      refine st (clear_ (e := eDLease) (z := (DLease.mk 0 0 0 false)) rfl rfl ?_)
      refine oe_ ?_
      refine wk_ ⟨[(0, .own 1024000 0 4 ((ovl p38 p39.toNat (List.replicate s68.length (DLease.mk 0 0 0 false))).map eDLease)), (5, .int .i64 p39)], []⟩ (fg ⟨(congrArg (fun z => some ((.own 1024000 0 4 z : V))) overlay_ovl), rfl, trivial⟩ trivial) ?_
      refine seq_ ?_
      refine reg_ ?_
      refine st (mv_ rfl trivial ?_)
      refine st (mv_ rfl trivial ?_)
      obtain ⟨s70, e71, h0⟩ := bnd h0
      refine st (c_ (csliceO (e := eDLease) (y := s70) rfl rfl trivial ⟨trivial, trivial⟩ rfl rfl e71) ?_)
      refine st (mv_ rfl trivial ?_)
      refine oe_ ?_
      refine wk_ ⟨[(4, .own 1024000 0 4 (s70.map eDLease))], []⟩ (fg ⟨rfl, trivial⟩ trivial) ?_
      obtain rfl := Option.some.inj h0
      exact rt_ (ret_ rfl rfl rfl rfl rfl trivial)
    · rintro ⟨p18, p19, p20⟩ o1 _ K1 rfl h1 hx1 hK1 hE1 hR1
      refine seq_ ?_
      refine seq_ ?_
      refine reg_ ?_
      refine st (mv_ rfl trivial ?_)
      refine st (mv_ rfl trivial ?_)
      refine st (c_ (clenO (e := eDLease) (l0 := p18) rfl rfl trivial) ?_)
      refine st (c_ (cp_ ⟨trivial, trivial, trivial⟩ rfl trivial) ?_)
      refine oe_ ?_
      refine wk_ ⟨[(0, .own 1024000 0 4 (p18.map eDLease)), (1, .clo f1 k1), (5, .int .i64 p19), (6, .int .i64 p20), (19, .bool (decide (p20 < (p18.length : Int))))], []⟩ (fg ⟨rfl, rfl, rfl, rfl, rfl, trivial⟩ trivial) ?_
      refine ite_ (cb := (decide (p20 < (p18.length : Int)))) rfl (fun c40 => ?_) (fun c40 => ?_)
      · replace h1 := ip c40 h1
        refine sk_ ?_
        refine wk_ ⟨[(0, .own 1024000 0 4 (p18.map eDLease)), (1, .clo f1 k1), (5, .int .i64 p19), (6, .int .i64 p20)], []⟩ (fg ⟨rfl, rfl, rfl, rfl, trivial⟩ trivial) ?_
        refine seq_ ?_
        refine blockJ (fun S => ∃ p52 : List DLease, ∃ p53 : Int, S = ⟨[(0, .own 1024000 0 4 (p52.map eDLease)), (1, .clo f1 k1), (5, .int .i64 p53), (6, .int .i64 p20)], []⟩ ∧ g65_j0 p20 p52 p53 = some o1) ?_ (fun J54 => ?_)
        · rintro _ ⟨p52, p53, rfl, h1⟩
          refine wk_ ⟨[(0, .own 1024000 0 4 (p52.map eDLease)), (1, .clo f1 k1), (5, .int .i64 p53), (6, .int .i64 p20)], []⟩ (fg ⟨rfl, rfl, rfl, rfl, trivial⟩ trivial) ?_
          refine reg_ ?_
          refine st (mv_ rfl trivial ?_)
          refine st (c_ (cp_ ⟨trivial, trivial, trivial⟩ rfl trivial) ?_)
          refine st (mv_ rfl trivial ?_)
          refine oe_ ?_
          obtain rfl := Option.some.inj h1
          exact hK1 _ rfl _ ⟨[(0, .own 1024000 0 4 (p52.map eDLease)), (1, .clo f1 k1), (5, .int .i64 p53), (6, .int .i64 (IntKind.i64.wrap (p20 + 1)))], []⟩ (fg ⟨rfl, rfl, rfl, rfl, trivial⟩ trivial) rfl
        · refine seq_ ?_
          refine reg_ ?_
          refine st (mv_ rfl trivial ?_)
          refine st (mv_ rfl trivial ?_)
          obtain ⟨y55, e56, h1⟩ := bnd h1
          refine st (c_ (cidxO (e := eDLease) (y := y55) rfl rfl trivial rfl rfl trivial e56) ?_)
          obtain ⟨y57, e58, h1⟩ := bnd h1
          refine st (c_ (v := .agg [.int .i64 y57.id, .int .i64 y57.until_, .int .i64 y57.cap, .bool y57.queued]) (cloadO (e := eDLease) (y := y57) (v := .agg [.int .i64 y57.id, .int .i64 y57.until_, .int .i64 y57.cap, .bool y57.queued]) rfl rfl trivial rfl rfl e58 rfl (Nat.le_of_ble_eq_true rfl) rfl) ?_)
          refine st (alloc_ ?_)
          refine sw ⟨[(0, .own 1024000 0 4 (p18.map eDLease)), (1, .clo f1 k1), (5, .int .i64 p19), (6, .int .i64 p20), (7, .ptr 448 0), (25, .agg [.int .i64 y57.id, .int .i64 y57.until_, .int .i64 y57.cap, .bool y57.queued])], [(448, [.int .i64 0, .int .i64 0, .int .i64 0, .bool false])]⟩ (fg ⟨rfl, (congrArg (fun z => some z) (dr_sh hs1)), rfl, rfl, rfl, rfl, trivial⟩ ⟨rfl, trivial⟩) (stp_ rfl rfl trivial rfl rfl rfl (Nat.le_of_ble_eq_true rfl) ?_)
          refine oe_ ?_
          refine wk_ ⟨[(0, .own 1024000 0 4 (p18.map eDLease)), (1, .clo f1 k1), (5, .int .i64 p19), (6, .int .i64 p20), (7, .ptr 448 0)], [(448, [.int .i64 y57.id, .int .i64 y57.until_, .int .i64 y57.cap, .bool y57.queued])]⟩ (fg ⟨rfl, rfl, rfl, rfl, rfl, trivial⟩ ⟨rfl, trivial⟩) ?_
          refine seq_ ?_
          refine reg_ ?_
          refine st (mv_ rfl trivial ?_)
          refine st (c_ (v := .agg [.int .i64 y57.id, .int .i64 y57.until_, .int .i64 y57.cap, .bool y57.queued]) (cp_ ⟨trivial, trivial⟩ rfl (Nat.le_of_ble_eq_true rfl)) ?_)
          obtain ⟨r59, e60, h1⟩ := bnd h1
          refine st (callv0_ (r := .bool r59) rfl false (hf1 _ r59 e60) ⟨trivial, trivial⟩ (and_ rfl hs1.2.2.1) (mapc1 rfl (hs1.2.1 _ _ _ _ _)) (fun _ => rfl) ?_)
          refine st (c_ (cp_ ⟨trivial, trivial⟩ rfl trivial) ?_)
          refine oe_ ?_
          refine wk_ ⟨[(0, .own 1024000 0 4 (p18.map eDLease)), (1, .clo f1 k1), (5, .int .i64 p19), (6, .int .i64 p20), (7, .ptr 448 0), (29, .bool (!r59))], [(448, [.int .i64 y57.id, .int .i64 y57.until_, .int .i64 y57.cap, .bool y57.queued])]⟩ (fg ⟨rfl, rfl, rfl, rfl, rfl, rfl, trivial⟩ ⟨rfl, trivial⟩) ?_
          refine ite_ (cb := (!r59)) rfl (fun c61 => ?_) (fun c61 => ?_)
          · replace h1 := ip c61 h1
            refine seq_ ?_
            refine reg_ ?_
            refine st (mv_ rfl trivial ?_)
            refine st (mv_ rfl trivial ?_)
            refine st (c_ (v := .agg [.int .i64 y57.id, .int .i64 y57.until_, .int .i64 y57.cap, .bool y57.queued]) (cp_ ⟨trivial, trivial⟩ rfl (Nat.le_of_ble_eq_true rfl)) ?_)
            obtain ⟨y62, e63, h1⟩ := bnd h1
            refine st (c_ (cidxO (e := eDLease) (y := y62) rfl rfl trivial rfl rfl trivial e63) ?_)
            obtain ⟨y64, e65, h1⟩ := bnd h1
            refine st (sto_ (y' := y57) rfl rfl trivial rfl rfl rfl rfl e65 (Nat.le_of_ble_eq_true rfl) rfl rfl rfl rfl ?_)
            refine oe_ ?_
            refine wk_ ⟨[(0, .own 1024000 0 4 ((p18.set p19.toNat y57).map eDLease)), (1, .clo f1 k1), (5, .int .i64 p19), (6, .int .i64 p20)], []⟩ (fg ⟨(congrArg (fun z => some ((.own 1024000 0 4 z : V))) overlay_map), rfl, rfl, rfl, trivial⟩ trivial) ?_
            refine reg_ ?_
            refine st (mv_ rfl trivial ?_)
            refine st (c_ (cp_ ⟨trivial, trivial, trivial⟩ rfl trivial) ?_)
            refine st (mv_ rfl trivial ?_)
            refine oe_ ?_
            refine bn_ ?_
            exact J54 _ ⟨[(0, .own 1024000 0 4 ((p18.set p19.toNat y57).map eDLease)), (1, .clo f1 k1), (5, .int .i64 (IntKind.i64.wrap (p19 + 1))), (6, .int .i64 p20)], []⟩ (fg ⟨rfl, rfl, rfl, rfl, trivial⟩ trivial) ⟨_, _, rfl, h1⟩
          · replace h1 := inb c61 h1
            refine sk_ ?_
            refine bn_ ?_
            exact J54 _ ⟨[(0, .own 1024000 0 4 (p18.map eDLease)), (1, .clo f1 k1), (5, .int .i64 p19), (6, .int .i64 p20)], []⟩ (fg ⟨rfl, rfl, rfl, rfl, trivial⟩ trivial) ⟨_, _, rfl, h1⟩
      · replace h1 := inb c40 h1
        obtain rfl := Option.some.inj h1
        obtain rfl := hx1 _ rfl
        refine exQ rfl ?_
        exact hE1 _ ⟨[(0, .own 1024000 0 4 (p18.map eDLease)), (5, .int .i64 p19)], []⟩ (fg ⟨rfl, rfl, trivial⟩ trivial) ⟨_, _, rfl, rfl⟩

/- slices.Clone[[]loop.example/g00149/impl.Lease,loop.example/g00149/impl.Lease] -/
def c66_r0 : List Ins := [⟨some 2, .nilS 4, none⟩]
def c66_r1 : List Ins := [⟨some 3, .p (.mv (.t 0)), none⟩,
 ⟨some 4, .isnil (.t 3) false, none⟩]
def c66_r2 : List Ins := [⟨some 2, .nilS 4, none⟩]
def c66_r3 : List Ins := [⟨some 5, .mkS 4 [(.int .i64 0), (.int .i64 0), (.int .i64 0), (.bool false)] 0 [], none⟩,
 ⟨some 6, .p (.mv (.t 0)), none⟩,
 ⟨some 7, .app 4 32 (.t 5) (.t 6), none⟩,
 ⟨some 2, .p (.mv (.t 7)), none⟩]
def c66 : XFn := { np := 1, nt := 8, res := [.t 2], body := (.seq (.reg c66_r0) (.seq (.seq (.reg c66_r1) (.ite (.t 4) (.seq (.reg c66_r2) .ret) .skip)) (.seq (.reg c66_r3) .ret))) }
def K66 (C : CRel) : Prop := ∀ (a0 : List DLease) (r : List DLease), g66 a0 = some r → C 66 ⟨[.lst 4 (a0.map eDLease)], []⟩ ⟨.own 0 0 4 (r.map eDLease), [], []⟩
theorem F66 {C : CRel} (a0 : List DLease) (r : List DLease) (h0 : g66 a0 = some r) : FnOK C c66 ⟨[.lst 4 (a0.map eDLease)], []⟩ ⟨.own 0 0 4 (r.map eDLease), [], []⟩ := by
  refine fn_ (Nat.le_of_ble_eq_true rfl) ?_
  obtain ⟨hc, h0⟩ := grd h0
  obtain rfl := Option.some.inj h0
  refine seq_ ?_
  refine reg_ ?_
  refine st (nilS_ ?_)
  refine oe_ ?_
  refine wk_ ⟨[(0, .lst 4 (a0.map eDLease))], []⟩ (fg ⟨rfl, trivial⟩ trivial) ?_
  refine seq_ ?_
  refine seq_ ?_
  refine reg_ ?_
  refine st (mv_ rfl trivial ?_)
  refine st (isnilL (e := eDLease) (l0 := a0) rfl fun b hb => ?_)
  refine oe_ ?_
  refine w0_ ?_
  refine ite_ (cb := b) rfl (fun h => ?_) (fun h => ?_)
  · obtain rfl := hb h
    refine seq_ ?_
    refine reg_ ?_
    refine st (nilS_ ?_)
    refine oe_ ?_
    refine w0_ ?_
    refine rt_ (ret_ rfl rfl rfl rfl rfl trivial)
  · refine sk_ ?_
    refine wk_ ⟨[(0, .lst 4 (a0.map eDLease))], []⟩ (fg ⟨rfl, trivial⟩ trivial) ?_
    refine seq_ ?_
    refine reg_ ?_
    refine st (mkS_ trivial trivial ?_)
    refine st (mv_ rfl trivial ?_)
    refine st (app_ (e := eDLease) (l0 := ([] : List DLease)) (l1 := a0) rfl rfl trivial rfl (by decide) ?_ ?_)
    rotate_left
    refine st (mv_ rfl trivial ?_)
    refine oe_ ?_
    refine w0_ ?_
    refine rt_ (ret_ rfl rfl rfl rfl rfl trivial)
    have := Nat.mul_le_mul_right 32 hc
    exact Nat.le_trans this (by decide)

/- loop.example/g00149/impl.Due$1 -/
def c67_r0 : List Ins := [⟨some 1, .box (.t 0), none⟩,
 ⟨some 2, .p (.mv (.c (.bool false))), none⟩]
def c67_r1 : List Ins := [⟨some 3, .p (.fieldA (.t 1) 3), none⟩,
 ⟨some 4, .p (.load (.t 3) 1 false), none⟩,
 ⟨some 2, .p (.mv (.t 4)), none⟩]
def c67 : XFn := { np := 1, nt := 5, res := [.t 2], body := (.seq (.reg c67_r0) (.seq (.reg c67_r1) .ret)) }
def K67 (C : CRel) : Prop := ∀ (a0 : DLease) (r : Bool), g67 a0 = some r → C 67 ⟨[.agg [.int .i64 a0.id, .int .i64 a0.until_, .int .i64 a0.cap, .bool a0.queued]], []⟩ ⟨.bool r, [], []⟩
theorem F67 {C : CRel}  (a0 : DLease) (r : Bool) (h0 : g67 a0 = some r) : FnOK C c67 ⟨[.agg [.int .i64 a0.id, .int .i64 a0.until_, .int .i64 a0.cap, .bool a0.queued]], []⟩ ⟨.bool r, [], []⟩ := by
  refine fn_ (Nat.le_of_ble_eq_true rfl) ?_
  refine seq_ ?_
  refine reg_ ?_
  refine st (box_ rfl trivial rfl ?_)
  refine st (mvc_ trivial ?_)
  refine oe_ ?_
  refine wk_ ⟨[(1, .ptr 64 0)], [(64, [.int .i64 a0.id, .int .i64 a0.until_, .int .i64 a0.cap, .bool a0.queued])]⟩ (fg ⟨rfl, trivial⟩ ⟨rfl, trivial⟩) ?_
  refine seq_ ?_
  refine reg_ ?_
  refine st (c_ (cp_ ⟨trivial, trivial⟩ rfl trivial) ?_)
  refine st (c_ (cp_ ⟨trivial, trivial⟩ rfl (Nat.le_of_ble_eq_true rfl)) ?_)
  refine st (mv_ rfl trivial ?_)
  refine oe_ ?_
  refine wk_ ⟨[(2, .bool a0.queued)], []⟩ (fg ⟨rfl, trivial⟩ trivial) ?_
  obtain rfl := Option.some.inj h0
  exact rt_ (ret_ rfl rfl rfl rfl rfl trivial)

/- slices.MinFunc[[]loop.example/g00149/impl.Lease,loop.example/g00149/impl.Lease] -/
def c68_r0 : List Ins := [⟨some 4, .alloc [(.int .i64 0), (.int .i64 0), (.int .i64 0), (.bool false)], none⟩]
def c68_r1 : List Ins := [⟨some 7, .p (.mv (.t 0)), none⟩,
 ⟨some 8, .p (.len (.t 7)), none⟩,
 ⟨some 9, .p (.bin .lss (.t 8) (.c (.int .i64 1))), none⟩]
def c68_r2 : List Ins := [⟨some 10, .bad, none⟩,
 ⟨none, .bad, none⟩]
def c68_r3 : List Ins := [⟨some 11, .p (.mv (.t 0)), none⟩,
 ⟨some 12, .p (.idxA (.t 11) (.c (.int .i64 0)) 4), none⟩,
 ⟨some 13, .p (.load (.t 12) 4 true), none⟩,
 ⟨some 5, .alloc [(.int .i64 0), (.int .i64 0), (.int .i64 0), (.bool false)], none⟩,
 ⟨none, .store (.t 5) (.t 13) 4, none⟩]
def c68_r4 : List Ins := [⟨some 6, .p (.mv (.c (.int .i64 1))), none⟩]
def c68_r5 : List Ins := [⟨some 14, .p (.mv (.t 6)), none⟩,
 ⟨some 15, .p (.mv (.t 0)), none⟩,
 ⟨some 16, .p (.len (.t 15)), none⟩,
 ⟨some 17, .p (.bin .lss (.t 14) (.t 16)), none⟩]
def c68_r6 : DP := (.take ⟨some 20, .p (.mv (.t 1)), none⟩
 (.take ⟨some 21, .p (.mv (.t 0)), none⟩
 (.take ⟨some 22, .p (.mv (.t 6)), none⟩
 (.take ⟨some 23, .p (.idxA (.t 21) (.t 22) 4), none⟩
 (.take ⟨some 24, .p (.load (.t 23) 4 true), none⟩
 (.take ⟨some 25, .p (.load (.t 5) 4 true), none⟩
 (.alt [] ⟨some 26, .callv (.t 20) [(.t 24), (.t 25)], none⟩
 (.take ⟨some 27, .p (.bin .lss (.t 26) (.c (.int .i64 0))), none⟩
 .fin)
 .stop)))))))
def c68_r7 : List Ins := [⟨some 28, .p (.mv (.t 0)), none⟩,
 ⟨some 29, .p (.mv (.t 6)), none⟩,
 ⟨some 30, .p (.idxA (.t 28) (.t 29) 4), none⟩,
 ⟨some 31, .p (.load (.t 30) 4 true), none⟩,
 ⟨none, .store (.t 5) (.t 31) 4, none⟩]
def c68_r8 : List Ins := [⟨some 18, .p (.mv (.t 6)), none⟩,
 ⟨some 19, .p (.bin .add (.t 18) (.c (.int .i64 1))), none⟩,
 ⟨some 6, .p (.mv (.t 19)), none⟩]
def c68_l0 : IR := (.seq (.seq (.reg c68_r5) (.ite (.t 17) .skip (.exit 0))) (.seq (.block 1 (.seq (.draw c68_r6) (.ite (.t 27) (.reg c68_r7) .skip))) (.reg c68_r8)))
def c68_r9 : List Ins := [⟨some 32, .p (.load (.t 5) 4 true), none⟩,
 ⟨none, .store (.t 4) (.t 32) 4, none⟩]
def c68 : XFn := { np := 2, nt := 33, res := [.cell 4 4 true], body := (.seq (.reg c68_r0) (.seq (.seq (.reg c68_r1) (.ite (.t 9) (.reg c68_r2) .skip)) (.seq (.reg c68_r3) (.seq (.seq (.reg c68_r4) (.block 0 (.loop c68_l0))) (.seq (.reg c68_r9) .ret))))) }
def K68 (C : CRel) : Prop := ∀ (a0 : List DLease) (f1 : Nat) (k1 : List V) (is1 : DLease → DLease → Option Int) (hs1 : Shut k1) (hf1 : ∀ (x0 : DLease) (x1 : DLease) r, is1 x0 x1 = some r → C f1 ⟨.agg [.int .i64 x0.id, .int .i64 x0.until_, .int .i64 x0.cap, .bool x0.queued] :: .agg [.int .i64 x1.id, .int .i64 x1.until_, .int .i64 x1.cap, .bool x1.queued] :: k1, []⟩ ⟨.int .i64 r, [], []⟩) (r : DLease), g68 a0 is1 = some r → C 68 ⟨[.lst 4 (a0.map eDLease), .clo f1 k1], []⟩ ⟨.agg [.int .i64 r.id, .int .i64 r.until_, .int .i64 r.cap, .bool r.queued], [], []⟩
theorem F68 {C : CRel}  (a0 : List DLease) (f1 : Nat) (k1 : List V) (is1 : DLease → DLease → Option Int) (hs1 : Shut k1) (hf1 : ∀ (x0 : DLease) (x1 : DLease) r, is1 x0 x1 = some r → C f1 ⟨.agg [.int .i64 x0.id, .int .i64 x0.until_, .int .i64 x0.cap, .bool x0.queued] :: .agg [.int .i64 x1.id, .int .i64 x1.until_, .int .i64 x1.cap, .bool x1.queued] :: k1, []⟩ ⟨.int .i64 r, [], []⟩) (r : DLease) (h0 : g68 a0 is1 = some r) : FnOK C c68 ⟨[.lst 4 (a0.map eDLease), .clo f1 k1], []⟩ ⟨.agg [.int .i64 r.id, .int .i64 r.until_, .int .i64 r.cap, .bool r.queued], [], []⟩ := by
  refine fn_ (Nat.le_of_ble_eq_true rfl) ?_
  refine seq_ ?_
  refine reg_ ?_
  refine st (alloc_ ?_)
  refine oe_ ?_
  refine wk_ ⟨[(0, .lst 4 (a0.map eDLease)), (1, .clo f1 k1), (4, .ptr 256 0)], [(256, [.int .i64 0, .int .i64 0, .int .i64 0, .bool false])]⟩ (fg ⟨rfl, (congrArg (fun z => some z) (dr_sh hs1)), rfl, trivial⟩ ⟨rfl, trivial⟩) ?_
  refine seq_ ?_
  refine seq_ ?_
  refine reg_ ?_
  refine st (mv_ rfl trivial ?_)
  refine st (c_ (clenL (e := eDLease) (l0 := a0) rfl rfl trivial) ?_)
  refine st (c_ (cp_ ⟨trivial, trivial, trivial⟩ rfl trivial) ?_)
  refine oe_ ?_
  refine wk_ ⟨[(0, .lst 4 (a0.map eDLease)), (1, .clo f1 k1), (4, .ptr 256 0), (9, .bool (decide ((a0.length : Int) < 1)))], [(256, [.int .i64 0, .int .i64 0, .int .i64 0, .bool false])]⟩ (fg ⟨rfl, rfl, rfl, rfl, trivial⟩ ⟨rfl, trivial⟩) ?_
  refine iteJ (cb := (decide ((a0.length : Int) < 1))) (fun S => S = ⟨[(0, .lst 4 (a0.map eDLease)), (1, .clo f1 k1), (4, .ptr 256 0)], [(256, [.int .i64 0, .int .i64 0, .int .i64 0, .bool false])]⟩ ∧ g68_j0 a0 is1 = some r) rfl ?_ (fun c65 J64 => ?_) (fun c65 J64 => ?_)
  · rintro _ ⟨rfl, h0⟩
    refine wk_ ⟨[(0, .lst 4 (a0.map eDLease)), (1, .clo f1 k1), (4, .ptr 256 0)], [(256, [.int .i64 0, .int .i64 0, .int .i64 0, .bool false])]⟩ (fg ⟨rfl, rfl, rfl, trivial⟩ ⟨rfl, trivial⟩) ?_
    refine seq_ ?_
    refine reg_ ?_
    refine st (mv_ rfl trivial ?_)
    obtain ⟨y2, e3, h0⟩ := bnd h0
    refine st (c_ (cidxL (e := eDLease) (y := y2) rfl rfl trivial rfl rfl trivial e3) ?_)
    refine st (c_ (v := .agg [.int .i64 y2.id, .int .i64 y2.until_, .int .i64 y2.cap, .bool y2.queued]) (cp_ ⟨trivial, trivial⟩ rfl (Nat.le_of_ble_eq_true rfl)) ?_)
    refine st (alloc_ ?_)
    refine sw ⟨[(0, .lst 4 (a0.map eDLease)), (1, .clo f1 k1), (4, .ptr 256 0), (5, .ptr 320 0), (13, .agg [.int .i64 y2.id, .int .i64 y2.until_, .int .i64 y2.cap, .bool y2.queued])], [(256, [.int .i64 0, .int .i64 0, .int .i64 0, .bool false]), (320, [.int .i64 0, .int .i64 0, .int .i64 0, .bool false])]⟩ (fg ⟨rfl, (congrArg (fun z => some z) (dr_sh hs1)), rfl, rfl, rfl, trivial⟩ ⟨rfl, rfl, trivial⟩) (stp_ rfl rfl trivial rfl rfl rfl (Nat.le_of_ble_eq_true rfl) ?_)
    refine oe_ ?_
    refine wk_ ⟨[(0, .lst 4 (a0.map eDLease)), (1, .clo f1 k1), (4, .ptr 256 0), (5, .ptr 320 0)], [(256, [.int .i64 0, .int .i64 0, .int .i64 0, .bool false]), (320, [.int .i64 y2.id, .int .i64 y2.until_, .int .i64 y2.cap, .bool y2.queued])]⟩ (fg ⟨rfl, rfl, rfl, rfl, trivial⟩ ⟨rfl, rfl, trivial⟩) ?_
    refine seq_ ?_
    refine seq_ ?_
    refine reg_ ?_
    refine st (mvc_ trivial ?_)
    refine oe_ ?_
    refine wk_ ⟨[(0, .lst 4 (a0.map eDLease)), (1, .clo f1 k1), (4, .ptr 256 0), (5, .ptr 320 0), (6, .int .i64 1)], [(256, [.int .i64 0, .int .i64 0, .int .i64 0, .bool false]), (320, [.int .i64 y2.id, .int .i64 y2.until_, .int .i64 y2.cap, .bool y2.queued])]⟩ (fg ⟨rfl, rfl, rfl, rfl, rfl, trivial⟩ ⟨rfl, rfl, trivial⟩) ?_
    refine block_ ?_
    obtain ⟨r62, e63, h0⟩ := bnd h0
    refine loop_ (R := (fun S => ∃ p38 : Int, ∃ p39 : Int, ∃ p40 : Int, ∃ p41 : Bool, (p38, p39, p40, p41) = r62 ∧ S = ⟨[(4, .ptr 256 0), (5, .ptr 320 0)], [(256, [.int .i64 0, .int .i64 0, .int .i64 0, .bool false]), (320, [.int .i64 p38, .int .i64 p39, .int .i64 p40, .bool p41])]⟩)) (g68_l0 a0 is1) (fun s S => match s with | (p16, p17, p18, p19, p20) => S = ⟨[(0, .lst 4 (a0.map eDLease)), (1, .clo f1 k1), (4, .ptr 256 0), (5, .ptr 320 0), (6, .int .i64 p16)], [(256, [.int .i64 0, .int .i64 0, .int .i64 0, .bool false]), (320, [.int .i64 p17, .int .i64 p18, .int .i64 p19, .bool p20])]⟩) e63 ⟨[(0, .lst 4 (a0.map eDLease)), (1, .clo f1 k1), (4, .ptr 256 0), (5, .ptr 320 0), (6, .int .i64 1)], [(256, [.int .i64 0, .int .i64 0, .int .i64 0, .bool false]), (320, [.int .i64 y2.id, .int .i64 y2.until_, .int .i64 y2.cap, .bool y2.queued])]⟩ (fg ⟨rfl, rfl, rfl, rfl, rfl, trivial⟩ ⟨rfl, rfl, trivial⟩) rfl 0 (fun _ => rfl) ?_ ?_
    · rintro S _ hfg ⟨p38, p39, p40, p41, rfl, rfl⟩
      refine wk_ ⟨[(4, .ptr 256 0), (5, .ptr 320 0)], [(256, [.int .i64 0, .int .i64 0, .int .i64 0, .bool false]), (320, [.int .i64 p38, .int .i64 p39, .int .i64 p40, .bool p41])]⟩ (fgl hfg ⟨rfl, rfl, trivial⟩ ⟨rfl, rfl, trivial⟩) ?_
      refine seq_ ?_
      refine reg_ ?_
      refine st (c_ (v := .agg [.int .i64 p38, .int .i64 p39, .int .i64 p40, .bool p41]) (cp_ ⟨trivial, trivial⟩ rfl (Nat.le_of_ble_eq_true rfl)) ?_)
      refine st (stp_ rfl rfl trivial rfl rfl rfl (Nat.le_of_ble_eq_true rfl) ?_)
      refine oe_ ?_
      refine wk_ ⟨[(4, .ptr 256 0)], [(256, [.int .i64 p38, .int .i64 p39, .int .i64 p40, .bool p41])]⟩ (fg ⟨rfl, trivial⟩ ⟨rfl, trivial⟩) ?_
      obtain rfl := Option.some.inj h0
      exact rt_ (ret_ rfl rfl rfl rfl rfl trivial)
    · rintro ⟨p16, p17, p18, p19, p20⟩ o1 _ K1 rfl h1 hx1 hK1 hE1 hR1
      refine seq_ ?_
      refine seq_ ?_
      refine reg_ ?_
      refine st (mv_ rfl trivial ?_)
      refine st (mv_ rfl trivial ?_)
      refine st (c_ (clenL (e := eDLease) (l0 := a0) rfl rfl trivial) ?_)
      refine st (c_ (cp_ ⟨trivial, trivial, trivial⟩ rfl trivial) ?_)
      refine oe_ ?_
      refine wk_ ⟨[(0, .lst 4 (a0.map eDLease)), (1, .clo f1 k1), (4, .ptr 256 0), (5, .ptr 320 0), (6, .int .i64 p16), (17, .bool (decide (p16 < (a0.length : Int))))], [(256, [.int .i64 0, .int .i64 0, .int .i64 0, .bool false]), (320, [.int .i64 p17, .int .i64 p18, .int .i64 p19, .bool p20])]⟩ (fg ⟨rfl, rfl, rfl, rfl, rfl, rfl, trivial⟩ ⟨rfl, rfl, trivial⟩) ?_
      refine ite_ (cb := (decide (p16 < (a0.length : Int)))) rfl (fun c42 => ?_) (fun c42 => ?_)
      · replace h1 := ip c42 h1
        refine sk_ ?_
        refine wk_ ⟨[(0, .lst 4 (a0.map eDLease)), (1, .clo f1 k1), (4, .ptr 256 0), (5, .ptr 320 0), (6, .int .i64 p16)], [(256, [.int .i64 0, .int .i64 0, .int .i64 0, .bool false]), (320, [.int .i64 p17, .int .i64 p18, .int .i64 p19, .bool p20])]⟩ (fg ⟨rfl, rfl, rfl, rfl, rfl, trivial⟩ ⟨rfl, rfl, trivial⟩) ?_
        refine seq_ ?_
        refine blockJ (fun S => ∃ p50 : Int, ∃ p51 : Int, ∃ p52 : Int, ∃ p53 : Bool, S = ⟨[(0, .lst 4 (a0.map eDLease)), (1, .clo f1 k1), (4, .ptr 256 0), (5, .ptr 320 0), (6, .int .i64 p16)], [(256, [.int .i64 0, .int .i64 0, .int .i64 0, .bool false]), (320, [.int .i64 p50, .int .i64 p51, .int .i64 p52, .bool p53])]⟩ ∧ g68_j1 p16 p50 p51 p52 p53 = some o1) ?_ (fun J54 => ?_)
        · rintro _ ⟨p50, p51, p52, p53, rfl, h1⟩
          refine wk_ ⟨[(0, .lst 4 (a0.map eDLease)), (1, .clo f1 k1), (4, .ptr 256 0), (5, .ptr 320 0), (6, .int .i64 p16)], [(256, [.int .i64 0, .int .i64 0, .int .i64 0, .bool false]), (320, [.int .i64 p50, .int .i64 p51, .int .i64 p52, .bool p53])]⟩ (fg ⟨rfl, rfl, rfl, rfl, rfl, trivial⟩ ⟨rfl, rfl, trivial⟩) ?_
          refine reg_ ?_
          refine st (mv_ rfl trivial ?_)
          refine st (c_ (cp_ ⟨trivial, trivial, trivial⟩ rfl trivial) ?_)
          refine st (mv_ rfl trivial ?_)
          refine oe_ ?_
          obtain rfl := Option.some.inj h1
          exact hK1 _ rfl _ ⟨[(0, .lst 4 (a0.map eDLease)), (1, .clo f1 k1), (4, .ptr 256 0), (5, .ptr 320 0), (6, .int .i64 (IntKind.i64.wrap (p16 + 1)))], [(256, [.int .i64 0, .int .i64 0, .int .i64 0, .bool false]), (320, [.int .i64 p50, .int .i64 p51, .int .i64 p52, .bool p53])]⟩ (fg ⟨rfl, rfl, rfl, rfl, rfl, trivial⟩ ⟨rfl, rfl, trivial⟩) rfl
        · refine seq_ ?_
          obtain ⟨y55, e56, h1⟩ := bnd h1
          obtain ⟨r57, e58, h1⟩ := bnd h1
          refine draw_ ?_
          refine dtake trivial (mv_ rfl trivial ?_)
          refine ⟨trivial, ?_⟩
          refine dtake trivial (mv_ rfl trivial ?_)
          refine ⟨trivial, ?_⟩
          refine dtake trivial (mv_ rfl trivial ?_)
          refine ⟨trivial, ?_⟩
          refine dtake trivial (c_ (cidxL (e := eDLease) (y := y55) rfl rfl trivial rfl rfl trivial e56) ?_)
          refine ⟨trivial, ?_⟩
          refine dtake trivial (c_ (v := .agg [.int .i64 y55.id, .int .i64 y55.until_, .int .i64 y55.cap, .bool y55.queued]) (cp_ ⟨trivial, trivial⟩ rfl (Nat.le_of_ble_eq_true rfl)) ?_)
          refine ⟨trivial, ?_⟩
          refine dtake trivial (c_ (v := .agg [.int .i64 p17, .int .i64 p18, .int .i64 p19, .bool p20]) (cp_ ⟨trivial, trivial⟩ rfl (Nat.le_of_ble_eq_true rfl)) ?_)
          refine ⟨trivial, ?_⟩
          refine dalt (callv0_ (r := .int .i64 r57) rfl false (hf1 _ _ r57 e58) ⟨trivial, trivial, trivial⟩ (and_ rfl (and_ rfl hs1.2.2.1)) (mapc1 rfl (mapc1 rfl (hs1.2.1 _ _ _ _ _))) (fun _ => rfl) ?_) dstop
          refine ⟨[], trivial, trivial, ?_⟩
          refine dtake trivial (c_ (cp_ ⟨trivial, trivial, trivial⟩ rfl trivial) ?_)
          refine ⟨trivial, ?_⟩
          refine dfin ?_
          refine wk_ ⟨[(0, .lst 4 (a0.map eDLease)), (1, .clo f1 k1), (4, .ptr 256 0), (5, .ptr 320 0), (6, .int .i64 p16), (27, .bool (decide (r57 < 0)))], [(256, [.int .i64 0, .int .i64 0, .int .i64 0, .bool false]), (320, [.int .i64 p17, .int .i64 p18, .int .i64 p19, .bool p20])]⟩ (fg ⟨rfl, rfl, rfl, rfl, rfl, rfl, trivial⟩ ⟨rfl, rfl, trivial⟩) ?_
          refine ite_ (cb := (decide (r57 < 0))) rfl (fun c59 => ?_) (fun c59 => ?_)
          · replace h1 := ip c59 h1
            refine reg_ ?_
            refine st (mv_ rfl trivial ?_)
            refine st (mv_ rfl trivial ?_)
            obtain ⟨y60, e61, h1⟩ := bnd h1
            refine st (c_ (cidxL (e := eDLease) (y := y60) rfl rfl trivial rfl rfl trivial e61) ?_)
            refine st (c_ (v := .agg [.int .i64 y60.id, .int .i64 y60.until_, .int .i64 y60.cap, .bool y60.queued]) (cp_ ⟨trivial, trivial⟩ rfl (Nat.le_of_ble_eq_true rfl)) ?_)
            refine st (stp_ rfl rfl trivial rfl rfl rfl (Nat.le_of_ble_eq_true rfl) ?_)
            refine oe_ ?_
            refine bn_ ?_
            exact J54 _ ⟨[(0, .lst 4 (a0.map eDLease)), (1, .clo f1 k1), (4, .ptr 256 0), (5, .ptr 320 0), (6, .int .i64 p16)], [(256, [.int .i64 0, .int .i64 0, .int .i64 0, .bool false]), (320, [.int .i64 y60.id, .int .i64 y60.until_, .int .i64 y60.cap, .bool y60.queued])]⟩ (fg ⟨rfl, rfl, rfl, rfl, rfl, trivial⟩ ⟨rfl, rfl, trivial⟩) ⟨_, _, _, _, rfl, h1⟩
          · replace h1 := inb c59 h1
            refine sk_ ?_
            refine bn_ ?_
            exact J54 _ ⟨[(0, .lst 4 (a0.map eDLease)), (1, .clo f1 k1), (4, .ptr 256 0), (5, .ptr 320 0), (6, .int .i64 p16)], [(256, [.int .i64 0, .int .i64 0, .int .i64 0, .bool false]), (320, [.int .i64 p17, .int .i64 p18, .int .i64 p19, .bool p20])]⟩ (fg ⟨rfl, rfl, rfl, rfl, rfl, trivial⟩ ⟨rfl, rfl, trivial⟩) ⟨_, _, _, _, rfl, h1⟩
      · replace h1 := inb c42 h1
        obtain rfl := Option.some.inj h1
        obtain rfl := hx1 _ rfl
        refine exQ rfl ?_
        exact hE1 _ ⟨[(4, .ptr 256 0), (5, .ptr 320 0)], [(256, [.int .i64 0, .int .i64 0, .int .i64 0, .bool false]), (320, [.int .i64 p17, .int .i64 p18, .int .i64 p19, .bool p20])]⟩ (fg ⟨rfl, rfl, trivial⟩ ⟨rfl, rfl, trivial⟩) ⟨_, _, _, _, rfl, rfl⟩
  · replace h0 := ip c65 h0
    refine reg_ ?_
    cases h0
  · replace h0 := inb c65 h0
    refine sk_ ?_
    exact J64 _ ⟨[(0, .lst 4 (a0.map eDLease)), (1, .clo f1 k1), (4, .ptr 256 0)], [(256, [.int .i64 0, .int .i64 0, .int .i64 0, .bool false])]⟩ (fg ⟨rfl, rfl, rfl, trivial⟩ ⟨rfl, trivial⟩) ⟨rfl, h0⟩

/- cmp.Or[int] -/
def c109_r0 : List Ins := [⟨some 2, .p (.mv (.c (.int .i64 0))), none⟩]
def c109_r1 : List Ins := [⟨some 3, .p (.mv (.c (.int .i64 0))), none⟩]
def c109_r2 : List Ins := [⟨some 6, .p (.mv (.t 0)), none⟩,
 ⟨some 7, .p (.len (.t 6)), none⟩,
 ⟨some 8, .p (.mv (.c (.int .i64 0))), none⟩]
def c109_r3 : List Ins := [⟨some 9, .p (.bin .lss (.t 8) (.t 7)), none⟩]
def c109_r4 : List Ins := [⟨some 10, .p (.idxA (.t 6) (.t 8) 1), none⟩,
 ⟨some 11, .p (.load (.t 10) 1 false), none⟩,
 ⟨some 5, .p (.mv (.t 11)), none⟩]
def c109_r5 : List Ins := [⟨some 12, .p (.mv (.t 5)), none⟩,
 ⟨some 13, .p (.mv (.t 3)), none⟩,
 ⟨some 14, .p (.bin .neq (.t 12) (.t 13)), none⟩]
def c109_r6 : List Ins := [⟨some 15, .p (.mv (.t 5)), none⟩,
 ⟨some 2, .p (.mv (.t 15)), none⟩]
def c109_r7 : List Ins := [⟨some 16, .p (.bin .add (.t 8) (.c (.int .i64 1))), none⟩,
 ⟨some 8, .p (.mv (.t 16)), none⟩]
def c109_l0 : IR := (.seq (.reg c109_r3) (.seq (.ite (.t 9) .skip (.exit 0)) (.seq (.block 1 (.seq (.reg c109_r4) (.seq (.reg c109_r5) (.ite (.t 14) (.seq (.reg c109_r6) .ret) .skip)))) (.reg c109_r7))))
def c109_r8 : List Ins := [⟨some 17, .p (.mv (.t 3)), none⟩,
 ⟨some 2, .p (.mv (.t 17)), none⟩]
def c109 : XFn := { np := 1, nt := 18, res := [.t 2], body := (.seq (.reg c109_r0) (.seq (.reg c109_r1) (.seq (.seq (.reg c109_r2) (.block 0 (.loop c109_l0))) (.seq (.reg c109_r8) .ret)))) }
def K109 (C : CRel) : Prop := ∀ (a0 : List Int) (r : Int), g109 a0 = some r → C 109 ⟨[.lst 1 (a0.map eI)], []⟩ ⟨.int .i64 r, [], []⟩
theorem F109 {C : CRel}  (a0 : List Int) (r : Int) (h0 : g109 a0 = some r) : FnOK C c109 ⟨[.lst 1 (a0.map eI)], []⟩ ⟨.int .i64 r, [], []⟩ := by
  refine fn_ (Nat.le_of_ble_eq_true rfl) ?_
  refine seq_ ?_
  refine reg_ ?_
  refine st (mvc_ trivial ?_)
  refine oe_ ?_
  refine wk_ ⟨[(0, .lst 1 (a0.map eI))], []⟩ (fg ⟨rfl, trivial⟩ trivial) ?_
  refine seq_ ?_
  refine reg_ ?_
  refine st (mvc_ trivial ?_)
  refine oe_ ?_
  refine wk_ ⟨[(0, .lst 1 (a0.map eI)), (3, .int .i64 0)], []⟩ (fg ⟨rfl, rfl, trivial⟩ trivial) ?_
  refine seq_ ?_
  refine seq_ ?_
  refine reg_ ?_
  refine st (mv_ rfl trivial ?_)
  refine st (c_ (clenL (e := eI) (l0 := a0) rfl rfl trivial) ?_)
  refine st (mvc_ trivial ?_)
  refine oe_ ?_
  refine wk_ ⟨[(3, .int .i64 0), (6, .lst 1 (a0.map eI)), (7, .int .i64 (a0.length : Int)), (8, .int .i64 0)], []⟩ (fg ⟨rfl, rfl, rfl, rfl, trivial⟩ trivial) ?_
  refine block_ ?_
  obtain ⟨r15, e16, h0⟩ := bnd h0
  refine loop_ (R := (fun S => .inl () = r15 ∧ S = ⟨[(3, .int .i64 0)], []⟩)) (g109_l0 a0) (fun s S => match s with | p5 => S = ⟨[(3, .int .i64 0), (6, .lst 1 (a0.map eI)), (7, .int .i64 (a0.length : Int)), (8, .int .i64 p5)], []⟩) e16 ⟨[(3, .int .i64 0), (6, .lst 1 (a0.map eI)), (7, .int .i64 (a0.length : Int)), (8, .int .i64 0)], []⟩ (fg ⟨rfl, rfl, rfl, rfl, trivial⟩ trivial) rfl 0 (fun _ => rfl) ?_ ?_
  · rintro S _ hfg ⟨rfl, rfl⟩
    refine wk_ ⟨[(3, .int .i64 0)], []⟩ (fgl hfg ⟨rfl, trivial⟩ trivial) ?_
    refine seq_ ?_
    refine reg_ ?_
    refine st (mv_ rfl trivial ?_)
    refine st (mv_ rfl trivial ?_)
    refine oe_ ?_
    refine wk_ ⟨[(2, .int .i64 0)], []⟩ (fg ⟨rfl, trivial⟩ trivial) ?_
    obtain rfl := Option.some.inj h0
    exact rt_ (ret_ rfl rfl rfl rfl rfl trivial)
  · rintro p5 o1 _ K1 rfl h1 hx1 hK1 hE1 hR1
    refine seq_ ?_
    refine reg_ ?_
    refine st (c_ (cp_ ⟨trivial, trivial, trivial⟩ rfl trivial) ?_)
    refine oe_ ?_
    refine wk_ ⟨[(3, .int .i64 0), (6, .lst 1 (a0.map eI)), (7, .int .i64 (a0.length : Int)), (8, .int .i64 p5), (9, .bool (decide (p5 < (a0.length : Int))))], []⟩ (fg ⟨rfl, rfl, rfl, rfl, rfl, trivial⟩ trivial) ?_
    refine seq_ ?_
    refine ite_ (cb := (decide (p5 < (a0.length : Int)))) rfl (fun c11 => ?_) (fun c11 => ?_)
    · replace h1 := ip c11 h1
      refine sk_ ?_
      refine wk_ ⟨[(3, .int .i64 0), (6, .lst 1 (a0.map eI)), (7, .int .i64 (a0.length : Int)), (8, .int .i64 p5)], []⟩ (fg ⟨rfl, rfl, rfl, rfl, trivial⟩ trivial) ?_
      refine seq_ ?_
      refine block_ ?_
      refine seq_ ?_
      refine reg_ ?_
      obtain ⟨y12, e13, h1⟩ := bnd h1
      refine st (c_ (cidxL (e := eI) (y := y12) rfl rfl trivial rfl rfl trivial e13) ?_)
      refine st (c_ (cp_ ⟨trivial, trivial⟩ rfl (Nat.le_of_ble_eq_true rfl)) ?_)
      refine st (mv_ rfl trivial ?_)
      refine oe_ ?_
      refine wk_ ⟨[(3, .int .i64 0), (5, .int .i64 y12), (6, .lst 1 (a0.map eI)), (7, .int .i64 (a0.length : Int)), (8, .int .i64 p5)], []⟩ (fg ⟨rfl, rfl, rfl, rfl, rfl, trivial⟩ trivial) ?_
      refine seq_ ?_
      refine reg_ ?_
      refine st (mv_ rfl trivial ?_)
      refine st (mv_ rfl trivial ?_)
      refine st (c_ (cp_ ⟨trivial, trivial, trivial⟩ rfl trivial) ?_)
      refine oe_ ?_
      refine wk_ ⟨[(3, .int .i64 0), (5, .int .i64 y12), (6, .lst 1 (a0.map eI)), (7, .int .i64 (a0.length : Int)), (8, .int .i64 p5), (14, .bool (y12 != 0))], []⟩ (fg ⟨rfl, rfl, rfl, rfl, rfl, rfl, trivial⟩ trivial) ?_
      refine ite_ (cb := (y12 != 0)) rfl (fun c14 => ?_) (fun c14 => ?_)
      · replace h1 := ip c14 h1
        refine seq_ ?_
        refine reg_ ?_
        refine st (mv_ rfl trivial ?_)
        refine st (mv_ rfl trivial ?_)
        refine oe_ ?_
        refine wk_ ⟨[(2, .int .i64 y12)], []⟩ (fg ⟨rfl, trivial⟩ trivial) ?_
        obtain rfl := Option.some.inj h1
        obtain rfl := hx1 _ rfl
        obtain rfl := Option.some.inj h0
        exact rt_ (hR1 _ (ret_ rfl rfl rfl rfl rfl trivial))
      · replace h1 := inb c14 h1
        refine sk_ ?_
        refine bn_ ?_
        refine wk_ ⟨[(3, .int .i64 0), (6, .lst 1 (a0.map eI)), (7, .int .i64 (a0.length : Int)), (8, .int .i64 p5)], []⟩ (fg ⟨rfl, rfl, rfl, rfl, trivial⟩ trivial) ?_
        refine reg_ ?_
        refine st (c_ (cp_ ⟨trivial, trivial, trivial⟩ rfl trivial) ?_)
        refine st (mv_ rfl trivial ?_)
        refine oe_ ?_
        obtain rfl := Option.some.inj h1
        exact hK1 _ rfl _ ⟨[(3, .int .i64 0), (6, .lst 1 (a0.map eI)), (7, .int .i64 (a0.length : Int)), (8, .int .i64 (IntKind.i64.wrap (p5 + 1)))], []⟩ (fg ⟨rfl, rfl, rfl, rfl, trivial⟩ trivial) rfl
    · replace h1 := inb c11 h1
      obtain rfl := Option.some.inj h1
      obtain rfl := hx1 _ rfl
      refine exQ rfl ?_
      exact hE1 _ ⟨[(3, .int .i64 0)], []⟩ (fg ⟨rfl, trivial⟩ trivial) ⟨rfl, rfl⟩

/- cmp.isNaN[int] -/
def c136_r0 : List Ins := [⟨some 2, .p (.mv (.c (.bool false))), none⟩]
def c136_r1 : List Ins := [⟨some 3, .p (.mv (.t 0)), none⟩,
 ⟨some 4, .p (.mv (.t 0)), none⟩,
 ⟨some 5, .p (.bin .neq (.t 3) (.t 4)), none⟩,
 ⟨some 2, .p (.mv (.t 5)), none⟩]
def c136 : XFn := { np := 1, nt := 6, res := [.t 2], body := (.seq (.reg c136_r0) (.seq (.reg c136_r1) .ret)) }
def K136 (C : CRel) : Prop := ∀ (a0 : Int) (r : Bool), g136 a0 = some r → C 136 ⟨[.int .i64 a0], []⟩ ⟨.bool r, [], []⟩
theorem F136 {C : CRel}  (a0 : Int) (r : Bool) (h0 : g136 a0 = some r) : FnOK C c136 ⟨[.int .i64 a0], []⟩ ⟨.bool r, [], []⟩ := by
  refine fn_ (Nat.le_of_ble_eq_true rfl) ?_
  refine seq_ ?_
  refine reg_ ?_
  refine st (mvc_ trivial ?_)
  refine oe_ ?_
  refine wk_ ⟨[(0, .int .i64 a0)], []⟩ (fg ⟨rfl, trivial⟩ trivial) ?_
  refine seq_ ?_
  refine reg_ ?_
  refine st (mv_ rfl trivial ?_)
  refine st (mv_ rfl trivial ?_)
  refine st (c_ (cp_ ⟨trivial, trivial, trivial⟩ rfl trivial) ?_)
  refine st (mv_ rfl trivial ?_)
  refine oe_ ?_
  refine wk_ ⟨[(2, .bool (a0 != a0))], []⟩ (fg ⟨rfl, trivial⟩ trivial) ?_
  obtain rfl := Option.some.inj h0
  exact rt_ (ret_ rfl rfl rfl rfl rfl trivial)

/- cmp.Compare[int] -/
def c110_r0 : List Ins := [⟨some 4, .p (.mv (.c (.int .i64 0))), none⟩]
def c110_r1 : List Ins := [⟨some 7, .p (.mv (.t 0)), none⟩,
 ⟨some 8, .call 136 [(.t 7)], none⟩,
 ⟨some 5, .p (.mv (.t 8)), none⟩]
def c110_r2 : List Ins := [⟨some 9, .p (.mv (.t 1)), none⟩,
 ⟨some 10, .call 136 [(.t 9)], none⟩,
 ⟨some 6, .p (.mv (.t 10)), none⟩]
def c110_r3 : List Ins := [⟨some 11, .p (.mv (.t 5)), none⟩]
def c110_r4 : List Ins := [⟨some 12, .p (.mv (.t 6)), none⟩]
def c110_r5 : List Ins := [⟨some 4, .p (.mv (.c (.int .i64 0))), none⟩]
def c110_r6 : List Ins := [⟨some 4, .p (.mv (.c (.int .i64 (-1)))), none⟩]
def c110_r7 : List Ins := [⟨some 13, .p (.mv (.t 6)), none⟩]
def c110_r8 : List Ins := [⟨some 4, .p (.mv (.c (.int .i64 1))), none⟩]
def c110_r9 : List Ins := [⟨some 14, .p (.mv (.t 0)), none⟩,
 ⟨some 15, .p (.mv (.t 1)), none⟩,
 ⟨some 16, .p (.bin .lss (.t 14) (.t 15)), none⟩]
def c110_r10 : List Ins := [⟨some 4, .p (.mv (.c (.int .i64 (-1)))), none⟩]
def c110_r11 : List Ins := [⟨some 17, .p (.mv (.t 0)), none⟩,
 ⟨some 18, .p (.mv (.t 1)), none⟩,
 ⟨some 19, .p (.bin .gtr (.t 17) (.t 18)), none⟩]
def c110_r12 : List Ins := [⟨some 4, .p (.mv (.c (.int .i64 1))), none⟩]
def c110_r13 : List Ins := [⟨some 4, .p (.mv (.c (.int .i64 0))), none⟩]
def c110 : XFn := { np := 2, nt := 20, res := [.t 4], body := (.seq (.reg c110_r0) (.seq (.reg c110_r1) (.seq (.reg c110_r2) (.seq (.seq (.reg c110_r3) (.ite (.t 11) (.seq (.seq (.reg c110_r4) (.ite (.t 12) (.seq (.reg c110_r5) .ret) .skip)) (.seq (.reg c110_r6) .ret)) .skip)) (.seq (.seq (.reg c110_r7) (.ite (.t 13) (.seq (.reg c110_r8) .ret) .skip)) (.seq (.seq (.reg c110_r9) (.ite (.t 16) (.seq (.reg c110_r10) .ret) .skip)) (.seq (.seq (.reg c110_r11) (.ite (.t 19) (.seq (.reg c110_r12) .ret) .skip)) (.seq (.reg c110_r13) .ret)))))))) }
def K110 (C : CRel) : Prop := ∀ (a0 : Int) (a1 : Int) (r : Int), g110 a0 a1 = some r → C 110 ⟨[.int .i64 a0, .int .i64 a1], []⟩ ⟨.int .i64 r, [], []⟩
theorem F110 {C : CRel} (H136 : K136 C) (a0 : Int) (a1 : Int) (r : Int) (h0 : g110 a0 a1 = some r) : FnOK C c110 ⟨[.int .i64 a0, .int .i64 a1], []⟩ ⟨.int .i64 r, [], []⟩ := by
  refine fn_ (Nat.le_of_ble_eq_true rfl) ?_
  refine seq_ ?_
  refine reg_ ?_
  refine st (mvc_ trivial ?_)
  refine oe_ ?_
  refine wk_ ⟨[(0, .int .i64 a0), (1, .int .i64 a1)], []⟩ (fg ⟨rfl, rfl, trivial⟩ trivial) ?_
  refine seq_ ?_
  refine reg_ ?_
  refine st (mv_ rfl trivial ?_)
  obtain ⟨r1, e2, h0⟩ := bnd h0
  refine st (call0_ (r := .bool r1) false (H136 a0 r1 e2) ⟨trivial, trivial⟩ rfl rfl (fun _ => rfl) ?_)
  refine st (mv_ rfl trivial ?_)
  refine oe_ ?_
  refine wk_ ⟨[(0, .int .i64 a0), (1, .int .i64 a1), (5, .bool r1)], []⟩ (fg ⟨rfl, rfl, rfl, trivial⟩ trivial) ?_
  refine seq_ ?_
  refine reg_ ?_
  refine st (mv_ rfl trivial ?_)
  obtain ⟨r3, e4, h0⟩ := bnd h0
  refine st (call0_ (r := .bool r3) false (H136 a1 r3 e4) ⟨trivial, trivial⟩ rfl rfl (fun _ => rfl) ?_)
  refine st (mv_ rfl trivial ?_)
  refine oe_ ?_
  refine wk_ ⟨[(0, .int .i64 a0), (1, .int .i64 a1), (5, .bool r1), (6, .bool r3)], []⟩ (fg ⟨rfl, rfl, rfl, rfl, trivial⟩ trivial) ?_
  refine seq_ ?_
  refine seq_ ?_
  refine reg_ ?_
  refine st (mv_ rfl trivial ?_)
  refine oe_ ?_
  refine wk_ ⟨[(0, .int .i64 a0), (1, .int .i64 a1), (6, .bool r3), (11, .bool r1)], []⟩ (fg ⟨rfl, rfl, rfl, rfl, trivial⟩ trivial) ?_
  refine ite_ (cb := r1) rfl (fun c5 => ?_) (fun c5 => ?_)
  · replace h0 := ip c5 h0
    refine seq_ ?_
    refine seq_ ?_
    refine reg_ ?_
    refine st (mv_ rfl trivial ?_)
    refine oe_ ?_
    refine wk_ ⟨[(12, .bool r3)], []⟩ (fg ⟨rfl, trivial⟩ trivial) ?_
    refine ite_ (cb := r3) rfl (fun c6 => ?_) (fun c6 => ?_)
    · replace h0 := ip c6 h0
      refine seq_ ?_
      refine reg_ ?_
      refine st (mvc_ trivial ?_)
      refine oe_ ?_
      refine wk_ ⟨[(4, .int .i64 0)], []⟩ (fg ⟨rfl, trivial⟩ trivial) ?_
      obtain rfl := Option.some.inj h0
      exact rt_ (ret_ rfl rfl rfl rfl rfl trivial)
    · replace h0 := inb c6 h0
      refine sk_ ?_
      refine wk_ ⟨[], []⟩ (fg trivial trivial) ?_
      refine seq_ ?_
      refine reg_ ?_
      refine st (mvc_ trivial ?_)
      refine oe_ ?_
      refine wk_ ⟨[(4, .int .i64 (-1))], []⟩ (fg ⟨rfl, trivial⟩ trivial) ?_
      obtain rfl := Option.some.inj h0
      exact rt_ (ret_ rfl rfl rfl rfl rfl trivial)
  · replace h0 := inb c5 h0
    refine sk_ ?_
    refine wk_ ⟨[(0, .int .i64 a0), (1, .int .i64 a1), (6, .bool r3)], []⟩ (fg ⟨rfl, rfl, rfl, trivial⟩ trivial) ?_
    refine seq_ ?_
    refine seq_ ?_
    refine reg_ ?_
    refine st (mv_ rfl trivial ?_)
    refine oe_ ?_
    refine wk_ ⟨[(0, .int .i64 a0), (1, .int .i64 a1), (13, .bool r3)], []⟩ (fg ⟨rfl, rfl, rfl, trivial⟩ trivial) ?_
    refine ite_ (cb := r3) rfl (fun c7 => ?_) (fun c7 => ?_)
    · replace h0 := ip c7 h0
      refine seq_ ?_
      refine reg_ ?_
      refine st (mvc_ trivial ?_)
      refine oe_ ?_
      refine wk_ ⟨[(4, .int .i64 1)], []⟩ (fg ⟨rfl, trivial⟩ trivial) ?_
      obtain rfl := Option.some.inj h0
      exact rt_ (ret_ rfl rfl rfl rfl rfl trivial)
    · replace h0 := inb c7 h0
      refine sk_ ?_
      refine wk_ ⟨[(0, .int .i64 a0), (1, .int .i64 a1)], []⟩ (fg ⟨rfl, rfl, trivial⟩ trivial) ?_
      refine seq_ ?_
      refine seq_ ?_
      refine reg_ ?_
      refine st (mv_ rfl trivial ?_)
      refine st (mv_ rfl trivial ?_)
      refine st (c_ (cp_ ⟨trivial, trivial, trivial⟩ rfl trivial) ?_)
      refine oe_ ?_
      refine wk_ ⟨[(0, .int .i64 a0), (1, .int .i64 a1), (16, .bool (decide (a0 < a1)))], []⟩ (fg ⟨rfl, rfl, rfl, trivial⟩ trivial) ?_
      refine ite_ (cb := (decide (a0 < a1))) rfl (fun c8 => ?_) (fun c8 => ?_)
      · replace h0 := ip c8 h0
        refine seq_ ?_
        refine reg_ ?_
        refine st (mvc_ trivial ?_)
        refine oe_ ?_
        refine wk_ ⟨[(4, .int .i64 (-1))], []⟩ (fg ⟨rfl, trivial⟩ trivial) ?_
        obtain rfl := Option.some.inj h0
        exact rt_ (ret_ rfl rfl rfl rfl rfl trivial)
      · replace h0 := inb c8 h0
        refine sk_ ?_
        refine wk_ ⟨[(0, .int .i64 a0), (1, .int .i64 a1)], []⟩ (fg ⟨rfl, rfl, trivial⟩ trivial) ?_
        refine seq_ ?_
        refine seq_ ?_
        refine reg_ ?_
        refine st (mv_ rfl trivial ?_)
        refine st (mv_ rfl trivial ?_)
        refine st (c_ (cp_ ⟨trivial, trivial, trivial⟩ rfl trivial) ?_)
        refine oe_ ?_
        refine wk_ ⟨[(19, .bool (decide (a0 > a1)))], []⟩ (fg ⟨rfl, trivial⟩ trivial) ?_
        refine ite_ (cb := (decide (a0 > a1))) rfl (fun c9 => ?_) (fun c9 => ?_)
        · replace h0 := ip c9 h0
          refine seq_ ?_
          refine reg_ ?_
          refine st (mvc_ trivial ?_)
          refine oe_ ?_
          refine wk_ ⟨[(4, .int .i64 1)], []⟩ (fg ⟨rfl, trivial⟩ trivial) ?_
          obtain rfl := Option.some.inj h0
          exact rt_ (ret_ rfl rfl rfl rfl rfl trivial)
        · replace h0 := inb c9 h0
          refine sk_ ?_
          refine wk_ ⟨[], []⟩ (fg trivial trivial) ?_
          refine seq_ ?_
          refine reg_ ?_
          refine st (mvc_ trivial ?_)
          refine oe_ ?_
          refine wk_ ⟨[(4, .int .i64 0)], []⟩ (fg ⟨rfl, trivial⟩ trivial) ?_
          obtain rfl := Option.some.inj h0
          exact rt_ (ret_ rfl rfl rfl rfl rfl trivial)

/- loop.example/g00149/impl.byTime -/
def c69_r0 : List Ins := [⟨some 2, .box (.t 0), none⟩,
 ⟨some 3, .box (.t 1), none⟩,
 ⟨some 4, .p (.mv (.c (.int .i64 0))), none⟩]
def c69_r1 : DP := (.take ⟨some 5, .p (.fieldA (.t 2) 1), none⟩
 (.take ⟨some 6, .p (.load (.t 5) 1 false), none⟩
 (.take ⟨some 7, .p (.fieldA (.t 3) 1), none⟩
 (.take ⟨some 8, .p (.load (.t 7) 1 false), none⟩
 (.take ⟨some 10, .p (.fieldA (.t 2) 0), none⟩
 (.take ⟨some 11, .p (.load (.t 10) 1 false), none⟩
 (.take ⟨some 12, .p (.fieldA (.t 3) 0), none⟩
 (.take ⟨some 13, .p (.load (.t 12) 1 false), none⟩
 (.alt [⟨some 13, .p (.load (.t 12) 1 false), none⟩, ⟨some 12, .p (.fieldA (.t 3) 0), none⟩, ⟨some 11, .p (.load (.t 10) 1 false), none⟩, ⟨some 10, .p (.fieldA (.t 2) 0), none⟩] ⟨some 9, .call 110 [(.t 6), (.t 8)], none⟩
 (.alt [] ⟨some 14, .call 110 [(.t 11), (.t 13)], none⟩
 (.alt [] ⟨some 15, .mkS 1 [(.int .i64 0)] 2 [(0, (.t 9)), (1, (.t 14))], none⟩
 (.alt [] ⟨some 16, .call 109 [(.t 15)], none⟩
 (.take ⟨some 4, .p (.mv (.t 16)), none⟩
 .fin)
 .stop)
 .stop)
 .stop)
 .stop)))))))))
def c69 : XFn := { np := 2, nt := 17, res := [.t 4], body := (.seq (.reg c69_r0) (.seq (.draw c69_r1) .ret)) }
def K69 (C : CRel) : Prop := ∀ (a0 : DLease) (a1 : DLease) (r : Int), g69 a0 a1 = some r → C 69 ⟨[.agg [.int .i64 a0.id, .int .i64 a0.until_, .int .i64 a0.cap, .bool a0.queued], .agg [.int .i64 a1.id, .int .i64 a1.until_, .int .i64 a1.cap, .bool a1.queued]], []⟩ ⟨.int .i64 r, [], []⟩
theorem F69 {C : CRel} (H109 : K109 C) (H110 : K110 C) (a0 : DLease) (a1 : DLease) (r : Int) (h0 : g69 a0 a1 = some r) : FnOK C c69 ⟨[.agg [.int .i64 a0.id, .int .i64 a0.until_, .int .i64 a0.cap, .bool a0.queued], .agg [.int .i64 a1.id, .int .i64 a1.until_, .int .i64 a1.cap, .bool a1.queued]], []⟩ ⟨.int .i64 r, [], []⟩ := by
  refine fn_ (Nat.le_of_ble_eq_true rfl) ?_
  refine seq_ ?_
  refine reg_ ?_
  refine st (box_ rfl trivial rfl ?_)
  refine st (box_ rfl trivial rfl ?_)
  refine st (mvc_ trivial ?_)
  refine oe_ ?_
  refine wk_ ⟨[(2, .ptr 128 0), (3, .ptr 192 0)], [(128, [.int .i64 a0.id, .int .i64 a0.until_, .int .i64 a0.cap, .bool a0.queued]), (192, [.int .i64 a1.id, .int .i64 a1.until_, .int .i64 a1.cap, .bool a1.queued])]⟩ (fg ⟨rfl, rfl, trivial⟩ ⟨rfl, rfl, trivial⟩) ?_
  refine seq_ ?_
  obtain ⟨r1, e2, h0⟩ := bnd h0
  obtain ⟨r3, e4, h0⟩ := bnd h0
  obtain ⟨r5, e6, h0⟩ := bnd h0
  refine draw_ ?_
  refine dtake trivial (c_ (cp_ ⟨trivial, trivial⟩ rfl trivial) ?_)
  refine ⟨trivial, ?_⟩
  refine dtake trivial (c_ (cp_ ⟨trivial, trivial⟩ rfl (Nat.le_of_ble_eq_true rfl)) ?_)
  refine ⟨trivial, ?_⟩
  refine dtake trivial (c_ (cp_ ⟨trivial, trivial⟩ rfl trivial) ?_)
  refine ⟨trivial, ?_⟩
  refine dtake trivial (c_ (cp_ ⟨trivial, trivial⟩ rfl (Nat.le_of_ble_eq_true rfl)) ?_)
  refine ⟨trivial, ?_⟩
  refine dtake trivial (c_ (cp_ ⟨trivial, trivial⟩ rfl trivial) ?_)
  refine ⟨trivial, ?_⟩
  refine dtake trivial (c_ (cp_ ⟨trivial, trivial⟩ rfl (Nat.le_of_ble_eq_true rfl)) ?_)
  refine ⟨trivial, ?_⟩
  refine dtake trivial (c_ (cp_ ⟨trivial, trivial⟩ rfl trivial) ?_)
  refine ⟨trivial, ?_⟩
  refine dtake trivial (c_ (cp_ ⟨trivial, trivial⟩ rfl (Nat.le_of_ble_eq_true rfl)) ?_)
  refine ⟨trivial, ?_⟩
  refine dalt (call0_ (r := .int .i64 r1) false (H110 a0.until_ a1.until_ r1 e2) ⟨trivial, trivial, trivial⟩ rfl rfl (fun _ => rfl) ?_) dstop
  refine ⟨[], ⟨⟨.inl trivial, (again1 (cp_ ⟨trivial, trivial⟩ rfl (Nat.le_of_ble_eq_true rfl)) rfl)⟩, ⟨.inl trivial, (again1 (cp_ ⟨trivial, trivial⟩ rfl trivial) rfl)⟩, ⟨.inl trivial, (again1 (cp_ ⟨trivial, trivial⟩ rfl (Nat.le_of_ble_eq_true rfl)) rfl)⟩, ⟨.inl trivial, (again1 (cp_ ⟨trivial, trivial⟩ rfl trivial) rfl)⟩, trivial⟩, trivial, ?_⟩
  refine dalt (call0_ (r := .int .i64 r3) false (H110 a0.id a1.id r3 e4) ⟨trivial, trivial, trivial⟩ rfl rfl (fun _ => rfl) ?_) dstop
  refine ⟨[], trivial, trivial, ?_⟩
  refine dalt (mkS_ ⟨trivial, trivial, trivial⟩ ⟨⟨Nat.le_of_ble_eq_true rfl, rfl, rfl⟩, ⟨Nat.le_of_ble_eq_true rfl, rfl, rfl⟩, trivial⟩ ?_) dstop
  refine ⟨[], trivial, trivial, ?_⟩
  refine dalt (call0_ (r := .int .i64 r5) false (H109 ([r1, r3] : List Int) r5 e6) ⟨trivial, trivial⟩ rfl rfl (fun _ => rfl) ?_) dstop
  refine ⟨[], trivial, trivial, ?_⟩
  refine dtake trivial (mv_ rfl trivial ?_)
  refine ⟨trivial, ?_⟩
  refine dfin ?_
  refine wk_ ⟨[(4, .int .i64 r5)], []⟩ (fg ⟨rfl, trivial⟩ trivial) ?_
  obtain rfl := Option.some.inj h0
  exact rt_ (ret_ rfl rfl rfl rfl rfl trivial)

/- loop.example/g00149/impl.Due -/
def c23_r0 : List Ins := [⟨some 1, .box (.t 0), none⟩,
 ⟨some 2, .p (.mv (.c (.int .i64 0))), none⟩,
 ⟨some 3, .p (.mv (.c (.int .i64 0))), none⟩]
def c23_r1 : List Ins := [⟨some 5, .p (.load (.t 1) 3 true), none⟩,
 ⟨some 6, .call 20 [(.t 5)], none⟩,
 ⟨some 7, .p (.un .not (.t 6)), none⟩]
def c23_r2 : List Ins := [⟨some 2, .p (.mv (.c (.int .i64 0))), none⟩,
 ⟨some 3, .p (.mv (.c (.int .i64 1))), none⟩]
def c23_r3 : List Ins := [⟨some 8, .p (.fieldA (.t 1) 2), none⟩,
 ⟨some 9, .p (.load (.t 8) 1 false), none⟩,
 ⟨some 10, .call 66 [(.t 9)], none⟩,
 ⟨some 11, .call 65 [(.t 10), (.c (.clo 67 []))], none⟩,
 ⟨some 4, .p (.mv (.t 11)), none⟩]
def c23_r4 : List Ins := [⟨some 12, .p (.mv (.t 4)), none⟩,
 ⟨some 13, .p (.len (.t 12)), none⟩,
 ⟨some 14, .p (.bin .eql (.t 13) (.c (.int .i64 0))), none⟩]
def c23_r5 : List Ins := [⟨some 2, .p (.mv (.c (.int .i64 0))), none⟩,
 ⟨some 3, .p (.mv (.c (.int .i64 5))), none⟩]
def c23_r6 : List Ins := [⟨some 15, .p (.mv (.t 4)), none⟩,
 ⟨some 16, .call 68 [(.t 15), (.c (.clo 69 []))], none⟩,
 ⟨some 17, .p (.field (.t 16) 0 1 false), none⟩,
 ⟨some 2, .p (.mv (.t 17)), none⟩,
 ⟨some 3, .p (.mv (.c (.int .i64 0))), none⟩]
def c23 : XFn := { np := 1, nt := 18, res := [.t 2, .t 3], body := (.seq (.reg c23_r0) (.seq (.seq (.reg c23_r1) (.ite (.t 7) (.seq (.reg c23_r2) .ret) .skip)) (.seq (.reg c23_r3) (.seq (.seq (.reg c23_r4) (.ite (.t 14) (.seq (.reg c23_r5) .ret) .skip)) (.seq (.reg c23_r6) .ret))))) }
def K23 (C : CRel) : Prop := ∀ (a0 : DTable) (r : Int × Int), g23 a0 = some r → C 23 ⟨[.agg [.int .i64 a0.clock, .int .i64 a0.next, .lst 4 (a0.list_.map eDLease)]], []⟩ ⟨.tup [.int .i64 r.1, .int .i64 r.2], [], []⟩
theorem F23 {C : CRel} (H20 : K20 C) (H65 : K65 C) (H66 : K66 C) (H67 : K67 C) (H68 : K68 C) (H69 : K69 C) (a0 : DTable) (r : Int × Int) (h0 : g23 a0 = some r) : FnOK C c23 ⟨[.agg [.int .i64 a0.clock, .int .i64 a0.next, .lst 4 (a0.list_.map eDLease)]], []⟩ ⟨.tup [.int .i64 r.1, .int .i64 r.2], [], []⟩ := by
  refine fn_ (Nat.le_of_ble_eq_true rfl) ?_
  refine seq_ ?_
  refine reg_ ?_
  refine st (box_ rfl trivial rfl ?_)
  refine st (mvc_ trivial ?_)
  refine st (mvc_ trivial ?_)
  refine oe_ ?_
  refine wk_ ⟨[(1, .ptr 64 0)], [(64, [.int .i64 a0.clock, .int .i64 a0.next, .lst 4 (a0.list_.map eDLease)])]⟩ (fg ⟨rfl, trivial⟩ ⟨rfl, trivial⟩) ?_
  refine seq_ ?_
  refine seq_ ?_
  refine reg_ ?_
  refine st (c_ (v := .agg [.int .i64 a0.clock, .int .i64 a0.next, .lst 4 (a0.list_.map eDLease)]) (cp_ ⟨trivial, trivial⟩ rfl (Nat.le_of_ble_eq_true rfl)) ?_)
  obtain ⟨r1, e2, h0⟩ := bnd h0
  refine st (call0_ (r := .bool r1) false (H20 a0 r1 e2) ⟨trivial, trivial⟩ rfl rfl (fun _ => rfl) ?_)
  refine st (c_ (cp_ ⟨trivial, trivial⟩ rfl trivial) ?_)
  refine oe_ ?_
  refine wk_ ⟨[(1, .ptr 64 0), (7, .bool (!r1))], [(64, [.int .i64 a0.clock, .int .i64 a0.next, .lst 4 (a0.list_.map eDLease)])]⟩ (fg ⟨rfl, rfl, trivial⟩ ⟨rfl, trivial⟩) ?_
  refine ite_ (cb := (!r1)) rfl (fun c3 => ?_) (fun c3 => ?_)
  · replace h0 := ip c3 h0
    refine seq_ ?_
    refine reg_ ?_
    refine st (mvc_ trivial ?_)
    refine st (mvc_ trivial ?_)
    refine oe_ ?_
    refine wk_ ⟨[(2, .int .i64 0), (3, .int .i64 1)], []⟩ (fg ⟨rfl, rfl, trivial⟩ trivial) ?_
    obtain rfl := Option.some.inj h0
    exact rt_ (ret_ rfl rfl rfl rfl rfl trivial)
  · replace h0 := inb c3 h0
    refine sk_ ?_
    refine wk_ ⟨[(1, .ptr 64 0)], [(64, [.int .i64 a0.clock, .int .i64 a0.next, .lst 4 (a0.list_.map eDLease)])]⟩ (fg ⟨rfl, trivial⟩ ⟨rfl, trivial⟩) ?_
    refine seq_ ?_
    refine reg_ ?_
    refine st (c_ (cp_ ⟨trivial, trivial⟩ rfl trivial) ?_)
    refine st (c_ (cp_ ⟨trivial, trivial⟩ rfl (Nat.le_of_ble_eq_true rfl)) ?_)
    obtain ⟨r4, e5, h0⟩ := bnd h0
    refine st (call0_ (r := .own 0 0 4 (r4.map eDLease)) false (H66 a0.list_ r4 e5) ⟨trivial, trivial⟩ rfl rfl (fun _ => (and_ (fl1 (fun _ => rfl)) rfl)) ?_)
    obtain ⟨r6, e7, h0⟩ := bnd h0
    refine st (call1_ [] [] [640] false (H65 r4 67 [] (fun z67_0 => g67 z67_0) (⟨fun _ _ _ _ _ => rfl, fun _ _ _ _ _ => rfl, rfl, fun _ _ _ n => by cases n <;> rfl, fun _ => rfl⟩) (fun z67_0 r h => H67 z67_0 r h) r6 e7) ⟨trivial, trivial, trivial⟩ rfl rfl rfl rfl (fun _ => and_ (and_ (fl1 (fun _ => rfl)) rfl) rfl) ?_)
    refine st (mv_ rfl trivial ?_)
    refine oe_ ?_
    refine wk_ ⟨[(4, .own 704 0 4 (r6.map eDLease))], []⟩ (fg ⟨rfl, trivial⟩ trivial) ?_
    refine seq_ ?_
    refine seq_ ?_
    refine reg_ ?_
    refine st (mv_ rfl trivial ?_)
    refine st (c_ (clenO (e := eDLease) (l0 := r6) rfl rfl trivial) ?_)
    refine st (c_ (cp_ ⟨trivial, trivial, trivial⟩ rfl trivial) ?_)
    refine oe_ ?_
    refine wk_ ⟨[(4, .own 704 0 4 (r6.map eDLease)), (14, .bool ((r6.length : Int) == 0))], []⟩ (fg ⟨rfl, rfl, trivial⟩ trivial) ?_
    refine ite_ (cb := ((r6.length : Int) == 0)) rfl (fun c8 => ?_) (fun c8 => ?_)
    · replace h0 := ip c8 h0
      refine seq_ ?_
      refine reg_ ?_
      refine st (mvc_ trivial ?_)
      refine st (mvc_ trivial ?_)
      refine oe_ ?_
      refine wk_ ⟨[(2, .int .i64 0), (3, .int .i64 5)], []⟩ (fg ⟨rfl, rfl, trivial⟩ trivial) ?_
      obtain rfl := Option.some.inj h0
      exact rt_ (ret_ rfl rfl rfl rfl rfl trivial)
    · replace h0 := inb c8 h0
      refine sk_ ?_
      refine wk_ ⟨[(4, .own 704 0 4 (r6.map eDLease))], []⟩ (fg ⟨rfl, trivial⟩ trivial) ?_
      refine seq_ ?_
      refine reg_ ?_
      refine st (mv_ rfl trivial ?_)
      obtain ⟨r9, e10, h0⟩ := bnd h0
      refine st (call0_ (r := .agg [.int .i64 r9.id, .int .i64 r9.until_, .int .i64 r9.cap, .bool r9.queued]) false (H68 r6 69 [] (fun z69_0 z69_1 => g69 z69_0 z69_1) (⟨fun _ _ _ _ _ => rfl, fun _ _ _ _ _ => rfl, rfl, fun _ _ _ n => by cases n <;> rfl, fun _ => rfl⟩) (fun z69_0 z69_1 r h => H69 z69_0 z69_1 r h) r9 e10) ⟨trivial, trivial, trivial⟩ rfl rfl (fun _ => rfl) ?_)
      refine st (c_ (cp_ ⟨trivial, trivial⟩ rfl (Nat.le_of_ble_eq_true rfl)) ?_)
      refine st (mv_ rfl trivial ?_)
      refine st (mvc_ trivial ?_)
      refine oe_ ?_
      refine wk_ ⟨[(2, .int .i64 r9.id), (3, .int .i64 0)], []⟩ (fg ⟨rfl, rfl, trivial⟩ trivial) ?_
      obtain rfl := Option.some.inj h0
      exact rt_ (ret_ rfl rfl rfl rfl rfl trivial)
end Go.Ev
