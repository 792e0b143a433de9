/- The walks of functions: the code comes to the answers that QgD tells. Written by a program of ours. -/
import Derived.Test.YtdkeomfbpdodiaaQgW0
set_option linter.all false
set_option linter.unusedVariables false
set_option maxRecDepth 100000
namespace Go.Ev

/- loop.example/g00149/laws.FnExactDue -/
def c5_r0 : List Ins := [⟨some 1, .box (.t 0), none⟩,
 ⟨some 2, .p (.mv (.c (.bool false))), none⟩]
def c5_r1 : List Ins := [⟨some 3, .p (.mv (.c (.int .i64 1048576))), none⟩]
def c5_r2 : List Ins := [⟨some 9, .p (.load (.t 1) 3 true), none⟩,
 ⟨some 10, .p (.mv (.t 3)), none⟩,
 ⟨some 11, .call 17 [(.t 9), (.t 10)], none⟩,
 ⟨some 3, .p (.mv (.t 11)), none⟩]
def c5_r3 : List Ins := [⟨some 12, .p (.mv (.t 3)), none⟩,
 ⟨some 13, .p (.bin .lss (.t 12) (.c (.int .i64 0))), none⟩]
def c5_r4 : List Ins := [⟨some 2, .p (.mv (.c (.bool true))), none⟩]
def c5_r5 : List Ins := [⟨some 15, .p (.load (.t 1) 3 true), none⟩,
 ⟨some 16, .call 19 [(.t 15)], none⟩,
 ⟨some 17, .call 22 [(.t 16)], none⟩,
 ⟨some 14, .p (.mv (.t 17)), none⟩,
 ⟨some 18, .p (.ext (.t 14) 0), none⟩,
 ⟨some 19, .p (.ext (.t 14) 1), none⟩,
 ⟨some 4, .p (.mv (.t 18)), none⟩,
 ⟨some 5, .p (.mv (.t 19)), none⟩]
def c5_r6 : List Ins := [⟨some 20, .p (.load (.t 1) 3 true), none⟩,
 ⟨some 21, .call 19 [(.t 20)], none⟩,
 ⟨some 6, .alloc [(.int .i64 0), (.int .i64 0), (.own 387 0 4 [])], none⟩,
 ⟨none, .store (.t 6) (.t 21) 3, none⟩]
def c5_r7 : List Ins := [⟨some 23, .p (.load (.t 6) 3 true), none⟩,
 ⟨some 24, .call 23 [(.t 23)], none⟩,
 ⟨some 22, .p (.mv (.t 24)), none⟩,
 ⟨some 25, .p (.ext (.t 22) 0), none⟩,
 ⟨some 26, .p (.ext (.t 22) 1), none⟩,
 ⟨some 7, .p (.mv (.t 25)), none⟩,
 ⟨some 8, .p (.mv (.t 26)), none⟩]
def c5_r8 : List Ins := [⟨some 27, .p (.mv (.t 7)), none⟩,
 ⟨some 28, .p (.mv (.t 4)), none⟩,
 ⟨some 29, .p (.bin .neq (.t 27) (.t 28)), none⟩,
 ⟨some 30, .p (.mv (.t 29)), none⟩,
 ⟨some 31, .p (.mv (.t 8)), some (30, false)⟩,
 ⟨some 32, .p (.mv (.t 5)), some (30, false)⟩,
 ⟨some 33, .p (.bin .neq (.t 31) (.t 32)), some (30, false)⟩,
 ⟨some 34, .pick (.t 30) (.c (.bool true)) (.t 33), none⟩]
def c5_r9 : List Ins := [⟨some 2, .p (.mv (.c (.bool false))), none⟩]
def c5_r10 : DP := (.take ⟨some 35, .p (.load (.t 6) 3 true), none⟩
 (.take ⟨some 36, .p (.load (.t 1) 3 true), none⟩
 (.alt [⟨some 35, .p (.load (.t 6) 3 true), none⟩] ⟨some 37, .call 19 [(.t 36)], none⟩
 (.alt [] ⟨some 38, .call 21 [(.t 35), (.t 37)], none⟩
 (.take ⟨some 39, .p (.un .not (.t 38)), none⟩
 .fin)
 .stop)
 .stop)))
def c5_r11 : List Ins := [⟨some 2, .p (.mv (.c (.bool false))), none⟩]
def c5_r12 : List Ins := [⟨some 2, .p (.mv (.c (.bool true))), none⟩]
def c5 : XFn := { np := 1, nt := 40, res := [.t 2], body := (.seq (.reg c5_r0) (.seq (.reg c5_r1) (.seq (.reg c5_r2) (.seq (.seq (.reg c5_r3) (.ite (.t 13) (.seq (.reg c5_r4) .ret) .skip)) (.seq (.reg c5_r5) (.seq (.reg c5_r6) (.seq (.reg c5_r7) (.seq (.seq (.reg c5_r8) (.ite (.t 34) (.seq (.reg c5_r9) .ret) .skip)) (.seq (.seq (.draw c5_r10) (.ite (.t 39) (.seq (.reg c5_r11) .ret) .skip)) (.seq (.reg c5_r12) .ret)))))))))) }
def K5 (C : CRel) : Prop := ∀ (a0 : DTable) (r : Bool), g5 a0 = some r → C 5 ⟨[.agg [.int .i64 a0.clock, .int .i64 a0.next, .lst 4 (a0.list_.map eDLease)]], []⟩ ⟨.bool r, [], []⟩
theorem F5 {C : CRel} (H17 : K17 C) (H19 : K19 C) (H21 : K21 C) (H22 : K22 C) (H23 : K23 C) (a0 : DTable) (r : Bool) (h0 : g5 a0 = some r) : FnOK C c5 ⟨[.agg [.int .i64 a0.clock, .int .i64 a0.next, .lst 4 (a0.list_.map eDLease)]], []⟩ ⟨.bool r, [], []⟩ := by
  refine fn_ (Nat.le_of_ble_eq_true rfl) ?_
  refine seq_ ?_
  refine reg_ ?_
  refine st (box_ rfl trivial rfl ?_)
  refine st (mvc_ trivial ?_)
  refine oe_ ?_
  refine wk_ ⟨[(1, .ptr 64 0)], [(64, [.int .i64 a0.clock, .int .i64 a0.next, .lst 4 (a0.list_.map eDLease)])]⟩ (fg ⟨rfl, trivial⟩ ⟨rfl, trivial⟩) ?_
  refine seq_ ?_
  refine reg_ ?_
  refine st (mvc_ trivial ?_)
  refine oe_ ?_
  refine wk_ ⟨[(1, .ptr 64 0), (3, .int .i64 1048576)], [(64, [.int .i64 a0.clock, .int .i64 a0.next, .lst 4 (a0.list_.map eDLease)])]⟩ (fg ⟨rfl, rfl, trivial⟩ ⟨rfl, trivial⟩) ?_
  refine seq_ ?_
  refine reg_ ?_
  refine st (c_ (v := .agg [.int .i64 a0.clock, .int .i64 a0.next, .lst 4 (a0.list_.map eDLease)]) (cp_ ⟨trivial, trivial⟩ rfl (Nat.le_of_ble_eq_true rfl)) ?_)
  refine st (mv_ rfl trivial ?_)
  obtain ⟨r1, e2, h0⟩ := bnd h0
  refine st (call0_ (r := .int .i64 r1) false (H17 a0 1048576 r1 e2) ⟨trivial, trivial, trivial⟩ rfl rfl (fun _ => rfl) ?_)
  refine st (mv_ rfl trivial ?_)
  refine oe_ ?_
  refine wk_ ⟨[(1, .ptr 64 0), (3, .int .i64 r1)], [(64, [.int .i64 a0.clock, .int .i64 a0.next, .lst 4 (a0.list_.map eDLease)])]⟩ (fg ⟨rfl, rfl, trivial⟩ ⟨rfl, trivial⟩) ?_
  refine seq_ ?_
  refine seq_ ?_
  refine reg_ ?_
  refine st (mv_ rfl trivial ?_)
  refine st (c_ (cp_ ⟨trivial, trivial, trivial⟩ rfl trivial) ?_)
  refine oe_ ?_
  refine wk_ ⟨[(1, .ptr 64 0), (13, .bool (decide (r1 < 0)))], [(64, [.int .i64 a0.clock, .int .i64 a0.next, .lst 4 (a0.list_.map eDLease)])]⟩ (fg ⟨rfl, rfl, trivial⟩ ⟨rfl, trivial⟩) ?_
  refine ite_ (cb := (decide (r1 < 0))) rfl (fun c3 => ?_) (fun c3 => ?_)
  · replace h0 := ip c3 h0
    refine seq_ ?_
    refine reg_ ?_
    refine st (mvc_ trivial ?_)
    refine oe_ ?_
    refine wk_ ⟨[(2, .bool true)], []⟩ (fg ⟨rfl, trivial⟩ trivial) ?_
    obtain rfl := Option.some.inj h0
    exact rt_ (ret_ rfl rfl rfl rfl rfl trivial)
  · replace h0 := inb c3 h0
    refine sk_ ?_
    refine wk_ ⟨[(1, .ptr 64 0)], [(64, [.int .i64 a0.clock, .int .i64 a0.next, .lst 4 (a0.list_.map eDLease)])]⟩ (fg ⟨rfl, trivial⟩ ⟨rfl, trivial⟩) ?_
    refine seq_ ?_
    refine reg_ ?_
    refine st (c_ (v := .agg [.int .i64 a0.clock, .int .i64 a0.next, .lst 4 (a0.list_.map eDLease)]) (cp_ ⟨trivial, trivial⟩ rfl (Nat.le_of_ble_eq_true rfl)) ?_)
    obtain ⟨r4, e5, h0⟩ := bnd h0
    refine st (call0_ (r := .agg [.int .i64 r4.clock, .int .i64 r4.next, .own 0 0 4 (r4.list_.map eDLease)]) false (H19 a0 r4 e5) ⟨trivial, trivial⟩ rfl rfl (fun _ => (and_ rfl (and_ rfl (and_ (fl1 (fun _ => rfl)) rfl)))) ?_)
    obtain ⟨r6, e7, h0⟩ := bnd h0
    refine st (call0_ (r := .tup [.int .i64 r6.1, .int .i64 r6.2]) false (H22 r4 r6 e7) ⟨trivial, trivial⟩ rfl rfl (fun _ => rfl) ?_)
    refine st (mv_ rfl trivial ?_)
    refine st (c_ (cp_ ⟨trivial, trivial⟩ rfl trivial) ?_)
    refine st (c_ (cp_ ⟨trivial, trivial⟩ rfl trivial) ?_)
    refine st (mv_ rfl trivial ?_)
    refine st (mv_ rfl trivial ?_)
    refine oe_ ?_
    refine wk_ ⟨[(1, .ptr 64 0), (4, .int .i64 r6.1), (5, .int .i64 r6.2)], [(64, [.int .i64 a0.clock, .int .i64 a0.next, .lst 4 (a0.list_.map eDLease)])]⟩ (fg ⟨rfl, rfl, rfl, trivial⟩ ⟨rfl, trivial⟩) ?_
    refine seq_ ?_
    refine reg_ ?_
    refine st (c_ (v := .agg [.int .i64 a0.clock, .int .i64 a0.next, .lst 4 (a0.list_.map eDLease)]) (cp_ ⟨trivial, trivial⟩ rfl (Nat.le_of_ble_eq_true rfl)) ?_)
    obtain ⟨r8, e9, h0⟩ := bnd h0
    refine st (call0_ (r := .agg [.int .i64 r8.clock, .int .i64 r8.next, .own 0 0 4 (r8.list_.map eDLease)]) false (H19 a0 r8 e9) ⟨trivial, trivial⟩ rfl rfl (fun _ => (and_ rfl (and_ rfl (and_ (fl1 (fun _ => rfl)) rfl)))) ?_)
    refine st (alloc_ ?_)
    refine st (stp_ rfl rfl trivial rfl rfl rfl (Nat.le_of_ble_eq_true rfl) ?_)
    refine oe_ ?_
    refine wk_ ⟨[(1, .ptr 64 0), (4, .int .i64 r6.1), (5, .int .i64 r6.2), (6, .ptr 384 0)], [(64, [.int .i64 a0.clock, .int .i64 a0.next, .lst 4 (a0.list_.map eDLease)]), (384, [.int .i64 r8.clock, .int .i64 r8.next, .own 1344 0 4 (r8.list_.map eDLease)])]⟩ (fg ⟨rfl, rfl, rfl, rfl, trivial⟩ ⟨rfl, rfl, trivial⟩) ?_
    refine seq_ ?_
    refine reg_ ?_
    refine st (c_ (v := .agg [.int .i64 r8.clock, .int .i64 r8.next, .own 1344 0 4 (r8.list_.map eDLease)]) (cp_ ⟨trivial, trivial⟩ rfl (Nat.le_of_ble_eq_true rfl)) ?_)
    obtain ⟨r10, e11, h0⟩ := bnd h0
    refine st (call0_ (r := .tup [.int .i64 r10.1, .int .i64 r10.2]) false (H23 r8 r10 e11) ⟨trivial, trivial⟩ rfl rfl (fun _ => rfl) ?_)
    refine st (mv_ rfl trivial ?_)
    refine st (c_ (cp_ ⟨trivial, trivial⟩ rfl trivial) ?_)
    refine st (c_ (cp_ ⟨trivial, trivial⟩ rfl trivial) ?_)
    refine st (mv_ rfl trivial ?_)
    refine st (mv_ rfl trivial ?_)
    refine oe_ ?_
    refine wk_ ⟨[(1, .ptr 64 0), (4, .int .i64 r6.1), (5, .int .i64 r6.2), (6, .ptr 384 0), (7, .int .i64 r10.1), (8, .int .i64 r10.2)], [(64, [.int .i64 a0.clock, .int .i64 a0.next, .lst 4 (a0.list_.map eDLease)]), (384, [.int .i64 r8.clock, .int .i64 r8.next, .own 1344 0 4 (r8.list_.map eDLease)])]⟩ (fg ⟨rfl, rfl, rfl, rfl, rfl, rfl, trivial⟩ ⟨rfl, rfl, trivial⟩) ?_
    refine seq_ ?_
    refine seq_ ?_
    refine reg_ ?_
    refine st (mv_ rfl trivial ?_)
    refine st (mv_ rfl trivial ?_)
    refine st (c_ (cp_ ⟨trivial, trivial, trivial⟩ rfl trivial) ?_)
    refine st (mv_ rfl trivial ?_)
    refine st (pg_ (u := .int .i64 r10.2) rfl (fun hg => (cmv (v := .int .i64 r10.2) rfl trivial)) ?_)
    refine st (pg_ (u := .int .i64 r6.2) rfl (fun hg => (cmv (v := .int .i64 r6.2) rfl trivial)) ?_)
    refine st (pg_ (u := .bool (r10.2 != r6.2)) rfl (fun hg => (cp_ ⟨(fun _ => hg), (fun _ => hg), trivial⟩ rfl trivial)) ?_)
    refine st (pick_ rfl rfl rfl trivial (fun h => eqf h) rfl ?_)
    refine oe_ ?_
    refine wk_ ⟨[(1, .ptr 64 0), (6, .ptr 384 0), (34, .bool (bif (r10.1 != r6.1) then true else (r10.2 != r6.2)))], [(64, [.int .i64 a0.clock, .int .i64 a0.next, .lst 4 (a0.list_.map eDLease)]), (384, [.int .i64 r8.clock, .int .i64 r8.next, .own 1344 0 4 (r8.list_.map eDLease)])]⟩ (fg ⟨rfl, rfl, rfl, trivial⟩ ⟨rfl, rfl, trivial⟩) ?_
    refine ite_ (cb := (bif (r10.1 != r6.1) then true else (r10.2 != r6.2))) rfl (fun c12 => ?_) (fun c12 => ?_)
    · replace h0 := ip c12 h0
      refine seq_ ?_
      refine reg_ ?_
      refine st (mvc_ trivial ?_)
      refine oe_ ?_
      refine wk_ ⟨[(2, .bool false)], []⟩ (fg ⟨rfl, trivial⟩ trivial) ?_
      obtain rfl := Option.some.inj h0
      exact rt_ (ret_ rfl rfl rfl rfl rfl trivial)
    · replace h0 := inb c12 h0
      refine sk_ ?_
      refine wk_ ⟨[(1, .ptr 64 0), (6, .ptr 384 0)], [(64, [.int .i64 a0.clock, .int .i64 a0.next, .lst 4 (a0.list_.map eDLease)]), (384, [.int .i64 r8.clock, .int .i64 r8.next, .own 1344 0 4 (r8.list_.map eDLease)])]⟩ (fg ⟨rfl, rfl, trivial⟩ ⟨rfl, rfl, trivial⟩) ?_
      refine seq_ ?_
      refine seq_ ?_
      obtain ⟨r13, e14, h0⟩ := bnd h0
      obtain ⟨r15, e16, h0⟩ := bnd h0
      refine draw_ ?_
      refine dtake trivial (c_ (v := .agg [.int .i64 r8.clock, .int .i64 r8.next, .own 1344 0 4 (r8.list_.map eDLease)]) (cp_ ⟨trivial, trivial⟩ rfl (Nat.le_of_ble_eq_true rfl)) ?_)
      refine ⟨trivial, ?_⟩
      refine dtake trivial (c_ (v := .agg [.int .i64 a0.clock, .int .i64 a0.next, .lst 4 (a0.list_.map eDLease)]) (cp_ ⟨trivial, trivial⟩ rfl (Nat.le_of_ble_eq_true rfl)) ?_)
      refine ⟨trivial, ?_⟩
      refine dalt (call0_ (r := .agg [.int .i64 r13.clock, .int .i64 r13.next, .own 0 0 4 (r13.list_.map eDLease)]) false (H19 a0 r13 e14) ⟨trivial, trivial⟩ rfl rfl (fun _ => (and_ rfl (and_ rfl (and_ (fl1 (fun _ => rfl)) rfl)))) ?_) dstop
      refine ⟨[], ⟨⟨.inl trivial, (again1 (cp_ ⟨trivial, trivial⟩ rfl (Nat.le_of_ble_eq_true rfl)) rfl)⟩, trivial⟩, trivial, ?_⟩
      refine dalt (call0_ (r := .bool r15) false (H21 r8 r13 r15 e16) ⟨trivial, trivial, trivial⟩ rfl rfl (fun _ => rfl) ?_) dstop
      refine ⟨[], trivial, trivial, ?_⟩
      refine dtake trivial (c_ (cp_ ⟨trivial, trivial⟩ rfl trivial) ?_)
      refine ⟨trivial, ?_⟩
      refine dfin ?_
      refine wk_ ⟨[(39, .bool (!r15))], []⟩ (fg ⟨rfl, trivial⟩ trivial) ?_
      refine ite_ (cb := (!r15)) rfl (fun c17 => ?_) (fun c17 => ?_)
      · replace h0 := ip c17 h0
        refine seq_ ?_
        refine reg_ ?_
        refine st (mvc_ trivial ?_)
        refine oe_ ?_
        refine wk_ ⟨[(2, .bool false)], []⟩ (fg ⟨rfl, trivial⟩ trivial) ?_
        obtain rfl := Option.some.inj h0
        exact rt_ (ret_ rfl rfl rfl rfl rfl trivial)
      · replace h0 := inb c17 h0
        refine sk_ ?_
        refine wk_ ⟨[], []⟩ (fg trivial trivial) ?_
        refine seq_ ?_
        refine reg_ ?_
        refine st (mvc_ trivial ?_)
        refine oe_ ?_
        refine wk_ ⟨[(2, .bool true)], []⟩ (fg ⟨rfl, trivial⟩ trivial) ?_
        obtain rfl := Option.some.inj h0
        exact rt_ (ret_ rfl rfl rfl rfl rfl trivial)
end Go.Ev
