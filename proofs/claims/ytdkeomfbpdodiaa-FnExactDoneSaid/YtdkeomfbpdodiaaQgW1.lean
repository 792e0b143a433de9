/- The walks of functions: the code comes to the answers that QgD tells. Written by a program of ours. -/
import Derived.Test.YtdkeomfbpdodiaaQgW0
set_option linter.all false
set_option linter.unusedVariables false
set_option maxRecDepth 100000
namespace Go.Ev

/- cmp.Compare[int] -/
def c110_r0 : List Ins := [⟨some 4, .p (.mv (.c (.int .i64 0))), none⟩]
def c110_r1 : List Ins := [⟨some 7, .p (.mv (.t 0)), none⟩,
 ⟨some 8, .call 136 [(.t 7)], none⟩,
 ⟨some 5, .p (.mv (.t 8)), none⟩]
def c110_r2 : List Ins := [⟨some 9, .p (.mv (.t 1)), none⟩,
 ⟨some 10, .call 136 [(.t 9)], none⟩,
 ⟨some 6, .p (.mv (.t 10)), none⟩]
def c110_r3 : List Ins := [⟨some 11, .p (.mv (.t 5)), none⟩]
def c110_r4 : List Ins := [⟨some 12, .p (.mv (.t 6)), none⟩]
def c110_r5 : List Ins := [⟨some 4, .p (.mv (.c (.int .i64 0))), none⟩]
def c110_r6 : List Ins := [⟨some 4, .p (.mv (.c (.int .i64 (-1)))), none⟩]
def c110_r7 : List Ins := [⟨some 13, .p (.mv (.t 6)), none⟩]
def c110_r8 : List Ins := [⟨some 4, .p (.mv (.c (.int .i64 1))), none⟩]
def c110_r9 : List Ins := [⟨some 14, .p (.mv (.t 0)), none⟩,
 ⟨some 15, .p (.mv (.t 1)), none⟩,
 ⟨some 16, .p (.bin .lss (.t 14) (.t 15)), none⟩]
def c110_r10 : List Ins := [⟨some 4, .p (.mv (.c (.int .i64 (-1)))), none⟩]
def c110_r11 : List Ins := [⟨some 17, .p (.mv (.t 0)), none⟩,
 ⟨some 18, .p (.mv (.t 1)), none⟩,
 ⟨some 19, .p (.bin .gtr (.t 17) (.t 18)), none⟩]
def c110_r12 : List Ins := [⟨some 4, .p (.mv (.c (.int .i64 1))), none⟩]
def c110_r13 : List Ins := [⟨some 4, .p (.mv (.c (.int .i64 0))), none⟩]
def c110 : XFn := { np := 2, nt := 20, res := [.t 4], body := (.seq (.reg c110_r0) (.seq (.reg c110_r1) (.seq (.reg c110_r2) (.seq (.seq (.reg c110_r3) (.ite (.t 11) (.seq (.seq (.reg c110_r4) (.ite (.t 12) (.seq (.reg c110_r5) .ret) .skip)) (.seq (.reg c110_r6) .ret)) .skip)) (.seq (.seq (.reg c110_r7) (.ite (.t 13) (.seq (.reg c110_r8) .ret) .skip)) (.seq (.seq (.reg c110_r9) (.ite (.t 16) (.seq (.reg c110_r10) .ret) .skip)) (.seq (.seq (.reg c110_r11) (.ite (.t 19) (.seq (.reg c110_r12) .ret) .skip)) (.seq (.reg c110_r13) .ret)))))))) }
def K110 (C : CRel) : Prop := ∀ (a0 : Int) (a1 : Int) (r : Int), g110 a0 a1 = some r → C 110 ⟨[.int .i64 a0, .int .i64 a1], []⟩ ⟨.int .i64 r, [], []⟩
theorem F110 {C : CRel} (H136 : K136 C) (a0 : Int) (a1 : Int) (r : Int) (h0 : g110 a0 a1 = some r) : FnOK C c110 ⟨[.int .i64 a0, .int .i64 a1], []⟩ ⟨.int .i64 r, [], []⟩ := by
  refine fn_ (Nat.le_of_ble_eq_true rfl) ?_
  refine seq_ ?_
  refine reg_ ?_
  refine st (mvc_ trivial ?_)
  refine oe_ ?_
  refine wk_ ⟨[(0, .int .i64 a0), (1, .int .i64 a1)], [], []⟩ (fg ⟨rfl, rfl, trivial⟩ trivial) ?_
  refine seq_ ?_
  refine reg_ ?_
  refine st (mv_ rfl trivial ?_)
  obtain ⟨r1, e2, h0⟩ := bnd h0
  refine st (call0_ (r := .bool r1) false (H136 a0 r1 e2) ⟨trivial, trivial⟩ rfl rfl (fun _ => rfl) ?_)
  refine st (mv_ rfl trivial ?_)
  refine oe_ ?_
  refine wk_ ⟨[(0, .int .i64 a0), (1, .int .i64 a1), (5, .bool r1)], [], []⟩ (fg ⟨rfl, rfl, rfl, trivial⟩ trivial) ?_
  refine seq_ ?_
  refine reg_ ?_
  refine st (mv_ rfl trivial ?_)
  obtain ⟨r3, e4, h0⟩ := bnd h0
  refine st (call0_ (r := .bool r3) false (H136 a1 r3 e4) ⟨trivial, trivial⟩ rfl rfl (fun _ => rfl) ?_)
  refine st (mv_ rfl trivial ?_)
  refine oe_ ?_
  refine wk_ ⟨[(0, .int .i64 a0), (1, .int .i64 a1), (5, .bool r1), (6, .bool r3)], [], []⟩ (fg ⟨rfl, rfl, rfl, rfl, trivial⟩ trivial) ?_
  refine seq_ ?_
  refine seq_ ?_
  refine reg_ ?_
  refine st (mv_ rfl trivial ?_)
  refine oe_ ?_
  refine wk_ ⟨[(0, .int .i64 a0), (1, .int .i64 a1), (6, .bool r3), (11, .bool r1)], [], []⟩ (fg ⟨rfl, rfl, rfl, rfl, trivial⟩ trivial) ?_
  refine ite_ (cb := r1) rfl (fun c5 => ?_) (fun c5 => ?_)
  · replace h0 := ip c5 h0
    refine seq_ ?_
    refine seq_ ?_
    refine reg_ ?_
    refine st (mv_ rfl trivial ?_)
    refine oe_ ?_
    refine wk_ ⟨[(12, .bool r3)], [], []⟩ (fg ⟨rfl, trivial⟩ trivial) ?_
    refine ite_ (cb := r3) rfl (fun c6 => ?_) (fun c6 => ?_)
    · replace h0 := ip c6 h0
      refine seq_ ?_
      refine reg_ ?_
      refine st (mvc_ trivial ?_)
      refine oe_ ?_
      refine wk_ ⟨[(4, .int .i64 0)], [], []⟩ (fg ⟨rfl, trivial⟩ trivial) ?_
      obtain rfl := Option.some.inj h0
      exact rt_ (ret_ rfl rfl rfl rfl rfl trivial)
    · replace h0 := inb c6 h0
      refine sk_ ?_
      refine wk_ ⟨[], [], []⟩ (fg trivial trivial) ?_
      refine seq_ ?_
      refine reg_ ?_
      refine st (mvc_ trivial ?_)
      refine oe_ ?_
      refine wk_ ⟨[(4, .int .i64 (-1))], [], []⟩ (fg ⟨rfl, trivial⟩ trivial) ?_
      obtain rfl := Option.some.inj h0
      exact rt_ (ret_ rfl rfl rfl rfl rfl trivial)
  · replace h0 := inb c5 h0
    refine sk_ ?_
    refine wk_ ⟨[(0, .int .i64 a0), (1, .int .i64 a1), (6, .bool r3)], [], []⟩ (fg ⟨rfl, rfl, rfl, trivial⟩ trivial) ?_
    refine seq_ ?_
    refine seq_ ?_
    refine reg_ ?_
    refine st (mv_ rfl trivial ?_)
    refine oe_ ?_
    refine wk_ ⟨[(0, .int .i64 a0), (1, .int .i64 a1), (13, .bool r3)], [], []⟩ (fg ⟨rfl, rfl, rfl, trivial⟩ trivial) ?_
    refine ite_ (cb := r3) rfl (fun c7 => ?_) (fun c7 => ?_)
    · replace h0 := ip c7 h0
      refine seq_ ?_
      refine reg_ ?_
      refine st (mvc_ trivial ?_)
      refine oe_ ?_
      refine wk_ ⟨[(4, .int .i64 1)], [], []⟩ (fg ⟨rfl, trivial⟩ trivial) ?_
      obtain rfl := Option.some.inj h0
      exact rt_ (ret_ rfl rfl rfl rfl rfl trivial)
    · replace h0 := inb c7 h0
      refine sk_ ?_
      refine wk_ ⟨[(0, .int .i64 a0), (1, .int .i64 a1)], [], []⟩ (fg ⟨rfl, rfl, trivial⟩ trivial) ?_
      refine seq_ ?_
      refine seq_ ?_
      refine reg_ ?_
      refine st (mv_ rfl trivial ?_)
      refine st (mv_ rfl trivial ?_)
      refine st (c_ (cp_ ⟨trivial, trivial, trivial⟩ rfl trivial) ?_)
      refine oe_ ?_
      refine wk_ ⟨[(0, .int .i64 a0), (1, .int .i64 a1), (16, .bool (decide (a0 < a1)))], [], []⟩ (fg ⟨rfl, rfl, rfl, trivial⟩ trivial) ?_
      refine ite_ (cb := (decide (a0 < a1))) rfl (fun c8 => ?_) (fun c8 => ?_)
      · replace h0 := ip c8 h0
        refine seq_ ?_
        refine reg_ ?_
        refine st (mvc_ trivial ?_)
        refine oe_ ?_
        refine wk_ ⟨[(4, .int .i64 (-1))], [], []⟩ (fg ⟨rfl, trivial⟩ trivial) ?_
        obtain rfl := Option.some.inj h0
        exact rt_ (ret_ rfl rfl rfl rfl rfl trivial)
      · replace h0 := inb c8 h0
        refine sk_ ?_
        refine wk_ ⟨[(0, .int .i64 a0), (1, .int .i64 a1)], [], []⟩ (fg ⟨rfl, rfl, trivial⟩ trivial) ?_
        refine seq_ ?_
        refine seq_ ?_
        refine reg_ ?_
        refine st (mv_ rfl trivial ?_)
        refine st (mv_ rfl trivial ?_)
        refine st (c_ (cp_ ⟨trivial, trivial, trivial⟩ rfl trivial) ?_)
        refine oe_ ?_
        refine wk_ ⟨[(19, .bool (decide (a0 > a1)))], [], []⟩ (fg ⟨rfl, trivial⟩ trivial) ?_
        refine ite_ (cb := (decide (a0 > a1))) rfl (fun c9 => ?_) (fun c9 => ?_)
        · replace h0 := ip c9 h0
          refine seq_ ?_
          refine reg_ ?_
          refine st (mvc_ trivial ?_)
          refine oe_ ?_
          refine wk_ ⟨[(4, .int .i64 1)], [], []⟩ (fg ⟨rfl, trivial⟩ trivial) ?_
          obtain rfl := Option.some.inj h0
          exact rt_ (ret_ rfl rfl rfl rfl rfl trivial)
        · replace h0 := inb c9 h0
          refine sk_ ?_
          refine wk_ ⟨[], [], []⟩ (fg trivial trivial) ?_
          refine seq_ ?_
          refine reg_ ?_
          refine st (mvc_ trivial ?_)
          refine oe_ ?_
          refine wk_ ⟨[(4, .int .i64 0)], [], []⟩ (fg ⟨rfl, trivial⟩ trivial) ?_
          obtain rfl := Option.some.inj h0
          exact rt_ (ret_ rfl rfl rfl rfl rfl trivial)

/- (loop.example/g00149/impl.Table).find$1 -/
def c114_r0 : List Ins := [⟨some 2, .box (.t 0), none⟩,
 ⟨some 4, .p (.mv (.c (.int .i64 0))), none⟩]
def c114_r1 : List Ins := [⟨some 5, .p (.fieldA (.t 2) 0), none⟩,
 ⟨some 6, .p (.load (.t 5) 1 false), none⟩,
 ⟨some 7, .p (.mv (.t 1)), none⟩,
 ⟨some 8, .call 110 [(.t 6), (.t 7)], none⟩,
 ⟨some 4, .p (.mv (.t 8)), none⟩]
def c114 : XFn := { np := 2, nt := 9, res := [.t 4], body := (.seq (.reg c114_r0) (.seq (.reg c114_r1) .ret)) }
def K114 (C : CRel) : Prop := ∀ (a0 : DLease) (a1 : Int) (r : Int), g114 a0 a1 = some r → C 114 ⟨[.agg [.int .i64 a0.id, .int .i64 a0.until_, .int .i64 a0.cap, .bool a0.queued], .int .i64 a1], []⟩ ⟨.int .i64 r, [], []⟩
theorem F114 {C : CRel} (H110 : K110 C) (a0 : DLease) (a1 : Int) (r : Int) (h0 : g114 a0 a1 = some r) : FnOK C c114 ⟨[.agg [.int .i64 a0.id, .int .i64 a0.until_, .int .i64 a0.cap, .bool a0.queued], .int .i64 a1], []⟩ ⟨.int .i64 r, [], []⟩ := by
  refine fn_ (Nat.le_of_ble_eq_true rfl) ?_
  refine seq_ ?_
  refine reg_ ?_
  refine st (box_ rfl trivial rfl ?_)
  refine st (mvc_ trivial ?_)
  refine oe_ ?_
  refine wk_ ⟨[(1, .int .i64 a1), (2, .ptr 128 0)], [(128, [.int .i64 a0.id, .int .i64 a0.until_, .int .i64 a0.cap, .bool a0.queued])], []⟩ (fg ⟨rfl, rfl, trivial⟩ ⟨rfl, trivial⟩) ?_
  refine seq_ ?_
  refine reg_ ?_
  refine st (c_ (cp_ ⟨trivial, trivial⟩ rfl trivial) ?_)
  refine st (c_ (cp_ ⟨trivial, trivial⟩ rfl (Nat.le_of_ble_eq_true rfl)) ?_)
  refine st (mv_ rfl trivial ?_)
  obtain ⟨r1, e2, h0⟩ := bnd h0
  refine st (call0_ (r := .int .i64 r1) false (H110 a0.id a1 r1 e2) ⟨trivial, trivial, trivial⟩ rfl rfl (fun _ => rfl) ?_)
  refine st (mv_ rfl trivial ?_)
  refine oe_ ?_
  refine wk_ ⟨[(4, .int .i64 r1)], [], []⟩ (fg ⟨rfl, trivial⟩ trivial) ?_
  obtain rfl := Option.some.inj h0
  exact rt_ (ret_ rfl rfl rfl rfl rfl trivial)

/- (loop.example/g00149/impl.Table).find -/
def c77_r0 : List Ins := [⟨some 2, .box (.t 0), none⟩,
 ⟨some 4, .p (.mv (.c (.int .i64 0))), none⟩,
 ⟨some 5, .p (.mv (.c (.bool false))), none⟩]
def c77_r1 : List Ins := [⟨some 6, .p (.fieldA (.t 2) 2), none⟩,
 ⟨some 7, .p (.load (.t 6) 1 false), none⟩,
 ⟨some 8, .p (.mv (.t 1)), none⟩,
 ⟨some 9, .call 113 [(.t 7), (.t 8), (.c (.clo 114 []))], none⟩,
 ⟨some 10, .p (.ext (.t 9) 0), none⟩,
 ⟨some 11, .p (.ext (.t 9) 1), none⟩,
 ⟨some 4, .p (.mv (.t 10)), none⟩,
 ⟨some 5, .p (.mv (.t 11)), none⟩]
def c77 : XFn := { np := 2, nt := 12, res := [.t 4, .t 5], body := (.seq (.reg c77_r0) (.seq (.reg c77_r1) .ret)) }
def K77 (C : CRel) : Prop := ∀ (a0 : DTable) (a1 : Int) (r : Int × Bool), g77 a0 a1 = some r → C 77 ⟨[.agg [.int .i64 a0.clock, .int .i64 a0.next, .lst 4 (a0.list_.map eDLease)], .int .i64 a1], []⟩ ⟨.tup [.int .i64 r.1, .bool r.2], [], []⟩
theorem F77 {C : CRel} (H113 : K113 C) (H114 : K114 C) (a0 : DTable) (a1 : Int) (r : Int × Bool) (h0 : g77 a0 a1 = some r) : FnOK C c77 ⟨[.agg [.int .i64 a0.clock, .int .i64 a0.next, .lst 4 (a0.list_.map eDLease)], .int .i64 a1], []⟩ ⟨.tup [.int .i64 r.1, .bool r.2], [], []⟩ := by
  refine fn_ (Nat.le_of_ble_eq_true rfl) ?_
  refine seq_ ?_
  refine reg_ ?_
  refine st (box_ rfl trivial rfl ?_)
  refine st (mvc_ trivial ?_)
  refine st (mvc_ trivial ?_)
  refine oe_ ?_
  refine wk_ ⟨[(1, .int .i64 a1), (2, .ptr 128 0)], [(128, [.int .i64 a0.clock, .int .i64 a0.next, .lst 4 (a0.list_.map eDLease)])], []⟩ (fg ⟨rfl, rfl, trivial⟩ ⟨rfl, trivial⟩) ?_
  refine seq_ ?_
  refine reg_ ?_
  refine st (c_ (cp_ ⟨trivial, trivial⟩ rfl trivial) ?_)
  refine st (c_ (cp_ ⟨trivial, trivial⟩ rfl (Nat.le_of_ble_eq_true rfl)) ?_)
  refine st (mv_ rfl trivial ?_)
  obtain ⟨r1, e2, h0⟩ := bnd h0
  refine st (call0_ (r := .tup [.int .i64 r1.1, .bool r1.2]) false (H113 a0.list_ a1 114 [] (fun z114_0 z114_1 => g114 z114_0 z114_1) (⟨fun _ _ _ _ _ => rfl, fun _ _ _ _ _ => rfl, rfl, fun _ _ _ n => by cases n <;> rfl, fun _ => rfl⟩) (fun z114_0 z114_1 r h => H114 z114_0 z114_1 r h) r1 e2) ⟨trivial, trivial, trivial, trivial⟩ rfl rfl (fun _ => rfl) ?_)
  refine st (c_ (cp_ ⟨trivial, trivial⟩ rfl trivial) ?_)
  refine st (c_ (cp_ ⟨trivial, trivial⟩ rfl trivial) ?_)
  refine st (mv_ rfl trivial ?_)
  refine st (mv_ rfl trivial ?_)
  refine oe_ ?_
  refine wk_ ⟨[(4, .int .i64 r1.1), (5, .bool r1.2)], [], []⟩ (fg ⟨rfl, rfl, trivial⟩ trivial) ?_
  obtain rfl := Option.some.inj h0
  exact rt_ (ret_ rfl rfl rfl rfl rfl trivial)

/- slices.Clone[[]loop.example/g00149/impl.Lease,loop.example/g00149/impl.Lease] -/
def c66_r0 : List Ins := [⟨some 2, .nilS 4, none⟩]
def c66_r1 : List Ins := [⟨some 3, .p (.mv (.t 0)), none⟩,
 ⟨some 4, .isnil (.t 3) false, none⟩]
def c66_r2 : List Ins := [⟨some 2, .nilS 4, none⟩]
def c66_r3 : List Ins := [⟨some 5, .mkS 4 [(.int .i64 0), (.int .i64 0), (.int .i64 0), (.bool false)] 0 [], none⟩,
 ⟨some 6, .p (.mv (.t 0)), none⟩,
 ⟨some 7, .app 4 32 (.t 5) (.t 6), none⟩,
 ⟨some 2, .p (.mv (.t 7)), none⟩]
def c66 : XFn := { np := 1, nt := 8, res := [.t 2], body := (.seq (.reg c66_r0) (.seq (.seq (.reg c66_r1) (.ite (.t 4) (.seq (.reg c66_r2) .ret) .skip)) (.seq (.reg c66_r3) .ret))) }
def K66 (C : CRel) : Prop := ∀ (a0 : List DLease) (r : List DLease), g66 a0 = some r → C 66 ⟨[.lst 4 (a0.map eDLease)], []⟩ ⟨.own 0 0 4 (r.map eDLease), [], []⟩
theorem F66 {C : CRel} (a0 : List DLease) (r : List DLease) (h0 : g66 a0 = some r) : FnOK C c66 ⟨[.lst 4 (a0.map eDLease)], []⟩ ⟨.own 0 0 4 (r.map eDLease), [], []⟩ := by
  refine fn_ (Nat.le_of_ble_eq_true rfl) ?_
  obtain ⟨hc, h0⟩ := grd h0
  obtain rfl := Option.some.inj h0
  refine seq_ ?_
  refine reg_ ?_
  refine st (nilS_ ?_)
  refine oe_ ?_
  refine wk_ ⟨[(0, .lst 4 (a0.map eDLease))], [], []⟩ (fg ⟨rfl, trivial⟩ trivial) ?_
  refine seq_ ?_
  refine seq_ ?_
  refine reg_ ?_
  refine st (mv_ rfl trivial ?_)
  refine st (isnilL (e := eDLease) (l0 := a0) rfl fun b hb => ?_)
  refine oe_ ?_
  refine w0_ ?_
  refine ite_ (cb := b) rfl (fun h => ?_) (fun h => ?_)
  · obtain rfl := hb h
    refine seq_ ?_
    refine reg_ ?_
    refine st (nilS_ ?_)
    refine oe_ ?_
    refine w0_ ?_
    refine rt_ (ret_ rfl rfl rfl rfl rfl trivial)
  · refine sk_ ?_
    refine wk_ ⟨[(0, .lst 4 (a0.map eDLease))], [], []⟩ (fg ⟨rfl, trivial⟩ trivial) ?_
    refine seq_ ?_
    refine reg_ ?_
    refine st (mkS_ trivial trivial ?_)
    refine st (mv_ rfl trivial ?_)
    refine st (app_ (e := eDLease) (l0 := ([] : List DLease)) (l1 := a0) rfl rfl trivial rfl (by decide) ?_ ?_)
    rotate_left
    refine st (mv_ rfl trivial ?_)
    refine oe_ ?_
    refine w0_ ?_
    refine rt_ (ret_ rfl rfl rfl rfl rfl trivial)
    have := Nat.mul_le_mul_right 32 hc
    exact Nat.le_trans this (by decide)

/- (loop.example/g00149/impl.Table).own -/
def c112_r0 : List Ins := [⟨some 1, .box (.t 0), none⟩,
 ⟨some 2, .alloc [(.int .i64 0), (.int .i64 0), (.own 131 0 4 [])], none⟩]
def c112_r1 : List Ins := [⟨some 3, .p (.fieldA (.t 1) 2), none⟩,
 ⟨some 4, .p (.load (.t 3) 1 false), none⟩,
 ⟨some 5, .call 66 [(.t 4)], none⟩,
 ⟨some 6, .p (.fieldA (.t 1) 2), none⟩,
 ⟨none, .store (.t 6) (.t 5) 1, none⟩]
def c112_r2 : List Ins := [⟨some 7, .p (.load (.t 1) 3 true), none⟩,
 ⟨none, .store (.t 2) (.t 7) 3, none⟩]
def c112 : XFn := { np := 1, nt := 8, res := [.cell 2 3 true], body := (.seq (.reg c112_r0) (.seq (.reg c112_r1) (.seq (.reg c112_r2) .ret))) }
def K112 (C : CRel) : Prop := ∀ (a0 : DTable) (r : DTable), g112 a0 = some r → C 112 ⟨[.agg [.int .i64 a0.clock, .int .i64 a0.next, .lst 4 (a0.list_.map eDLease)]], []⟩ ⟨.agg [.int .i64 r.clock, .int .i64 r.next, .own 0 0 4 (r.list_.map eDLease)], [], []⟩
theorem F112 {C : CRel} (H66 : K66 C) (a0 : DTable) (r : DTable) (h0 : g112 a0 = some r) : FnOK C c112 ⟨[.agg [.int .i64 a0.clock, .int .i64 a0.next, .lst 4 (a0.list_.map eDLease)]], []⟩ ⟨.agg [.int .i64 r.clock, .int .i64 r.next, .own 0 0 4 (r.list_.map eDLease)], [], []⟩ := by
  refine fn_ (Nat.le_of_ble_eq_true rfl) ?_
  refine seq_ ?_
  refine reg_ ?_
  refine st (box_ rfl trivial rfl ?_)
  refine st (alloc_ ?_)
  refine oe_ ?_
  refine wk_ ⟨[(1, .ptr 64 0), (2, .ptr 128 0)], [(64, [.int .i64 a0.clock, .int .i64 a0.next, .lst 4 (a0.list_.map eDLease)]), (128, [.int .i64 0, .int .i64 0, .own 131 0 4 (([] : List DLease).map eDLease)])], []⟩ (fg ⟨rfl, rfl, trivial⟩ ⟨rfl, rfl, trivial⟩) ?_
  refine seq_ ?_
  refine reg_ ?_
  refine st (c_ (cp_ ⟨trivial, trivial⟩ rfl trivial) ?_)
  refine st (c_ (cp_ ⟨trivial, trivial⟩ rfl (Nat.le_of_ble_eq_true rfl)) ?_)
  obtain ⟨r1, e2, h0⟩ := bnd h0
  refine st (call0_ (r := .own 0 0 4 (r1.map eDLease)) false (H66 a0.list_ r1 e2) ⟨trivial, trivial⟩ rfl rfl (fun _ => (and_ (fl1 (fun _ => rfl)) rfl)) ?_)
  refine st (c_ (cp_ ⟨trivial, trivial⟩ rfl trivial) ?_)
  refine st (stp_ rfl rfl trivial rfl rfl rfl (Nat.le_of_ble_eq_true rfl) ?_)
  refine oe_ ?_
  refine wk_ ⟨[(1, .ptr 64 0), (2, .ptr 128 0)], [(64, [.int .i64 a0.clock, .int .i64 a0.next, .own 320 0 4 (r1.map eDLease)]), (128, [.int .i64 0, .int .i64 0, .own 131 0 4 (([] : List DLease).map eDLease)])], []⟩ (fg ⟨rfl, rfl, trivial⟩ ⟨rfl, rfl, trivial⟩) ?_
  refine seq_ ?_
  refine reg_ ?_
  refine st (c_ (v := .agg [.int .i64 a0.clock, .int .i64 a0.next, .own 320 0 4 (r1.map eDLease)]) (cp_ ⟨trivial, trivial⟩ rfl (Nat.le_of_ble_eq_true rfl)) ?_)
  refine st (stp_ rfl rfl trivial rfl rfl rfl (Nat.le_of_ble_eq_true rfl) ?_)
  refine oe_ ?_
  refine wk_ ⟨[(2, .ptr 128 0)], [(128, [.int .i64 a0.clock, .int .i64 a0.next, .own 320 0 4 (r1.map eDLease)])], []⟩ (fg ⟨rfl, trivial⟩ ⟨rfl, trivial⟩) ?_
  obtain rfl := Option.some.inj h0
  exact rt_ (ret_ rfl rfl rfl rfl rfl trivial)

/- slices.Delete[[]loop.example/g00149/impl.Lease,loop.example/g00149/impl.Lease] -/
def c115_r0 : List Ins := [⟨some 6, .nilS 4, none⟩]
def c115_r1 : List Ins := [⟨some 8, .p (.mv (.t 0)), none⟩,
 ⟨some 9, .p (.mv (.t 1)), none⟩,
 ⟨some 10, .p (.mv (.t 2)), none⟩,
 ⟨some 11, .p (.mv (.t 0)), none⟩,
 ⟨some 12, .p (.len (.t 11)), none⟩,
 ⟨some 13, .chk3 (.t 8) (.t 9) (.t 10) (.t 12), none⟩]
def c115_r2 : List Ins := [⟨some 14, .p (.mv (.t 1)), none⟩,
 ⟨some 15, .p (.mv (.t 2)), none⟩,
 ⟨some 16, .p (.bin .eql (.t 14) (.t 15)), none⟩]
def c115_r3 : List Ins := [⟨some 17, .p (.mv (.t 0)), none⟩,
 ⟨some 6, .p (.mv (.t 17)), none⟩]
def c115_r4 : List Ins := [⟨some 18, .p (.mv (.t 0)), none⟩,
 ⟨some 19, .p (.len (.t 18)), none⟩,
 ⟨some 7, .p (.mv (.t 19)), none⟩]
def c115_r5 : DP := (.take ⟨some 20, .p (.mv (.t 0)), none⟩
 (.take ⟨some 21, .p (.mv (.t 1)), none⟩
 (.take ⟨some 22, .p (.slice (.t 20) none (some (.t 21)) 4), none⟩
 (.take ⟨some 23, .p (.mv (.t 0)), none⟩
 (.take ⟨some 24, .p (.mv (.t 2)), none⟩
 (.take ⟨some 25, .p (.slice (.t 23) (some (.t 24)) none 4), none⟩
 (.alt [] ⟨some 26, .app 4 32 (.t 22) (.t 25), none⟩
 (.alt [] ⟨some 0, .p (.mv (.t 26)), none⟩
 .fin
 .stop)
 .stop)))))))
def c115_r6 : List Ins := [⟨some 27, .p (.mv (.t 0)), none⟩,
 ⟨some 28, .p (.mv (.t 0)), none⟩,
 ⟨some 29, .p (.len (.t 28)), none⟩,
 ⟨some 30, .p (.mv (.t 7)), none⟩,
 ⟨some 31, .p (.slice (.t 27) (some (.t 29)) (some (.t 30)) 4), none⟩,
 ⟨none, .clear 4 [(.int .i64 0), (.int .i64 0), (.int .i64 0), (.bool false)] (.t 31), none⟩]
def c115_r7 : List Ins := [⟨some 32, .p (.mv (.t 0)), none⟩,
 ⟨some 6, .p (.mv (.t 32)), none⟩]
def c115 : XFn := { np := 3, nt := 33, res := [.t 6], body := (.seq (.reg c115_r0) (.seq (.reg c115_r1) (.seq (.seq (.reg c115_r2) (.ite (.t 16) (.seq (.reg c115_r3) .ret) .skip)) (.seq (.reg c115_r4) (.seq (.draw c115_r5) (.seq (.reg c115_r6) (.seq (.reg c115_r7) .ret))))))) }
def K115 (C : CRel) : Prop := ∀ (a0 : List DLease) (a1 : Int) (a2 : Int) (r : List DLease), g115 a0 a1 a2 = some r → C 115 ⟨[.own 1024000 0 4 (a0.map eDLease), .int .i64 a1, .int .i64 a2], []⟩ ⟨.own 0 0 4 (r.map eDLease), [], []⟩
theorem F115 {C : CRel} (a0 : List DLease) (a1 : Int) (a2 : Int) (r : List DLease) (h0 : g115 a0 a1 a2 = some r) : FnOK C c115 ⟨[.own 1024000 0 4 (a0.map eDLease), .int .i64 a1, .int .i64 a2], []⟩ ⟨.own 0 0 4 (r.map eDLease), [], []⟩ := by
  refine fn_ (Nat.le_of_ble_eq_true rfl) ?_
  obtain ⟨⟨hb, hl⟩, h0⟩ := grd h0
  obtain rfl := Option.some.inj h0
  obtain ⟨i, rfl⟩ := Int.eq_ofNat_of_zero_le hb.1
  obtain ⟨j, rfl⟩ := Int.eq_ofNat_of_zero_le (Int.le_trans hb.1 hb.2.1)
  have hij : i ≤ j := by omega
  have hj : j ≤ a0.length := by omega
  rw [show ((i : Nat) : Int).toNat = i from rfl, show ((j : Nat) : Int).toNat = j from rfl]
  refine seq_ ?_
  refine reg_ ?_
  refine st (nilS_ ?_)
  refine oe_ ?_
  refine wk_ ⟨[(0, .own 1024000 0 4 (a0.map eDLease)), (1, .int .i64 i), (2, .int .i64 j)], [], []⟩ (fg ⟨rfl, rfl, rfl, trivial⟩ trivial) ?_
  refine seq_ ?_
  refine reg_ ?_
  refine st (mv_ rfl trivial ?_)
  refine st (mv_ rfl trivial ?_)
  refine st (mv_ rfl trivial ?_)
  refine st (mv_ rfl trivial ?_)
  refine st (c_ (clenO (e := eDLease) (l0 := a0) rfl rfl trivial) ?_)
  refine st (chk3O (e := eDLease) (l0 := a0) rfl rfl rfl rfl ⟨by omega, by omega, by omega, Int.le_refl _⟩ ?_)
  refine oe_ ?_
  refine wk_ ⟨[(0, .own 1024000 0 4 (a0.map eDLease)), (1, .int .i64 i), (2, .int .i64 j)], [], []⟩ (fg ⟨rfl, rfl, rfl, trivial⟩ trivial) ?_
  refine seq_ ?_
  refine seq_ ?_
  refine reg_ ?_
  refine st (mv_ rfl trivial ?_)
  refine st (mv_ rfl trivial ?_)
  refine st (c_ (cp_ ⟨trivial, trivial, trivial⟩ rfl trivial) ?_)
  refine oe_ ?_
  refine w0_ ?_
  refine ite_ (cb := (i : Int) == (j : Int)) rfl (fun h => ?_) (fun h => ?_)
  · have e1 : i = j := by have := eq_of_beq h; omega
    subst e1
    rw [List.take_append_drop]
    refine seq_ ?_
    refine reg_ ?_
    refine st (mv_ rfl trivial ?_)
    refine st (mv_ rfl trivial ?_)
    refine oe_ ?_
    refine w0_ ?_
    exact rt_ (ret_ rfl rfl rfl rfl rfl trivial)
  · have hne : i ≠ j := fun e1 => by subst e1; simp at h
    have hemp : a0.map eDLease ≠ [] := fun e1 => by
      have := congrArg List.length e1
      simp at this
      subst this
      simp at hj
      omega
    refine sk_ ?_
    refine wk_ ⟨[(0, .own 1024000 0 4 (a0.map eDLease)), (1, .int .i64 i), (2, .int .i64 j)], [], []⟩ (fg ⟨rfl, rfl, rfl, trivial⟩ trivial) ?_
    refine seq_ ?_
    refine reg_ ?_
    refine st (mv_ rfl trivial ?_)
    refine st (c_ (clenO (e := eDLease) (l0 := a0) rfl rfl trivial) ?_)
    refine st (mv_ rfl trivial ?_)
    refine oe_ ?_
    refine wk_ ⟨[(0, .own 1024000 0 4 (a0.map eDLease)), (1, .int .i64 i), (2, .int .i64 j), (7, .int .i64 (a0.length : Int))], [], [(0, (a0.length : Int))]⟩ (fgc ⟨rfl, rfl, rfl, rfl, trivial⟩ trivial ⟨.inr (.inl ⟨_, _, _, _, rfl, hemp, by simp⟩), trivial⟩) ?_
    refine seq_ ?_
    refine draw_ ?_
    refine dtake trivial (mv_ rfl trivial ?_)
    refine ⟨trivial, ?_⟩
    refine dtake trivial (mv_ rfl trivial ?_)
    refine ⟨trivial, ?_⟩
    refine dtake trivial (c_ (csliceO (e := eDLease) (y := a0.take i) rfl rfl trivial ⟨trivial, trivial⟩ rfl rfl (by rw [show (none : Option Int).getD 0 = ((0 : Nat) : Int) from rfl]; exact slcN a0 0 i (by omega) (by omega))) ?_)
    refine ⟨trivial, ?_⟩
    refine dtake trivial (mv_ rfl trivial ?_)
    refine ⟨trivial, ?_⟩
    refine dtake trivial (mv_ rfl trivial ?_)
    refine ⟨trivial, ?_⟩
    refine dtake trivial (c_ (csliceO (e := eDLease) (y := a0.drop j) rfl rfl trivial ⟨trivial, trivial⟩ rfl rfl (slcD a0 j hj)) ?_)
    refine ⟨trivial, ?_⟩
    refine dalt (appc_ (e := eDLease) (l0 := a0.take i) (l1 := a0.drop j) (t := 1024000) (sz := 4) (vy := .own 1024000 (0 + j) 4 ((a0.drop j).map eDLease)) (c := (a0.length : Int) - 0) rfl rfl trivial rfl (show (1024000 : Nat) < 1048576 by decide) ?_ rfl ?_ ?_) dstop
    · have : (a0.take i).length + (a0.drop j).length ≤ a0.length := by simp; omega
      exact Nat.le_trans (Nat.mul_le_mul_right 32 this) (Nat.le_trans (Nat.mul_le_mul_right 32 hl) (by decide))
    · simp; omega
    refine dk0 ⟨[], trivial, trivial, ?_⟩
    refine dalt (mv_ rfl trivial ?_) dstop
    refine dk0 ⟨[], trivial, trivial, ?_⟩
    refine dfin ?_
    generalize hR : a0.take i ++ a0.drop j = R
    have hRl : R.length ≤ a0.length := by rw [← hR]; simp; omega
    refine wk_ ⟨[(0, .own 1024000 0 4 (R.map eDLease)), (7, .int .i64 (a0.length : Int))], [], [(0, (a0.length : Int) - 0)]⟩ (fgc ⟨rfl, rfl, trivial⟩ trivial ⟨.inl ⟨_, rfl, Int.le_refl _⟩, trivial⟩) ?_
    refine seq_ ?_
    refine reg_ ?_
    refine st (mv_ rfl trivial ?_)
    refine st (mv_ rfl trivial ?_)
    refine st (c_ (clenO (e := eDLease) (l0 := R) rfl rfl trivial) ?_)
    refine st (mv_ rfl trivial ?_)
    refine st (c_ (sliceRoom (e := eDLease) (R := R) (t := 1024000) (sz := 4) (L := R.length) (H := a0.length) (c := (a0.length : Int) - 0) rfl rfl rfl rfl hRl (show (0 : Nat) < 4 by decide) rfl (Int.le_of_eq (Int.sub_zero _).symm)) ?_)
    refine st (clearAt_ rfl ?_)
    refine oe_ ?_
    refine wk_ ⟨[(0, .own 1024000 0 4 (R.map eDLease))], [], []⟩ (fg ⟨past1 (Nat.le_refl _), trivial⟩ trivial) ?_
    refine seq_ ?_
    refine reg_ ?_
    refine st (mv_ rfl trivial ?_)
    refine st (mv_ rfl trivial ?_)
    refine oe_ ?_
    refine w0_ ?_
    exact rt_ (ret_ rfl rfl rfl rfl rfl trivial)

/- (loop.example/g00149/impl.Table).without -/
def c78_r0 : List Ins := [⟨some 2, .box (.t 0), none⟩,
 ⟨some 4, .alloc [(.int .i64 0), (.int .i64 0), (.own 259 0 4 [])], none⟩]
def c78_r1 : List Ins := [⟨some 6, .p (.load (.t 2) 3 true), none⟩,
 ⟨some 7, .call 112 [(.t 6)], none⟩,
 ⟨some 5, .alloc [(.int .i64 0), (.int .i64 0), (.own 323 0 4 [])], none⟩,
 ⟨none, .store (.t 5) (.t 7) 3, none⟩]
def c78_r2 : List Ins := [⟨some 8, .p (.fieldA (.t 5) 2), none⟩,
 ⟨some 9, .p (.load (.t 8) 1 false), none⟩,
 ⟨some 10, .p (.mv (.t 1)), none⟩,
 ⟨some 11, .p (.mv (.t 1)), none⟩,
 ⟨some 12, .p (.bin .add (.t 11) (.c (.int .i64 1))), none⟩,
 ⟨some 13, .call 115 [(.t 9), (.t 10), (.t 12)], none⟩,
 ⟨some 14, .p (.fieldA (.t 5) 2), none⟩,
 ⟨none, .store (.t 14) (.t 13) 1, none⟩]
def c78_r3 : List Ins := [⟨some 15, .p (.load (.t 5) 3 true), none⟩,
 ⟨none, .store (.t 4) (.t 15) 3, none⟩]
def c78 : XFn := { np := 2, nt := 16, res := [.cell 4 3 true], body := (.seq (.reg c78_r0) (.seq (.reg c78_r1) (.seq (.reg c78_r2) (.seq (.reg c78_r3) .ret)))) }
def K78 (C : CRel) : Prop := ∀ (a0 : DTable) (a1 : Int) (r : DTable), g78 a0 a1 = some r → C 78 ⟨[.agg [.int .i64 a0.clock, .int .i64 a0.next, .lst 4 (a0.list_.map eDLease)], .int .i64 a1], []⟩ ⟨.agg [.int .i64 r.clock, .int .i64 r.next, .own 0 0 4 (r.list_.map eDLease)], [], []⟩
theorem F78 {C : CRel} (H112 : K112 C) (H115 : K115 C) (a0 : DTable) (a1 : Int) (r : DTable) (h0 : g78 a0 a1 = some r) : FnOK C c78 ⟨[.agg [.int .i64 a0.clock, .int .i64 a0.next, .lst 4 (a0.list_.map eDLease)], .int .i64 a1], []⟩ ⟨.agg [.int .i64 r.clock, .int .i64 r.next, .own 0 0 4 (r.list_.map eDLease)], [], []⟩ := by
  refine fn_ (Nat.le_of_ble_eq_true rfl) ?_
  refine seq_ ?_
  refine reg_ ?_
  refine st (box_ rfl trivial rfl ?_)
  refine st (alloc_ ?_)
  refine oe_ ?_
  refine wk_ ⟨[(1, .int .i64 a1), (2, .ptr 128 0), (4, .ptr 256 0)], [(128, [.int .i64 a0.clock, .int .i64 a0.next, .lst 4 (a0.list_.map eDLease)]), (256, [.int .i64 0, .int .i64 0, .own 259 0 4 (([] : List DLease).map eDLease)])], []⟩ (fg ⟨rfl, rfl, rfl, trivial⟩ ⟨rfl, rfl, trivial⟩) ?_
  refine seq_ ?_
  refine reg_ ?_
  refine st (c_ (v := .agg [.int .i64 a0.clock, .int .i64 a0.next, .lst 4 (a0.list_.map eDLease)]) (cp_ ⟨trivial, trivial⟩ rfl (Nat.le_of_ble_eq_true rfl)) ?_)
  obtain ⟨r1, e2, h0⟩ := bnd h0
  refine st (call0_ (r := .agg [.int .i64 r1.clock, .int .i64 r1.next, .own 0 0 4 (r1.list_.map eDLease)]) false (H112 a0 r1 e2) ⟨trivial, trivial⟩ rfl rfl (fun _ => (and_ rfl (and_ rfl (and_ (fl1 (fun _ => rfl)) rfl)))) ?_)
  refine st (alloc_ ?_)
  refine st (stp_ rfl rfl trivial rfl rfl rfl (Nat.le_of_ble_eq_true rfl) ?_)
  refine oe_ ?_
  refine wk_ ⟨[(1, .int .i64 a1), (4, .ptr 256 0), (5, .ptr 320 0)], [(256, [.int .i64 0, .int .i64 0, .own 259 0 4 (([] : List DLease).map eDLease)]), (320, [.int .i64 r1.clock, .int .i64 r1.next, .own 448 0 4 (r1.list_.map eDLease)])], []⟩ (fg ⟨rfl, rfl, rfl, trivial⟩ ⟨rfl, rfl, trivial⟩) ?_
  refine seq_ ?_
  refine reg_ ?_
  refine st (c_ (cp_ ⟨trivial, trivial⟩ rfl trivial) ?_)
  refine st (c_ (cp_ ⟨trivial, trivial⟩ rfl (Nat.le_of_ble_eq_true rfl)) ?_)
  refine st (mv_ rfl trivial ?_)
  refine st (mv_ rfl trivial ?_)
  refine st (c_ (cp_ ⟨trivial, trivial, trivial⟩ rfl trivial) ?_)
  obtain ⟨r3, e4, h0⟩ := bnd h0
  refine st (call1_ [] [] [448] false (H115 r1.list_ a1 (IntKind.i64.wrap (a1 + 1)) r3 e4) ⟨trivial, trivial, trivial, trivial⟩ rfl rfl rfl rfl (fun _ => and_ (and_ (fl1 (fun _ => rfl)) rfl) rfl) ?_)
  refine st (c_ (cp_ ⟨trivial, trivial⟩ rfl trivial) ?_)
  refine st (stp_ rfl rfl trivial rfl rfl rfl (Nat.le_of_ble_eq_true rfl) ?_)
  refine oe_ ?_
  refine wk_ ⟨[(4, .ptr 256 0), (5, .ptr 320 0)], [(256, [.int .i64 0, .int .i64 0, .own 259 0 4 (([] : List DLease).map eDLease)]), (320, [.int .i64 r1.clock, .int .i64 r1.next, .own 832 0 4 (r3.map eDLease)])], []⟩ (fg ⟨rfl, rfl, trivial⟩ ⟨rfl, rfl, trivial⟩) ?_
  refine seq_ ?_
  refine reg_ ?_
  refine st (c_ (v := .agg [.int .i64 r1.clock, .int .i64 r1.next, .own 832 0 4 (r3.map eDLease)]) (cp_ ⟨trivial, trivial⟩ rfl (Nat.le_of_ble_eq_true rfl)) ?_)
  refine st (stp_ rfl rfl trivial rfl rfl rfl (Nat.le_of_ble_eq_true rfl) ?_)
  refine oe_ ?_
  refine wk_ ⟨[(4, .ptr 256 0)], [(256, [.int .i64 r1.clock, .int .i64 r1.next, .own 832 0 4 (r3.map eDLease)])], []⟩ (fg ⟨rfl, trivial⟩ ⟨rfl, trivial⟩) ?_
  obtain rfl := Option.some.inj h0
  exact rt_ (ret_ rfl rfl rfl rfl rfl trivial)

/- loop.example/g00149/impl.Done -/
def c31_r0 : List Ins := [⟨some 2, .box (.t 0), none⟩,
 ⟨some 4, .alloc [(.int .i64 0), (.int .i64 0), (.own 259 0 4 [])], none⟩,
 ⟨some 5, .p (.mv (.c (.int .i64 0))), none⟩]
def c31_r1 : List Ins := [⟨some 8, .p (.load (.t 2) 3 true), none⟩,
 ⟨some 9, .call 20 [(.t 8)], none⟩,
 ⟨some 10, .p (.un .not (.t 9)), none⟩]
def c31_r2 : List Ins := [⟨some 11, .p (.build [(.int .i64 0), (.int .i64 0), (.own 707 0 4 [])] []), none⟩,
 ⟨none, .store (.t 4) (.t 11) 3, none⟩,
 ⟨some 5, .p (.mv (.c (.int .i64 1))), none⟩]
def c31_r3 : List Ins := [⟨some 13, .p (.load (.t 2) 3 true), none⟩,
 ⟨some 14, .p (.mv (.t 1)), none⟩,
 ⟨some 15, .call 77 [(.t 13), (.t 14)], none⟩,
 ⟨some 12, .p (.mv (.t 15)), none⟩,
 ⟨some 16, .p (.ext (.t 12) 0), none⟩,
 ⟨some 17, .p (.ext (.t 12) 1), none⟩,
 ⟨some 6, .p (.mv (.t 16)), none⟩,
 ⟨some 7, .p (.mv (.t 17)), none⟩]
def c31_r4 : List Ins := [⟨some 19, .p (.mv (.t 7)), none⟩,
 ⟨some 20, .p (.un .not (.t 19)), none⟩,
 ⟨some 18, .p (.mv (.t 20)), none⟩]
def c31_r5 : List Ins := [⟨some 21, .p (.build [(.int .i64 0), (.int .i64 0), (.own 1347 0 4 [])] []), none⟩,
 ⟨none, .store (.t 4) (.t 21) 3, none⟩,
 ⟨some 5, .p (.mv (.c (.int .i64 5))), none⟩]
def c31_r6 : List Ins := [⟨some 23, .p (.fieldA (.t 2) 2), none⟩,
 ⟨some 24, .p (.load (.t 23) 1 false), none⟩,
 ⟨some 25, .p (.mv (.t 6)), none⟩,
 ⟨some 26, .p (.idxA (.t 24) (.t 25) 4), none⟩,
 ⟨some 27, .p (.fieldA (.t 26) 3), none⟩,
 ⟨some 28, .p (.load (.t 27) 1 false), none⟩,
 ⟨some 29, .p (.un .not (.t 28)), none⟩,
 ⟨some 22, .p (.mv (.t 29)), none⟩]
def c31_r7 : List Ins := [⟨some 30, .p (.build [(.int .i64 0), (.int .i64 0), (.own 1923 0 4 [])] []), none⟩,
 ⟨none, .store (.t 4) (.t 30) 3, none⟩,
 ⟨some 5, .p (.mv (.c (.int .i64 13))), none⟩]
def c31_r8 : List Ins := [⟨some 31, .p (.load (.t 2) 3 true), none⟩,
 ⟨some 32, .p (.mv (.t 6)), none⟩,
 ⟨some 33, .call 78 [(.t 31), (.t 32)], none⟩,
 ⟨none, .store (.t 4) (.t 33) 3, none⟩,
 ⟨some 5, .p (.mv (.c (.int .i64 0))), none⟩]
def c31 : XFn := { np := 2, nt := 34, res := [.cell 4 3 true, .t 5], body := (.seq (.reg c31_r0) (.seq (.seq (.reg c31_r1) (.ite (.t 10) (.seq (.reg c31_r2) .ret) .skip)) (.seq (.reg c31_r3) (.seq (.block 0 (.seq (.reg c31_r4) (.ite (.t 18) (.seq (.reg c31_r5) .ret) (.seq (.reg c31_r6) (.ite (.t 22) (.seq (.reg c31_r7) .ret) .skip))))) (.seq (.reg c31_r8) .ret))))) }
def K31 (C : CRel) : Prop := ∀ (a0 : DTable) (a1 : Int) (r : DTable × Int), g31 a0 a1 = some r → C 31 ⟨[.agg [.int .i64 a0.clock, .int .i64 a0.next, .lst 4 (a0.list_.map eDLease)], .int .i64 a1], []⟩ ⟨.tup [.agg [.int .i64 r.1.clock, .int .i64 r.1.next, .own 0 0 4 (r.1.list_.map eDLease)], .int .i64 r.2], [], []⟩
theorem F31 {C : CRel} (H20 : K20 C) (H77 : K77 C) (H78 : K78 C) (a0 : DTable) (a1 : Int) (r : DTable × Int) (h0 : g31 a0 a1 = some r) : FnOK C c31 ⟨[.agg [.int .i64 a0.clock, .int .i64 a0.next, .lst 4 (a0.list_.map eDLease)], .int .i64 a1], []⟩ ⟨.tup [.agg [.int .i64 r.1.clock, .int .i64 r.1.next, .own 0 0 4 (r.1.list_.map eDLease)], .int .i64 r.2], [], []⟩ := by
  refine fn_ (Nat.le_of_ble_eq_true rfl) ?_
  refine seq_ ?_
  refine reg_ ?_
  refine st (box_ rfl trivial rfl ?_)
  refine st (alloc_ ?_)
  refine st (mvc_ trivial ?_)
  refine oe_ ?_
  refine wk_ ⟨[(1, .int .i64 a1), (2, .ptr 128 0), (4, .ptr 256 0)], [(128, [.int .i64 a0.clock, .int .i64 a0.next, .lst 4 (a0.list_.map eDLease)]), (256, [.int .i64 0, .int .i64 0, .own 259 0 4 (([] : List DLease).map eDLease)])], []⟩ (fg ⟨rfl, rfl, rfl, trivial⟩ ⟨rfl, rfl, trivial⟩) ?_
  refine seq_ ?_
  refine seq_ ?_
  refine reg_ ?_
  refine st (c_ (v := .agg [.int .i64 a0.clock, .int .i64 a0.next, .lst 4 (a0.list_.map eDLease)]) (cp_ ⟨trivial, trivial⟩ rfl (Nat.le_of_ble_eq_true rfl)) ?_)
  obtain ⟨r1, e2, h0⟩ := bnd h0
  refine st (call0_ (r := .bool r1) false (H20 a0 r1 e2) ⟨trivial, trivial⟩ rfl rfl (fun _ => rfl) ?_)
  refine st (c_ (cp_ ⟨trivial, trivial⟩ rfl trivial) ?_)
  refine oe_ ?_
  refine wk_ ⟨[(1, .int .i64 a1), (2, .ptr 128 0), (4, .ptr 256 0), (10, .bool (!r1))], [(128, [.int .i64 a0.clock, .int .i64 a0.next, .lst 4 (a0.list_.map eDLease)]), (256, [.int .i64 0, .int .i64 0, .own 259 0 4 (([] : List DLease).map eDLease)])], []⟩ (fg ⟨rfl, rfl, rfl, rfl, trivial⟩ ⟨rfl, rfl, trivial⟩) ?_
  refine ite_ (cb := (!r1)) rfl (fun c3 => ?_) (fun c3 => ?_)
  · replace h0 := ip c3 h0
    refine seq_ ?_
    refine reg_ ?_
    refine st (c_ (v := .agg [.int .i64 0, .int .i64 0, .own 707 0 4 (([] : List DLease).map eDLease)]) (cp_ trivial rfl trivial) ?_)
    refine st (stp_ rfl rfl trivial rfl rfl rfl (Nat.le_of_ble_eq_true rfl) ?_)
    refine st (mvc_ trivial ?_)
    refine oe_ ?_
    refine wk_ ⟨[(4, .ptr 256 0), (5, .int .i64 1)], [(256, [.int .i64 0, .int .i64 0, .own 707 0 4 (([] : List DLease).map eDLease)])], []⟩ (fg ⟨rfl, rfl, trivial⟩ ⟨rfl, trivial⟩) ?_
    obtain rfl := Option.some.inj h0
    exact rt_ (ret_ rfl rfl rfl rfl rfl trivial)
  · replace h0 := inb c3 h0
    refine sk_ ?_
    refine wk_ ⟨[(1, .int .i64 a1), (2, .ptr 128 0), (4, .ptr 256 0)], [(128, [.int .i64 a0.clock, .int .i64 a0.next, .lst 4 (a0.list_.map eDLease)]), (256, [.int .i64 0, .int .i64 0, .own 259 0 4 (([] : List DLease).map eDLease)])], []⟩ (fg ⟨rfl, rfl, rfl, trivial⟩ ⟨rfl, rfl, trivial⟩) ?_
    refine seq_ ?_
    refine reg_ ?_
    refine st (c_ (v := .agg [.int .i64 a0.clock, .int .i64 a0.next, .lst 4 (a0.list_.map eDLease)]) (cp_ ⟨trivial, trivial⟩ rfl (Nat.le_of_ble_eq_true rfl)) ?_)
    refine st (mv_ rfl trivial ?_)
    obtain ⟨r4, e5, h0⟩ := bnd h0
    refine st (call0_ (r := .tup [.int .i64 r4.1, .bool r4.2]) false (H77 a0 a1 r4 e5) ⟨trivial, trivial, trivial⟩ rfl rfl (fun _ => rfl) ?_)
    refine st (mv_ rfl trivial ?_)
    refine st (c_ (cp_ ⟨trivial, trivial⟩ rfl trivial) ?_)
    refine st (c_ (cp_ ⟨trivial, trivial⟩ rfl trivial) ?_)
    refine st (mv_ rfl trivial ?_)
    refine st (mv_ rfl trivial ?_)
    refine oe_ ?_
    refine wk_ ⟨[(2, .ptr 128 0), (4, .ptr 256 0), (6, .int .i64 r4.1), (7, .bool r4.2)], [(128, [.int .i64 a0.clock, .int .i64 a0.next, .lst 4 (a0.list_.map eDLease)]), (256, [.int .i64 0, .int .i64 0, .own 259 0 4 (([] : List DLease).map eDLease)])], []⟩ (fg ⟨rfl, rfl, rfl, rfl, trivial⟩ ⟨rfl, rfl, trivial⟩) ?_
    refine seq_ ?_
    refine block_ ?_
    refine seq_ ?_
    refine reg_ ?_
    refine st (mv_ rfl trivial ?_)
    refine st (c_ (cp_ ⟨trivial, trivial⟩ rfl trivial) ?_)
    refine st (mv_ rfl trivial ?_)
    refine oe_ ?_
    refine wk_ ⟨[(2, .ptr 128 0), (4, .ptr 256 0), (6, .int .i64 r4.1), (18, .bool (!r4.2))], [(128, [.int .i64 a0.clock, .int .i64 a0.next, .lst 4 (a0.list_.map eDLease)]), (256, [.int .i64 0, .int .i64 0, .own 259 0 4 (([] : List DLease).map eDLease)])], []⟩ (fg ⟨rfl, rfl, rfl, rfl, trivial⟩ ⟨rfl, rfl, trivial⟩) ?_
    refine ite_ (cb := (!r4.2)) rfl (fun c6 => ?_) (fun c6 => ?_)
    · replace h0 := ip c6 h0
      refine seq_ ?_
      refine reg_ ?_
      refine st (c_ (v := .agg [.int .i64 0, .int .i64 0, .own 1347 0 4 (([] : List DLease).map eDLease)]) (cp_ trivial rfl trivial) ?_)
      refine st (stp_ rfl rfl trivial rfl rfl rfl (Nat.le_of_ble_eq_true rfl) ?_)
      refine st (mvc_ trivial ?_)
      refine oe_ ?_
      refine wk_ ⟨[(4, .ptr 256 0), (5, .int .i64 5)], [(256, [.int .i64 0, .int .i64 0, .own 1347 0 4 (([] : List DLease).map eDLease)])], []⟩ (fg ⟨rfl, rfl, trivial⟩ ⟨rfl, trivial⟩) ?_
      obtain rfl := Option.some.inj h0
      exact rt_ (ret_ rfl rfl rfl rfl rfl trivial)
    · replace h0 := inb c6 h0
      refine seq_ ?_
      refine reg_ ?_
      refine st (c_ (cp_ ⟨trivial, trivial⟩ rfl trivial) ?_)
      refine st (c_ (cp_ ⟨trivial, trivial⟩ rfl (Nat.le_of_ble_eq_true rfl)) ?_)
      refine st (mv_ rfl trivial ?_)
      obtain ⟨y7, e8, h0⟩ := bnd h0
      refine st (c_ (cidxL (e := eDLease) (y := y7) rfl rfl trivial rfl rfl trivial e8) ?_)
      refine st (c_ (cp_ ⟨trivial, trivial⟩ rfl (Nat.le_of_ble_eq_true rfl)) ?_)
      refine st (c_ (cp_ ⟨trivial, trivial⟩ rfl (Nat.le_of_ble_eq_true rfl)) ?_)
      refine st (c_ (cp_ ⟨trivial, trivial⟩ rfl trivial) ?_)
      refine st (mv_ rfl trivial ?_)
      refine oe_ ?_
      refine wk_ ⟨[(2, .ptr 128 0), (4, .ptr 256 0), (6, .int .i64 r4.1), (22, .bool (!y7.queued))], [(128, [.int .i64 a0.clock, .int .i64 a0.next, .lst 4 (a0.list_.map eDLease)]), (256, [.int .i64 0, .int .i64 0, .own 259 0 4 (([] : List DLease).map eDLease)])], []⟩ (fg ⟨rfl, rfl, rfl, rfl, trivial⟩ ⟨rfl, rfl, trivial⟩) ?_
      refine ite_ (cb := (!y7.queued)) rfl (fun c9 => ?_) (fun c9 => ?_)
      · replace h0 := ip c9 h0
        refine seq_ ?_
        refine reg_ ?_
        refine st (c_ (v := .agg [.int .i64 0, .int .i64 0, .own 1923 0 4 (([] : List DLease).map eDLease)]) (cp_ trivial rfl trivial) ?_)
        refine st (stp_ rfl rfl trivial rfl rfl rfl (Nat.le_of_ble_eq_true rfl) ?_)
        refine st (mvc_ trivial ?_)
        refine oe_ ?_
        refine wk_ ⟨[(4, .ptr 256 0), (5, .int .i64 13)], [(256, [.int .i64 0, .int .i64 0, .own 1923 0 4 (([] : List DLease).map eDLease)])], []⟩ (fg ⟨rfl, rfl, trivial⟩ ⟨rfl, trivial⟩) ?_
        obtain rfl := Option.some.inj h0
        exact rt_ (ret_ rfl rfl rfl rfl rfl trivial)
      · replace h0 := inb c9 h0
        refine sk_ ?_
        refine bn_ ?_
        refine wk_ ⟨[(2, .ptr 128 0), (4, .ptr 256 0), (6, .int .i64 r4.1)], [(128, [.int .i64 a0.clock, .int .i64 a0.next, .lst 4 (a0.list_.map eDLease)]), (256, [.int .i64 0, .int .i64 0, .own 259 0 4 (([] : List DLease).map eDLease)])], []⟩ (fg ⟨rfl, rfl, rfl, trivial⟩ ⟨rfl, rfl, trivial⟩) ?_
        refine seq_ ?_
        refine reg_ ?_
        refine st (c_ (v := .agg [.int .i64 a0.clock, .int .i64 a0.next, .lst 4 (a0.list_.map eDLease)]) (cp_ ⟨trivial, trivial⟩ rfl (Nat.le_of_ble_eq_true rfl)) ?_)
        refine st (mv_ rfl trivial ?_)
        obtain ⟨r10, e11, h0⟩ := bnd h0
        refine st (call0_ (r := .agg [.int .i64 r10.clock, .int .i64 r10.next, .own 0 0 4 (r10.list_.map eDLease)]) false (H78 a0 r4.1 r10 e11) ⟨trivial, trivial, trivial⟩ rfl rfl (fun _ => (and_ rfl (and_ rfl (and_ (fl1 (fun _ => rfl)) rfl)))) ?_)
        refine st (stp_ rfl rfl trivial rfl rfl rfl (Nat.le_of_ble_eq_true rfl) ?_)
        refine st (mvc_ trivial ?_)
        refine oe_ ?_
        refine wk_ ⟨[(4, .ptr 256 0), (5, .int .i64 0)], [(256, [.int .i64 r10.clock, .int .i64 r10.next, .own 2112 0 4 (r10.list_.map eDLease)])], []⟩ (fg ⟨rfl, rfl, trivial⟩ ⟨rfl, trivial⟩) ?_
        obtain rfl := Option.some.inj h0
        exact rt_ (ret_ rfl rfl rfl rfl rfl trivial)

/- loop.example/g00149/laws.FnExactDone -/
def c8_r0 : List Ins := [⟨some 2, .box (.t 0), none⟩,
 ⟨some 4, .p (.mv (.c (.bool false))), none⟩]
def c8_r1 : List Ins := [⟨some 5, .p (.mv (.c (.int .i64 1048576))), none⟩]
def c8_r2 : List Ins := [⟨some 16, .p (.load (.t 2) 3 true), none⟩,
 ⟨some 17, .p (.mv (.t 5)), none⟩,
 ⟨some 18, .call 17 [(.t 16), (.t 17)], none⟩,
 ⟨some 5, .p (.mv (.t 18)), none⟩]
def c8_r3 : List Ins := [⟨some 19, .p (.mv (.t 5)), none⟩,
 ⟨some 20, .p (.bin .lss (.t 19) (.c (.int .i64 0))), none⟩]
def c8_r4 : List Ins := [⟨some 4, .p (.mv (.c (.bool true))), none⟩]
def c8_r5 : List Ins := [⟨some 22, .p (.load (.t 2) 3 true), none⟩,
 ⟨some 23, .call 19 [(.t 22)], none⟩,
 ⟨some 24, .p (.mv (.t 1)), none⟩,
 ⟨some 25, .call 30 [(.t 23), (.t 24)], none⟩,
 ⟨some 21, .p (.mv (.t 25)), none⟩,
 ⟨some 26, .p (.ext (.t 21) 0), none⟩,
 ⟨some 27, .p (.ext (.t 21) 1), none⟩,
 ⟨some 6, .alloc [(.int .i64 0), (.int .i64 0), (.own 387 0 4 [])], none⟩,
 ⟨none, .store (.t 6) (.t 26) 3, none⟩,
 ⟨some 7, .p (.mv (.t 27)), none⟩]
def c8_r6 : List Ins := [⟨some 28, .p (.load (.t 2) 3 true), none⟩,
 ⟨some 29, .call 19 [(.t 28)], none⟩,
 ⟨some 8, .alloc [(.int .i64 0), (.int .i64 0), (.own 515 0 4 [])], none⟩,
 ⟨none, .store (.t 8) (.t 29) 3, none⟩]
def c8_r7 : List Ins := [⟨some 31, .p (.load (.t 8) 3 true), none⟩,
 ⟨some 32, .p (.mv (.t 1)), none⟩,
 ⟨some 33, .call 31 [(.t 31), (.t 32)], none⟩,
 ⟨some 30, .p (.mv (.t 33)), none⟩,
 ⟨some 34, .p (.ext (.t 30) 0), none⟩,
 ⟨some 35, .p (.ext (.t 30) 1), none⟩,
 ⟨some 9, .alloc [(.int .i64 0), (.int .i64 0), (.own 579 0 4 [])], none⟩,
 ⟨none, .store (.t 9) (.t 34) 3, none⟩,
 ⟨some 10, .p (.mv (.t 35)), none⟩]
def c8_r8 : List Ins := [⟨some 36, .p (.load (.t 9) 3 true), none⟩,
 ⟨some 37, .p (.load (.t 6) 3 true), none⟩,
 ⟨some 38, .call 21 [(.t 36), (.t 37)], none⟩,
 ⟨some 39, .p (.un .not (.t 38)), none⟩,
 ⟨some 40, .p (.mv (.t 39)), none⟩,
 ⟨some 41, .p (.mv (.t 10)), some (40, false)⟩,
 ⟨some 42, .p (.mv (.t 7)), some (40, false)⟩,
 ⟨some 43, .p (.bin .neq (.t 41) (.t 42)), some (40, false)⟩,
 ⟨some 44, .pick (.t 40) (.c (.bool true)) (.t 43), none⟩]
def c8_r9 : List Ins := [⟨some 4, .p (.mv (.c (.bool false))), none⟩]
def c8_r10 : DP := (.take ⟨some 45, .p (.load (.t 8) 3 true), none⟩
 (.take ⟨some 46, .p (.load (.t 2) 3 true), none⟩
 (.alt [⟨some 45, .p (.load (.t 8) 3 true), none⟩] ⟨some 47, .call 19 [(.t 46)], none⟩
 (.alt [] ⟨some 48, .call 21 [(.t 45), (.t 47)], none⟩
 (.take ⟨some 49, .p (.un .not (.t 48)), none⟩
 .fin)
 .stop)
 .stop)))
def c8_r11 : List Ins := [⟨some 4, .p (.mv (.c (.bool false))), none⟩]
def c8_r12 : List Ins := [⟨some 11, .p (.mv (.c (.int .i64 1))), none⟩]
def c8_r13 : List Ins := [⟨some 50, .p (.load (.t 8) 3 true), none⟩,
 ⟨some 51, .p (.mv (.t 11)), none⟩,
 ⟨some 52, .call 26 [(.t 50), (.t 51)], none⟩,
 ⟨some 11, .p (.mv (.t 52)), none⟩]
def c8_r14 : List Ins := [⟨some 53, .p (.mv (.t 11)), none⟩,
 ⟨some 54, .p (.bin .lss (.t 53) (.c (.int .i64 0))), none⟩,
 ⟨some 55, .p (.mv (.t 54)), none⟩,
 ⟨some 56, .p (.load (.t 9) 3 true), some (55, false)⟩,
 ⟨some 57, .p (.load (.t 6) 3 true), some (55, false)⟩,
 ⟨some 58, .call 21 [(.t 56), (.t 57)], some (55, false)⟩,
 ⟨some 59, .p (.un .not (.t 58)), some (55, false)⟩,
 ⟨some 60, .pick (.t 55) (.c (.bool true)) (.t 59), none⟩,
 ⟨some 61, .p (.mv (.t 60)), none⟩,
 ⟨some 62, .p (.mv (.t 10)), some (61, false)⟩,
 ⟨some 63, .p (.mv (.t 7)), some (61, false)⟩,
 ⟨some 64, .p (.bin .neq (.t 62) (.t 63)), some (61, false)⟩,
 ⟨some 65, .pick (.t 61) (.c (.bool true)) (.t 64), none⟩]
def c8_r15 : List Ins := [⟨some 4, .p (.mv (.c (.bool false))), none⟩]
def c8_r16 : List Ins := [⟨some 12, .p (.mv (.c (.int .i64 1))), none⟩]
def c8_r17 : List Ins := [⟨some 66, .p (.load (.t 9) 3 true), none⟩,
 ⟨some 67, .p (.mv (.t 12)), none⟩,
 ⟨some 68, .call 26 [(.t 66), (.t 67)], none⟩,
 ⟨some 12, .p (.mv (.t 68)), none⟩]
def c8_r18 : List Ins := [⟨some 13, .p (.mv (.c (.int .i64 1))), none⟩]
def c8_r19 : List Ins := [⟨some 69, .p (.load (.t 9) 3 true), none⟩,
 ⟨some 70, .p (.mv (.t 13)), none⟩,
 ⟨some 71, .call 27 [(.t 69), (.t 70)], none⟩,
 ⟨some 13, .p (.mv (.t 71)), none⟩]
def c8_r20 : List Ins := [⟨some 72, .p (.mv (.t 13)), none⟩,
 ⟨some 73, .p (.bin .lss (.t 72) (.c (.int .i64 0))), none⟩]
def c8_r21 : List Ins := [⟨some 4, .p (.mv (.c (.bool false))), none⟩]
def c8_r22 : List Ins := [⟨some 74, .p (.mv (.t 13)), none⟩,
 ⟨some 75, .p (.mv (.t 12)), none⟩,
 ⟨some 76, .p (.bin .neq (.t 74) (.t 75)), none⟩]
def c8_r23 : List Ins := [⟨some 4, .p (.mv (.c (.bool false))), none⟩]
def c8_r24 : List Ins := [⟨some 78, .p (.load (.t 2) 3 true), none⟩,
 ⟨some 79, .call 19 [(.t 78)], none⟩,
 ⟨some 80, .p (.mv (.t 1)), none⟩,
 ⟨some 81, .call 31 [(.t 79), (.t 80)], none⟩,
 ⟨some 77, .p (.mv (.t 81)), none⟩,
 ⟨some 82, .p (.ext (.t 77) 0), none⟩,
 ⟨some 83, .p (.ext (.t 77) 1), none⟩,
 ⟨some 14, .alloc [(.int .i64 0), (.int .i64 0), (.own 899 0 4 [])], none⟩,
 ⟨none, .store (.t 14) (.t 82) 3, none⟩,
 ⟨some 15, .p (.mv (.t 83)), none⟩]
def c8_r25 : List Ins := [⟨some 84, .p (.load (.t 14) 3 true), none⟩,
 ⟨some 85, .p (.load (.t 6) 3 true), none⟩,
 ⟨some 86, .call 21 [(.t 84), (.t 85)], none⟩,
 ⟨some 87, .p (.un .not (.t 86)), none⟩,
 ⟨some 88, .p (.mv (.t 87)), none⟩,
 ⟨some 89, .p (.mv (.t 15)), some (88, false)⟩,
 ⟨some 90, .p (.mv (.t 7)), some (88, false)⟩,
 ⟨some 91, .p (.bin .neq (.t 89) (.t 90)), some (88, false)⟩,
 ⟨some 92, .pick (.t 88) (.c (.bool true)) (.t 91), none⟩]
def c8_r26 : List Ins := [⟨some 4, .p (.mv (.c (.bool false))), none⟩]
def c8_r27 : List Ins := [⟨some 13, .p (.mv (.c (.int .i64 1))), none⟩]
def c8_r28 : List Ins := [⟨some 93, .p (.load (.t 9) 3 true), none⟩,
 ⟨some 94, .p (.mv (.t 13)), none⟩,
 ⟨some 95, .call 27 [(.t 93), (.t 94)], none⟩,
 ⟨some 13, .p (.mv (.t 95)), none⟩]
def c8_r29 : List Ins := [⟨some 96, .p (.mv (.t 13)), none⟩,
 ⟨some 97, .p (.bin .lss (.t 96) (.c (.int .i64 0))), none⟩]
def c8_r30 : List Ins := [⟨some 4, .p (.mv (.c (.bool false))), none⟩]
def c8_r31 : List Ins := [⟨some 98, .p (.mv (.t 13)), none⟩,
 ⟨some 99, .p (.mv (.t 12)), none⟩,
 ⟨some 100, .p (.bin .neq (.t 98) (.t 99)), none⟩]
def c8_r32 : List Ins := [⟨some 4, .p (.mv (.c (.bool false))), none⟩]
def c8_r33 : List Ins := [⟨some 4, .p (.mv (.c (.bool true))), none⟩]
def c8 : XFn := { np := 2, nt := 101, res := [.t 4], body := (.seq (.reg c8_r0) (.seq (.reg c8_r1) (.seq (.reg c8_r2) (.seq (.seq (.reg c8_r3) (.ite (.t 20) (.seq (.reg c8_r4) .ret) .skip)) (.seq (.reg c8_r5) (.seq (.reg c8_r6) (.seq (.reg c8_r7) (.seq (.seq (.reg c8_r8) (.ite (.t 44) (.seq (.reg c8_r9) .ret) .skip)) (.seq (.seq (.draw c8_r10) (.ite (.t 49) (.seq (.reg c8_r11) .ret) .skip)) (.seq (.reg c8_r12) (.seq (.reg c8_r13) (.seq (.seq (.reg c8_r14) (.ite (.t 65) (.seq (.reg c8_r15) .ret) .skip)) (.seq (.reg c8_r16) (.seq (.reg c8_r17) (.seq (.reg c8_r18) (.seq (.reg c8_r19) (.seq (.seq (.reg c8_r20) (.ite (.t 73) (.seq (.reg c8_r21) .ret) .skip)) (.seq (.seq (.reg c8_r22) (.ite (.t 76) (.seq (.reg c8_r23) .ret) .skip)) (.seq (.reg c8_r24) (.seq (.seq (.reg c8_r25) (.ite (.t 92) (.seq (.reg c8_r26) .ret) .skip)) (.seq (.reg c8_r27) (.seq (.reg c8_r28) (.seq (.seq (.reg c8_r29) (.ite (.t 97) (.seq (.reg c8_r30) .ret) .skip)) (.seq (.seq (.reg c8_r31) (.ite (.t 100) (.seq (.reg c8_r32) .ret) .skip)) (.seq (.reg c8_r33) .ret))))))))))))))))))))))))) }
def K8 (C : CRel) : Prop := ∀ (a0 : DTable) (a1 : Int) (r : Bool), g8 a0 a1 = some r → C 8 ⟨[.agg [.int .i64 a0.clock, .int .i64 a0.next, .lst 4 (a0.list_.map eDLease)], .int .i64 a1], []⟩ ⟨.bool r, [], []⟩
theorem F8 {C : CRel} (H17 : K17 C) (H19 : K19 C) (H21 : K21 C) (H26 : K26 C) (H27 : K27 C) (H30 : K30 C) (H31 : K31 C) (a0 : DTable) (a1 : Int) (r : Bool) (h0 : g8 a0 a1 = some r) : FnOK C c8 ⟨[.agg [.int .i64 a0.clock, .int .i64 a0.next, .lst 4 (a0.list_.map eDLease)], .int .i64 a1], []⟩ ⟨.bool r, [], []⟩ := by
  refine fn_ (Nat.le_of_ble_eq_true rfl) ?_
  refine seq_ ?_
  refine reg_ ?_
  refine st (box_ rfl trivial rfl ?_)
  refine st (mvc_ trivial ?_)
  refine oe_ ?_
  refine wk_ ⟨[(1, .int .i64 a1), (2, .ptr 128 0)], [(128, [.int .i64 a0.clock, .int .i64 a0.next, .lst 4 (a0.list_.map eDLease)])], []⟩ (fg ⟨rfl, rfl, trivial⟩ ⟨rfl, trivial⟩) ?_
  refine seq_ ?_
  refine reg_ ?_
  refine st (mvc_ trivial ?_)
  refine oe_ ?_
  refine wk_ ⟨[(1, .int .i64 a1), (2, .ptr 128 0), (5, .int .i64 1048576)], [(128, [.int .i64 a0.clock, .int .i64 a0.next, .lst 4 (a0.list_.map eDLease)])], []⟩ (fg ⟨rfl, rfl, rfl, trivial⟩ ⟨rfl, trivial⟩) ?_
  refine seq_ ?_
  refine reg_ ?_
  refine st (c_ (v := .agg [.int .i64 a0.clock, .int .i64 a0.next, .lst 4 (a0.list_.map eDLease)]) (cp_ ⟨trivial, trivial⟩ rfl (Nat.le_of_ble_eq_true rfl)) ?_)
  refine st (mv_ rfl trivial ?_)
  obtain ⟨r1, e2, h0⟩ := bnd h0
  refine st (call0_ (r := .int .i64 r1) false (H17 a0 1048576 r1 e2) ⟨trivial, trivial, trivial⟩ rfl rfl (fun _ => rfl) ?_)
  refine st (mv_ rfl trivial ?_)
  refine oe_ ?_
  refine wk_ ⟨[(1, .int .i64 a1), (2, .ptr 128 0), (5, .int .i64 r1)], [(128, [.int .i64 a0.clock, .int .i64 a0.next, .lst 4 (a0.list_.map eDLease)])], []⟩ (fg ⟨rfl, rfl, rfl, trivial⟩ ⟨rfl, trivial⟩) ?_
  refine seq_ ?_
  refine seq_ ?_
  refine reg_ ?_
  refine st (mv_ rfl trivial ?_)
  refine st (c_ (cp_ ⟨trivial, trivial, trivial⟩ rfl trivial) ?_)
  refine oe_ ?_
  refine wk_ ⟨[(1, .int .i64 a1), (2, .ptr 128 0), (20, .bool (decide (r1 < 0)))], [(128, [.int .i64 a0.clock, .int .i64 a0.next, .lst 4 (a0.list_.map eDLease)])], []⟩ (fg ⟨rfl, rfl, rfl, trivial⟩ ⟨rfl, trivial⟩) ?_
  refine ite_ (cb := (decide (r1 < 0))) rfl (fun c3 => ?_) (fun c3 => ?_)
  · replace h0 := ip c3 h0
    refine seq_ ?_
    refine reg_ ?_
    refine st (mvc_ trivial ?_)
    refine oe_ ?_
    refine wk_ ⟨[(4, .bool true)], [], []⟩ (fg ⟨rfl, trivial⟩ trivial) ?_
    obtain rfl := Option.some.inj h0
    exact rt_ (ret_ rfl rfl rfl rfl rfl trivial)
  · replace h0 := inb c3 h0
    refine sk_ ?_
    refine wk_ ⟨[(1, .int .i64 a1), (2, .ptr 128 0)], [(128, [.int .i64 a0.clock, .int .i64 a0.next, .lst 4 (a0.list_.map eDLease)])], []⟩ (fg ⟨rfl, rfl, trivial⟩ ⟨rfl, trivial⟩) ?_
    refine seq_ ?_
    refine reg_ ?_
    refine st (c_ (v := .agg [.int .i64 a0.clock, .int .i64 a0.next, .lst 4 (a0.list_.map eDLease)]) (cp_ ⟨trivial, trivial⟩ rfl (Nat.le_of_ble_eq_true rfl)) ?_)
    obtain ⟨r4, e5, h0⟩ := bnd h0
    refine st (call0_ (r := .agg [.int .i64 r4.clock, .int .i64 r4.next, .own 0 0 4 (r4.list_.map eDLease)]) false (H19 a0 r4 e5) ⟨trivial, trivial⟩ rfl rfl (fun _ => (and_ rfl (and_ rfl (and_ (fl1 (fun _ => rfl)) rfl)))) ?_)
    refine st (mv_ rfl trivial ?_)
    obtain ⟨r6, e7, h0⟩ := bnd h0
    refine st (call0_ (r := .tup [.agg [.int .i64 r6.1.clock, .int .i64 r6.1.next, .lst 4 (r6.1.list_.map eDLease)], .int .i64 r6.2]) true (H30 r4 a1 r6 e7) ⟨trivial, trivial, trivial⟩ rfl rfl (fun h => nomatch h) ?_)
    refine st (mv_ rfl trivial ?_)
    refine st (c_ (cp_ ⟨trivial, trivial⟩ rfl trivial) ?_)
    refine st (c_ (cp_ ⟨trivial, trivial⟩ rfl trivial) ?_)
    refine st (alloc_ ?_)
    refine st (stp_ rfl rfl trivial rfl rfl rfl (Nat.le_of_ble_eq_true rfl) ?_)
    refine st (mv_ rfl trivial ?_)
    refine oe_ ?_
    refine wk_ ⟨[(1, .int .i64 a1), (2, .ptr 128 0), (6, .ptr 384 0), (7, .int .i64 r6.2)], [(128, [.int .i64 a0.clock, .int .i64 a0.next, .lst 4 (a0.list_.map eDLease)]), (384, [.int .i64 r6.1.clock, .int .i64 r6.1.next, .lst 4 (r6.1.list_.map eDLease)])], []⟩ (fg ⟨rfl, rfl, rfl, rfl, trivial⟩ ⟨rfl, rfl, trivial⟩) ?_
    refine seq_ ?_
    refine reg_ ?_
    refine st (c_ (v := .agg [.int .i64 a0.clock, .int .i64 a0.next, .lst 4 (a0.list_.map eDLease)]) (cp_ ⟨trivial, trivial⟩ rfl (Nat.le_of_ble_eq_true rfl)) ?_)
    obtain ⟨r8, e9, h0⟩ := bnd h0
    refine st (call0_ (r := .agg [.int .i64 r8.clock, .int .i64 r8.next, .own 0 0 4 (r8.list_.map eDLease)]) false (H19 a0 r8 e9) ⟨trivial, trivial⟩ rfl rfl (fun _ => (and_ rfl (and_ rfl (and_ (fl1 (fun _ => rfl)) rfl)))) ?_)
    refine st (alloc_ ?_)
    refine st (stp_ rfl rfl trivial rfl rfl rfl (Nat.le_of_ble_eq_true rfl) ?_)
    refine oe_ ?_
    refine wk_ ⟨[(1, .int .i64 a1), (2, .ptr 128 0), (6, .ptr 384 0), (7, .int .i64 r6.2), (8, .ptr 512 0)], [(128, [.int .i64 a0.clock, .int .i64 a0.next, .lst 4 (a0.list_.map eDLease)]), (384, [.int .i64 r6.1.clock, .int .i64 r6.1.next, .lst 4 (r6.1.list_.map eDLease)]), (512, [.int .i64 r8.clock, .int .i64 r8.next, .own 1856 0 4 (r8.list_.map eDLease)])], []⟩ (fg ⟨rfl, rfl, rfl, rfl, rfl, trivial⟩ ⟨rfl, rfl, rfl, trivial⟩) ?_
    refine seq_ ?_
    refine reg_ ?_
    refine st (c_ (v := .agg [.int .i64 r8.clock, .int .i64 r8.next, .own 1856 0 4 (r8.list_.map eDLease)]) (cp_ ⟨trivial, trivial⟩ rfl (Nat.le_of_ble_eq_true rfl)) ?_)
    refine st (mv_ rfl trivial ?_)
    obtain ⟨r10, e11, h0⟩ := bnd h0
    refine st (call0_ (r := .tup [.agg [.int .i64 r10.1.clock, .int .i64 r10.1.next, .own 0 0 4 (r10.1.list_.map eDLease)], .int .i64 r10.2]) false (H31 r8 a1 r10 e11) ⟨trivial, trivial, trivial⟩ rfl rfl (fun _ => (and_ rfl (and_ rfl (and_ (fl1 (fun _ => rfl)) (and_ rfl rfl))))) ?_)
    refine st (mv_ rfl trivial ?_)
    refine st (c_ (cp_ ⟨trivial, trivial⟩ rfl trivial) ?_)
    refine st (c_ (cp_ ⟨trivial, trivial⟩ rfl trivial) ?_)
    refine st (alloc_ ?_)
    refine st (stp_ rfl rfl trivial rfl rfl rfl (Nat.le_of_ble_eq_true rfl) ?_)
    refine st (mv_ rfl trivial ?_)
    refine oe_ ?_
    refine wk_ ⟨[(1, .int .i64 a1), (2, .ptr 128 0), (6, .ptr 384 0), (7, .int .i64 r6.2), (8, .ptr 512 0), (9, .ptr 576 0), (10, .int .i64 r10.2)], [(128, [.int .i64 a0.clock, .int .i64 a0.next, .lst 4 (a0.list_.map eDLease)]), (384, [.int .i64 r6.1.clock, .int .i64 r6.1.next, .lst 4 (r6.1.list_.map eDLease)]), (512, [.int .i64 r8.clock, .int .i64 r8.next, .own 1856 0 4 (r8.list_.map eDLease)]), (576, [.int .i64 r10.1.clock, .int .i64 r10.1.next, .own 2112 0 4 (r10.1.list_.map eDLease)])], []⟩ (fg ⟨rfl, rfl, rfl, rfl, rfl, rfl, rfl, trivial⟩ ⟨rfl, rfl, rfl, rfl, trivial⟩) ?_
    refine seq_ ?_
    refine seq_ ?_
    refine reg_ ?_
    refine st (c_ (v := .agg [.int .i64 r10.1.clock, .int .i64 r10.1.next, .own 2112 0 4 (r10.1.list_.map eDLease)]) (cp_ ⟨trivial, trivial⟩ rfl (Nat.le_of_ble_eq_true rfl)) ?_)
    refine st (c_ (v := .agg [.int .i64 r6.1.clock, .int .i64 r6.1.next, .lst 4 (r6.1.list_.map eDLease)]) (cp_ ⟨trivial, trivial⟩ rfl (Nat.le_of_ble_eq_true rfl)) ?_)
    obtain ⟨r12, e13, h0⟩ := bnd h0
    refine st (call0_ (r := .bool r12) false (H21 r10.1 r6.1 r12 e13) ⟨trivial, trivial, trivial⟩ rfl rfl (fun _ => rfl) ?_)
    refine st (c_ (cp_ ⟨trivial, trivial⟩ rfl trivial) ?_)
    refine st (mv_ rfl trivial ?_)
    refine st (pg_ (u := .int .i64 r10.2) rfl (fun hg => (cmv (v := .int .i64 r10.2) rfl trivial)) ?_)
    refine st (pg_ (u := .int .i64 r6.2) rfl (fun hg => (cmv (v := .int .i64 r6.2) rfl trivial)) ?_)
    refine st (pg_ (u := .bool (r10.2 != r6.2)) rfl (fun hg => (cp_ ⟨(fun _ => hg), (fun _ => hg), trivial⟩ rfl trivial)) ?_)
    refine st (pick_ rfl rfl rfl trivial (fun h => eqf h) rfl ?_)
    refine oe_ ?_
    refine wk_ ⟨[(1, .int .i64 a1), (2, .ptr 128 0), (6, .ptr 384 0), (7, .int .i64 r6.2), (8, .ptr 512 0), (9, .ptr 576 0), (10, .int .i64 r10.2), (44, .bool (bif (!r12) then true else (r10.2 != r6.2)))], [(128, [.int .i64 a0.clock, .int .i64 a0.next, .lst 4 (a0.list_.map eDLease)]), (384, [.int .i64 r6.1.clock, .int .i64 r6.1.next, .lst 4 (r6.1.list_.map eDLease)]), (512, [.int .i64 r8.clock, .int .i64 r8.next, .own 1856 0 4 (r8.list_.map eDLease)]), (576, [.int .i64 r10.1.clock, .int .i64 r10.1.next, .own 2112 0 4 (r10.1.list_.map eDLease)])], []⟩ (fg ⟨rfl, rfl, rfl, rfl, rfl, rfl, rfl, rfl, trivial⟩ ⟨rfl, rfl, rfl, rfl, trivial⟩) ?_
    refine ite_ (cb := (bif (!r12) then true else (r10.2 != r6.2))) rfl (fun c14 => ?_) (fun c14 => ?_)
    · replace h0 := ip c14 h0
      refine seq_ ?_
      refine reg_ ?_
      refine st (mvc_ trivial ?_)
      refine oe_ ?_
      refine wk_ ⟨[(4, .bool false)], [], []⟩ (fg ⟨rfl, trivial⟩ trivial) ?_
      obtain rfl := Option.some.inj h0
      exact rt_ (ret_ rfl rfl rfl rfl rfl trivial)
    · replace h0 := inb c14 h0
      refine sk_ ?_
      refine wk_ ⟨[(1, .int .i64 a1), (2, .ptr 128 0), (6, .ptr 384 0), (7, .int .i64 r6.2), (8, .ptr 512 0), (9, .ptr 576 0), (10, .int .i64 r10.2)], [(128, [.int .i64 a0.clock, .int .i64 a0.next, .lst 4 (a0.list_.map eDLease)]), (384, [.int .i64 r6.1.clock, .int .i64 r6.1.next, .lst 4 (r6.1.list_.map eDLease)]), (512, [.int .i64 r8.clock, .int .i64 r8.next, .own 1856 0 4 (r8.list_.map eDLease)]), (576, [.int .i64 r10.1.clock, .int .i64 r10.1.next, .own 2112 0 4 (r10.1.list_.map eDLease)])], []⟩ (fg ⟨rfl, rfl, rfl, rfl, rfl, rfl, rfl, trivial⟩ ⟨rfl, rfl, rfl, rfl, trivial⟩) ?_
      refine seq_ ?_
      refine seq_ ?_
      obtain ⟨r15, e16, h0⟩ := bnd h0
      obtain ⟨r17, e18, h0⟩ := bnd h0
      refine draw_ ?_
      refine dtake trivial (c_ (v := .agg [.int .i64 r8.clock, .int .i64 r8.next, .own 1856 0 4 (r8.list_.map eDLease)]) (cp_ ⟨trivial, trivial⟩ rfl (Nat.le_of_ble_eq_true rfl)) ?_)
      refine ⟨trivial, ?_⟩
      refine dtake trivial (c_ (v := .agg [.int .i64 a0.clock, .int .i64 a0.next, .lst 4 (a0.list_.map eDLease)]) (cp_ ⟨trivial, trivial⟩ rfl (Nat.le_of_ble_eq_true rfl)) ?_)
      refine ⟨trivial, ?_⟩
      refine dalt (call0_ (r := .agg [.int .i64 r15.clock, .int .i64 r15.next, .own 0 0 4 (r15.list_.map eDLease)]) false (H19 a0 r15 e16) ⟨trivial, trivial⟩ rfl rfl (fun _ => (and_ rfl (and_ rfl (and_ (fl1 (fun _ => rfl)) rfl)))) ?_) dstop
      refine dk0 ⟨[], ⟨⟨.inl trivial, (again1 (cp_ ⟨trivial, trivial⟩ rfl (Nat.le_of_ble_eq_true rfl)) rfl)⟩, trivial⟩, trivial, ?_⟩
      refine dalt (call0_ (r := .bool r17) false (H21 r8 r15 r17 e18) ⟨trivial, trivial, trivial⟩ rfl rfl (fun _ => rfl) ?_) dstop
      refine dk0 ⟨[], trivial, trivial, ?_⟩
      refine dtake trivial (c_ (cp_ ⟨trivial, trivial⟩ rfl trivial) ?_)
      refine ⟨trivial, ?_⟩
      refine dfin ?_
      refine wk_ ⟨[(1, .int .i64 a1), (2, .ptr 128 0), (6, .ptr 384 0), (7, .int .i64 r6.2), (8, .ptr 512 0), (9, .ptr 576 0), (10, .int .i64 r10.2), (49, .bool (!r17))], [(128, [.int .i64 a0.clock, .int .i64 a0.next, .lst 4 (a0.list_.map eDLease)]), (384, [.int .i64 r6.1.clock, .int .i64 r6.1.next, .lst 4 (r6.1.list_.map eDLease)]), (512, [.int .i64 r8.clock, .int .i64 r8.next, .own 1856 0 4 (r8.list_.map eDLease)]), (576, [.int .i64 r10.1.clock, .int .i64 r10.1.next, .own 2112 0 4 (r10.1.list_.map eDLease)])], []⟩ (fg ⟨rfl, rfl, rfl, rfl, rfl, rfl, rfl, rfl, trivial⟩ ⟨rfl, rfl, rfl, rfl, trivial⟩) ?_
      refine ite_ (cb := (!r17)) rfl (fun c19 => ?_) (fun c19 => ?_)
      · replace h0 := ip c19 h0
        refine seq_ ?_
        refine reg_ ?_
        refine st (mvc_ trivial ?_)
        refine oe_ ?_
        refine wk_ ⟨[(4, .bool false)], [], []⟩ (fg ⟨rfl, trivial⟩ trivial) ?_
        obtain rfl := Option.some.inj h0
        exact rt_ (ret_ rfl rfl rfl rfl rfl trivial)
      · replace h0 := inb c19 h0
        refine sk_ ?_
        refine wk_ ⟨[(1, .int .i64 a1), (2, .ptr 128 0), (6, .ptr 384 0), (7, .int .i64 r6.2), (8, .ptr 512 0), (9, .ptr 576 0), (10, .int .i64 r10.2)], [(128, [.int .i64 a0.clock, .int .i64 a0.next, .lst 4 (a0.list_.map eDLease)]), (384, [.int .i64 r6.1.clock, .int .i64 r6.1.next, .lst 4 (r6.1.list_.map eDLease)]), (512, [.int .i64 r8.clock, .int .i64 r8.next, .own 1856 0 4 (r8.list_.map eDLease)]), (576, [.int .i64 r10.1.clock, .int .i64 r10.1.next, .own 2112 0 4 (r10.1.list_.map eDLease)])], []⟩ (fg ⟨rfl, rfl, rfl, rfl, rfl, rfl, rfl, trivial⟩ ⟨rfl, rfl, rfl, rfl, trivial⟩) ?_
        refine seq_ ?_
        refine reg_ ?_
        refine st (mvc_ trivial ?_)
        refine oe_ ?_
        refine wk_ ⟨[(1, .int .i64 a1), (2, .ptr 128 0), (6, .ptr 384 0), (7, .int .i64 r6.2), (8, .ptr 512 0), (9, .ptr 576 0), (10, .int .i64 r10.2), (11, .int .i64 1)], [(128, [.int .i64 a0.clock, .int .i64 a0.next, .lst 4 (a0.list_.map eDLease)]), (384, [.int .i64 r6.1.clock, .int .i64 r6.1.next, .lst 4 (r6.1.list_.map eDLease)]), (512, [.int .i64 r8.clock, .int .i64 r8.next, .own 1856 0 4 (r8.list_.map eDLease)]), (576, [.int .i64 r10.1.clock, .int .i64 r10.1.next, .own 2112 0 4 (r10.1.list_.map eDLease)])], []⟩ (fg ⟨rfl, rfl, rfl, rfl, rfl, rfl, rfl, rfl, trivial⟩ ⟨rfl, rfl, rfl, rfl, trivial⟩) ?_
        refine seq_ ?_
        refine reg_ ?_
        refine st (c_ (v := .agg [.int .i64 r8.clock, .int .i64 r8.next, .own 1856 0 4 (r8.list_.map eDLease)]) (cp_ ⟨trivial, trivial⟩ rfl (Nat.le_of_ble_eq_true rfl)) ?_)
        refine st (mv_ rfl trivial ?_)
        obtain ⟨r20, e21, h0⟩ := bnd h0
        obtain ⟨c22, h0⟩ := grd h0
        refine st (call1_ [] [1856] [] false (H26 r8 1 r20 e21) ⟨trivial, trivial, trivial⟩ rfl rfl rfl rfl (fun _ => and_ rfl (and_ (fl2 (fun _ => rfl)) rfl)) ?_)
        refine sw ⟨[(1, .int .i64 a1), (2, .ptr 128 0), (6, .ptr 384 0), (7, .int .i64 r6.2), (9, .ptr 576 0), (10, .int .i64 r10.2), (52, .int .i64 r20.1)], [(128, [.int .i64 a0.clock, .int .i64 a0.next, .lst 4 (a0.list_.map eDLease)]), (384, [.int .i64 r6.1.clock, .int .i64 r6.1.next, .lst 4 (r6.1.list_.map eDLease)]), (576, [.int .i64 r10.1.clock, .int .i64 r10.1.next, .own 2112 0 4 (r10.1.list_.map eDLease)])], []⟩ (fg ⟨rfl, rfl, rfl, rfl, rfl, rfl, rfl, trivial⟩ ⟨rfl, rfl, rfl, trivial⟩) (mv_ rfl trivial ?_)
        refine oe_ ?_
        refine wk_ ⟨[(1, .int .i64 a1), (2, .ptr 128 0), (6, .ptr 384 0), (7, .int .i64 r6.2), (9, .ptr 576 0), (10, .int .i64 r10.2), (11, .int .i64 r20.1)], [(128, [.int .i64 a0.clock, .int .i64 a0.next, .lst 4 (a0.list_.map eDLease)]), (384, [.int .i64 r6.1.clock, .int .i64 r6.1.next, .lst 4 (r6.1.list_.map eDLease)]), (576, [.int .i64 r10.1.clock, .int .i64 r10.1.next, .own 2112 0 4 (r10.1.list_.map eDLease)])], []⟩ (fg ⟨rfl, rfl, rfl, rfl, rfl, rfl, rfl, trivial⟩ ⟨rfl, rfl, rfl, trivial⟩) ?_
        refine seq_ ?_
        refine seq_ ?_
        refine reg_ ?_
        refine st (mv_ rfl trivial ?_)
        refine st (c_ (cp_ ⟨trivial, trivial, trivial⟩ rfl trivial) ?_)
        refine st (mv_ rfl trivial ?_)
        refine st (pg_ (u := .agg [.int .i64 r10.1.clock, .int .i64 r10.1.next, .own 2112 0 4 (r10.1.list_.map eDLease)]) rfl (fun hg => (cp_ ⟨trivial, trivial⟩ rfl (Nat.le_of_ble_eq_true rfl))) ?_)
        refine st (pg_ (u := .agg [.int .i64 r6.1.clock, .int .i64 r6.1.next, .lst 4 (r6.1.list_.map eDLease)]) rfl (fun hg => (cp_ ⟨trivial, trivial⟩ rfl (Nat.le_of_ble_eq_true rfl))) ?_)
        obtain ⟨r23, e24, h0⟩ := bnd h0
        refine st (callg_ (r := .bool r23) rfl false (fun hg => H21 r10.1 r6.1 r23 (ip hg e24)) ⟨(fun hg => hg), (fun hg => hg), trivial⟩ (fun _ => rfl) (fun _ => rfl) (fun _ => rfl) (fun h => nomatch h) ?_)
        refine st (pg_ (u := .bool (!r23)) rfl (fun hg => (cp_ ⟨(fun _ => hg), trivial⟩ rfl trivial)) ?_)
        refine st (pick_ rfl rfl rfl trivial (fun h => eqf h) rfl ?_)
        refine st (mv_ rfl trivial ?_)
        refine st (pg_ (u := .int .i64 r10.2) rfl (fun hg => (cmv (v := .int .i64 r10.2) rfl trivial)) ?_)
        refine st (pg_ (u := .int .i64 r6.2) rfl (fun hg => (cmv (v := .int .i64 r6.2) rfl trivial)) ?_)
        refine st (pg_ (u := .bool (r10.2 != r6.2)) rfl (fun hg => (cp_ ⟨(fun _ => hg), (fun _ => hg), trivial⟩ rfl trivial)) ?_)
        refine st (pick_ rfl rfl rfl trivial (fun h => eqf h) rfl ?_)
        refine oe_ ?_
        obtain ⟨v25, e26, h0⟩ := bl h0
        refine wk_ ⟨[(1, .int .i64 a1), (2, .ptr 128 0), (6, .ptr 384 0), (7, .int .i64 r6.2), (9, .ptr 576 0), (65, .bool v25)], [(128, [.int .i64 a0.clock, .int .i64 a0.next, .lst 4 (a0.list_.map eDLease)]), (384, [.int .i64 r6.1.clock, .int .i64 r6.1.next, .lst 4 (r6.1.list_.map eDLease)]), (576, [.int .i64 r10.1.clock, .int .i64 r10.1.next, .own 2112 0 4 (r10.1.list_.map eDLease)])], []⟩ (fg ⟨(by subst e26; rfl), (by subst e26; rfl), (by subst e26; rfl), (by subst e26; rfl), (by subst e26; rfl), (by subst e26; rfl), trivial⟩ ⟨(by subst e26; rfl), (by subst e26; rfl), (by subst e26; rfl), trivial⟩) ?_
        refine ite_ (cb := v25) rfl (fun c27 => ?_) (fun c27 => ?_)
        · replace h0 := ip c27 h0
          refine seq_ ?_
          refine reg_ ?_
          refine st (mvc_ trivial ?_)
          refine oe_ ?_
          refine wk_ ⟨[(4, .bool false)], [], []⟩ (fg ⟨rfl, trivial⟩ trivial) ?_
          obtain rfl := Option.some.inj h0
          exact rt_ (ret_ rfl rfl rfl rfl rfl trivial)
        · replace h0 := inb c27 h0
          refine sk_ ?_
          refine wk_ ⟨[(1, .int .i64 a1), (2, .ptr 128 0), (6, .ptr 384 0), (7, .int .i64 r6.2), (9, .ptr 576 0)], [(128, [.int .i64 a0.clock, .int .i64 a0.next, .lst 4 (a0.list_.map eDLease)]), (384, [.int .i64 r6.1.clock, .int .i64 r6.1.next, .lst 4 (r6.1.list_.map eDLease)]), (576, [.int .i64 r10.1.clock, .int .i64 r10.1.next, .own 2112 0 4 (r10.1.list_.map eDLease)])], []⟩ (fg ⟨rfl, rfl, rfl, rfl, rfl, trivial⟩ ⟨rfl, rfl, rfl, trivial⟩) ?_
          refine seq_ ?_
          refine reg_ ?_
          refine st (mvc_ trivial ?_)
          refine oe_ ?_
          refine wk_ ⟨[(1, .int .i64 a1), (2, .ptr 128 0), (6, .ptr 384 0), (7, .int .i64 r6.2), (9, .ptr 576 0), (12, .int .i64 1)], [(128, [.int .i64 a0.clock, .int .i64 a0.next, .lst 4 (a0.list_.map eDLease)]), (384, [.int .i64 r6.1.clock, .int .i64 r6.1.next, .lst 4 (r6.1.list_.map eDLease)]), (576, [.int .i64 r10.1.clock, .int .i64 r10.1.next, .own 2112 0 4 (r10.1.list_.map eDLease)])], []⟩ (fg ⟨rfl, rfl, rfl, rfl, rfl, rfl, trivial⟩ ⟨rfl, rfl, rfl, trivial⟩) ?_
          refine seq_ ?_
          refine reg_ ?_
          refine st (c_ (v := .agg [.int .i64 r10.1.clock, .int .i64 r10.1.next, .own 2112 0 4 (r10.1.list_.map eDLease)]) (cp_ ⟨trivial, trivial⟩ rfl (Nat.le_of_ble_eq_true rfl)) ?_)
          refine st (mv_ rfl trivial ?_)
          obtain ⟨r28, e29, h0⟩ := bnd h0
          obtain ⟨c30, h0⟩ := grd h0
          refine st (call1_ [] [2112] [] false (H26 r10.1 1 r28 e29) ⟨trivial, trivial, trivial⟩ rfl rfl rfl rfl (fun _ => and_ rfl (and_ (fl2 (fun _ => rfl)) rfl)) ?_)
          refine sw ⟨[(1, .int .i64 a1), (2, .ptr 128 0), (6, .ptr 384 0), (7, .int .i64 r6.2), (9, .ptr 576 0), (68, .int .i64 r28.1)], [(128, [.int .i64 a0.clock, .int .i64 a0.next, .lst 4 (a0.list_.map eDLease)]), (384, [.int .i64 r6.1.clock, .int .i64 r6.1.next, .lst 4 (r6.1.list_.map eDLease)]), (576, [.int .i64 r10.1.clock, .int .i64 r10.1.next, .own 2112 0 4 (r28.2.map eDLease)])], []⟩ (fg ⟨rfl, rfl, rfl, rfl, rfl, rfl, trivial⟩ ⟨rfl, rfl, (congrArg (fun z => some (([.int .i64 r10.1.clock, .int .i64 r10.1.next, z] : List V))) (row_eq c30)), trivial⟩) (mv_ rfl trivial ?_)
          refine oe_ ?_
          refine wk_ ⟨[(1, .int .i64 a1), (2, .ptr 128 0), (6, .ptr 384 0), (7, .int .i64 r6.2), (9, .ptr 576 0), (12, .int .i64 r28.1)], [(128, [.int .i64 a0.clock, .int .i64 a0.next, .lst 4 (a0.list_.map eDLease)]), (384, [.int .i64 r6.1.clock, .int .i64 r6.1.next, .lst 4 (r6.1.list_.map eDLease)]), (576, [.int .i64 r10.1.clock, .int .i64 r10.1.next, .own 2112 0 4 (r28.2.map eDLease)])], []⟩ (fg ⟨rfl, rfl, rfl, rfl, rfl, rfl, trivial⟩ ⟨rfl, rfl, rfl, trivial⟩) ?_
          refine seq_ ?_
          refine reg_ ?_
          refine st (mvc_ trivial ?_)
          refine oe_ ?_
          refine wk_ ⟨[(1, .int .i64 a1), (2, .ptr 128 0), (6, .ptr 384 0), (7, .int .i64 r6.2), (9, .ptr 576 0), (12, .int .i64 r28.1), (13, .int .i64 1)], [(128, [.int .i64 a0.clock, .int .i64 a0.next, .lst 4 (a0.list_.map eDLease)]), (384, [.int .i64 r6.1.clock, .int .i64 r6.1.next, .lst 4 (r6.1.list_.map eDLease)]), (576, [.int .i64 r10.1.clock, .int .i64 r10.1.next, .own 2112 0 4 (r28.2.map eDLease)])], []⟩ (fg ⟨rfl, rfl, rfl, rfl, rfl, rfl, rfl, trivial⟩ ⟨rfl, rfl, rfl, trivial⟩) ?_
          refine seq_ ?_
          refine reg_ ?_
          refine st (c_ (v := .agg [.int .i64 r10.1.clock, .int .i64 r10.1.next, .own 2112 0 4 (r28.2.map eDLease)]) (cp_ ⟨trivial, trivial⟩ rfl (Nat.le_of_ble_eq_true rfl)) ?_)
          refine st (mv_ rfl trivial ?_)
          obtain ⟨r31, e32, h0⟩ := bnd h0
          refine st (call0_ (r := .int .i64 r31) false (H27 (DTable.mk r10.1.clock r10.1.next r28.2) 1 r31 e32) ⟨trivial, trivial, trivial⟩ rfl rfl (fun _ => rfl) ?_)
          refine st (mv_ rfl trivial ?_)
          refine oe_ ?_
          refine wk_ ⟨[(1, .int .i64 a1), (2, .ptr 128 0), (6, .ptr 384 0), (7, .int .i64 r6.2), (9, .ptr 576 0), (12, .int .i64 r28.1), (13, .int .i64 r31)], [(128, [.int .i64 a0.clock, .int .i64 a0.next, .lst 4 (a0.list_.map eDLease)]), (384, [.int .i64 r6.1.clock, .int .i64 r6.1.next, .lst 4 (r6.1.list_.map eDLease)]), (576, [.int .i64 r10.1.clock, .int .i64 r10.1.next, .own 2112 0 4 (r28.2.map eDLease)])], []⟩ (fg ⟨rfl, rfl, rfl, rfl, rfl, rfl, rfl, trivial⟩ ⟨rfl, rfl, rfl, trivial⟩) ?_
          refine seq_ ?_
          refine seq_ ?_
          refine reg_ ?_
          refine st (mv_ rfl trivial ?_)
          refine st (c_ (cp_ ⟨trivial, trivial, trivial⟩ rfl trivial) ?_)
          refine oe_ ?_
          refine wk_ ⟨[(1, .int .i64 a1), (2, .ptr 128 0), (6, .ptr 384 0), (7, .int .i64 r6.2), (9, .ptr 576 0), (12, .int .i64 r28.1), (13, .int .i64 r31), (73, .bool (decide (r31 < 0)))], [(128, [.int .i64 a0.clock, .int .i64 a0.next, .lst 4 (a0.list_.map eDLease)]), (384, [.int .i64 r6.1.clock, .int .i64 r6.1.next, .lst 4 (r6.1.list_.map eDLease)]), (576, [.int .i64 r10.1.clock, .int .i64 r10.1.next, .own 2112 0 4 (r28.2.map eDLease)])], []⟩ (fg ⟨rfl, rfl, rfl, rfl, rfl, rfl, rfl, rfl, trivial⟩ ⟨rfl, rfl, rfl, trivial⟩) ?_
          refine ite_ (cb := (decide (r31 < 0))) rfl (fun c33 => ?_) (fun c33 => ?_)
          · replace h0 := ip c33 h0
            refine seq_ ?_
            refine reg_ ?_
            refine st (mvc_ trivial ?_)
            refine oe_ ?_
            refine wk_ ⟨[(4, .bool false)], [], []⟩ (fg ⟨rfl, trivial⟩ trivial) ?_
            obtain rfl := Option.some.inj h0
            exact rt_ (ret_ rfl rfl rfl rfl rfl trivial)
          · replace h0 := inb c33 h0
            refine sk_ ?_
            refine wk_ ⟨[(1, .int .i64 a1), (2, .ptr 128 0), (6, .ptr 384 0), (7, .int .i64 r6.2), (9, .ptr 576 0), (12, .int .i64 r28.1), (13, .int .i64 r31)], [(128, [.int .i64 a0.clock, .int .i64 a0.next, .lst 4 (a0.list_.map eDLease)]), (384, [.int .i64 r6.1.clock, .int .i64 r6.1.next, .lst 4 (r6.1.list_.map eDLease)]), (576, [.int .i64 r10.1.clock, .int .i64 r10.1.next, .own 2112 0 4 (r28.2.map eDLease)])], []⟩ (fg ⟨rfl, rfl, rfl, rfl, rfl, rfl, rfl, trivial⟩ ⟨rfl, rfl, rfl, trivial⟩) ?_
            refine seq_ ?_
            refine seq_ ?_
            refine reg_ ?_
            refine st (mv_ rfl trivial ?_)
            refine st (mv_ rfl trivial ?_)
            refine st (c_ (cp_ ⟨trivial, trivial, trivial⟩ rfl trivial) ?_)
            refine oe_ ?_
            refine wk_ ⟨[(1, .int .i64 a1), (2, .ptr 128 0), (6, .ptr 384 0), (7, .int .i64 r6.2), (9, .ptr 576 0), (12, .int .i64 r28.1), (76, .bool (r31 != r28.1))], [(128, [.int .i64 a0.clock, .int .i64 a0.next, .lst 4 (a0.list_.map eDLease)]), (384, [.int .i64 r6.1.clock, .int .i64 r6.1.next, .lst 4 (r6.1.list_.map eDLease)]), (576, [.int .i64 r10.1.clock, .int .i64 r10.1.next, .own 2112 0 4 (r28.2.map eDLease)])], []⟩ (fg ⟨rfl, rfl, rfl, rfl, rfl, rfl, rfl, trivial⟩ ⟨rfl, rfl, rfl, trivial⟩) ?_
            refine ite_ (cb := (r31 != r28.1)) rfl (fun c34 => ?_) (fun c34 => ?_)
            · replace h0 := ip c34 h0
              refine seq_ ?_
              refine reg_ ?_
              refine st (mvc_ trivial ?_)
              refine oe_ ?_
              refine wk_ ⟨[(4, .bool false)], [], []⟩ (fg ⟨rfl, trivial⟩ trivial) ?_
              obtain rfl := Option.some.inj h0
              exact rt_ (ret_ rfl rfl rfl rfl rfl trivial)
            · replace h0 := inb c34 h0
              refine sk_ ?_
              refine wk_ ⟨[(1, .int .i64 a1), (2, .ptr 128 0), (6, .ptr 384 0), (7, .int .i64 r6.2), (9, .ptr 576 0), (12, .int .i64 r28.1)], [(128, [.int .i64 a0.clock, .int .i64 a0.next, .lst 4 (a0.list_.map eDLease)]), (384, [.int .i64 r6.1.clock, .int .i64 r6.1.next, .lst 4 (r6.1.list_.map eDLease)]), (576, [.int .i64 r10.1.clock, .int .i64 r10.1.next, .own 2112 0 4 (r28.2.map eDLease)])], []⟩ (fg ⟨rfl, rfl, rfl, rfl, rfl, rfl, trivial⟩ ⟨rfl, rfl, rfl, trivial⟩) ?_
              refine seq_ ?_
              refine reg_ ?_
              refine st (c_ (v := .agg [.int .i64 a0.clock, .int .i64 a0.next, .lst 4 (a0.list_.map eDLease)]) (cp_ ⟨trivial, trivial⟩ rfl (Nat.le_of_ble_eq_true rfl)) ?_)
              obtain ⟨r35, e36, h0⟩ := bnd h0
              refine st (call0_ (r := .agg [.int .i64 r35.clock, .int .i64 r35.next, .own 0 0 4 (r35.list_.map eDLease)]) false (H19 a0 r35 e36) ⟨trivial, trivial⟩ rfl rfl (fun _ => (and_ rfl (and_ rfl (and_ (fl1 (fun _ => rfl)) rfl)))) ?_)
              refine st (mv_ rfl trivial ?_)
              obtain ⟨r37, e38, h0⟩ := bnd h0
              refine st (call0_ (r := .tup [.agg [.int .i64 r37.1.clock, .int .i64 r37.1.next, .own 0 0 4 (r37.1.list_.map eDLease)], .int .i64 r37.2]) false (H31 r35 a1 r37 e38) ⟨trivial, trivial, trivial⟩ rfl rfl (fun _ => (and_ rfl (and_ rfl (and_ (fl1 (fun _ => rfl)) (and_ rfl rfl))))) ?_)
              refine st (mv_ rfl trivial ?_)
              refine st (c_ (cp_ ⟨trivial, trivial⟩ rfl trivial) ?_)
              refine st (c_ (cp_ ⟨trivial, trivial⟩ rfl trivial) ?_)
              refine st (alloc_ ?_)
              refine st (stp_ rfl rfl trivial rfl rfl rfl (Nat.le_of_ble_eq_true rfl) ?_)
              refine st (mv_ rfl trivial ?_)
              refine oe_ ?_
              refine wk_ ⟨[(6, .ptr 384 0), (7, .int .i64 r6.2), (9, .ptr 576 0), (12, .int .i64 r28.1), (14, .ptr 896 0), (15, .int .i64 r37.2)], [(384, [.int .i64 r6.1.clock, .int .i64 r6.1.next, .lst 4 (r6.1.list_.map eDLease)]), (576, [.int .i64 r10.1.clock, .int .i64 r10.1.next, .own 2112 0 4 (r28.2.map eDLease)]), (896, [.int .i64 r37.1.clock, .int .i64 r37.1.next, .own 5184 0 4 (r37.1.list_.map eDLease)])], []⟩ (fg ⟨rfl, rfl, rfl, rfl, rfl, rfl, trivial⟩ ⟨rfl, rfl, rfl, trivial⟩) ?_
              refine seq_ ?_
              refine seq_ ?_
              refine reg_ ?_
              refine st (c_ (v := .agg [.int .i64 r37.1.clock, .int .i64 r37.1.next, .own 5184 0 4 (r37.1.list_.map eDLease)]) (cp_ ⟨trivial, trivial⟩ rfl (Nat.le_of_ble_eq_true rfl)) ?_)
              refine st (c_ (v := .agg [.int .i64 r6.1.clock, .int .i64 r6.1.next, .lst 4 (r6.1.list_.map eDLease)]) (cp_ ⟨trivial, trivial⟩ rfl (Nat.le_of_ble_eq_true rfl)) ?_)
              obtain ⟨r39, e40, h0⟩ := bnd h0
              refine st (call0_ (r := .bool r39) false (H21 r37.1 r6.1 r39 e40) ⟨trivial, trivial, trivial⟩ rfl rfl (fun _ => rfl) ?_)
              refine st (c_ (cp_ ⟨trivial, trivial⟩ rfl trivial) ?_)
              refine st (mv_ rfl trivial ?_)
              refine st (pg_ (u := .int .i64 r37.2) rfl (fun hg => (cmv (v := .int .i64 r37.2) rfl trivial)) ?_)
              refine st (pg_ (u := .int .i64 r6.2) rfl (fun hg => (cmv (v := .int .i64 r6.2) rfl trivial)) ?_)
              refine st (pg_ (u := .bool (r37.2 != r6.2)) rfl (fun hg => (cp_ ⟨(fun _ => hg), (fun _ => hg), trivial⟩ rfl trivial)) ?_)
              refine st (pick_ rfl rfl rfl trivial (fun h => eqf h) rfl ?_)
              refine oe_ ?_
              refine wk_ ⟨[(9, .ptr 576 0), (12, .int .i64 r28.1), (92, .bool (bif (!r39) then true else (r37.2 != r6.2)))], [(576, [.int .i64 r10.1.clock, .int .i64 r10.1.next, .own 2112 0 4 (r28.2.map eDLease)])], []⟩ (fg ⟨rfl, rfl, rfl, trivial⟩ ⟨rfl, trivial⟩) ?_
              refine ite_ (cb := (bif (!r39) then true else (r37.2 != r6.2))) rfl (fun c41 => ?_) (fun c41 => ?_)
              · replace h0 := ip c41 h0
                refine seq_ ?_
                refine reg_ ?_
                refine st (mvc_ trivial ?_)
                refine oe_ ?_
                refine wk_ ⟨[(4, .bool false)], [], []⟩ (fg ⟨rfl, trivial⟩ trivial) ?_
                obtain rfl := Option.some.inj h0
                exact rt_ (ret_ rfl rfl rfl rfl rfl trivial)
              · replace h0 := inb c41 h0
                refine sk_ ?_
                refine wk_ ⟨[(9, .ptr 576 0), (12, .int .i64 r28.1)], [(576, [.int .i64 r10.1.clock, .int .i64 r10.1.next, .own 2112 0 4 (r28.2.map eDLease)])], []⟩ (fg ⟨rfl, rfl, trivial⟩ ⟨rfl, trivial⟩) ?_
                refine seq_ ?_
                refine reg_ ?_
                refine st (mvc_ trivial ?_)
                refine oe_ ?_
                refine wk_ ⟨[(9, .ptr 576 0), (12, .int .i64 r28.1), (13, .int .i64 1)], [(576, [.int .i64 r10.1.clock, .int .i64 r10.1.next, .own 2112 0 4 (r28.2.map eDLease)])], []⟩ (fg ⟨rfl, rfl, rfl, trivial⟩ ⟨rfl, trivial⟩) ?_
                refine seq_ ?_
                refine reg_ ?_
                refine st (c_ (v := .agg [.int .i64 r10.1.clock, .int .i64 r10.1.next, .own 2112 0 4 (r28.2.map eDLease)]) (cp_ ⟨trivial, trivial⟩ rfl (Nat.le_of_ble_eq_true rfl)) ?_)
                refine st (mv_ rfl trivial ?_)
                obtain ⟨r42, e43, h0⟩ := bnd h0
                refine st (call0_ (r := .int .i64 r42) false (H27 (DTable.mk r10.1.clock r10.1.next r28.2) 1 r42 e43) ⟨trivial, trivial, trivial⟩ rfl rfl (fun _ => rfl) ?_)
                refine st (mv_ rfl trivial ?_)
                refine oe_ ?_
                refine wk_ ⟨[(12, .int .i64 r28.1), (13, .int .i64 r42)], [], []⟩ (fg ⟨rfl, rfl, trivial⟩ trivial) ?_
                refine seq_ ?_
                refine seq_ ?_
                refine reg_ ?_
                refine st (mv_ rfl trivial ?_)
                refine st (c_ (cp_ ⟨trivial, trivial, trivial⟩ rfl trivial) ?_)
                refine oe_ ?_
                refine wk_ ⟨[(12, .int .i64 r28.1), (13, .int .i64 r42), (97, .bool (decide (r42 < 0)))], [], []⟩ (fg ⟨rfl, rfl, rfl, trivial⟩ trivial) ?_
                refine ite_ (cb := (decide (r42 < 0))) rfl (fun c44 => ?_) (fun c44 => ?_)
                · replace h0 := ip c44 h0
                  refine seq_ ?_
                  refine reg_ ?_
                  refine st (mvc_ trivial ?_)
                  refine oe_ ?_
                  refine wk_ ⟨[(4, .bool false)], [], []⟩ (fg ⟨rfl, trivial⟩ trivial) ?_
                  obtain rfl := Option.some.inj h0
                  exact rt_ (ret_ rfl rfl rfl rfl rfl trivial)
                · replace h0 := inb c44 h0
                  refine sk_ ?_
                  refine wk_ ⟨[(12, .int .i64 r28.1), (13, .int .i64 r42)], [], []⟩ (fg ⟨rfl, rfl, trivial⟩ trivial) ?_
                  refine seq_ ?_
                  refine seq_ ?_
                  refine reg_ ?_
                  refine st (mv_ rfl trivial ?_)
                  refine st (mv_ rfl trivial ?_)
                  refine st (c_ (cp_ ⟨trivial, trivial, trivial⟩ rfl trivial) ?_)
                  refine oe_ ?_
                  refine wk_ ⟨[(100, .bool (r42 != r28.1))], [], []⟩ (fg ⟨rfl, trivial⟩ trivial) ?_
                  refine ite_ (cb := (r42 != r28.1)) rfl (fun c45 => ?_) (fun c45 => ?_)
                  · replace h0 := ip c45 h0
                    refine seq_ ?_
                    refine reg_ ?_
                    refine st (mvc_ trivial ?_)
                    refine oe_ ?_
                    refine wk_ ⟨[(4, .bool false)], [], []⟩ (fg ⟨rfl, trivial⟩ trivial) ?_
                    obtain rfl := Option.some.inj h0
                    exact rt_ (ret_ rfl rfl rfl rfl rfl trivial)
                  · replace h0 := inb c45 h0
                    refine sk_ ?_
                    refine wk_ ⟨[], [], []⟩ (fg trivial trivial) ?_
                    refine seq_ ?_
                    refine reg_ ?_
                    refine st (mvc_ trivial ?_)
                    refine oe_ ?_
                    refine wk_ ⟨[(4, .bool true)], [], []⟩ (fg ⟨rfl, trivial⟩ trivial) ?_
                    obtain rfl := Option.some.inj h0
                    exact rt_ (ret_ rfl rfl rfl rfl rfl trivial)
end Go.Ev
