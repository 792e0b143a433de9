/- The walks of functions: the code comes to the answers that QgD tells. Written by a program of ours. -/
import Derived.Test.YtdkeomfbpdodiaaQgW0
set_option linter.all false
set_option linter.unusedVariables false
set_option maxRecDepth 100000
namespace Go.Ev

/- slices.BinarySearchFunc[[]loop.example/g00149/impl.Lease,loop.example/g00149/impl.Lease,int] -/
def c113_r0 : List Ins := [⟨some 6, .p (.mv (.c (.int .i64 0))), none⟩,
 ⟨some 7, .p (.mv (.c (.bool false))), none⟩]
def c113_r1 : List Ins := [⟨some 12, .p (.mv (.t 0)), none⟩,
 ⟨some 13, .p (.len (.t 12)), none⟩,
 ⟨some 8, .p (.mv (.t 13)), none⟩]
def c113_r2 : List Ins := [⟨some 14, .p (.mv (.t 8)), none⟩,
 ⟨some 9, .p (.mv (.c (.int .i64 0))), none⟩,
 ⟨some 10, .p (.mv (.t 14)), none⟩]
def c113_r3 : List Ins := [⟨some 15, .p (.mv (.t 9)), none⟩,
 ⟨some 16, .p (.mv (.t 10)), none⟩,
 ⟨some 17, .p (.bin .lss (.t 15) (.t 16)), none⟩]
def c113_r4 : List Ins := [⟨some 18, .p (.mv (.t 9)), none⟩,
 ⟨some 19, .p (.mv (.t 10)), none⟩,
 ⟨some 20, .p (.bin .add (.t 18) (.t 19)), none⟩,
 ⟨some 21, .p (.conv .u64 (.t 20)), none⟩,
 ⟨some 22, .p (.bin .shr (.t 21) (.c (.int .u64 1))), none⟩,
 ⟨some 23, .p (.conv .i64 (.t 22)), none⟩,
 ⟨some 11, .p (.mv (.t 23)), none⟩]
def c113_r5 : List Ins := [⟨some 24, .p (.mv (.t 2)), none⟩,
 ⟨some 25, .p (.mv (.t 0)), none⟩,
 ⟨some 26, .p (.mv (.t 11)), none⟩,
 ⟨some 27, .p (.idxA (.t 25) (.t 26) 4), none⟩,
 ⟨some 28, .p (.load (.t 27) 4 true), none⟩,
 ⟨some 29, .p (.mv (.t 1)), none⟩,
 ⟨some 30, .callv (.t 24) [(.t 28), (.t 29)], none⟩,
 ⟨some 31, .p (.bin .lss (.t 30) (.c (.int .i64 0))), none⟩]
def c113_r6 : List Ins := [⟨some 32, .p (.mv (.t 11)), none⟩,
 ⟨some 33, .p (.bin .add (.t 32) (.c (.int .i64 1))), none⟩,
 ⟨some 9, .p (.mv (.t 33)), none⟩]
def c113_r7 : List Ins := [⟨some 34, .p (.mv (.t 11)), none⟩,
 ⟨some 10, .p (.mv (.t 34)), none⟩]
def c113_l0 : IR := (.seq (.seq (.reg c113_r3) (.ite (.t 17) .skip (.exit 0))) (.block 1 (.seq (.reg c113_r4) (.seq (.reg c113_r5) (.ite (.t 31) (.reg c113_r6) (.reg c113_r7))))))
def c113_r8 : List Ins := [⟨some 35, .p (.mv (.t 9)), none⟩,
 ⟨some 36, .p (.mv (.t 9)), none⟩,
 ⟨some 37, .p (.mv (.t 8)), none⟩,
 ⟨some 38, .p (.bin .lss (.t 36) (.t 37)), none⟩,
 ⟨some 39, .p (.mv (.t 38)), none⟩,
 ⟨some 40, .p (.mv (.t 2)), some (39, true)⟩,
 ⟨some 41, .p (.mv (.t 0)), some (39, true)⟩,
 ⟨some 42, .p (.mv (.t 9)), some (39, true)⟩,
 ⟨some 43, .p (.idxA (.t 41) (.t 42) 4), some (39, true)⟩,
 ⟨some 44, .p (.load (.t 43) 4 true), some (39, true)⟩,
 ⟨some 45, .p (.mv (.t 1)), some (39, true)⟩,
 ⟨some 46, .callv (.t 40) [(.t 44), (.t 45)], some (39, true)⟩,
 ⟨some 47, .p (.bin .eql (.t 46) (.c (.int .i64 0))), some (39, true)⟩,
 ⟨some 48, .pick (.t 39) (.t 47) (.c (.bool false)), none⟩,
 ⟨some 6, .p (.mv (.t 35)), none⟩,
 ⟨some 7, .p (.mv (.t 48)), none⟩]
def c113 : XFn := { np := 3, nt := 49, res := [.t 6, .t 7], body := (.seq (.reg c113_r0) (.seq (.reg c113_r1) (.seq (.reg c113_r2) (.seq (.block 0 (.loop c113_l0)) (.seq (.reg c113_r8) .ret))))) }
def K113 (C : CRel) : Prop := ∀ (a0 : List DLease) (a1 : Int) (f2 : Nat) (k2 : List V) (is2 : DLease → Int → Option Int) (hs2 : Shut k2) (hf2 : ∀ (x0 : DLease) (x1 : Int) r, is2 x0 x1 = some r → C f2 ⟨.agg [.int .i64 x0.id, .int .i64 x0.until_, .int .i64 x0.cap, .bool x0.queued] :: .int .i64 x1 :: k2, []⟩ ⟨.int .i64 r, [], []⟩) (r : Int × Bool), g113 a0 a1 is2 = some r → C 113 ⟨[.lst 4 (a0.map eDLease), .int .i64 a1, .clo f2 k2], []⟩ ⟨.tup [.int .i64 r.1, .bool r.2], [], []⟩
theorem F113 {C : CRel}  (a0 : List DLease) (a1 : Int) (f2 : Nat) (k2 : List V) (is2 : DLease → Int → Option Int) (hs2 : Shut k2) (hf2 : ∀ (x0 : DLease) (x1 : Int) r, is2 x0 x1 = some r → C f2 ⟨.agg [.int .i64 x0.id, .int .i64 x0.until_, .int .i64 x0.cap, .bool x0.queued] :: .int .i64 x1 :: k2, []⟩ ⟨.int .i64 r, [], []⟩) (r : Int × Bool) (h0 : g113 a0 a1 is2 = some r) : FnOK C c113 ⟨[.lst 4 (a0.map eDLease), .int .i64 a1, .clo f2 k2], []⟩ ⟨.tup [.int .i64 r.1, .bool r.2], [], []⟩ := by
  refine fn_ (Nat.le_of_ble_eq_true rfl) ?_
  refine seq_ ?_
  refine reg_ ?_
  refine st (mvc_ trivial ?_)
  refine st (mvc_ trivial ?_)
  refine oe_ ?_
  refine wk_ ⟨[(0, .lst 4 (a0.map eDLease)), (1, .int .i64 a1), (2, .clo f2 k2)], []⟩ (fg ⟨rfl, rfl, rfl, trivial⟩ trivial) ?_
  refine seq_ ?_
  refine reg_ ?_
  refine st (mv_ rfl trivial ?_)
  refine st (c_ (clenL (e := eDLease) (l0 := a0) rfl rfl trivial) ?_)
  refine st (mv_ rfl trivial ?_)
  refine oe_ ?_
  refine wk_ ⟨[(0, .lst 4 (a0.map eDLease)), (1, .int .i64 a1), (2, .clo f2 k2), (8, .int .i64 (a0.length : Int))], []⟩ (fg ⟨rfl, rfl, rfl, rfl, trivial⟩ trivial) ?_
  refine seq_ ?_
  refine reg_ ?_
  refine st (mv_ rfl trivial ?_)
  refine st (mvc_ trivial ?_)
  refine st (mv_ rfl trivial ?_)
  refine oe_ ?_
  refine wk_ ⟨[(0, .lst 4 (a0.map eDLease)), (1, .int .i64 a1), (2, .clo f2 k2), (8, .int .i64 (a0.length : Int)), (9, .int .i64 0), (10, .int .i64 (a0.length : Int))], []⟩ (fg ⟨rfl, rfl, rfl, rfl, rfl, rfl, trivial⟩ trivial) ?_
  refine seq_ ?_
  refine block_ ?_
  obtain ⟨r30, e31, h0⟩ := bnd h0
  refine loop_ (R := (fun S => ∃ p21 : Int, p21 = r30 ∧ S = ⟨[(0, .lst 4 (a0.map eDLease)), (1, .int .i64 a1), (2, .clo f2 k2), (8, .int .i64 (a0.length : Int)), (9, .int .i64 p21)], []⟩)) (g113_l0 a0 a1 is2) (fun s S => match s with | (p9, p10) => S = ⟨[(0, .lst 4 (a0.map eDLease)), (1, .int .i64 a1), (2, .clo f2 k2), (8, .int .i64 (a0.length : Int)), (9, .int .i64 p9), (10, .int .i64 p10)], []⟩) e31 ⟨[(0, .lst 4 (a0.map eDLease)), (1, .int .i64 a1), (2, .clo f2 k2), (8, .int .i64 (a0.length : Int)), (9, .int .i64 0), (10, .int .i64 (a0.length : Int))], []⟩ (fg ⟨rfl, rfl, rfl, rfl, rfl, rfl, trivial⟩ trivial) rfl 0 (fun _ => rfl) ?_ ?_
  · rintro S _ hfg ⟨p21, rfl, rfl⟩
    refine wk_ ⟨[(0, .lst 4 (a0.map eDLease)), (1, .int .i64 a1), (2, .clo f2 k2), (8, .int .i64 (a0.length : Int)), (9, .int .i64 p21)], []⟩ (fgl hfg ⟨rfl, rfl, rfl, rfl, rfl, trivial⟩ trivial) ?_
    refine seq_ ?_
    refine reg_ ?_
    refine st (mv_ rfl trivial ?_)
    refine st (mv_ rfl trivial ?_)
    refine st (mv_ rfl trivial ?_)
    refine st (c_ (cp_ ⟨trivial, trivial, trivial⟩ rfl trivial) ?_)
    refine st (mv_ rfl trivial ?_)
    refine st (pg_ (u := .clo f2 k2) rfl (fun hg => (cmv (v := .clo f2 k2) rfl trivial)) ?_)
    refine st (pg_ (u := .lst 4 (a0.map eDLease)) rfl (fun hg => (cmv (v := .lst 4 (a0.map eDLease)) rfl trivial)) ?_)
    refine st (pg_ (u := .int .i64 p21) rfl (fun hg => (cmv (v := .int .i64 p21) rfl trivial)) ?_)
    obtain ⟨y32, e33, h0⟩ := bnd h0
    refine st (pg_ (u := .iptr [.int .i64 y32.id, .int .i64 y32.until_, .int .i64 y32.cap, .bool y32.queued]) rfl (fun hg => (cidxL (e := eDLease) (y := y32) rfl rfl (fun _ => hg) rfl rfl (fun _ => hg) (ip hg e33))) ?_)
    refine st (pg_ (u := .agg [.int .i64 y32.id, .int .i64 y32.until_, .int .i64 y32.cap, .bool y32.queued]) rfl (fun hg => (cp_ ⟨(fun _ => hg), trivial⟩ rfl (Nat.le_of_ble_eq_true rfl))) ?_)
    refine st (pg_ (u := .int .i64 a1) rfl (fun hg => (cmv (v := .int .i64 a1) rfl trivial)) ?_)
    obtain ⟨r34, e35, h0⟩ := bnd h0
    refine st (callvg_ (r := .int .i64 r34) rfl rfl rfl (fun hg => hg) false (fun hg => hf2 _ _ r34 (ip hg e35)) ⟨(fun hg => hg), (fun hg => hg), trivial⟩ (fun _ => (and_ rfl (and_ rfl hs2.2.2.1))) (fun _ => (mapc1 rfl (mapc1 rfl (hs2.2.1 _ _ _ _ _)))) (fun _ => rfl) (fun h => nomatch h) ?_)
    refine st (pg_ (u := .bool (r34 == 0)) rfl (fun hg => (cp_ ⟨(fun _ => hg), trivial, trivial⟩ rfl trivial)) ?_)
    refine st (pick_ rfl rfl rfl (fun h => eqt h) trivial rfl ?_)
    refine st (mv_ rfl trivial ?_)
    refine st (mv_ rfl trivial ?_)
    refine oe_ ?_
    refine wk_ ⟨[(6, .int .i64 p21), (7, .bool (bif (decide (p21 < (a0.length : Int))) then (r34 == 0) else false))], []⟩ (fg ⟨rfl, rfl, trivial⟩ trivial) ?_
    obtain rfl := Option.some.inj h0
    exact rt_ (ret_ rfl rfl rfl rfl rfl trivial)
  · rintro ⟨p9, p10⟩ o1 _ K1 rfl h1 hx1 hK1 hE1 hR1
    refine seq_ ?_
    refine seq_ ?_
    refine reg_ ?_
    refine st (mv_ rfl trivial ?_)
    refine st (mv_ rfl trivial ?_)
    refine st (c_ (cp_ ⟨trivial, trivial, trivial⟩ rfl trivial) ?_)
    refine oe_ ?_
    refine wk_ ⟨[(0, .lst 4 (a0.map eDLease)), (1, .int .i64 a1), (2, .clo f2 k2), (8, .int .i64 (a0.length : Int)), (9, .int .i64 p9), (10, .int .i64 p10), (17, .bool (decide (p9 < p10)))], []⟩ (fg ⟨rfl, rfl, rfl, rfl, rfl, rfl, rfl, trivial⟩ trivial) ?_
    refine ite_ (cb := (decide (p9 < p10))) rfl (fun c22 => ?_) (fun c22 => ?_)
    · replace h1 := ip c22 h1
      refine sk_ ?_
      refine wk_ ⟨[(0, .lst 4 (a0.map eDLease)), (1, .int .i64 a1), (2, .clo f2 k2), (8, .int .i64 (a0.length : Int)), (9, .int .i64 p9), (10, .int .i64 p10)], []⟩ (fg ⟨rfl, rfl, rfl, rfl, rfl, rfl, trivial⟩ trivial) ?_
      refine block_ ?_
      refine seq_ ?_
      refine reg_ ?_
      refine st (mv_ rfl trivial ?_)
      refine st (mv_ rfl trivial ?_)
      refine st (c_ (cp_ ⟨trivial, trivial, trivial⟩ rfl trivial) ?_)
      refine st (c_ (cp_ ⟨trivial, trivial⟩ rfl trivial) ?_)
      refine st (c_ (cp_ ⟨trivial, trivial, trivial⟩ rfl (by decide)) ?_)
      refine st (c_ (cp_ ⟨trivial, trivial⟩ rfl trivial) ?_)
      refine st (mv_ rfl trivial ?_)
      refine oe_ ?_
      obtain ⟨v23, e24, h1⟩ := bl h1
      refine wk_ ⟨[(0, .lst 4 (a0.map eDLease)), (1, .int .i64 a1), (2, .clo f2 k2), (8, .int .i64 (a0.length : Int)), (9, .int .i64 p9), (10, .int .i64 p10), (11, .int .i64 v23)], []⟩ (fg ⟨(by subst e24; rfl), (by subst e24; rfl), (by subst e24; rfl), (by subst e24; rfl), (by subst e24; rfl), (by subst e24; rfl), (by subst e24; rfl), trivial⟩ trivial) ?_
      refine seq_ ?_
      refine reg_ ?_
      refine st (mv_ rfl trivial ?_)
      refine st (mv_ rfl trivial ?_)
      refine st (mv_ rfl trivial ?_)
      obtain ⟨y25, e26, h1⟩ := bnd h1
      refine st (c_ (cidxL (e := eDLease) (y := y25) rfl rfl trivial rfl rfl trivial e26) ?_)
      refine st (c_ (v := .agg [.int .i64 y25.id, .int .i64 y25.until_, .int .i64 y25.cap, .bool y25.queued]) (cp_ ⟨trivial, trivial⟩ rfl (Nat.le_of_ble_eq_true rfl)) ?_)
      refine st (mv_ rfl trivial ?_)
      obtain ⟨r27, e28, h1⟩ := bnd h1
      refine st (callv0_ (r := .int .i64 r27) rfl false (hf2 _ _ r27 e28) ⟨trivial, trivial, trivial⟩ (and_ rfl (and_ rfl hs2.2.2.1)) (mapc1 rfl (mapc1 rfl (hs2.2.1 _ _ _ _ _))) (fun _ => rfl) ?_)
      refine st (c_ (cp_ ⟨trivial, trivial, trivial⟩ rfl trivial) ?_)
      refine oe_ ?_
      refine wk_ ⟨[(0, .lst 4 (a0.map eDLease)), (1, .int .i64 a1), (2, .clo f2 k2), (8, .int .i64 (a0.length : Int)), (9, .int .i64 p9), (10, .int .i64 p10), (11, .int .i64 v23), (31, .bool (decide (r27 < 0)))], []⟩ (fg ⟨rfl, rfl, rfl, rfl, rfl, rfl, rfl, rfl, trivial⟩ trivial) ?_
      refine ite_ (cb := (decide (r27 < 0))) rfl (fun c29 => ?_) (fun c29 => ?_)
      · replace h1 := ip c29 h1
        refine reg_ ?_
        refine st (mv_ rfl trivial ?_)
        refine st (c_ (cp_ ⟨trivial, trivial, trivial⟩ rfl trivial) ?_)
        refine st (mv_ rfl trivial ?_)
        refine oe_ ?_
        refine bn_ ?_
        obtain rfl := Option.some.inj h1
        exact hK1 _ rfl _ ⟨[(0, .lst 4 (a0.map eDLease)), (1, .int .i64 a1), (2, .clo f2 k2), (8, .int .i64 (a0.length : Int)), (9, .int .i64 (IntKind.i64.wrap (v23 + 1))), (10, .int .i64 p10)], []⟩ (fg ⟨rfl, rfl, rfl, rfl, rfl, rfl, trivial⟩ trivial) rfl
      · replace h1 := inb c29 h1
        refine reg_ ?_
        refine st (mv_ rfl trivial ?_)
        refine st (mv_ rfl trivial ?_)
        refine oe_ ?_
        refine bn_ ?_
        obtain rfl := Option.some.inj h1
        exact hK1 _ rfl _ ⟨[(0, .lst 4 (a0.map eDLease)), (1, .int .i64 a1), (2, .clo f2 k2), (8, .int .i64 (a0.length : Int)), (9, .int .i64 p9), (10, .int .i64 v23)], []⟩ (fg ⟨rfl, rfl, rfl, rfl, rfl, rfl, trivial⟩ trivial) rfl
    · replace h1 := inb c22 h1
      obtain rfl := Option.some.inj h1
      obtain rfl := hx1 _ rfl
      refine exQ rfl ?_
      exact hE1 _ ⟨[(0, .lst 4 (a0.map eDLease)), (1, .int .i64 a1), (2, .clo f2 k2), (8, .int .i64 (a0.length : Int)), (9, .int .i64 p9)], []⟩ (fg ⟨rfl, rfl, rfl, rfl, rfl, trivial⟩ trivial) ⟨_, rfl, rfl⟩

/- cmp.isNaN[int] -/
def c136_r0 : List Ins := [⟨some 2, .p (.mv (.c (.bool false))), none⟩]
def c136_r1 : List Ins := [⟨some 3, .p (.mv (.t 0)), none⟩,
 ⟨some 4, .p (.mv (.t 0)), none⟩,
 ⟨some 5, .p (.bin .neq (.t 3) (.t 4)), none⟩,
 ⟨some 2, .p (.mv (.t 5)), none⟩]
def c136 : XFn := { np := 1, nt := 6, res := [.t 2], body := (.seq (.reg c136_r0) (.seq (.reg c136_r1) .ret)) }
def K136 (C : CRel) : Prop := ∀ (a0 : Int) (r : Bool), g136 a0 = some r → C 136 ⟨[.int .i64 a0], []⟩ ⟨.bool r, [], []⟩
theorem F136 {C : CRel}  (a0 : Int) (r : Bool) (h0 : g136 a0 = some r) : FnOK C c136 ⟨[.int .i64 a0], []⟩ ⟨.bool r, [], []⟩ := by
  refine fn_ (Nat.le_of_ble_eq_true rfl) ?_
  refine seq_ ?_
  refine reg_ ?_
  refine st (mvc_ trivial ?_)
  refine oe_ ?_
  refine wk_ ⟨[(0, .int .i64 a0)], []⟩ (fg ⟨rfl, trivial⟩ trivial) ?_
  refine seq_ ?_
  refine reg_ ?_
  refine st (mv_ rfl trivial ?_)
  refine st (mv_ rfl trivial ?_)
  refine st (c_ (cp_ ⟨trivial, trivial, trivial⟩ rfl trivial) ?_)
  refine st (mv_ rfl trivial ?_)
  refine oe_ ?_
  refine wk_ ⟨[(2, .bool (a0 != a0))], []⟩ (fg ⟨rfl, trivial⟩ trivial) ?_
  obtain rfl := Option.some.inj h0
  exact rt_ (ret_ rfl rfl rfl rfl rfl trivial)

/- cmp.Compare[int] -/
def c110_r0 : List Ins := [⟨some 4, .p (.mv (.c (.int .i64 0))), none⟩]
def c110_r1 : List Ins := [⟨some 7, .p (.mv (.t 0)), none⟩,
 ⟨some 8, .call 136 [(.t 7)], none⟩,
 ⟨some 5, .p (.mv (.t 8)), none⟩]
def c110_r2 : List Ins := [⟨some 9, .p (.mv (.t 1)), none⟩,
 ⟨some 10, .call 136 [(.t 9)], none⟩,
 ⟨some 6, .p (.mv (.t 10)), none⟩]
def c110_r3 : List Ins := [⟨some 11, .p (.mv (.t 5)), none⟩]
def c110_r4 : List Ins := [⟨some 12, .p (.mv (.t 6)), none⟩]
def c110_r5 : List Ins := [⟨some 4, .p (.mv (.c (.int .i64 0))), none⟩]
def c110_r6 : List Ins := [⟨some 4, .p (.mv (.c (.int .i64 (-1)))), none⟩]
def c110_r7 : List Ins := [⟨some 13, .p (.mv (.t 6)), none⟩]
def c110_r8 : List Ins := [⟨some 4, .p (.mv (.c (.int .i64 1))), none⟩]
def c110_r9 : List Ins := [⟨some 14, .p (.mv (.t 0)), none⟩,
 ⟨some 15, .p (.mv (.t 1)), none⟩,
 ⟨some 16, .p (.bin .lss (.t 14) (.t 15)), none⟩]
def c110_r10 : List Ins := [⟨some 4, .p (.mv (.c (.int .i64 (-1)))), none⟩]
def c110_r11 : List Ins := [⟨some 17, .p (.mv (.t 0)), none⟩,
 ⟨some 18, .p (.mv (.t 1)), none⟩,
 ⟨some 19, .p (.bin .gtr (.t 17) (.t 18)), none⟩]
def c110_r12 : List Ins := [⟨some 4, .p (.mv (.c (.int .i64 1))), none⟩]
def c110_r13 : List Ins := [⟨some 4, .p (.mv (.c (.int .i64 0))), none⟩]
def c110 : XFn := { np := 2, nt := 20, res := [.t 4], body := (.seq (.reg c110_r0) (.seq (.reg c110_r1) (.seq (.reg c110_r2) (.seq (.seq (.reg c110_r3) (.ite (.t 11) (.seq (.seq (.reg c110_r4) (.ite (.t 12) (.seq (.reg c110_r5) .ret) .skip)) (.seq (.reg c110_r6) .ret)) .skip)) (.seq (.seq (.reg c110_r7) (.ite (.t 13) (.seq (.reg c110_r8) .ret) .skip)) (.seq (.seq (.reg c110_r9) (.ite (.t 16) (.seq (.reg c110_r10) .ret) .skip)) (.seq (.seq (.reg c110_r11) (.ite (.t 19) (.seq (.reg c110_r12) .ret) .skip)) (.seq (.reg c110_r13) .ret)))))))) }
def K110 (C : CRel) : Prop := ∀ (a0 : Int) (a1 : Int) (r : Int), g110 a0 a1 = some r → C 110 ⟨[.int .i64 a0, .int .i64 a1], []⟩ ⟨.int .i64 r, [], []⟩
theorem F110 {C : CRel} (H136 : K136 C) (a0 : Int) (a1 : Int) (r : Int) (h0 : g110 a0 a1 = some r) : FnOK C c110 ⟨[.int .i64 a0, .int .i64 a1], []⟩ ⟨.int .i64 r, [], []⟩ := by
  refine fn_ (Nat.le_of_ble_eq_true rfl) ?_
  refine seq_ ?_
  refine reg_ ?_
  refine st (mvc_ trivial ?_)
  refine oe_ ?_
  refine wk_ ⟨[(0, .int .i64 a0), (1, .int .i64 a1)], []⟩ (fg ⟨rfl, rfl, trivial⟩ trivial) ?_
  refine seq_ ?_
  refine reg_ ?_
  refine st (mv_ rfl trivial ?_)
  obtain ⟨r1, e2, h0⟩ := bnd h0
  refine st (call0_ (r := .bool r1) false (H136 a0 r1 e2) ⟨trivial, trivial⟩ rfl rfl (fun _ => rfl) ?_)
  refine st (mv_ rfl trivial ?_)
  refine oe_ ?_
  refine wk_ ⟨[(0, .int .i64 a0), (1, .int .i64 a1), (5, .bool r1)], []⟩ (fg ⟨rfl, rfl, rfl, trivial⟩ trivial) ?_
  refine seq_ ?_
  refine reg_ ?_
  refine st (mv_ rfl trivial ?_)
  obtain ⟨r3, e4, h0⟩ := bnd h0
  refine st (call0_ (r := .bool r3) false (H136 a1 r3 e4) ⟨trivial, trivial⟩ rfl rfl (fun _ => rfl) ?_)
  refine st (mv_ rfl trivial ?_)
  refine oe_ ?_
  refine wk_ ⟨[(0, .int .i64 a0), (1, .int .i64 a1), (5, .bool r1), (6, .bool r3)], []⟩ (fg ⟨rfl, rfl, rfl, rfl, trivial⟩ trivial) ?_
  refine seq_ ?_
  refine seq_ ?_
  refine reg_ ?_
  refine st (mv_ rfl trivial ?_)
  refine oe_ ?_
  refine wk_ ⟨[(0, .int .i64 a0), (1, .int .i64 a1), (6, .bool r3), (11, .bool r1)], []⟩ (fg ⟨rfl, rfl, rfl, rfl, trivial⟩ trivial) ?_
  refine ite_ (cb := r1) rfl (fun c5 => ?_) (fun c5 => ?_)
  · replace h0 := ip c5 h0
    refine seq_ ?_
    refine seq_ ?_
    refine reg_ ?_
    refine st (mv_ rfl trivial ?_)
    refine oe_ ?_
    refine wk_ ⟨[(12, .bool r3)], []⟩ (fg ⟨rfl, trivial⟩ trivial) ?_
    refine ite_ (cb := r3) rfl (fun c6 => ?_) (fun c6 => ?_)
    · replace h0 := ip c6 h0
      refine seq_ ?_
      refine reg_ ?_
      refine st (mvc_ trivial ?_)
      refine oe_ ?_
      refine wk_ ⟨[(4, .int .i64 0)], []⟩ (fg ⟨rfl, trivial⟩ trivial) ?_
      obtain rfl := Option.some.inj h0
      exact rt_ (ret_ rfl rfl rfl rfl rfl trivial)
    · replace h0 := inb c6 h0
      refine sk_ ?_
      refine wk_ ⟨[], []⟩ (fg trivial trivial) ?_
      refine seq_ ?_
      refine reg_ ?_
      refine st (mvc_ trivial ?_)
      refine oe_ ?_
      refine wk_ ⟨[(4, .int .i64 (-1))], []⟩ (fg ⟨rfl, trivial⟩ trivial) ?_
      obtain rfl := Option.some.inj h0
      exact rt_ (ret_ rfl rfl rfl rfl rfl trivial)
  · replace h0 := inb c5 h0
    refine sk_ ?_
    refine wk_ ⟨[(0, .int .i64 a0), (1, .int .i64 a1), (6, .bool r3)], []⟩ (fg ⟨rfl, rfl, rfl, trivial⟩ trivial) ?_
    refine seq_ ?_
    refine seq_ ?_
    refine reg_ ?_
    refine st (mv_ rfl trivial ?_)
    refine oe_ ?_
    refine wk_ ⟨[(0, .int .i64 a0), (1, .int .i64 a1), (13, .bool r3)], []⟩ (fg ⟨rfl, rfl, rfl, trivial⟩ trivial) ?_
    refine ite_ (cb := r3) rfl (fun c7 => ?_) (fun c7 => ?_)
    · replace h0 := ip c7 h0
      refine seq_ ?_
      refine reg_ ?_
      refine st (mvc_ trivial ?_)
      refine oe_ ?_
      refine wk_ ⟨[(4, .int .i64 1)], []⟩ (fg ⟨rfl, trivial⟩ trivial) ?_
      obtain rfl := Option.some.inj h0
      exact rt_ (ret_ rfl rfl rfl rfl rfl trivial)
    · replace h0 := inb c7 h0
      refine sk_ ?_
      refine wk_ ⟨[(0, .int .i64 a0), (1, .int .i64 a1)], []⟩ (fg ⟨rfl, rfl, trivial⟩ trivial) ?_
      refine seq_ ?_
      refine seq_ ?_
      refine reg_ ?_
      refine st (mv_ rfl trivial ?_)
      refine st (mv_ rfl trivial ?_)
      refine st (c_ (cp_ ⟨trivial, trivial, trivial⟩ rfl trivial) ?_)
      refine oe_ ?_
      refine wk_ ⟨[(0, .int .i64 a0), (1, .int .i64 a1), (16, .bool (decide (a0 < a1)))], []⟩ (fg ⟨rfl, rfl, rfl, trivial⟩ trivial) ?_
      refine ite_ (cb := (decide (a0 < a1))) rfl (fun c8 => ?_) (fun c8 => ?_)
      · replace h0 := ip c8 h0
        refine seq_ ?_
        refine reg_ ?_
        refine st (mvc_ trivial ?_)
        refine oe_ ?_
        refine wk_ ⟨[(4, .int .i64 (-1))], []⟩ (fg ⟨rfl, trivial⟩ trivial) ?_
        obtain rfl := Option.some.inj h0
        exact rt_ (ret_ rfl rfl rfl rfl rfl trivial)
      · replace h0 := inb c8 h0
        refine sk_ ?_
        refine wk_ ⟨[(0, .int .i64 a0), (1, .int .i64 a1)], []⟩ (fg ⟨rfl, rfl, trivial⟩ trivial) ?_
        refine seq_ ?_
        refine seq_ ?_
        refine reg_ ?_
        refine st (mv_ rfl trivial ?_)
        refine st (mv_ rfl trivial ?_)
        refine st (c_ (cp_ ⟨trivial, trivial, trivial⟩ rfl trivial) ?_)
        refine oe_ ?_
        refine wk_ ⟨[(19, .bool (decide (a0 > a1)))], []⟩ (fg ⟨rfl, trivial⟩ trivial) ?_
        refine ite_ (cb := (decide (a0 > a1))) rfl (fun c9 => ?_) (fun c9 => ?_)
        · replace h0 := ip c9 h0
          refine seq_ ?_
          refine reg_ ?_
          refine st (mvc_ trivial ?_)
          refine oe_ ?_
          refine wk_ ⟨[(4, .int .i64 1)], []⟩ (fg ⟨rfl, trivial⟩ trivial) ?_
          obtain rfl := Option.some.inj h0
          exact rt_ (ret_ rfl rfl rfl rfl rfl trivial)
        · replace h0 := inb c9 h0
          refine sk_ ?_
          refine wk_ ⟨[], []⟩ (fg trivial trivial) ?_
          refine seq_ ?_
          refine reg_ ?_
          refine st (mvc_ trivial ?_)
          refine oe_ ?_
          refine wk_ ⟨[(4, .int .i64 0)], []⟩ (fg ⟨rfl, trivial⟩ trivial) ?_
          obtain rfl := Option.some.inj h0
          exact rt_ (ret_ rfl rfl rfl rfl rfl trivial)

/- (loop.example/g00149/impl.Table).find$1 -/
def c114_r0 : List Ins := [⟨some 2, .box (.t 0), none⟩,
 ⟨some 4, .p (.mv (.c (.int .i64 0))), none⟩]
def c114_r1 : List Ins := [⟨some 5, .p (.fieldA (.t 2) 0), none⟩,
 ⟨some 6, .p (.load (.t 5) 1 false), none⟩,
 ⟨some 7, .p (.mv (.t 1)), none⟩,
 ⟨some 8, .call 110 [(.t 6), (.t 7)], none⟩,
 ⟨some 4, .p (.mv (.t 8)), none⟩]
def c114 : XFn := { np := 2, nt := 9, res := [.t 4], body := (.seq (.reg c114_r0) (.seq (.reg c114_r1) .ret)) }
def K114 (C : CRel) : Prop := ∀ (a0 : DLease) (a1 : Int) (r : Int), g114 a0 a1 = some r → C 114 ⟨[.agg [.int .i64 a0.id, .int .i64 a0.until_, .int .i64 a0.cap, .bool a0.queued], .int .i64 a1], []⟩ ⟨.int .i64 r, [], []⟩
theorem F114 {C : CRel} (H110 : K110 C) (a0 : DLease) (a1 : Int) (r : Int) (h0 : g114 a0 a1 = some r) : FnOK C c114 ⟨[.agg [.int .i64 a0.id, .int .i64 a0.until_, .int .i64 a0.cap, .bool a0.queued], .int .i64 a1], []⟩ ⟨.int .i64 r, [], []⟩ := by
  refine fn_ (Nat.le_of_ble_eq_true rfl) ?_
  refine seq_ ?_
  refine reg_ ?_
  refine st (box_ rfl trivial rfl ?_)
  refine st (mvc_ trivial ?_)
  refine oe_ ?_
  refine wk_ ⟨[(1, .int .i64 a1), (2, .ptr 128 0)], [(128, [.int .i64 a0.id, .int .i64 a0.until_, .int .i64 a0.cap, .bool a0.queued])]⟩ (fg ⟨rfl, rfl, trivial⟩ ⟨rfl, trivial⟩) ?_
  refine seq_ ?_
  refine reg_ ?_
  refine st (c_ (cp_ ⟨trivial, trivial⟩ rfl trivial) ?_)
  refine st (c_ (cp_ ⟨trivial, trivial⟩ rfl (Nat.le_of_ble_eq_true rfl)) ?_)
  refine st (mv_ rfl trivial ?_)
  obtain ⟨r1, e2, h0⟩ := bnd h0
  refine st (call0_ (r := .int .i64 r1) false (H110 a0.id a1 r1 e2) ⟨trivial, trivial, trivial⟩ rfl rfl (fun _ => rfl) ?_)
  refine st (mv_ rfl trivial ?_)
  refine oe_ ?_
  refine wk_ ⟨[(4, .int .i64 r1)], []⟩ (fg ⟨rfl, trivial⟩ trivial) ?_
  obtain rfl := Option.some.inj h0
  exact rt_ (ret_ rfl rfl rfl rfl rfl trivial)

/- (loop.example/g00149/impl.Table).find -/
def c77_r0 : List Ins := [⟨some 2, .box (.t 0), none⟩,
 ⟨some 4, .p (.mv (.c (.int .i64 0))), none⟩,
 ⟨some 5, .p (.mv (.c (.bool false))), none⟩]
def c77_r1 : List Ins := [⟨some 6, .p (.fieldA (.t 2) 2), none⟩,
 ⟨some 7, .p (.load (.t 6) 1 false), none⟩,
 ⟨some 8, .p (.mv (.t 1)), none⟩,
 ⟨some 9, .call 113 [(.t 7), (.t 8), (.c (.clo 114 []))], none⟩,
 ⟨some 10, .p (.ext (.t 9) 0), none⟩,
 ⟨some 11, .p (.ext (.t 9) 1), none⟩,
 ⟨some 4, .p (.mv (.t 10)), none⟩,
 ⟨some 5, .p (.mv (.t 11)), none⟩]
def c77 : XFn := { np := 2, nt := 12, res := [.t 4, .t 5], body := (.seq (.reg c77_r0) (.seq (.reg c77_r1) .ret)) }
def K77 (C : CRel) : Prop := ∀ (a0 : DTable) (a1 : Int) (r : Int × Bool), g77 a0 a1 = some r → C 77 ⟨[.agg [.int .i64 a0.clock, .int .i64 a0.next, .lst 4 (a0.list_.map eDLease)], .int .i64 a1], []⟩ ⟨.tup [.int .i64 r.1, .bool r.2], [], []⟩
theorem F77 {C : CRel} (H113 : K113 C) (H114 : K114 C) (a0 : DTable) (a1 : Int) (r : Int × Bool) (h0 : g77 a0 a1 = some r) : FnOK C c77 ⟨[.agg [.int .i64 a0.clock, .int .i64 a0.next, .lst 4 (a0.list_.map eDLease)], .int .i64 a1], []⟩ ⟨.tup [.int .i64 r.1, .bool r.2], [], []⟩ := by
  refine fn_ (Nat.le_of_ble_eq_true rfl) ?_
  refine seq_ ?_
  refine reg_ ?_
  refine st (box_ rfl trivial rfl ?_)
  refine st (mvc_ trivial ?_)
  refine st (mvc_ trivial ?_)
  refine oe_ ?_
  refine wk_ ⟨[(1, .int .i64 a1), (2, .ptr 128 0)], [(128, [.int .i64 a0.clock, .int .i64 a0.next, .lst 4 (a0.list_.map eDLease)])]⟩ (fg ⟨rfl, rfl, trivial⟩ ⟨rfl, trivial⟩) ?_
  refine seq_ ?_
  refine reg_ ?_
  refine st (c_ (cp_ ⟨trivial, trivial⟩ rfl trivial) ?_)
  refine st (c_ (cp_ ⟨trivial, trivial⟩ rfl (Nat.le_of_ble_eq_true rfl)) ?_)
  refine st (mv_ rfl trivial ?_)
  obtain ⟨r1, e2, h0⟩ := bnd h0
  refine st (call0_ (r := .tup [.int .i64 r1.1, .bool r1.2]) false (H113 a0.list_ a1 114 [] (fun z114_0 z114_1 => g114 z114_0 z114_1) (⟨fun _ _ _ _ _ => rfl, fun _ _ _ _ _ => rfl, rfl, fun _ _ _ n => by cases n <;> rfl, fun _ => rfl⟩) (fun z114_0 z114_1 r h => H114 z114_0 z114_1 r h) r1 e2) ⟨trivial, trivial, trivial, trivial⟩ rfl rfl (fun _ => rfl) ?_)
  refine st (c_ (cp_ ⟨trivial, trivial⟩ rfl trivial) ?_)
  refine st (c_ (cp_ ⟨trivial, trivial⟩ rfl trivial) ?_)
  refine st (mv_ rfl trivial ?_)
  refine st (mv_ rfl trivial ?_)
  refine oe_ ?_
  refine wk_ ⟨[(4, .int .i64 r1.1), (5, .bool r1.2)], []⟩ (fg ⟨rfl, rfl, trivial⟩ trivial) ?_
  obtain rfl := Option.some.inj h0
  exact rt_ (ret_ rfl rfl rfl rfl rfl trivial)

/- slices.Clone[[]loop.example/g00149/impl.Lease,loop.example/g00149/impl.Lease] -/
def c66_r0 : List Ins := [⟨some 2, .nilS 4, none⟩]
def c66_r1 : List Ins := [⟨some 3, .p (.mv (.t 0)), none⟩,
 ⟨some 4, .isnil (.t 3) false, none⟩]
def c66_r2 : List Ins := [⟨some 2, .nilS 4, none⟩]
def c66_r3 : List Ins := [⟨some 5, .mkS 4 [(.int .i64 0), (.int .i64 0), (.int .i64 0), (.bool false)] 0 [], none⟩,
 ⟨some 6, .p (.mv (.t 0)), none⟩,
 ⟨some 7, .app 4 32 (.t 5) (.t 6), none⟩,
 ⟨some 2, .p (.mv (.t 7)), none⟩]
def c66 : XFn := { np := 1, nt := 8, res := [.t 2], body := (.seq (.reg c66_r0) (.seq (.seq (.reg c66_r1) (.ite (.t 4) (.seq (.reg c66_r2) .ret) .skip)) (.seq (.reg c66_r3) .ret))) }
def K66 (C : CRel) : Prop := ∀ (a0 : List DLease) (r : List DLease), g66 a0 = some r → C 66 ⟨[.lst 4 (a0.map eDLease)], []⟩ ⟨.own 0 0 4 (r.map eDLease), [], []⟩
theorem F66 {C : CRel} (a0 : List DLease) (r : List DLease) (h0 : g66 a0 = some r) : FnOK C c66 ⟨[.lst 4 (a0.map eDLease)], []⟩ ⟨.own 0 0 4 (r.map eDLease), [], []⟩ := by
  refine fn_ (Nat.le_of_ble_eq_true rfl) ?_
  obtain ⟨hc, h0⟩ := grd h0
  obtain rfl := Option.some.inj h0
  refine seq_ ?_
  refine reg_ ?_
  refine st (nilS_ ?_)
  refine oe_ ?_
  refine wk_ ⟨[(0, .lst 4 (a0.map eDLease))], []⟩ (fg ⟨rfl, trivial⟩ trivial) ?_
  refine seq_ ?_
  refine seq_ ?_
  refine reg_ ?_
  refine st (mv_ rfl trivial ?_)
  refine st (isnilL (e := eDLease) (l0 := a0) rfl fun b hb => ?_)
  refine oe_ ?_
  refine w0_ ?_
  refine ite_ (cb := b) rfl (fun h => ?_) (fun h => ?_)
  · obtain rfl := hb h
    refine seq_ ?_
    refine reg_ ?_
    refine st (nilS_ ?_)
    refine oe_ ?_
    refine w0_ ?_
    refine rt_ (ret_ rfl rfl rfl rfl rfl trivial)
  · refine sk_ ?_
    refine wk_ ⟨[(0, .lst 4 (a0.map eDLease))], []⟩ (fg ⟨rfl, trivial⟩ trivial) ?_
    refine seq_ ?_
    refine reg_ ?_
    refine st (mkS_ trivial trivial ?_)
    refine st (mv_ rfl trivial ?_)
    refine st (app_ (e := eDLease) (l0 := ([] : List DLease)) (l1 := a0) rfl rfl trivial rfl (by decide) ?_ ?_)
    rotate_left
    refine st (mv_ rfl trivial ?_)
    refine oe_ ?_
    refine w0_ ?_
    refine rt_ (ret_ rfl rfl rfl rfl rfl trivial)
    have := Nat.mul_le_mul_right 32 hc
    exact Nat.le_trans this (by decide)

/- (loop.example/g00149/impl.Table).own -/
def c112_r0 : List Ins := [⟨some 1, .box (.t 0), none⟩,
 ⟨some 2, .alloc [(.int .i64 0), (.int .i64 0), (.own 131 0 4 [])], none⟩]
def c112_r1 : List Ins := [⟨some 3, .p (.fieldA (.t 1) 2), none⟩,
 ⟨some 4, .p (.load (.t 3) 1 false), none⟩,
 ⟨some 5, .call 66 [(.t 4)], none⟩,
 ⟨some 6, .p (.fieldA (.t 1) 2), none⟩,
 ⟨none, .store (.t 6) (.t 5) 1, none⟩]
def c112_r2 : List Ins := [⟨some 7, .p (.load (.t 1) 3 true), none⟩,
 ⟨none, .store (.t 2) (.t 7) 3, none⟩]
def c112 : XFn := { np := 1, nt := 8, res := [.cell 2 3 true], body := (.seq (.reg c112_r0) (.seq (.reg c112_r1) (.seq (.reg c112_r2) .ret))) }
def K112 (C : CRel) : Prop := ∀ (a0 : DTable) (r : DTable), g112 a0 = some r → C 112 ⟨[.agg [.int .i64 a0.clock, .int .i64 a0.next, .lst 4 (a0.list_.map eDLease)]], []⟩ ⟨.agg [.int .i64 r.clock, .int .i64 r.next, .own 0 0 4 (r.list_.map eDLease)], [], []⟩
theorem F112 {C : CRel} (H66 : K66 C) (a0 : DTable) (r : DTable) (h0 : g112 a0 = some r) : FnOK C c112 ⟨[.agg [.int .i64 a0.clock, .int .i64 a0.next, .lst 4 (a0.list_.map eDLease)]], []⟩ ⟨.agg [.int .i64 r.clock, .int .i64 r.next, .own 0 0 4 (r.list_.map eDLease)], [], []⟩ := by
  refine fn_ (Nat.le_of_ble_eq_true rfl) ?_
  refine seq_ ?_
  refine reg_ ?_
  refine st (box_ rfl trivial rfl ?_)
  refine st (alloc_ ?_)
  refine oe_ ?_
  refine wk_ ⟨[(1, .ptr 64 0), (2, .ptr 128 0)], [(64, [.int .i64 a0.clock, .int .i64 a0.next, .lst 4 (a0.list_.map eDLease)]), (128, [.int .i64 0, .int .i64 0, .own 131 0 4 (([] : List DLease).map eDLease)])]⟩ (fg ⟨rfl, rfl, trivial⟩ ⟨rfl, rfl, trivial⟩) ?_
  refine seq_ ?_
  refine reg_ ?_
  refine st (c_ (cp_ ⟨trivial, trivial⟩ rfl trivial) ?_)
  refine st (c_ (cp_ ⟨trivial, trivial⟩ rfl (Nat.le_of_ble_eq_true rfl)) ?_)
  obtain ⟨r1, e2, h0⟩ := bnd h0
  refine st (call0_ (r := .own 0 0 4 (r1.map eDLease)) false (H66 a0.list_ r1 e2) ⟨trivial, trivial⟩ rfl rfl (fun _ => (and_ (fl1 (fun _ => rfl)) rfl)) ?_)
  refine st (c_ (cp_ ⟨trivial, trivial⟩ rfl trivial) ?_)
  refine st (stp_ rfl rfl trivial rfl rfl rfl (Nat.le_of_ble_eq_true rfl) ?_)
  refine oe_ ?_
  refine wk_ ⟨[(1, .ptr 64 0), (2, .ptr 128 0)], [(64, [.int .i64 a0.clock, .int .i64 a0.next, .own 320 0 4 (r1.map eDLease)]), (128, [.int .i64 0, .int .i64 0, .own 131 0 4 (([] : List DLease).map eDLease)])]⟩ (fg ⟨rfl, rfl, trivial⟩ ⟨rfl, rfl, trivial⟩) ?_
  refine seq_ ?_
  refine reg_ ?_
  refine st (c_ (v := .agg [.int .i64 a0.clock, .int .i64 a0.next, .own 320 0 4 (r1.map eDLease)]) (cp_ ⟨trivial, trivial⟩ rfl (Nat.le_of_ble_eq_true rfl)) ?_)
  refine st (stp_ rfl rfl trivial rfl rfl rfl (Nat.le_of_ble_eq_true rfl) ?_)
  refine oe_ ?_
  refine wk_ ⟨[(2, .ptr 128 0)], [(128, [.int .i64 a0.clock, .int .i64 a0.next, .own 320 0 4 (r1.map eDLease)])]⟩ (fg ⟨rfl, trivial⟩ ⟨rfl, trivial⟩) ?_
  obtain rfl := Option.some.inj h0
  exact rt_ (ret_ rfl rfl rfl rfl rfl trivial)

/- (loop.example/g00149/impl.Table).renew -/
def c80_r0 : List Ins := [⟨some 3, .box (.t 0), none⟩,
 ⟨some 6, .alloc [(.int .i64 0), (.int .i64 0), (.own 387 0 4 [])], none⟩,
 ⟨some 7, .p (.mv (.c (.int .i64 0))), none⟩]
def c80_r1 : List Ins := [⟨some 12, .p (.load (.t 3) 3 true), none⟩,
 ⟨some 13, .p (.mv (.t 1)), none⟩,
 ⟨some 14, .call 77 [(.t 12), (.t 13)], none⟩,
 ⟨some 11, .p (.mv (.t 14)), none⟩,
 ⟨some 15, .p (.ext (.t 11) 0), none⟩,
 ⟨some 16, .p (.ext (.t 11) 1), none⟩,
 ⟨some 8, .p (.mv (.t 15)), none⟩,
 ⟨some 9, .p (.mv (.t 16)), none⟩]
def c80_r2 : List Ins := [⟨some 18, .p (.mv (.t 2)), none⟩,
 ⟨some 19, .p (.bin .lss (.t 18) (.c (.int .i64 1))), none⟩,
 ⟨some 17, .p (.mv (.t 19)), none⟩]
def c80_r3 : List Ins := [⟨some 20, .p (.build [(.int .i64 0), (.int .i64 0), (.own 1283 0 4 [])] []), none⟩,
 ⟨none, .store (.t 6) (.t 20) 3, none⟩,
 ⟨some 7, .p (.mv (.c (.int .i64 4))), none⟩]
def c80_r4 : List Ins := [⟨some 22, .p (.mv (.t 9)), none⟩,
 ⟨some 23, .p (.un .not (.t 22)), none⟩,
 ⟨some 21, .p (.mv (.t 23)), none⟩]
def c80_r5 : List Ins := [⟨some 24, .p (.build [(.int .i64 0), (.int .i64 0), (.own 1539 0 4 [])] []), none⟩,
 ⟨none, .store (.t 6) (.t 24) 3, none⟩,
 ⟨some 7, .p (.mv (.c (.int .i64 5))), none⟩]
def c80_r6 : List Ins := [⟨some 26, .p (.fieldA (.t 3) 2), none⟩,
 ⟨some 27, .p (.load (.t 26) 1 false), none⟩,
 ⟨some 28, .p (.mv (.t 8)), none⟩,
 ⟨some 29, .p (.idxA (.t 27) (.t 28) 4), none⟩,
 ⟨some 30, .p (.fieldA (.t 29) 3), none⟩,
 ⟨some 31, .p (.load (.t 30) 1 false), none⟩,
 ⟨some 25, .p (.mv (.t 31)), none⟩]
def c80_r7 : List Ins := [⟨some 32, .p (.build [(.int .i64 0), (.int .i64 0), (.own 2051 0 4 [])] []), none⟩,
 ⟨none, .store (.t 6) (.t 32) 3, none⟩,
 ⟨some 7, .p (.mv (.c (.int .i64 13))), none⟩]
def c80_r8 : List Ins := [⟨some 33, .p (.load (.t 3) 3 true), none⟩,
 ⟨some 34, .call 112 [(.t 33)], none⟩,
 ⟨some 10, .alloc [(.int .i64 0), (.int .i64 0), (.own 643 0 4 [])], none⟩,
 ⟨none, .store (.t 10) (.t 34) 3, none⟩]
def c80_r9 : DP := (.take ⟨some 35, .p (.fieldA (.t 10) 2), none⟩
 (.take ⟨some 36, .p (.load (.t 35) 1 false), none⟩
 (.take ⟨some 37, .p (.mv (.t 8)), none⟩
 (.take ⟨some 38, .p (.fieldA (.t 3) 0), none⟩
 (.take ⟨some 39, .p (.load (.t 38) 1 false), none⟩
 (.take ⟨some 40, .p (.mv (.t 2)), none⟩
 (.take ⟨some 42, .p (.fieldA (.t 10) 2), none⟩
 (.take ⟨some 43, .p (.load (.t 42) 1 false), none⟩
 (.take ⟨some 44, .p (.mv (.t 8)), none⟩
 (.take ⟨some 45, .p (.idxA (.t 43) (.t 44) 4), none⟩
 (.take ⟨some 46, .p (.fieldA (.t 45) 2), none⟩
 (.take ⟨some 47, .p (.load (.t 46) 1 false), none⟩
 (.alt [⟨some 47, .p (.load (.t 46) 1 false), none⟩, ⟨some 46, .p (.fieldA (.t 45) 2), none⟩, ⟨some 45, .p (.idxA (.t 43) (.t 44) 4), none⟩, ⟨some 44, .p (.mv (.t 8)), none⟩, ⟨some 43, .p (.load (.t 42) 1 false), none⟩, ⟨some 42, .p (.fieldA (.t 10) 2), none⟩, ⟨some 37, .p (.mv (.t 8)), none⟩, ⟨some 36, .p (.load (.t 35) 1 false), none⟩, ⟨some 35, .p (.fieldA (.t 10) 2), none⟩] ⟨some 41, .call 54 [(.t 39), (.t 40)], none⟩
 (.take ⟨some 48, .p (.mn (.t 41) (.t 47)), none⟩
 (.take ⟨some 49, .p (.idxA (.t 36) (.t 37) 4), none⟩
 (.take ⟨some 50, .p (.fieldA (.t 49) 1), none⟩
 (.alt [] ⟨none, .store (.t 50) (.t 48) 1, none⟩
 .fin
 .stop))))
 .stop)))))))))))))
def c80_r10 : List Ins := [⟨some 51, .p (.load (.t 10) 3 true), none⟩,
 ⟨none, .store (.t 6) (.t 51) 3, none⟩,
 ⟨some 7, .p (.mv (.c (.int .i64 0))), none⟩]
def c80 : XFn := { np := 3, nt := 52, res := [.cell 6 3 true, .t 7], body := (.seq (.reg c80_r0) (.seq (.reg c80_r1) (.seq (.block 0 (.seq (.reg c80_r2) (.ite (.t 17) (.seq (.reg c80_r3) .ret) (.seq (.reg c80_r4) (.ite (.t 21) (.seq (.reg c80_r5) .ret) (.seq (.reg c80_r6) (.ite (.t 25) (.seq (.reg c80_r7) .ret) .skip))))))) (.seq (.reg c80_r8) (.seq (.draw c80_r9) (.seq (.reg c80_r10) .ret)))))) }
def K80 (C : CRel) : Prop := ∀ (a0 : DTable) (a1 : Int) (a2 : Int) (r : DTable × Int), g80 a0 a1 a2 = some r → C 80 ⟨[.agg [.int .i64 a0.clock, .int .i64 a0.next, .lst 4 (a0.list_.map eDLease)], .int .i64 a1, .int .i64 a2], []⟩ ⟨.tup [.agg [.int .i64 r.1.clock, .int .i64 r.1.next, .own 0 0 4 (r.1.list_.map eDLease)], .int .i64 r.2], [], []⟩
theorem F80 {C : CRel} (H54 : K54 C) (H77 : K77 C) (H112 : K112 C) (a0 : DTable) (a1 : Int) (a2 : Int) (r : DTable × Int) (h0 : g80 a0 a1 a2 = some r) : FnOK C c80 ⟨[.agg [.int .i64 a0.clock, .int .i64 a0.next, .lst 4 (a0.list_.map eDLease)], .int .i64 a1, .int .i64 a2], []⟩ ⟨.tup [.agg [.int .i64 r.1.clock, .int .i64 r.1.next, .own 0 0 4 (r.1.list_.map eDLease)], .int .i64 r.2], [], []⟩ := by
  refine fn_ (Nat.le_of_ble_eq_true rfl) ?_
  refine seq_ ?_
  refine reg_ ?_
  refine st (box_ rfl trivial rfl ?_)
  refine st (alloc_ ?_)
  refine st (mvc_ trivial ?_)
  refine oe_ ?_
  refine wk_ ⟨[(1, .int .i64 a1), (2, .int .i64 a2), (3, .ptr 192 0), (6, .ptr 384 0)], [(192, [.int .i64 a0.clock, .int .i64 a0.next, .lst 4 (a0.list_.map eDLease)]), (384, [.int .i64 0, .int .i64 0, .own 387 0 4 (([] : List DLease).map eDLease)])]⟩ (fg ⟨rfl, rfl, rfl, rfl, trivial⟩ ⟨rfl, rfl, trivial⟩) ?_
  refine seq_ ?_
  refine reg_ ?_
  refine st (c_ (v := .agg [.int .i64 a0.clock, .int .i64 a0.next, .lst 4 (a0.list_.map eDLease)]) (cp_ ⟨trivial, trivial⟩ rfl (Nat.le_of_ble_eq_true rfl)) ?_)
  refine st (mv_ rfl trivial ?_)
  obtain ⟨r1, e2, h0⟩ := bnd h0
  refine st (call0_ (r := .tup [.int .i64 r1.1, .bool r1.2]) false (H77 a0 a1 r1 e2) ⟨trivial, trivial, trivial⟩ rfl rfl (fun _ => rfl) ?_)
  refine st (mv_ rfl trivial ?_)
  refine st (c_ (cp_ ⟨trivial, trivial⟩ rfl trivial) ?_)
  refine st (c_ (cp_ ⟨trivial, trivial⟩ rfl trivial) ?_)
  refine st (mv_ rfl trivial ?_)
  refine st (mv_ rfl trivial ?_)
  refine oe_ ?_
  refine wk_ ⟨[(2, .int .i64 a2), (3, .ptr 192 0), (6, .ptr 384 0), (8, .int .i64 r1.1), (9, .bool r1.2)], [(192, [.int .i64 a0.clock, .int .i64 a0.next, .lst 4 (a0.list_.map eDLease)]), (384, [.int .i64 0, .int .i64 0, .own 387 0 4 (([] : List DLease).map eDLease)])]⟩ (fg ⟨rfl, rfl, rfl, rfl, rfl, trivial⟩ ⟨rfl, rfl, trivial⟩) ?_
  refine seq_ ?_
  refine block_ ?_
  refine seq_ ?_
  refine reg_ ?_
  refine st (mv_ rfl trivial ?_)
  refine st (c_ (cp_ ⟨trivial, trivial, trivial⟩ rfl trivial) ?_)
  refine st (mv_ rfl trivial ?_)
  refine oe_ ?_
  refine wk_ ⟨[(2, .int .i64 a2), (3, .ptr 192 0), (6, .ptr 384 0), (8, .int .i64 r1.1), (9, .bool r1.2), (17, .bool (decide (a2 < 1)))], [(192, [.int .i64 a0.clock, .int .i64 a0.next, .lst 4 (a0.list_.map eDLease)]), (384, [.int .i64 0, .int .i64 0, .own 387 0 4 (([] : List DLease).map eDLease)])]⟩ (fg ⟨rfl, rfl, rfl, rfl, rfl, rfl, trivial⟩ ⟨rfl, rfl, trivial⟩) ?_
  refine ite_ (cb := (decide (a2 < 1))) rfl (fun c3 => ?_) (fun c3 => ?_)
  · replace h0 := ip c3 h0
    refine seq_ ?_
    refine reg_ ?_
    refine st (c_ (v := .agg [.int .i64 0, .int .i64 0, .own 1283 0 4 (([] : List DLease).map eDLease)]) (cp_ trivial rfl trivial) ?_)
    refine st (stp_ rfl rfl trivial rfl rfl rfl (Nat.le_of_ble_eq_true rfl) ?_)
    refine st (mvc_ trivial ?_)
    refine oe_ ?_
    refine wk_ ⟨[(6, .ptr 384 0), (7, .int .i64 4)], [(384, [.int .i64 0, .int .i64 0, .own 1283 0 4 (([] : List DLease).map eDLease)])]⟩ (fg ⟨rfl, rfl, trivial⟩ ⟨rfl, trivial⟩) ?_
    obtain rfl := Option.some.inj h0
    exact rt_ (ret_ rfl rfl rfl rfl rfl trivial)
  · replace h0 := inb c3 h0
    refine seq_ ?_
    refine reg_ ?_
    refine st (mv_ rfl trivial ?_)
    refine st (c_ (cp_ ⟨trivial, trivial⟩ rfl trivial) ?_)
    refine st (mv_ rfl trivial ?_)
    refine oe_ ?_
    refine wk_ ⟨[(2, .int .i64 a2), (3, .ptr 192 0), (6, .ptr 384 0), (8, .int .i64 r1.1), (21, .bool (!r1.2))], [(192, [.int .i64 a0.clock, .int .i64 a0.next, .lst 4 (a0.list_.map eDLease)]), (384, [.int .i64 0, .int .i64 0, .own 387 0 4 (([] : List DLease).map eDLease)])]⟩ (fg ⟨rfl, rfl, rfl, rfl, rfl, trivial⟩ ⟨rfl, rfl, trivial⟩) ?_
    refine ite_ (cb := (!r1.2)) rfl (fun c4 => ?_) (fun c4 => ?_)
    · replace h0 := ip c4 h0
      refine seq_ ?_
      refine reg_ ?_
      refine st (c_ (v := .agg [.int .i64 0, .int .i64 0, .own 1539 0 4 (([] : List DLease).map eDLease)]) (cp_ trivial rfl trivial) ?_)
      refine st (stp_ rfl rfl trivial rfl rfl rfl (Nat.le_of_ble_eq_true rfl) ?_)
      refine st (mvc_ trivial ?_)
      refine oe_ ?_
      refine wk_ ⟨[(6, .ptr 384 0), (7, .int .i64 5)], [(384, [.int .i64 0, .int .i64 0, .own 1539 0 4 (([] : List DLease).map eDLease)])]⟩ (fg ⟨rfl, rfl, trivial⟩ ⟨rfl, trivial⟩) ?_
      obtain rfl := Option.some.inj h0
      exact rt_ (ret_ rfl rfl rfl rfl rfl trivial)
    · replace h0 := inb c4 h0
      refine seq_ ?_
      refine reg_ ?_
      refine st (c_ (cp_ ⟨trivial, trivial⟩ rfl trivial) ?_)
      refine st (c_ (cp_ ⟨trivial, trivial⟩ rfl (Nat.le_of_ble_eq_true rfl)) ?_)
      refine st (mv_ rfl trivial ?_)
      obtain ⟨y5, e6, h0⟩ := bnd h0
      refine st (c_ (cidxL (e := eDLease) (y := y5) rfl rfl trivial rfl rfl trivial e6) ?_)
      refine st (c_ (cp_ ⟨trivial, trivial⟩ rfl (Nat.le_of_ble_eq_true rfl)) ?_)
      refine st (c_ (cp_ ⟨trivial, trivial⟩ rfl (Nat.le_of_ble_eq_true rfl)) ?_)
      refine st (mv_ rfl trivial ?_)
      refine oe_ ?_
      refine wk_ ⟨[(2, .int .i64 a2), (3, .ptr 192 0), (6, .ptr 384 0), (8, .int .i64 r1.1), (25, .bool y5.queued)], [(192, [.int .i64 a0.clock, .int .i64 a0.next, .lst 4 (a0.list_.map eDLease)]), (384, [.int .i64 0, .int .i64 0, .own 387 0 4 (([] : List DLease).map eDLease)])]⟩ (fg ⟨rfl, rfl, rfl, rfl, rfl, trivial⟩ ⟨rfl, rfl, trivial⟩) ?_
      refine ite_ (cb := y5.queued) rfl (fun c7 => ?_) (fun c7 => ?_)
      · replace h0 := ip c7 h0
        refine seq_ ?_
        refine reg_ ?_
        refine st (c_ (v := .agg [.int .i64 0, .int .i64 0, .own 2051 0 4 (([] : List DLease).map eDLease)]) (cp_ trivial rfl trivial) ?_)
        refine st (stp_ rfl rfl trivial rfl rfl rfl (Nat.le_of_ble_eq_true rfl) ?_)
        refine st (mvc_ trivial ?_)
        refine oe_ ?_
        refine wk_ ⟨[(6, .ptr 384 0), (7, .int .i64 13)], [(384, [.int .i64 0, .int .i64 0, .own 2051 0 4 (([] : List DLease).map eDLease)])]⟩ (fg ⟨rfl, rfl, trivial⟩ ⟨rfl, trivial⟩) ?_
        obtain rfl := Option.some.inj h0
        exact rt_ (ret_ rfl rfl rfl rfl rfl trivial)
      · replace h0 := inb c7 h0
        refine sk_ ?_
        refine bn_ ?_
        refine wk_ ⟨[(2, .int .i64 a2), (3, .ptr 192 0), (6, .ptr 384 0), (8, .int .i64 r1.1)], [(192, [.int .i64 a0.clock, .int .i64 a0.next, .lst 4 (a0.list_.map eDLease)]), (384, [.int .i64 0, .int .i64 0, .own 387 0 4 (([] : List DLease).map eDLease)])]⟩ (fg ⟨rfl, rfl, rfl, rfl, trivial⟩ ⟨rfl, rfl, trivial⟩) ?_
        refine seq_ ?_
        refine reg_ ?_
        refine st (c_ (v := .agg [.int .i64 a0.clock, .int .i64 a0.next, .lst 4 (a0.list_.map eDLease)]) (cp_ ⟨trivial, trivial⟩ rfl (Nat.le_of_ble_eq_true rfl)) ?_)
        obtain ⟨r8, e9, h0⟩ := bnd h0
        refine st (call0_ (r := .agg [.int .i64 r8.clock, .int .i64 r8.next, .own 0 0 4 (r8.list_.map eDLease)]) false (H112 a0 r8 e9) ⟨trivial, trivial⟩ rfl rfl (fun _ => (and_ rfl (and_ rfl (and_ (fl1 (fun _ => rfl)) rfl)))) ?_)
        refine st (alloc_ ?_)
        refine st (stp_ rfl rfl trivial rfl rfl rfl (Nat.le_of_ble_eq_true rfl) ?_)
        refine oe_ ?_
        refine wk_ ⟨[(2, .int .i64 a2), (3, .ptr 192 0), (6, .ptr 384 0), (8, .int .i64 r1.1), (10, .ptr 640 0)], [(192, [.int .i64 a0.clock, .int .i64 a0.next, .lst 4 (a0.list_.map eDLease)]), (384, [.int .i64 0, .int .i64 0, .own 387 0 4 (([] : List DLease).map eDLease)]), (640, [.int .i64 r8.clock, .int .i64 r8.next, .own 2176 0 4 (r8.list_.map eDLease)])]⟩ (fg ⟨rfl, rfl, rfl, rfl, rfl, trivial⟩ ⟨rfl, rfl, rfl, trivial⟩) ?_
        refine seq_ ?_
        obtain ⟨y10, e11, h0⟩ := bnd h0
        obtain ⟨y12, e13, h0⟩ := bnd h0
        obtain ⟨r14, e15, h0⟩ := bnd h0
        refine draw_ ?_
        refine dtake trivial (c_ (cp_ ⟨trivial, trivial⟩ rfl trivial) ?_)
        refine ⟨trivial, ?_⟩
        refine dtake trivial (c_ (cp_ ⟨trivial, trivial⟩ rfl (Nat.le_of_ble_eq_true rfl)) ?_)
        refine ⟨trivial, ?_⟩
        refine dtake trivial (mv_ rfl trivial ?_)
        refine ⟨trivial, ?_⟩
        refine dtake trivial (c_ (cp_ ⟨trivial, trivial⟩ rfl trivial) ?_)
        refine ⟨trivial, ?_⟩
        refine dtake trivial (c_ (cp_ ⟨trivial, trivial⟩ rfl (Nat.le_of_ble_eq_true rfl)) ?_)
        refine ⟨trivial, ?_⟩
        refine dtake trivial (mv_ rfl trivial ?_)
        refine ⟨trivial, ?_⟩
        refine dtake trivial (c_ (cp_ ⟨trivial, trivial⟩ rfl trivial) ?_)
        refine ⟨trivial, ?_⟩
        refine dtake trivial (c_ (cp_ ⟨trivial, trivial⟩ rfl (Nat.le_of_ble_eq_true rfl)) ?_)
        refine ⟨trivial, ?_⟩
        refine dtake trivial (mv_ rfl trivial ?_)
        refine ⟨trivial, ?_⟩
        refine dtake trivial (c_ (cidxO (e := eDLease) (y := y10) rfl rfl trivial rfl rfl trivial e11) ?_)
        refine ⟨trivial, ?_⟩
        refine dtake trivial (c_ (cp_ ⟨trivial, trivial⟩ rfl trivial) ?_)
        refine ⟨trivial, ?_⟩
        refine dtakeO (c_ (cloadO (e := eDLease) (y := y12) (v := .int .i64 y12.cap) rfl rfl trivial rfl rfl e13 rfl (Nat.le_of_ble_eq_true rfl) rfl) ?_)
        refine ⟨⟨(again1 (cloadO (e := eDLease) (y := y12) (v := .int .i64 y12.cap) rfl rfl trivial rfl rfl e13 rfl (Nat.le_of_ble_eq_true rfl) rfl) rfl), trivial⟩, ?_⟩
        refine dalt (call0_ (r := .int .i64 r14) false (H54 a0.clock a2 r14 e15) ⟨trivial, trivial, trivial⟩ rfl rfl (fun _ => rfl) ?_) dstop
        refine ⟨[⟨some 47, .p (.load (.t 46) 1 false), none⟩], ⟨⟨.inr (.head _), (again1 (cloadO (e := eDLease) (y := y12) (v := .int .i64 y12.cap) rfl rfl trivial rfl rfl e13 rfl (Nat.le_of_ble_eq_true rfl) rfl) rfl)⟩, ⟨.inl trivial, (again1 (cp_ ⟨trivial, trivial⟩ rfl trivial) rfl)⟩, ⟨.inl trivial, (again1 (cidxO (e := eDLease) (y := y10) rfl rfl trivial rfl rfl trivial e11) rfl)⟩, ⟨.inl trivial, (again1 (cmv (v := .int .i64 r1.1) rfl trivial) rfl)⟩, ⟨.inl trivial, (again1 (cp_ ⟨trivial, trivial⟩ rfl (Nat.le_of_ble_eq_true rfl)) rfl)⟩, ⟨.inl trivial, (again1 (cp_ ⟨trivial, trivial⟩ rfl trivial) rfl)⟩, ⟨.inl trivial, (again1 (cmv (v := .int .i64 r1.1) rfl trivial) rfl)⟩, ⟨.inl trivial, (again1 (cp_ ⟨trivial, trivial⟩ rfl (Nat.le_of_ble_eq_true rfl)) rfl)⟩, ⟨.inl trivial, (again1 (cp_ ⟨trivial, trivial⟩ rfl trivial) rfl)⟩, trivial⟩, ⟨(again1 (cloadO (e := eDLease) (y := y12) (v := .int .i64 y12.cap) rfl rfl trivial rfl rfl e13 rfl (Nat.le_of_ble_eq_true rfl) rfl) rfl), trivial⟩, ?_⟩
        refine dtake trivial (c_ (cp_ ⟨trivial, trivial, trivial⟩ rfl rfl) ?_)
        refine ⟨⟨(again1 (cloadO (e := eDLease) (y := y12) (v := .int .i64 y12.cap) rfl rfl trivial rfl rfl e13 rfl (Nat.le_of_ble_eq_true rfl) rfl) rfl), trivial⟩, ?_⟩
        refine dtake trivial (c_ (cidxO (e := eDLease) (y := y10) rfl rfl trivial rfl rfl trivial e11) ?_)
        refine ⟨⟨(again1 (cloadO (e := eDLease) (y := y12) (v := .int .i64 y12.cap) rfl rfl trivial rfl rfl e13 rfl (Nat.le_of_ble_eq_true rfl) rfl) rfl), trivial⟩, ?_⟩
        refine dtake trivial (c_ (cp_ ⟨trivial, trivial⟩ rfl trivial) ?_)
        refine ⟨⟨(again1 (cloadO (e := eDLease) (y := y12) (v := .int .i64 y12.cap) rfl rfl trivial rfl rfl e13 rfl (Nat.le_of_ble_eq_true rfl) rfl) rfl), trivial⟩, ?_⟩
        refine dalt (sto_ (y' := (DLease.mk y12.id (if y12.cap < r14 then y12.cap else r14) y12.cap y12.queued)) rfl rfl trivial rfl rfl rfl rfl e13 (Nat.le_of_ble_eq_true rfl) rfl rfl rfl rfl ?_) dstop
        refine ⟨[], trivial, trivial, ?_⟩
        refine dfin ?_
        refine wk_ ⟨[(6, .ptr 384 0), (10, .ptr 640 0)], [(384, [.int .i64 0, .int .i64 0, .own 387 0 4 (([] : List DLease).map eDLease)]), (640, [.int .i64 r8.clock, .int .i64 r8.next, .own 2176 0 4 ((r8.list_.set r1.1.toNat (DLease.mk y12.id (if y12.cap < r14 then y12.cap else r14) y12.cap y12.queued)).map eDLease)])]⟩ (fg ⟨rfl, rfl, trivial⟩ ⟨rfl, (congrArg (fun z => some (([.int .i64 r8.clock, .int .i64 r8.next, .own 2176 0 4 z] : List V))) overlay_map), trivial⟩) ?_
        refine seq_ ?_
        refine reg_ ?_
        refine st (c_ (v := .agg [.int .i64 r8.clock, .int .i64 r8.next, .own 2176 0 4 ((r8.list_.set r1.1.toNat (DLease.mk y12.id (if y12.cap < r14 then y12.cap else r14) y12.cap y12.queued)).map eDLease)]) (cp_ ⟨trivial, trivial⟩ rfl (Nat.le_of_ble_eq_true rfl)) ?_)
        refine st (stp_ rfl rfl trivial rfl rfl rfl (Nat.le_of_ble_eq_true rfl) ?_)
        refine st (mvc_ trivial ?_)
        refine oe_ ?_
        obtain ⟨v16, e17, h0⟩ := bl h0
        refine wk_ ⟨[(6, .ptr 384 0), (7, .int .i64 0)], [(384, [.int .i64 r8.clock, .int .i64 r8.next, .own 2176 0 4 (v16.map eDLease)])]⟩ (fg ⟨(by subst e17; rfl), (by subst e17; rfl), trivial⟩ ⟨(by subst e17; rfl), trivial⟩) ?_
        obtain rfl := Option.some.inj h0
        exact rt_ (ret_ rfl rfl rfl rfl rfl trivial)

/- loop.example/g00149/impl.Renew -/
def c33_r0 : List Ins := [⟨some 3, .box (.t 0), none⟩,
 ⟨some 6, .alloc [(.int .i64 0), (.int .i64 0), (.own 387 0 4 [])], none⟩,
 ⟨some 7, .p (.mv (.c (.int .i64 0))), none⟩]
def c33_r1 : List Ins := [⟨some 8, .p (.load (.t 3) 3 true), none⟩,
 ⟨some 9, .call 20 [(.t 8)], none⟩,
 ⟨some 10, .p (.un .not (.t 9)), none⟩]
def c33_r2 : List Ins := [⟨some 11, .p (.build [(.int .i64 0), (.int .i64 0), (.own 707 0 4 [])] []), none⟩,
 ⟨none, .store (.t 6) (.t 11) 3, none⟩,
 ⟨some 7, .p (.mv (.c (.int .i64 1))), none⟩]
def c33_r3 : List Ins := [⟨some 12, .p (.load (.t 3) 3 true), none⟩,
 ⟨some 13, .p (.mv (.t 1)), none⟩,
 ⟨some 14, .p (.mv (.t 2)), none⟩,
 ⟨some 15, .call 80 [(.t 12), (.t 13), (.t 14)], none⟩,
 ⟨some 16, .p (.ext (.t 15) 0), none⟩,
 ⟨some 17, .p (.ext (.t 15) 1), none⟩,
 ⟨none, .store (.t 6) (.t 16) 3, none⟩,
 ⟨some 7, .p (.mv (.t 17)), none⟩]
def c33 : XFn := { np := 3, nt := 18, res := [.cell 6 3 true, .t 7], body := (.seq (.reg c33_r0) (.seq (.seq (.reg c33_r1) (.ite (.t 10) (.seq (.reg c33_r2) .ret) .skip)) (.seq (.reg c33_r3) .ret))) }
def K33 (C : CRel) : Prop := ∀ (a0 : DTable) (a1 : Int) (a2 : Int) (r : DTable × Int), g33 a0 a1 a2 = some r → C 33 ⟨[.agg [.int .i64 a0.clock, .int .i64 a0.next, .lst 4 (a0.list_.map eDLease)], .int .i64 a1, .int .i64 a2], []⟩ ⟨.tup [.agg [.int .i64 r.1.clock, .int .i64 r.1.next, .own 0 0 4 (r.1.list_.map eDLease)], .int .i64 r.2], [], []⟩
theorem F33 {C : CRel} (H20 : K20 C) (H80 : K80 C) (a0 : DTable) (a1 : Int) (a2 : Int) (r : DTable × Int) (h0 : g33 a0 a1 a2 = some r) : FnOK C c33 ⟨[.agg [.int .i64 a0.clock, .int .i64 a0.next, .lst 4 (a0.list_.map eDLease)], .int .i64 a1, .int .i64 a2], []⟩ ⟨.tup [.agg [.int .i64 r.1.clock, .int .i64 r.1.next, .own 0 0 4 (r.1.list_.map eDLease)], .int .i64 r.2], [], []⟩ := by
  refine fn_ (Nat.le_of_ble_eq_true rfl) ?_
  refine seq_ ?_
  refine reg_ ?_
  refine st (box_ rfl trivial rfl ?_)
  refine st (alloc_ ?_)
  refine st (mvc_ trivial ?_)
  refine oe_ ?_
  refine wk_ ⟨[(1, .int .i64 a1), (2, .int .i64 a2), (3, .ptr 192 0), (6, .ptr 384 0)], [(192, [.int .i64 a0.clock, .int .i64 a0.next, .lst 4 (a0.list_.map eDLease)]), (384, [.int .i64 0, .int .i64 0, .own 387 0 4 (([] : List DLease).map eDLease)])]⟩ (fg ⟨rfl, rfl, rfl, rfl, trivial⟩ ⟨rfl, rfl, trivial⟩) ?_
  refine seq_ ?_
  refine seq_ ?_
  refine reg_ ?_
  refine st (c_ (v := .agg [.int .i64 a0.clock, .int .i64 a0.next, .lst 4 (a0.list_.map eDLease)]) (cp_ ⟨trivial, trivial⟩ rfl (Nat.le_of_ble_eq_true rfl)) ?_)
  obtain ⟨r1, e2, h0⟩ := bnd h0
  refine st (call0_ (r := .bool r1) false (H20 a0 r1 e2) ⟨trivial, trivial⟩ rfl rfl (fun _ => rfl) ?_)
  refine st (c_ (cp_ ⟨trivial, trivial⟩ rfl trivial) ?_)
  refine oe_ ?_
  refine wk_ ⟨[(1, .int .i64 a1), (2, .int .i64 a2), (3, .ptr 192 0), (6, .ptr 384 0), (10, .bool (!r1))], [(192, [.int .i64 a0.clock, .int .i64 a0.next, .lst 4 (a0.list_.map eDLease)]), (384, [.int .i64 0, .int .i64 0, .own 387 0 4 (([] : List DLease).map eDLease)])]⟩ (fg ⟨rfl, rfl, rfl, rfl, rfl, trivial⟩ ⟨rfl, rfl, trivial⟩) ?_
  refine ite_ (cb := (!r1)) rfl (fun c3 => ?_) (fun c3 => ?_)
  · replace h0 := ip c3 h0
    refine seq_ ?_
    refine reg_ ?_
    refine st (c_ (v := .agg [.int .i64 0, .int .i64 0, .own 707 0 4 (([] : List DLease).map eDLease)]) (cp_ trivial rfl trivial) ?_)
    refine st (stp_ rfl rfl trivial rfl rfl rfl (Nat.le_of_ble_eq_true rfl) ?_)
    refine st (mvc_ trivial ?_)
    refine oe_ ?_
    refine wk_ ⟨[(6, .ptr 384 0), (7, .int .i64 1)], [(384, [.int .i64 0, .int .i64 0, .own 707 0 4 (([] : List DLease).map eDLease)])]⟩ (fg ⟨rfl, rfl, trivial⟩ ⟨rfl, trivial⟩) ?_
    obtain rfl := Option.some.inj h0
    exact rt_ (ret_ rfl rfl rfl rfl rfl trivial)
  · replace h0 := inb c3 h0
    refine sk_ ?_
    refine wk_ ⟨[(1, .int .i64 a1), (2, .int .i64 a2), (3, .ptr 192 0), (6, .ptr 384 0)], [(192, [.int .i64 a0.clock, .int .i64 a0.next, .lst 4 (a0.list_.map eDLease)]), (384, [.int .i64 0, .int .i64 0, .own 387 0 4 (([] : List DLease).map eDLease)])]⟩ (fg ⟨rfl, rfl, rfl, rfl, trivial⟩ ⟨rfl, rfl, trivial⟩) ?_
    refine seq_ ?_
    refine reg_ ?_
    refine st (c_ (v := .agg [.int .i64 a0.clock, .int .i64 a0.next, .lst 4 (a0.list_.map eDLease)]) (cp_ ⟨trivial, trivial⟩ rfl (Nat.le_of_ble_eq_true rfl)) ?_)
    refine st (mv_ rfl trivial ?_)
    refine st (mv_ rfl trivial ?_)
    obtain ⟨r4, e5, h0⟩ := bnd h0
    refine st (call0_ (r := .tup [.agg [.int .i64 r4.1.clock, .int .i64 r4.1.next, .own 0 0 4 (r4.1.list_.map eDLease)], .int .i64 r4.2]) false (H80 a0 a1 a2 r4 e5) ⟨trivial, trivial, trivial, trivial⟩ rfl rfl (fun _ => (and_ rfl (and_ rfl (and_ (fl1 (fun _ => rfl)) (and_ rfl rfl))))) ?_)
    refine st (c_ (cp_ ⟨trivial, trivial⟩ rfl trivial) ?_)
    refine st (c_ (cp_ ⟨trivial, trivial⟩ rfl trivial) ?_)
    refine st (stp_ rfl rfl trivial rfl rfl rfl (Nat.le_of_ble_eq_true rfl) ?_)
    refine st (mv_ rfl trivial ?_)
    refine oe_ ?_
    refine wk_ ⟨[(6, .ptr 384 0), (7, .int .i64 r4.2)], [(384, [.int .i64 r4.1.clock, .int .i64 r4.1.next, .own 960 0 4 (r4.1.list_.map eDLease)])]⟩ (fg ⟨rfl, rfl, trivial⟩ ⟨rfl, trivial⟩) ?_
    obtain rfl := Option.some.inj h0
    exact rt_ (ret_ rfl rfl rfl rfl rfl trivial)

/- loop.example/g00149/laws.FnExactRenew -/
def c9_r0 : List Ins := [⟨some 3, .box (.t 0), none⟩,
 ⟨some 6, .p (.mv (.c (.bool false))), none⟩]
def c9_r1 : List Ins := [⟨some 7, .p (.mv (.c (.int .i64 1048576))), none⟩]
def c9_r2 : List Ins := [⟨some 18, .p (.load (.t 3) 3 true), none⟩,
 ⟨some 19, .p (.mv (.t 7)), none⟩,
 ⟨some 20, .call 17 [(.t 18), (.t 19)], none⟩,
 ⟨some 7, .p (.mv (.t 20)), none⟩]
def c9_r3 : List Ins := [⟨some 21, .p (.mv (.t 7)), none⟩,
 ⟨some 22, .p (.bin .lss (.t 21) (.c (.int .i64 0))), none⟩]
def c9_r4 : List Ins := [⟨some 6, .p (.mv (.c (.bool true))), none⟩]
def c9_r5 : List Ins := [⟨some 24, .p (.load (.t 3) 3 true), none⟩,
 ⟨some 25, .call 19 [(.t 24)], none⟩,
 ⟨some 26, .p (.mv (.t 1)), none⟩,
 ⟨some 27, .p (.mv (.t 2)), none⟩,
 ⟨some 28, .call 32 [(.t 25), (.t 26), (.t 27)], none⟩,
 ⟨some 23, .p (.mv (.t 28)), none⟩,
 ⟨some 29, .p (.ext (.t 23) 0), none⟩,
 ⟨some 30, .p (.ext (.t 23) 1), none⟩,
 ⟨some 8, .alloc [(.int .i64 0), (.int .i64 0), (.own 515 0 4 [])], none⟩,
 ⟨none, .store (.t 8) (.t 29) 3, none⟩,
 ⟨some 9, .p (.mv (.t 30)), none⟩]
def c9_r6 : List Ins := [⟨some 31, .p (.load (.t 3) 3 true), none⟩,
 ⟨some 32, .call 19 [(.t 31)], none⟩,
 ⟨some 10, .alloc [(.int .i64 0), (.int .i64 0), (.own 643 0 4 [])], none⟩,
 ⟨none, .store (.t 10) (.t 32) 3, none⟩]
def c9_r7 : List Ins := [⟨some 34, .p (.load (.t 10) 3 true), none⟩,
 ⟨some 35, .p (.mv (.t 1)), none⟩,
 ⟨some 36, .p (.mv (.t 2)), none⟩,
 ⟨some 37, .call 33 [(.t 34), (.t 35), (.t 36)], none⟩,
 ⟨some 33, .p (.mv (.t 37)), none⟩,
 ⟨some 38, .p (.ext (.t 33) 0), none⟩,
 ⟨some 39, .p (.ext (.t 33) 1), none⟩,
 ⟨some 11, .alloc [(.int .i64 0), (.int .i64 0), (.own 707 0 4 [])], none⟩,
 ⟨none, .store (.t 11) (.t 38) 3, none⟩,
 ⟨some 12, .p (.mv (.t 39)), none⟩]
def c9_r8 : List Ins := [⟨some 40, .p (.load (.t 11) 3 true), none⟩,
 ⟨some 41, .p (.load (.t 8) 3 true), none⟩,
 ⟨some 42, .call 21 [(.t 40), (.t 41)], none⟩,
 ⟨some 43, .p (.un .not (.t 42)), none⟩,
 ⟨some 44, .p (.mv (.t 43)), none⟩,
 ⟨some 45, .p (.mv (.t 12)), some (44, false)⟩,
 ⟨some 46, .p (.mv (.t 9)), some (44, false)⟩,
 ⟨some 47, .p (.bin .neq (.t 45) (.t 46)), some (44, false)⟩,
 ⟨some 48, .pick (.t 44) (.c (.bool true)) (.t 47), none⟩]
def c9_r9 : List Ins := [⟨some 6, .p (.mv (.c (.bool false))), none⟩]
def c9_r10 : DP := (.take ⟨some 49, .p (.load (.t 10) 3 true), none⟩
 (.take ⟨some 50, .p (.load (.t 3) 3 true), none⟩
 (.alt [⟨some 49, .p (.load (.t 10) 3 true), none⟩] ⟨some 51, .call 19 [(.t 50)], none⟩
 (.alt [] ⟨some 52, .call 21 [(.t 49), (.t 51)], none⟩
 (.take ⟨some 53, .p (.un .not (.t 52)), none⟩
 .fin)
 .stop)
 .stop)))
def c9_r11 : List Ins := [⟨some 6, .p (.mv (.c (.bool false))), none⟩]
def c9_r12 : List Ins := [⟨some 13, .p (.mv (.c (.int .i64 1))), none⟩]
def c9_r13 : List Ins := [⟨some 54, .p (.load (.t 10) 3 true), none⟩,
 ⟨some 55, .p (.mv (.t 13)), none⟩,
 ⟨some 56, .call 26 [(.t 54), (.t 55)], none⟩,
 ⟨some 13, .p (.mv (.t 56)), none⟩]
def c9_r14 : List Ins := [⟨some 57, .p (.mv (.t 13)), none⟩,
 ⟨some 58, .p (.bin .lss (.t 57) (.c (.int .i64 0))), none⟩,
 ⟨some 59, .p (.mv (.t 58)), none⟩,
 ⟨some 60, .p (.load (.t 11) 3 true), some (59, false)⟩,
 ⟨some 61, .p (.load (.t 8) 3 true), some (59, false)⟩,
 ⟨some 62, .call 21 [(.t 60), (.t 61)], some (59, false)⟩,
 ⟨some 63, .p (.un .not (.t 62)), some (59, false)⟩,
 ⟨some 64, .pick (.t 59) (.c (.bool true)) (.t 63), none⟩,
 ⟨some 65, .p (.mv (.t 64)), none⟩,
 ⟨some 66, .p (.mv (.t 12)), some (65, false)⟩,
 ⟨some 67, .p (.mv (.t 9)), some (65, false)⟩,
 ⟨some 68, .p (.bin .neq (.t 66) (.t 67)), some (65, false)⟩,
 ⟨some 69, .pick (.t 65) (.c (.bool true)) (.t 68), none⟩]
def c9_r15 : List Ins := [⟨some 6, .p (.mv (.c (.bool false))), none⟩]
def c9_r16 : List Ins := [⟨some 14, .p (.mv (.c (.int .i64 1))), none⟩]
def c9_r17 : List Ins := [⟨some 70, .p (.load (.t 11) 3 true), none⟩,
 ⟨some 71, .p (.mv (.t 14)), none⟩,
 ⟨some 72, .call 26 [(.t 70), (.t 71)], none⟩,
 ⟨some 14, .p (.mv (.t 72)), none⟩]
def c9_r18 : List Ins := [⟨some 15, .p (.mv (.c (.int .i64 1))), none⟩]
def c9_r19 : List Ins := [⟨some 73, .p (.load (.t 11) 3 true), none⟩,
 ⟨some 74, .p (.mv (.t 15)), none⟩,
 ⟨some 75, .call 27 [(.t 73), (.t 74)], none⟩,
 ⟨some 15, .p (.mv (.t 75)), none⟩]
def c9_r20 : List Ins := [⟨some 76, .p (.mv (.t 15)), none⟩,
 ⟨some 77, .p (.bin .lss (.t 76) (.c (.int .i64 0))), none⟩]
def c9_r21 : List Ins := [⟨some 6, .p (.mv (.c (.bool false))), none⟩]
def c9_r22 : List Ins := [⟨some 78, .p (.mv (.t 15)), none⟩,
 ⟨some 79, .p (.mv (.t 14)), none⟩,
 ⟨some 80, .p (.bin .neq (.t 78) (.t 79)), none⟩]
def c9_r23 : List Ins := [⟨some 6, .p (.mv (.c (.bool false))), none⟩]
def c9_r24 : List Ins := [⟨some 82, .p (.load (.t 3) 3 true), none⟩,
 ⟨some 83, .call 19 [(.t 82)], none⟩,
 ⟨some 84, .p (.mv (.t 1)), none⟩,
 ⟨some 85, .p (.mv (.t 2)), none⟩,
 ⟨some 86, .call 33 [(.t 83), (.t 84), (.t 85)], none⟩,
 ⟨some 81, .p (.mv (.t 86)), none⟩,
 ⟨some 87, .p (.ext (.t 81) 0), none⟩,
 ⟨some 88, .p (.ext (.t 81) 1), none⟩,
 ⟨some 16, .alloc [(.int .i64 0), (.int .i64 0), (.own 1027 0 4 [])], none⟩,
 ⟨none, .store (.t 16) (.t 87) 3, none⟩,
 ⟨some 17, .p (.mv (.t 88)), none⟩]
def c9_r25 : List Ins := [⟨some 89, .p (.load (.t 16) 3 true), none⟩,
 ⟨some 90, .p (.load (.t 8) 3 true), none⟩,
 ⟨some 91, .call 21 [(.t 89), (.t 90)], none⟩,
 ⟨some 92, .p (.un .not (.t 91)), none⟩,
 ⟨some 93, .p (.mv (.t 92)), none⟩,
 ⟨some 94, .p (.mv (.t 17)), some (93, false)⟩,
 ⟨some 95, .p (.mv (.t 9)), some (93, false)⟩,
 ⟨some 96, .p (.bin .neq (.t 94) (.t 95)), some (93, false)⟩,
 ⟨some 97, .pick (.t 93) (.c (.bool true)) (.t 96), none⟩]
def c9_r26 : List Ins := [⟨some 6, .p (.mv (.c (.bool false))), none⟩]
def c9_r27 : List Ins := [⟨some 15, .p (.mv (.c (.int .i64 1))), none⟩]
def c9_r28 : List Ins := [⟨some 98, .p (.load (.t 11) 3 true), none⟩,
 ⟨some 99, .p (.mv (.t 15)), none⟩,
 ⟨some 100, .call 27 [(.t 98), (.t 99)], none⟩,
 ⟨some 15, .p (.mv (.t 100)), none⟩]
def c9_r29 : List Ins := [⟨some 101, .p (.mv (.t 15)), none⟩,
 ⟨some 102, .p (.bin .lss (.t 101) (.c (.int .i64 0))), none⟩]
def c9_r30 : List Ins := [⟨some 6, .p (.mv (.c (.bool false))), none⟩]
def c9_r31 : List Ins := [⟨some 103, .p (.mv (.t 15)), none⟩,
 ⟨some 104, .p (.mv (.t 14)), none⟩,
 ⟨some 105, .p (.bin .neq (.t 103) (.t 104)), none⟩]
def c9_r32 : List Ins := [⟨some 6, .p (.mv (.c (.bool false))), none⟩]
def c9_r33 : List Ins := [⟨some 6, .p (.mv (.c (.bool true))), none⟩]
def c9 : XFn := { np := 3, nt := 106, res := [.t 6], body := (.seq (.reg c9_r0) (.seq (.reg c9_r1) (.seq (.reg c9_r2) (.seq (.seq (.reg c9_r3) (.ite (.t 22) (.seq (.reg c9_r4) .ret) .skip)) (.seq (.reg c9_r5) (.seq (.reg c9_r6) (.seq (.reg c9_r7) (.seq (.seq (.reg c9_r8) (.ite (.t 48) (.seq (.reg c9_r9) .ret) .skip)) (.seq (.seq (.draw c9_r10) (.ite (.t 53) (.seq (.reg c9_r11) .ret) .skip)) (.seq (.reg c9_r12) (.seq (.reg c9_r13) (.seq (.seq (.reg c9_r14) (.ite (.t 69) (.seq (.reg c9_r15) .ret) .skip)) (.seq (.reg c9_r16) (.seq (.reg c9_r17) (.seq (.reg c9_r18) (.seq (.reg c9_r19) (.seq (.seq (.reg c9_r20) (.ite (.t 77) (.seq (.reg c9_r21) .ret) .skip)) (.seq (.seq (.reg c9_r22) (.ite (.t 80) (.seq (.reg c9_r23) .ret) .skip)) (.seq (.reg c9_r24) (.seq (.seq (.reg c9_r25) (.ite (.t 97) (.seq (.reg c9_r26) .ret) .skip)) (.seq (.reg c9_r27) (.seq (.reg c9_r28) (.seq (.seq (.reg c9_r29) (.ite (.t 102) (.seq (.reg c9_r30) .ret) .skip)) (.seq (.seq (.reg c9_r31) (.ite (.t 105) (.seq (.reg c9_r32) .ret) .skip)) (.seq (.reg c9_r33) .ret))))))))))))))))))))))))) }
def K9 (C : CRel) : Prop := ∀ (a0 : DTable) (a1 : Int) (a2 : Int) (r : Bool), g9 a0 a1 a2 = some r → C 9 ⟨[.agg [.int .i64 a0.clock, .int .i64 a0.next, .lst 4 (a0.list_.map eDLease)], .int .i64 a1, .int .i64 a2], []⟩ ⟨.bool r, [], []⟩
theorem F9 {C : CRel} (H17 : K17 C) (H19 : K19 C) (H21 : K21 C) (H26 : K26 C) (H27 : K27 C) (H32 : K32 C) (H33 : K33 C) (a0 : DTable) (a1 : Int) (a2 : Int) (r : Bool) (h0 : g9 a0 a1 a2 = some r) : FnOK C c9 ⟨[.agg [.int .i64 a0.clock, .int .i64 a0.next, .lst 4 (a0.list_.map eDLease)], .int .i64 a1, .int .i64 a2], []⟩ ⟨.bool r, [], []⟩ := by
  refine fn_ (Nat.le_of_ble_eq_true rfl) ?_
  refine seq_ ?_
  refine reg_ ?_
  refine st (box_ rfl trivial rfl ?_)
  refine st (mvc_ trivial ?_)
  refine oe_ ?_
  refine wk_ ⟨[(1, .int .i64 a1), (2, .int .i64 a2), (3, .ptr 192 0)], [(192, [.int .i64 a0.clock, .int .i64 a0.next, .lst 4 (a0.list_.map eDLease)])]⟩ (fg ⟨rfl, rfl, rfl, trivial⟩ ⟨rfl, trivial⟩) ?_
  refine seq_ ?_
  refine reg_ ?_
  refine st (mvc_ trivial ?_)
  refine oe_ ?_
  refine wk_ ⟨[(1, .int .i64 a1), (2, .int .i64 a2), (3, .ptr 192 0), (7, .int .i64 1048576)], [(192, [.int .i64 a0.clock, .int .i64 a0.next, .lst 4 (a0.list_.map eDLease)])]⟩ (fg ⟨rfl, rfl, rfl, rfl, trivial⟩ ⟨rfl, trivial⟩) ?_
  refine seq_ ?_
  refine reg_ ?_
  refine st (c_ (v := .agg [.int .i64 a0.clock, .int .i64 a0.next, .lst 4 (a0.list_.map eDLease)]) (cp_ ⟨trivial, trivial⟩ rfl (Nat.le_of_ble_eq_true rfl)) ?_)
  refine st (mv_ rfl trivial ?_)
  obtain ⟨r1, e2, h0⟩ := bnd h0
  refine st (call0_ (r := .int .i64 r1) false (H17 a0 1048576 r1 e2) ⟨trivial, trivial, trivial⟩ rfl rfl (fun _ => rfl) ?_)
  refine st (mv_ rfl trivial ?_)
  refine oe_ ?_
  refine wk_ ⟨[(1, .int .i64 a1), (2, .int .i64 a2), (3, .ptr 192 0), (7, .int .i64 r1)], [(192, [.int .i64 a0.clock, .int .i64 a0.next, .lst 4 (a0.list_.map eDLease)])]⟩ (fg ⟨rfl, rfl, rfl, rfl, trivial⟩ ⟨rfl, trivial⟩) ?_
  refine seq_ ?_
  refine seq_ ?_
  refine reg_ ?_
  refine st (mv_ rfl trivial ?_)
  refine st (c_ (cp_ ⟨trivial, trivial, trivial⟩ rfl trivial) ?_)
  refine oe_ ?_
  refine wk_ ⟨[(1, .int .i64 a1), (2, .int .i64 a2), (3, .ptr 192 0), (22, .bool (decide (r1 < 0)))], [(192, [.int .i64 a0.clock, .int .i64 a0.next, .lst 4 (a0.list_.map eDLease)])]⟩ (fg ⟨rfl, rfl, rfl, rfl, trivial⟩ ⟨rfl, trivial⟩) ?_
  refine ite_ (cb := (decide (r1 < 0))) rfl (fun c3 => ?_) (fun c3 => ?_)
  · replace h0 := ip c3 h0
    refine seq_ ?_
    refine reg_ ?_
    refine st (mvc_ trivial ?_)
    refine oe_ ?_
    refine wk_ ⟨[(6, .bool true)], []⟩ (fg ⟨rfl, trivial⟩ trivial) ?_
    obtain rfl := Option.some.inj h0
    exact rt_ (ret_ rfl rfl rfl rfl rfl trivial)
  · replace h0 := inb c3 h0
    refine sk_ ?_
    refine wk_ ⟨[(1, .int .i64 a1), (2, .int .i64 a2), (3, .ptr 192 0)], [(192, [.int .i64 a0.clock, .int .i64 a0.next, .lst 4 (a0.list_.map eDLease)])]⟩ (fg ⟨rfl, rfl, rfl, trivial⟩ ⟨rfl, trivial⟩) ?_
    refine seq_ ?_
    refine reg_ ?_
    refine st (c_ (v := .agg [.int .i64 a0.clock, .int .i64 a0.next, .lst 4 (a0.list_.map eDLease)]) (cp_ ⟨trivial, trivial⟩ rfl (Nat.le_of_ble_eq_true rfl)) ?_)
    obtain ⟨r4, e5, h0⟩ := bnd h0
    refine st (call0_ (r := .agg [.int .i64 r4.clock, .int .i64 r4.next, .own 0 0 4 (r4.list_.map eDLease)]) false (H19 a0 r4 e5) ⟨trivial, trivial⟩ rfl rfl (fun _ => (and_ rfl (and_ rfl (and_ (fl1 (fun _ => rfl)) rfl)))) ?_)
    refine st (mv_ rfl trivial ?_)
    refine st (mv_ rfl trivial ?_)
    obtain ⟨r6, e7, h0⟩ := bnd h0
    refine st (call0_ (r := .tup [.agg [.int .i64 r6.1.clock, .int .i64 r6.1.next, .lst 4 (r6.1.list_.map eDLease)], .int .i64 r6.2]) true (H32 r4 a1 a2 r6 e7) ⟨trivial, trivial, trivial, trivial⟩ rfl rfl (fun h => nomatch h) ?_)
    refine st (mv_ rfl trivial ?_)
    refine st (c_ (cp_ ⟨trivial, trivial⟩ rfl trivial) ?_)
    refine st (c_ (cp_ ⟨trivial, trivial⟩ rfl trivial) ?_)
    refine st (alloc_ ?_)
    refine st (stp_ rfl rfl trivial rfl rfl rfl (Nat.le_of_ble_eq_true rfl) ?_)
    refine st (mv_ rfl trivial ?_)
    refine oe_ ?_
    refine wk_ ⟨[(1, .int .i64 a1), (2, .int .i64 a2), (3, .ptr 192 0), (8, .ptr 512 0), (9, .int .i64 r6.2)], [(192, [.int .i64 a0.clock, .int .i64 a0.next, .lst 4 (a0.list_.map eDLease)]), (512, [.int .i64 r6.1.clock, .int .i64 r6.1.next, .lst 4 (r6.1.list_.map eDLease)])]⟩ (fg ⟨rfl, rfl, rfl, rfl, rfl, trivial⟩ ⟨rfl, rfl, trivial⟩) ?_
    refine seq_ ?_
    refine reg_ ?_
    refine st (c_ (v := .agg [.int .i64 a0.clock, .int .i64 a0.next, .lst 4 (a0.list_.map eDLease)]) (cp_ ⟨trivial, trivial⟩ rfl (Nat.le_of_ble_eq_true rfl)) ?_)
    obtain ⟨r8, e9, h0⟩ := bnd h0
    refine st (call0_ (r := .agg [.int .i64 r8.clock, .int .i64 r8.next, .own 0 0 4 (r8.list_.map eDLease)]) false (H19 a0 r8 e9) ⟨trivial, trivial⟩ rfl rfl (fun _ => (and_ rfl (and_ rfl (and_ (fl1 (fun _ => rfl)) rfl)))) ?_)
    refine st (alloc_ ?_)
    refine st (stp_ rfl rfl trivial rfl rfl rfl (Nat.le_of_ble_eq_true rfl) ?_)
    refine oe_ ?_
    refine wk_ ⟨[(1, .int .i64 a1), (2, .int .i64 a2), (3, .ptr 192 0), (8, .ptr 512 0), (9, .int .i64 r6.2), (10, .ptr 640 0)], [(192, [.int .i64 a0.clock, .int .i64 a0.next, .lst 4 (a0.list_.map eDLease)]), (512, [.int .i64 r6.1.clock, .int .i64 r6.1.next, .lst 4 (r6.1.list_.map eDLease)]), (640, [.int .i64 r8.clock, .int .i64 r8.next, .own 2048 0 4 (r8.list_.map eDLease)])]⟩ (fg ⟨rfl, rfl, rfl, rfl, rfl, rfl, trivial⟩ ⟨rfl, rfl, rfl, trivial⟩) ?_
    refine seq_ ?_
    refine reg_ ?_
    refine st (c_ (v := .agg [.int .i64 r8.clock, .int .i64 r8.next, .own 2048 0 4 (r8.list_.map eDLease)]) (cp_ ⟨trivial, trivial⟩ rfl (Nat.le_of_ble_eq_true rfl)) ?_)
    refine st (mv_ rfl trivial ?_)
    refine st (mv_ rfl trivial ?_)
    obtain ⟨r10, e11, h0⟩ := bnd h0
    refine st (call0_ (r := .tup [.agg [.int .i64 r10.1.clock, .int .i64 r10.1.next, .own 0 0 4 (r10.1.list_.map eDLease)], .int .i64 r10.2]) false (H33 r8 a1 a2 r10 e11) ⟨trivial, trivial, trivial, trivial⟩ rfl rfl (fun _ => (and_ rfl (and_ rfl (and_ (fl1 (fun _ => rfl)) (and_ rfl rfl))))) ?_)
    refine st (mv_ rfl trivial ?_)
    refine st (c_ (cp_ ⟨trivial, trivial⟩ rfl trivial) ?_)
    refine st (c_ (cp_ ⟨trivial, trivial⟩ rfl trivial) ?_)
    refine st (alloc_ ?_)
    refine st (stp_ rfl rfl trivial rfl rfl rfl (Nat.le_of_ble_eq_true rfl) ?_)
    refine st (mv_ rfl trivial ?_)
    refine oe_ ?_
    refine wk_ ⟨[(1, .int .i64 a1), (2, .int .i64 a2), (3, .ptr 192 0), (8, .ptr 512 0), (9, .int .i64 r6.2), (10, .ptr 640 0), (11, .ptr 704 0), (12, .int .i64 r10.2)], [(192, [.int .i64 a0.clock, .int .i64 a0.next, .lst 4 (a0.list_.map eDLease)]), (512, [.int .i64 r6.1.clock, .int .i64 r6.1.next, .lst 4 (r6.1.list_.map eDLease)]), (640, [.int .i64 r8.clock, .int .i64 r8.next, .own 2048 0 4 (r8.list_.map eDLease)]), (704, [.int .i64 r10.1.clock, .int .i64 r10.1.next, .own 2368 0 4 (r10.1.list_.map eDLease)])]⟩ (fg ⟨rfl, rfl, rfl, rfl, rfl, rfl, rfl, rfl, trivial⟩ ⟨rfl, rfl, rfl, rfl, trivial⟩) ?_
    refine seq_ ?_
    refine seq_ ?_
    refine reg_ ?_
    refine st (c_ (v := .agg [.int .i64 r10.1.clock, .int .i64 r10.1.next, .own 2368 0 4 (r10.1.list_.map eDLease)]) (cp_ ⟨trivial, trivial⟩ rfl (Nat.le_of_ble_eq_true rfl)) ?_)
    refine st (c_ (v := .agg [.int .i64 r6.1.clock, .int .i64 r6.1.next, .lst 4 (r6.1.list_.map eDLease)]) (cp_ ⟨trivial, trivial⟩ rfl (Nat.le_of_ble_eq_true rfl)) ?_)
    obtain ⟨r12, e13, h0⟩ := bnd h0
    refine st (call0_ (r := .bool r12) false (H21 r10.1 r6.1 r12 e13) ⟨trivial, trivial, trivial⟩ rfl rfl (fun _ => rfl) ?_)
    refine st (c_ (cp_ ⟨trivial, trivial⟩ rfl trivial) ?_)
    refine st (mv_ rfl trivial ?_)
    refine st (pg_ (u := .int .i64 r10.2) rfl (fun hg => (cmv (v := .int .i64 r10.2) rfl trivial)) ?_)
    refine st (pg_ (u := .int .i64 r6.2) rfl (fun hg => (cmv (v := .int .i64 r6.2) rfl trivial)) ?_)
    refine st (pg_ (u := .bool (r10.2 != r6.2)) rfl (fun hg => (cp_ ⟨(fun _ => hg), (fun _ => hg), trivial⟩ rfl trivial)) ?_)
    refine st (pick_ rfl rfl rfl trivial (fun h => eqf h) rfl ?_)
    refine oe_ ?_
    refine wk_ ⟨[(1, .int .i64 a1), (2, .int .i64 a2), (3, .ptr 192 0), (8, .ptr 512 0), (9, .int .i64 r6.2), (10, .ptr 640 0), (11, .ptr 704 0), (12, .int .i64 r10.2), (48, .bool (bif (!r12) then true else (r10.2 != r6.2)))], [(192, [.int .i64 a0.clock, .int .i64 a0.next, .lst 4 (a0.list_.map eDLease)]), (512, [.int .i64 r6.1.clock, .int .i64 r6.1.next, .lst 4 (r6.1.list_.map eDLease)]), (640, [.int .i64 r8.clock, .int .i64 r8.next, .own 2048 0 4 (r8.list_.map eDLease)]), (704, [.int .i64 r10.1.clock, .int .i64 r10.1.next, .own 2368 0 4 (r10.1.list_.map eDLease)])]⟩ (fg ⟨rfl, rfl, rfl, rfl, rfl, rfl, rfl, rfl, rfl, trivial⟩ ⟨rfl, rfl, rfl, rfl, trivial⟩) ?_
    refine ite_ (cb := (bif (!r12) then true else (r10.2 != r6.2))) rfl (fun c14 => ?_) (fun c14 => ?_)
    · replace h0 := ip c14 h0
      refine seq_ ?_
      refine reg_ ?_
      refine st (mvc_ trivial ?_)
      refine oe_ ?_
      refine wk_ ⟨[(6, .bool false)], []⟩ (fg ⟨rfl, trivial⟩ trivial) ?_
      obtain rfl := Option.some.inj h0
      exact rt_ (ret_ rfl rfl rfl rfl rfl trivial)
    · replace h0 := inb c14 h0
      refine sk_ ?_
      refine wk_ ⟨[(1, .int .i64 a1), (2, .int .i64 a2), (3, .ptr 192 0), (8, .ptr 512 0), (9, .int .i64 r6.2), (10, .ptr 640 0), (11, .ptr 704 0), (12, .int .i64 r10.2)], [(192, [.int .i64 a0.clock, .int .i64 a0.next, .lst 4 (a0.list_.map eDLease)]), (512, [.int .i64 r6.1.clock, .int .i64 r6.1.next, .lst 4 (r6.1.list_.map eDLease)]), (640, [.int .i64 r8.clock, .int .i64 r8.next, .own 2048 0 4 (r8.list_.map eDLease)]), (704, [.int .i64 r10.1.clock, .int .i64 r10.1.next, .own 2368 0 4 (r10.1.list_.map eDLease)])]⟩ (fg ⟨rfl, rfl, rfl, rfl, rfl, rfl, rfl, rfl, trivial⟩ ⟨rfl, rfl, rfl, rfl, trivial⟩) ?_
      refine seq_ ?_
      refine seq_ ?_
      obtain ⟨r15, e16, h0⟩ := bnd h0
      obtain ⟨r17, e18, h0⟩ := bnd h0
      refine draw_ ?_
      refine dtake trivial (c_ (v := .agg [.int .i64 r8.clock, .int .i64 r8.next, .own 2048 0 4 (r8.list_.map eDLease)]) (cp_ ⟨trivial, trivial⟩ rfl (Nat.le_of_ble_eq_true rfl)) ?_)
      refine ⟨trivial, ?_⟩
      refine dtake trivial (c_ (v := .agg [.int .i64 a0.clock, .int .i64 a0.next, .lst 4 (a0.list_.map eDLease)]) (cp_ ⟨trivial, trivial⟩ rfl (Nat.le_of_ble_eq_true rfl)) ?_)
      refine ⟨trivial, ?_⟩
      refine dalt (call0_ (r := .agg [.int .i64 r15.clock, .int .i64 r15.next, .own 0 0 4 (r15.list_.map eDLease)]) false (H19 a0 r15 e16) ⟨trivial, trivial⟩ rfl rfl (fun _ => (and_ rfl (and_ rfl (and_ (fl1 (fun _ => rfl)) rfl)))) ?_) dstop
      refine ⟨[], ⟨⟨.inl trivial, (again1 (cp_ ⟨trivial, trivial⟩ rfl (Nat.le_of_ble_eq_true rfl)) rfl)⟩, trivial⟩, trivial, ?_⟩
      refine dalt (call0_ (r := .bool r17) false (H21 r8 r15 r17 e18) ⟨trivial, trivial, trivial⟩ rfl rfl (fun _ => rfl) ?_) dstop
      refine ⟨[], trivial, trivial, ?_⟩
      refine dtake trivial (c_ (cp_ ⟨trivial, trivial⟩ rfl trivial) ?_)
      refine ⟨trivial, ?_⟩
      refine dfin ?_
      refine wk_ ⟨[(1, .int .i64 a1), (2, .int .i64 a2), (3, .ptr 192 0), (8, .ptr 512 0), (9, .int .i64 r6.2), (10, .ptr 640 0), (11, .ptr 704 0), (12, .int .i64 r10.2), (53, .bool (!r17))], [(192, [.int .i64 a0.clock, .int .i64 a0.next, .lst 4 (a0.list_.map eDLease)]), (512, [.int .i64 r6.1.clock, .int .i64 r6.1.next, .lst 4 (r6.1.list_.map eDLease)]), (640, [.int .i64 r8.clock, .int .i64 r8.next, .own 2048 0 4 (r8.list_.map eDLease)]), (704, [.int .i64 r10.1.clock, .int .i64 r10.1.next, .own 2368 0 4 (r10.1.list_.map eDLease)])]⟩ (fg ⟨rfl, rfl, rfl, rfl, rfl, rfl, rfl, rfl, rfl, trivial⟩ ⟨rfl, rfl, rfl, rfl, trivial⟩) ?_
      refine ite_ (cb := (!r17)) rfl (fun c19 => ?_) (fun c19 => ?_)
      · replace h0 := ip c19 h0
        refine seq_ ?_
        refine reg_ ?_
        refine st (mvc_ trivial ?_)
        refine oe_ ?_
        refine wk_ ⟨[(6, .bool false)], []⟩ (fg ⟨rfl, trivial⟩ trivial) ?_
        obtain rfl := Option.some.inj h0
        exact rt_ (ret_ rfl rfl rfl rfl rfl trivial)
      · replace h0 := inb c19 h0
        refine sk_ ?_
        refine wk_ ⟨[(1, .int .i64 a1), (2, .int .i64 a2), (3, .ptr 192 0), (8, .ptr 512 0), (9, .int .i64 r6.2), (10, .ptr 640 0), (11, .ptr 704 0), (12, .int .i64 r10.2)], [(192, [.int .i64 a0.clock, .int .i64 a0.next, .lst 4 (a0.list_.map eDLease)]), (512, [.int .i64 r6.1.clock, .int .i64 r6.1.next, .lst 4 (r6.1.list_.map eDLease)]), (640, [.int .i64 r8.clock, .int .i64 r8.next, .own 2048 0 4 (r8.list_.map eDLease)]), (704, [.int .i64 r10.1.clock, .int .i64 r10.1.next, .own 2368 0 4 (r10.1.list_.map eDLease)])]⟩ (fg ⟨rfl, rfl, rfl, rfl, rfl, rfl, rfl, rfl, trivial⟩ ⟨rfl, rfl, rfl, rfl, trivial⟩) ?_
        refine seq_ ?_
        refine reg_ ?_
        refine st (mvc_ trivial ?_)
        refine oe_ ?_
        refine wk_ ⟨[(1, .int .i64 a1), (2, .int .i64 a2), (3, .ptr 192 0), (8, .ptr 512 0), (9, .int .i64 r6.2), (10, .ptr 640 0), (11, .ptr 704 0), (12, .int .i64 r10.2), (13, .int .i64 1)], [(192, [.int .i64 a0.clock, .int .i64 a0.next, .lst 4 (a0.list_.map eDLease)]), (512, [.int .i64 r6.1.clock, .int .i64 r6.1.next, .lst 4 (r6.1.list_.map eDLease)]), (640, [.int .i64 r8.clock, .int .i64 r8.next, .own 2048 0 4 (r8.list_.map eDLease)]), (704, [.int .i64 r10.1.clock, .int .i64 r10.1.next, .own 2368 0 4 (r10.1.list_.map eDLease)])]⟩ (fg ⟨rfl, rfl, rfl, rfl, rfl, rfl, rfl, rfl, rfl, trivial⟩ ⟨rfl, rfl, rfl, rfl, trivial⟩) ?_
        refine seq_ ?_
        refine reg_ ?_
        refine st (c_ (v := .agg [.int .i64 r8.clock, .int .i64 r8.next, .own 2048 0 4 (r8.list_.map eDLease)]) (cp_ ⟨trivial, trivial⟩ rfl (Nat.le_of_ble_eq_true rfl)) ?_)
        refine st (mv_ rfl trivial ?_)
        obtain ⟨r20, e21, h0⟩ := bnd h0
        obtain ⟨c22, h0⟩ := grd h0
        refine st (call1_ [] [2048] [] false (H26 r8 1 r20 e21) ⟨trivial, trivial, trivial⟩ rfl rfl rfl rfl (fun _ => and_ rfl (and_ (fl2 (fun _ => rfl)) rfl)) ?_)
        refine sw ⟨[(1, .int .i64 a1), (2, .int .i64 a2), (3, .ptr 192 0), (8, .ptr 512 0), (9, .int .i64 r6.2), (11, .ptr 704 0), (12, .int .i64 r10.2), (56, .int .i64 r20.1)], [(192, [.int .i64 a0.clock, .int .i64 a0.next, .lst 4 (a0.list_.map eDLease)]), (512, [.int .i64 r6.1.clock, .int .i64 r6.1.next, .lst 4 (r6.1.list_.map eDLease)]), (704, [.int .i64 r10.1.clock, .int .i64 r10.1.next, .own 2368 0 4 (r10.1.list_.map eDLease)])]⟩ (fg ⟨rfl, rfl, rfl, rfl, rfl, rfl, rfl, rfl, trivial⟩ ⟨rfl, rfl, rfl, trivial⟩) (mv_ rfl trivial ?_)
        refine oe_ ?_
        refine wk_ ⟨[(1, .int .i64 a1), (2, .int .i64 a2), (3, .ptr 192 0), (8, .ptr 512 0), (9, .int .i64 r6.2), (11, .ptr 704 0), (12, .int .i64 r10.2), (13, .int .i64 r20.1)], [(192, [.int .i64 a0.clock, .int .i64 a0.next, .lst 4 (a0.list_.map eDLease)]), (512, [.int .i64 r6.1.clock, .int .i64 r6.1.next, .lst 4 (r6.1.list_.map eDLease)]), (704, [.int .i64 r10.1.clock, .int .i64 r10.1.next, .own 2368 0 4 (r10.1.list_.map eDLease)])]⟩ (fg ⟨rfl, rfl, rfl, rfl, rfl, rfl, rfl, rfl, trivial⟩ ⟨rfl, rfl, rfl, trivial⟩) ?_
        refine seq_ ?_
        refine seq_ ?_
        refine reg_ ?_
        refine st (mv_ rfl trivial ?_)
        refine st (c_ (cp_ ⟨trivial, trivial, trivial⟩ rfl trivial) ?_)
        refine st (mv_ rfl trivial ?_)
        refine st (pg_ (u := .agg [.int .i64 r10.1.clock, .int .i64 r10.1.next, .own 2368 0 4 (r10.1.list_.map eDLease)]) rfl (fun hg => (cp_ ⟨trivial, trivial⟩ rfl (Nat.le_of_ble_eq_true rfl))) ?_)
        refine st (pg_ (u := .agg [.int .i64 r6.1.clock, .int .i64 r6.1.next, .lst 4 (r6.1.list_.map eDLease)]) rfl (fun hg => (cp_ ⟨trivial, trivial⟩ rfl (Nat.le_of_ble_eq_true rfl))) ?_)
        obtain ⟨r23, e24, h0⟩ := bnd h0
        refine st (callg_ (r := .bool r23) rfl false (fun hg => H21 r10.1 r6.1 r23 (ip hg e24)) ⟨(fun hg => hg), (fun hg => hg), trivial⟩ (fun _ => rfl) (fun _ => rfl) (fun _ => rfl) (fun h => nomatch h) ?_)
        refine st (pg_ (u := .bool (!r23)) rfl (fun hg => (cp_ ⟨(fun _ => hg), trivial⟩ rfl trivial)) ?_)
        refine st (pick_ rfl rfl rfl trivial (fun h => eqf h) rfl ?_)
        refine st (mv_ rfl trivial ?_)
        refine st (pg_ (u := .int .i64 r10.2) rfl (fun hg => (cmv (v := .int .i64 r10.2) rfl trivial)) ?_)
        refine st (pg_ (u := .int .i64 r6.2) rfl (fun hg => (cmv (v := .int .i64 r6.2) rfl trivial)) ?_)
        refine st (pg_ (u := .bool (r10.2 != r6.2)) rfl (fun hg => (cp_ ⟨(fun _ => hg), (fun _ => hg), trivial⟩ rfl trivial)) ?_)
        refine st (pick_ rfl rfl rfl trivial (fun h => eqf h) rfl ?_)
        refine oe_ ?_
        obtain ⟨v25, e26, h0⟩ := bl h0
        refine wk_ ⟨[(1, .int .i64 a1), (2, .int .i64 a2), (3, .ptr 192 0), (8, .ptr 512 0), (9, .int .i64 r6.2), (11, .ptr 704 0), (69, .bool v25)], [(192, [.int .i64 a0.clock, .int .i64 a0.next, .lst 4 (a0.list_.map eDLease)]), (512, [.int .i64 r6.1.clock, .int .i64 r6.1.next, .lst 4 (r6.1.list_.map eDLease)]), (704, [.int .i64 r10.1.clock, .int .i64 r10.1.next, .own 2368 0 4 (r10.1.list_.map eDLease)])]⟩ (fg ⟨(by subst e26; rfl), (by subst e26; rfl), (by subst e26; rfl), (by subst e26; rfl), (by subst e26; rfl), (by subst e26; rfl), (by subst e26; rfl), trivial⟩ ⟨(by subst e26; rfl), (by subst e26; rfl), (by subst e26; rfl), trivial⟩) ?_
        refine ite_ (cb := v25) rfl (fun c27 => ?_) (fun c27 => ?_)
        · replace h0 := ip c27 h0
          refine seq_ ?_
          refine reg_ ?_
          refine st (mvc_ trivial ?_)
          refine oe_ ?_
          refine wk_ ⟨[(6, .bool false)], []⟩ (fg ⟨rfl, trivial⟩ trivial) ?_
          obtain rfl := Option.some.inj h0
          exact rt_ (ret_ rfl rfl rfl rfl rfl trivial)
        · replace h0 := inb c27 h0
          refine sk_ ?_
          refine wk_ ⟨[(1, .int .i64 a1), (2, .int .i64 a2), (3, .ptr 192 0), (8, .ptr 512 0), (9, .int .i64 r6.2), (11, .ptr 704 0)], [(192, [.int .i64 a0.clock, .int .i64 a0.next, .lst 4 (a0.list_.map eDLease)]), (512, [.int .i64 r6.1.clock, .int .i64 r6.1.next, .lst 4 (r6.1.list_.map eDLease)]), (704, [.int .i64 r10.1.clock, .int .i64 r10.1.next, .own 2368 0 4 (r10.1.list_.map eDLease)])]⟩ (fg ⟨rfl, rfl, rfl, rfl, rfl, rfl, trivial⟩ ⟨rfl, rfl, rfl, trivial⟩) ?_
          refine seq_ ?_
          refine reg_ ?_
          refine st (mvc_ trivial ?_)
          refine oe_ ?_
          refine wk_ ⟨[(1, .int .i64 a1), (2, .int .i64 a2), (3, .ptr 192 0), (8, .ptr 512 0), (9, .int .i64 r6.2), (11, .ptr 704 0), (14, .int .i64 1)], [(192, [.int .i64 a0.clock, .int .i64 a0.next, .lst 4 (a0.list_.map eDLease)]), (512, [.int .i64 r6.1.clock, .int .i64 r6.1.next, .lst 4 (r6.1.list_.map eDLease)]), (704, [.int .i64 r10.1.clock, .int .i64 r10.1.next, .own 2368 0 4 (r10.1.list_.map eDLease)])]⟩ (fg ⟨rfl, rfl, rfl, rfl, rfl, rfl, rfl, trivial⟩ ⟨rfl, rfl, rfl, trivial⟩) ?_
          refine seq_ ?_
          refine reg_ ?_
          refine st (c_ (v := .agg [.int .i64 r10.1.clock, .int .i64 r10.1.next, .own 2368 0 4 (r10.1.list_.map eDLease)]) (cp_ ⟨trivial, trivial⟩ rfl (Nat.le_of_ble_eq_true rfl)) ?_)
          refine st (mv_ rfl trivial ?_)
          obtain ⟨r28, e29, h0⟩ := bnd h0
          obtain ⟨c30, h0⟩ := grd h0
          refine st (call1_ [] [2368] [] false (H26 r10.1 1 r28 e29) ⟨trivial, trivial, trivial⟩ rfl rfl rfl rfl (fun _ => and_ rfl (and_ (fl2 (fun _ => rfl)) rfl)) ?_)
          refine sw ⟨[(1, .int .i64 a1), (2, .int .i64 a2), (3, .ptr 192 0), (8, .ptr 512 0), (9, .int .i64 r6.2), (11, .ptr 704 0), (72, .int .i64 r28.1)], [(192, [.int .i64 a0.clock, .int .i64 a0.next, .lst 4 (a0.list_.map eDLease)]), (512, [.int .i64 r6.1.clock, .int .i64 r6.1.next, .lst 4 (r6.1.list_.map eDLease)]), (704, [.int .i64 r10.1.clock, .int .i64 r10.1.next, .own 2368 0 4 (r28.2.map eDLease)])]⟩ (fg ⟨rfl, rfl, rfl, rfl, rfl, rfl, rfl, trivial⟩ ⟨rfl, rfl, (congrArg (fun z => some (([.int .i64 r10.1.clock, .int .i64 r10.1.next, z] : List V))) (row_eq c30)), trivial⟩) (mv_ rfl trivial ?_)
          refine oe_ ?_
          refine wk_ ⟨[(1, .int .i64 a1), (2, .int .i64 a2), (3, .ptr 192 0), (8, .ptr 512 0), (9, .int .i64 r6.2), (11, .ptr 704 0), (14, .int .i64 r28.1)], [(192, [.int .i64 a0.clock, .int .i64 a0.next, .lst 4 (a0.list_.map eDLease)]), (512, [.int .i64 r6.1.clock, .int .i64 r6.1.next, .lst 4 (r6.1.list_.map eDLease)]), (704, [.int .i64 r10.1.clock, .int .i64 r10.1.next, .own 2368 0 4 (r28.2.map eDLease)])]⟩ (fg ⟨rfl, rfl, rfl, rfl, rfl, rfl, rfl, trivial⟩ ⟨rfl, rfl, rfl, trivial⟩) ?_
          refine seq_ ?_
          refine reg_ ?_
          refine st (mvc_ trivial ?_)
          refine oe_ ?_
          refine wk_ ⟨[(1, .int .i64 a1), (2, .int .i64 a2), (3, .ptr 192 0), (8, .ptr 512 0), (9, .int .i64 r6.2), (11, .ptr 704 0), (14, .int .i64 r28.1), (15, .int .i64 1)], [(192, [.int .i64 a0.clock, .int .i64 a0.next, .lst 4 (a0.list_.map eDLease)]), (512, [.int .i64 r6.1.clock, .int .i64 r6.1.next, .lst 4 (r6.1.list_.map eDLease)]), (704, [.int .i64 r10.1.clock, .int .i64 r10.1.next, .own 2368 0 4 (r28.2.map eDLease)])]⟩ (fg ⟨rfl, rfl, rfl, rfl, rfl, rfl, rfl, rfl, trivial⟩ ⟨rfl, rfl, rfl, trivial⟩) ?_
          refine seq_ ?_
          refine reg_ ?_
          refine st (c_ (v := .agg [.int .i64 r10.1.clock, .int .i64 r10.1.next, .own 2368 0 4 (r28.2.map eDLease)]) (cp_ ⟨trivial, trivial⟩ rfl (Nat.le_of_ble_eq_true rfl)) ?_)
          refine st (mv_ rfl trivial ?_)
          obtain ⟨r31, e32, h0⟩ := bnd h0
          refine st (call0_ (r := .int .i64 r31) false (H27 (DTable.mk r10.1.clock r10.1.next r28.2) 1 r31 e32) ⟨trivial, trivial, trivial⟩ rfl rfl (fun _ => rfl) ?_)
          refine st (mv_ rfl trivial ?_)
          refine oe_ ?_
          refine wk_ ⟨[(1, .int .i64 a1), (2, .int .i64 a2), (3, .ptr 192 0), (8, .ptr 512 0), (9, .int .i64 r6.2), (11, .ptr 704 0), (14, .int .i64 r28.1), (15, .int .i64 r31)], [(192, [.int .i64 a0.clock, .int .i64 a0.next, .lst 4 (a0.list_.map eDLease)]), (512, [.int .i64 r6.1.clock, .int .i64 r6.1.next, .lst 4 (r6.1.list_.map eDLease)]), (704, [.int .i64 r10.1.clock, .int .i64 r10.1.next, .own 2368 0 4 (r28.2.map eDLease)])]⟩ (fg ⟨rfl, rfl, rfl, rfl, rfl, rfl, rfl, rfl, trivial⟩ ⟨rfl, rfl, rfl, trivial⟩) ?_
          refine seq_ ?_
          refine seq_ ?_
          refine reg_ ?_
          refine st (mv_ rfl trivial ?_)
          refine st (c_ (cp_ ⟨trivial, trivial, trivial⟩ rfl trivial) ?_)
          refine oe_ ?_
          refine wk_ ⟨[(1, .int .i64 a1), (2, .int .i64 a2), (3, .ptr 192 0), (8, .ptr 512 0), (9, .int .i64 r6.2), (11, .ptr 704 0), (14, .int .i64 r28.1), (15, .int .i64 r31), (77, .bool (decide (r31 < 0)))], [(192, [.int .i64 a0.clock, .int .i64 a0.next, .lst 4 (a0.list_.map eDLease)]), (512, [.int .i64 r6.1.clock, .int .i64 r6.1.next, .lst 4 (r6.1.list_.map eDLease)]), (704, [.int .i64 r10.1.clock, .int .i64 r10.1.next, .own 2368 0 4 (r28.2.map eDLease)])]⟩ (fg ⟨rfl, rfl, rfl, rfl, rfl, rfl, rfl, rfl, rfl, trivial⟩ ⟨rfl, rfl, rfl, trivial⟩) ?_
          refine ite_ (cb := (decide (r31 < 0))) rfl (fun c33 => ?_) (fun c33 => ?_)
          · replace h0 := ip c33 h0
            refine seq_ ?_
            refine reg_ ?_
            refine st (mvc_ trivial ?_)
            refine oe_ ?_
            refine wk_ ⟨[(6, .bool false)], []⟩ (fg ⟨rfl, trivial⟩ trivial) ?_
            obtain rfl := Option.some.inj h0
            exact rt_ (ret_ rfl rfl rfl rfl rfl trivial)
          · replace h0 := inb c33 h0
            refine sk_ ?_
            refine wk_ ⟨[(1, .int .i64 a1), (2, .int .i64 a2), (3, .ptr 192 0), (8, .ptr 512 0), (9, .int .i64 r6.2), (11, .ptr 704 0), (14, .int .i64 r28.1), (15, .int .i64 r31)], [(192, [.int .i64 a0.clock, .int .i64 a0.next, .lst 4 (a0.list_.map eDLease)]), (512, [.int .i64 r6.1.clock, .int .i64 r6.1.next, .lst 4 (r6.1.list_.map eDLease)]), (704, [.int .i64 r10.1.clock, .int .i64 r10.1.next, .own 2368 0 4 (r28.2.map eDLease)])]⟩ (fg ⟨rfl, rfl, rfl, rfl, rfl, rfl, rfl, rfl, trivial⟩ ⟨rfl, rfl, rfl, trivial⟩) ?_
            refine seq_ ?_
            refine seq_ ?_
            refine reg_ ?_
            refine st (mv_ rfl trivial ?_)
            refine st (mv_ rfl trivial ?_)
            refine st (c_ (cp_ ⟨trivial, trivial, trivial⟩ rfl trivial) ?_)
            refine oe_ ?_
            refine wk_ ⟨[(1, .int .i64 a1), (2, .int .i64 a2), (3, .ptr 192 0), (8, .ptr 512 0), (9, .int .i64 r6.2), (11, .ptr 704 0), (14, .int .i64 r28.1), (80, .bool (r31 != r28.1))], [(192, [.int .i64 a0.clock, .int .i64 a0.next, .lst 4 (a0.list_.map eDLease)]), (512, [.int .i64 r6.1.clock, .int .i64 r6.1.next, .lst 4 (r6.1.list_.map eDLease)]), (704, [.int .i64 r10.1.clock, .int .i64 r10.1.next, .own 2368 0 4 (r28.2.map eDLease)])]⟩ (fg ⟨rfl, rfl, rfl, rfl, rfl, rfl, rfl, rfl, trivial⟩ ⟨rfl, rfl, rfl, trivial⟩) ?_
            refine ite_ (cb := (r31 != r28.1)) rfl (fun c34 => ?_) (fun c34 => ?_)
            · replace h0 := ip c34 h0
              refine seq_ ?_
              refine reg_ ?_
              refine st (mvc_ trivial ?_)
              refine oe_ ?_
              refine wk_ ⟨[(6, .bool false)], []⟩ (fg ⟨rfl, trivial⟩ trivial) ?_
              obtain rfl := Option.some.inj h0
              exact rt_ (ret_ rfl rfl rfl rfl rfl trivial)
            · replace h0 := inb c34 h0
              refine sk_ ?_
              refine wk_ ⟨[(1, .int .i64 a1), (2, .int .i64 a2), (3, .ptr 192 0), (8, .ptr 512 0), (9, .int .i64 r6.2), (11, .ptr 704 0), (14, .int .i64 r28.1)], [(192, [.int .i64 a0.clock, .int .i64 a0.next, .lst 4 (a0.list_.map eDLease)]), (512, [.int .i64 r6.1.clock, .int .i64 r6.1.next, .lst 4 (r6.1.list_.map eDLease)]), (704, [.int .i64 r10.1.clock, .int .i64 r10.1.next, .own 2368 0 4 (r28.2.map eDLease)])]⟩ (fg ⟨rfl, rfl, rfl, rfl, rfl, rfl, rfl, trivial⟩ ⟨rfl, rfl, rfl, trivial⟩) ?_
              refine seq_ ?_
              refine reg_ ?_
              refine st (c_ (v := .agg [.int .i64 a0.clock, .int .i64 a0.next, .lst 4 (a0.list_.map eDLease)]) (cp_ ⟨trivial, trivial⟩ rfl (Nat.le_of_ble_eq_true rfl)) ?_)
              obtain ⟨r35, e36, h0⟩ := bnd h0
              refine st (call0_ (r := .agg [.int .i64 r35.clock, .int .i64 r35.next, .own 0 0 4 (r35.list_.map eDLease)]) false (H19 a0 r35 e36) ⟨trivial, trivial⟩ rfl rfl (fun _ => (and_ rfl (and_ rfl (and_ (fl1 (fun _ => rfl)) rfl)))) ?_)
              refine st (mv_ rfl trivial ?_)
              refine st (mv_ rfl trivial ?_)
              obtain ⟨r37, e38, h0⟩ := bnd h0
              refine st (call0_ (r := .tup [.agg [.int .i64 r37.1.clock, .int .i64 r37.1.next, .own 0 0 4 (r37.1.list_.map eDLease)], .int .i64 r37.2]) false (H33 r35 a1 a2 r37 e38) ⟨trivial, trivial, trivial, trivial⟩ rfl rfl (fun _ => (and_ rfl (and_ rfl (and_ (fl1 (fun _ => rfl)) (and_ rfl rfl))))) ?_)
              refine st (mv_ rfl trivial ?_)
              refine st (c_ (cp_ ⟨trivial, trivial⟩ rfl trivial) ?_)
              refine st (c_ (cp_ ⟨trivial, trivial⟩ rfl trivial) ?_)
              refine st (alloc_ ?_)
              refine st (stp_ rfl rfl trivial rfl rfl rfl (Nat.le_of_ble_eq_true rfl) ?_)
              refine st (mv_ rfl trivial ?_)
              refine oe_ ?_
              refine wk_ ⟨[(8, .ptr 512 0), (9, .int .i64 r6.2), (11, .ptr 704 0), (14, .int .i64 r28.1), (16, .ptr 1024 0), (17, .int .i64 r37.2)], [(512, [.int .i64 r6.1.clock, .int .i64 r6.1.next, .lst 4 (r6.1.list_.map eDLease)]), (704, [.int .i64 r10.1.clock, .int .i64 r10.1.next, .own 2368 0 4 (r28.2.map eDLease)]), (1024, [.int .i64 r37.1.clock, .int .i64 r37.1.next, .own 5504 0 4 (r37.1.list_.map eDLease)])]⟩ (fg ⟨rfl, rfl, rfl, rfl, rfl, rfl, trivial⟩ ⟨rfl, rfl, rfl, trivial⟩) ?_
              refine seq_ ?_
              refine seq_ ?_
              refine reg_ ?_
              refine st (c_ (v := .agg [.int .i64 r37.1.clock, .int .i64 r37.1.next, .own 5504 0 4 (r37.1.list_.map eDLease)]) (cp_ ⟨trivial, trivial⟩ rfl (Nat.le_of_ble_eq_true rfl)) ?_)
              refine st (c_ (v := .agg [.int .i64 r6.1.clock, .int .i64 r6.1.next, .lst 4 (r6.1.list_.map eDLease)]) (cp_ ⟨trivial, trivial⟩ rfl (Nat.le_of_ble_eq_true rfl)) ?_)
              obtain ⟨r39, e40, h0⟩ := bnd h0
              refine st (call0_ (r := .bool r39) false (H21 r37.1 r6.1 r39 e40) ⟨trivial, trivial, trivial⟩ rfl rfl (fun _ => rfl) ?_)
              refine st (c_ (cp_ ⟨trivial, trivial⟩ rfl trivial) ?_)
              refine st (mv_ rfl trivial ?_)
              refine st (pg_ (u := .int .i64 r37.2) rfl (fun hg => (cmv (v := .int .i64 r37.2) rfl trivial)) ?_)
              refine st (pg_ (u := .int .i64 r6.2) rfl (fun hg => (cmv (v := .int .i64 r6.2) rfl trivial)) ?_)
              refine st (pg_ (u := .bool (r37.2 != r6.2)) rfl (fun hg => (cp_ ⟨(fun _ => hg), (fun _ => hg), trivial⟩ rfl trivial)) ?_)
              refine st (pick_ rfl rfl rfl trivial (fun h => eqf h) rfl ?_)
              refine oe_ ?_
              refine wk_ ⟨[(11, .ptr 704 0), (14, .int .i64 r28.1), (97, .bool (bif (!r39) then true else (r37.2 != r6.2)))], [(704, [.int .i64 r10.1.clock, .int .i64 r10.1.next, .own 2368 0 4 (r28.2.map eDLease)])]⟩ (fg ⟨rfl, rfl, rfl, trivial⟩ ⟨rfl, trivial⟩) ?_
              refine ite_ (cb := (bif (!r39) then true else (r37.2 != r6.2))) rfl (fun c41 => ?_) (fun c41 => ?_)
              · replace h0 := ip c41 h0
                refine seq_ ?_
                refine reg_ ?_
                refine st (mvc_ trivial ?_)
                refine oe_ ?_
                refine wk_ ⟨[(6, .bool false)], []⟩ (fg ⟨rfl, trivial⟩ trivial) ?_
                obtain rfl := Option.some.inj h0
                exact rt_ (ret_ rfl rfl rfl rfl rfl trivial)
              · replace h0 := inb c41 h0
                refine sk_ ?_
                refine wk_ ⟨[(11, .ptr 704 0), (14, .int .i64 r28.1)], [(704, [.int .i64 r10.1.clock, .int .i64 r10.1.next, .own 2368 0 4 (r28.2.map eDLease)])]⟩ (fg ⟨rfl, rfl, trivial⟩ ⟨rfl, trivial⟩) ?_
                refine seq_ ?_
                refine reg_ ?_
                refine st (mvc_ trivial ?_)
                refine oe_ ?_
                refine wk_ ⟨[(11, .ptr 704 0), (14, .int .i64 r28.1), (15, .int .i64 1)], [(704, [.int .i64 r10.1.clock, .int .i64 r10.1.next, .own 2368 0 4 (r28.2.map eDLease)])]⟩ (fg ⟨rfl, rfl, rfl, trivial⟩ ⟨rfl, trivial⟩) ?_
                refine seq_ ?_
                refine reg_ ?_
                refine st (c_ (v := .agg [.int .i64 r10.1.clock, .int .i64 r10.1.next, .own 2368 0 4 (r28.2.map eDLease)]) (cp_ ⟨trivial, trivial⟩ rfl (Nat.le_of_ble_eq_true rfl)) ?_)
                refine st (mv_ rfl trivial ?_)
                obtain ⟨r42, e43, h0⟩ := bnd h0
                refine st (call0_ (r := .int .i64 r42) false (H27 (DTable.mk r10.1.clock r10.1.next r28.2) 1 r42 e43) ⟨trivial, trivial, trivial⟩ rfl rfl (fun _ => rfl) ?_)
                refine st (mv_ rfl trivial ?_)
                refine oe_ ?_
                refine wk_ ⟨[(14, .int .i64 r28.1), (15, .int .i64 r42)], []⟩ (fg ⟨rfl, rfl, trivial⟩ trivial) ?_
                refine seq_ ?_
                refine seq_ ?_
                refine reg_ ?_
                refine st (mv_ rfl trivial ?_)
                refine st (c_ (cp_ ⟨trivial, trivial, trivial⟩ rfl trivial) ?_)
                refine oe_ ?_
                refine wk_ ⟨[(14, .int .i64 r28.1), (15, .int .i64 r42), (102, .bool (decide (r42 < 0)))], []⟩ (fg ⟨rfl, rfl, rfl, trivial⟩ trivial) ?_
                refine ite_ (cb := (decide (r42 < 0))) rfl (fun c44 => ?_) (fun c44 => ?_)
                · replace h0 := ip c44 h0
                  refine seq_ ?_
                  refine reg_ ?_
                  refine st (mvc_ trivial ?_)
                  refine oe_ ?_
                  refine wk_ ⟨[(6, .bool false)], []⟩ (fg ⟨rfl, trivial⟩ trivial) ?_
                  obtain rfl := Option.some.inj h0
                  exact rt_ (ret_ rfl rfl rfl rfl rfl trivial)
                · replace h0 := inb c44 h0
                  refine sk_ ?_
                  refine wk_ ⟨[(14, .int .i64 r28.1), (15, .int .i64 r42)], []⟩ (fg ⟨rfl, rfl, trivial⟩ trivial) ?_
                  refine seq_ ?_
                  refine seq_ ?_
                  refine reg_ ?_
                  refine st (mv_ rfl trivial ?_)
                  refine st (mv_ rfl trivial ?_)
                  refine st (c_ (cp_ ⟨trivial, trivial, trivial⟩ rfl trivial) ?_)
                  refine oe_ ?_
                  refine wk_ ⟨[(105, .bool (r42 != r28.1))], []⟩ (fg ⟨rfl, trivial⟩ trivial) ?_
                  refine ite_ (cb := (r42 != r28.1)) rfl (fun c45 => ?_) (fun c45 => ?_)
                  · replace h0 := ip c45 h0
                    refine seq_ ?_
                    refine reg_ ?_
                    refine st (mvc_ trivial ?_)
                    refine oe_ ?_
                    refine wk_ ⟨[(6, .bool false)], []⟩ (fg ⟨rfl, trivial⟩ trivial) ?_
                    obtain rfl := Option.some.inj h0
                    exact rt_ (ret_ rfl rfl rfl rfl rfl trivial)
                  · replace h0 := inb c45 h0
                    refine sk_ ?_
                    refine wk_ ⟨[], []⟩ (fg trivial trivial) ?_
                    refine seq_ ?_
                    refine reg_ ?_
                    refine st (mvc_ trivial ?_)
                    refine oe_ ?_
                    refine wk_ ⟨[(6, .bool true)], []⟩ (fg ⟨rfl, trivial⟩ trivial) ?_
                    obtain rfl := Option.some.inj h0
                    exact rt_ (ret_ rfl rfl rfl rfl rfl trivial)
end Go.Ev
