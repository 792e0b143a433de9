/- The walks of functions: the code comes to the answers that QgD tells. Written by a program of ours. -/
import Derived.Test.YtdkeomfbpdodiaaQgW0
set_option linter.all false
set_option linter.unusedVariables false
set_option maxRecDepth 100000
namespace Go.Ev

/- loop.example/g00149/laws.markLeaseS -/
def c72_r0 : List Ins := [⟨some 4, .p (.mv (.c (.int .i64 0))), none⟩]
def c72_r1 : List Ins := [⟨some 5, .p (.mv (.c (.int .i64 0))), none⟩]
def c72_r2 : List Ins := [⟨some 6, .p (.mv (.t 5)), none⟩,
 ⟨some 7, .p (.mv (.t 0)), none⟩,
 ⟨some 8, .p (.len (.t 7)), none⟩,
 ⟨some 9, .p (.bin .lss (.t 6) (.t 8)), none⟩]
def c72_r3 : List Ins := [⟨some 12, .p (.mv (.t 0)), none⟩,
 ⟨some 13, .p (.mv (.t 5)), none⟩,
 ⟨some 14, .p (.mv (.t 1)), none⟩,
 ⟨some 15, .p (.idxA (.t 12) (.t 13) 4), none⟩,
 ⟨some 16, .p (.fieldA (.t 15) 0), none⟩,
 ⟨none, .store (.t 16) (.t 14) 1, none⟩]
def c72_r4 : List Ins := [⟨some 17, .p (.mv (.t 1)), none⟩,
 ⟨some 18, .p (.bin .add (.t 17) (.c (.int .i64 1))), none⟩,
 ⟨some 1, .p (.mv (.t 18)), none⟩]
def c72_r5 : List Ins := [⟨some 19, .p (.mv (.t 0)), none⟩,
 ⟨some 20, .p (.mv (.t 5)), none⟩,
 ⟨some 21, .p (.mv (.t 1)), none⟩,
 ⟨some 22, .p (.idxA (.t 19) (.t 20) 4), none⟩,
 ⟨some 23, .p (.fieldA (.t 22) 1), none⟩,
 ⟨none, .store (.t 23) (.t 21) 1, none⟩]
def c72_r6 : List Ins := [⟨some 24, .p (.mv (.t 1)), none⟩,
 ⟨some 25, .p (.bin .add (.t 24) (.c (.int .i64 1))), none⟩,
 ⟨some 1, .p (.mv (.t 25)), none⟩]
def c72_r7 : List Ins := [⟨some 26, .p (.mv (.t 0)), none⟩,
 ⟨some 27, .p (.mv (.t 5)), none⟩,
 ⟨some 28, .p (.mv (.t 1)), none⟩,
 ⟨some 29, .p (.idxA (.t 26) (.t 27) 4), none⟩,
 ⟨some 30, .p (.fieldA (.t 29) 2), none⟩,
 ⟨none, .store (.t 30) (.t 28) 1, none⟩]
def c72_r8 : List Ins := [⟨some 31, .p (.mv (.t 1)), none⟩,
 ⟨some 32, .p (.bin .add (.t 31) (.c (.int .i64 1))), none⟩,
 ⟨some 1, .p (.mv (.t 32)), none⟩]
def c72_r9 : List Ins := [⟨some 33, .p (.mv (.t 0)), none⟩,
 ⟨some 34, .p (.mv (.t 5)), none⟩,
 ⟨some 35, .p (.mv (.t 1)), none⟩,
 ⟨some 36, .p (.bin .rem (.t 35) (.c (.int .i64 3))), none⟩,
 ⟨some 37, .p (.bin .eql (.t 36) (.c (.int .i64 0))), none⟩,
 ⟨some 38, .p (.idxA (.t 33) (.t 34) 4), none⟩,
 ⟨some 39, .p (.fieldA (.t 38) 3), none⟩,
 ⟨none, .store (.t 39) (.t 37) 1, none⟩]
def c72_r10 : List Ins := [⟨some 40, .p (.mv (.t 1)), none⟩,
 ⟨some 41, .p (.bin .add (.t 40) (.c (.int .i64 1))), none⟩,
 ⟨some 1, .p (.mv (.t 41)), none⟩]
def c72_r11 : List Ins := [⟨some 10, .p (.mv (.t 5)), none⟩,
 ⟨some 11, .p (.bin .add (.t 10) (.c (.int .i64 1))), none⟩,
 ⟨some 5, .p (.mv (.t 11)), none⟩]
def c72_l0 : IR := (.seq (.seq (.reg c72_r2) (.ite (.t 9) .skip (.exit 0))) (.seq (.block 1 (.seq (.reg c72_r3) (.seq (.reg c72_r4) (.seq (.reg c72_r5) (.seq (.reg c72_r6) (.seq (.reg c72_r7) (.seq (.reg c72_r8) (.seq (.reg c72_r9) (.reg c72_r10))))))))) (.reg c72_r11)))
def c72_r12 : List Ins := [⟨some 42, .p (.mv (.t 1)), none⟩,
 ⟨some 4, .p (.mv (.t 42)), none⟩]
def c72 : XFn := { np := 2, nt := 43, res := [.t 4], body := (.seq (.reg c72_r0) (.seq (.seq (.reg c72_r1) (.block 0 (.loop c72_l0))) (.seq (.reg c72_r12) .ret))) }
def K72 (C : CRel) : Prop := ∀ (a0 : List DLease) (a1 : Int) (r : Int × (List DLease)), g72 a0 a1 = some r → C 72 ⟨[.own 2097152 0 4 (a0.map eDLease), .int .i64 a1], []⟩ ⟨.int .i64 r.1, [], [(0, 4, r.2.map eDLease)]⟩
theorem F72 {C : CRel}  (a0 : List DLease) (a1 : Int) (r : Int × (List DLease)) (h0 : g72 a0 a1 = some r) : FnOK C c72 ⟨[.own 2097152 0 4 (a0.map eDLease), .int .i64 a1], []⟩ ⟨.int .i64 r.1, [], [(0, 4, r.2.map eDLease)]⟩ := by
  refine fn_ (Nat.le_of_ble_eq_true rfl) ?_
  refine seq_ ?_
  refine reg_ ?_
  refine st (mvc_ trivial ?_)
  refine oe_ ?_
  refine wk_ ⟨[(0, .own 2097152 0 4 (a0.map eDLease)), (1, .int .i64 a1)], []⟩ (fg ⟨rfl, rfl, trivial⟩ trivial) ?_
  refine seq_ ?_
  refine seq_ ?_
  refine reg_ ?_
  refine st (mvc_ trivial ?_)
  refine oe_ ?_
  refine wk_ ⟨[(0, .own 2097152 0 4 (a0.map eDLease)), (1, .int .i64 a1), (5, .int .i64 0)], []⟩ (fg ⟨rfl, rfl, rfl, trivial⟩ trivial) ?_
  refine block_ ?_
  obtain ⟨r84, e85, h0⟩ := bnd h0
  refine loop_ (R := (fun S => ∃ p57 : List DLease, ∃ p58 : Int, (p57, p58) = r84 ∧ S = ⟨[(0, .own 2097152 0 4 (p57.map eDLease)), (1, .int .i64 p58)], []⟩)) (g72_l0) (fun s S => match s with | (p26, p27, p28) => S = ⟨[(0, .own 2097152 0 4 (p26.map eDLease)), (1, .int .i64 p27), (5, .int .i64 p28)], []⟩) e85 ⟨[(0, .own 2097152 0 4 (a0.map eDLease)), (1, .int .i64 a1), (5, .int .i64 0)], []⟩ (fg ⟨rfl, rfl, rfl, trivial⟩ trivial) rfl 0 (fun _ => rfl) ?_ ?_
  · rintro S _ hfg ⟨p57, p58, rfl, rfl⟩
    refine wk_ ⟨[(0, .own 2097152 0 4 (p57.map eDLease)), (1, .int .i64 p58)], []⟩ (fgl hfg ⟨rfl, rfl, trivial⟩ trivial) ?_
    refine seq_ ?_
    refine reg_ ?_
    refine st (mv_ rfl trivial ?_)
    refine st (mv_ rfl trivial ?_)
    refine oe_ ?_
    refine wk_ ⟨[(0, .own 2097152 0 4 (p57.map eDLease)), (4, .int .i64 p58)], []⟩ (fg ⟨rfl, rfl, trivial⟩ trivial) ?_
    obtain rfl := Option.some.inj h0
    exact rt_ (ret_ rfl rfl rfl rfl rfl ⟨⟨rfl, mlen (fun _ => rfl)⟩, trivial⟩)
  · rintro ⟨p26, p27, p28⟩ o1 _ K1 rfl h1 hx1 hK1 hE1 hR1
    refine seq_ ?_
    refine seq_ ?_
    refine reg_ ?_
    refine st (mv_ rfl trivial ?_)
    refine st (mv_ rfl trivial ?_)
    refine st (c_ (clenO (e := eDLease) (l0 := p26) rfl rfl trivial) ?_)
    refine st (c_ (cp_ ⟨trivial, trivial, trivial⟩ rfl trivial) ?_)
    refine oe_ ?_
    refine wk_ ⟨[(0, .own 2097152 0 4 (p26.map eDLease)), (1, .int .i64 p27), (5, .int .i64 p28), (9, .bool (decide (p28 < (p26.length : Int))))], []⟩ (fg ⟨rfl, rfl, rfl, rfl, trivial⟩ trivial) ?_
    refine ite_ (cb := (decide (p28 < (p26.length : Int)))) rfl (fun c59 => ?_) (fun c59 => ?_)
    · replace h1 := ip c59 h1
      refine sk_ ?_
      refine wk_ ⟨[(0, .own 2097152 0 4 (p26.map eDLease)), (1, .int .i64 p27), (5, .int .i64 p28)], []⟩ (fg ⟨rfl, rfl, rfl, trivial⟩ trivial) ?_
      refine seq_ ?_
      refine block_ ?_
      refine seq_ ?_
      refine reg_ ?_
      refine st (mv_ rfl trivial ?_)
      refine st (mv_ rfl trivial ?_)
      refine st (mv_ rfl trivial ?_)
      obtain ⟨y60, e61, h1⟩ := bnd h1
      refine st (c_ (cidxO (e := eDLease) (y := y60) rfl rfl trivial rfl rfl trivial e61) ?_)
      refine st (c_ (cp_ ⟨trivial, trivial⟩ rfl trivial) ?_)
      obtain ⟨y62, e63, h1⟩ := bnd h1
      refine st (sto_ (y' := (DLease.mk p27 y62.until_ y62.cap y62.queued)) rfl rfl trivial rfl rfl rfl rfl e63 (Nat.le_of_ble_eq_true rfl) rfl rfl rfl rfl ?_)
      refine oe_ ?_
      refine wk_ ⟨[(0, .own 2097152 0 4 ((p26.set p28.toNat (DLease.mk p27 y62.until_ y62.cap y62.queued)).map eDLease)), (1, .int .i64 p27), (5, .int .i64 p28)], []⟩ (fg ⟨(congrArg (fun z => some ((.own 2097152 0 4 z : V))) overlay_map), rfl, rfl, trivial⟩ trivial) ?_
      refine seq_ ?_
      refine reg_ ?_
      refine st (mv_ rfl trivial ?_)
      refine st (c_ (cp_ ⟨trivial, trivial, trivial⟩ rfl trivial) ?_)
      refine st (mv_ rfl trivial ?_)
      refine oe_ ?_
      refine wk_ ⟨[(0, .own 2097152 0 4 ((p26.set p28.toNat (DLease.mk p27 y62.until_ y62.cap y62.queued)).map eDLease)), (1, .int .i64 (IntKind.i64.wrap (p27 + 1))), (5, .int .i64 p28)], []⟩ (fg ⟨rfl, rfl, rfl, trivial⟩ trivial) ?_
      refine seq_ ?_
      refine reg_ ?_
      refine st (mv_ rfl trivial ?_)
      refine st (mv_ rfl trivial ?_)
      refine st (mv_ rfl trivial ?_)
      obtain ⟨y64, e65, h1⟩ := bnd h1
      refine st (c_ (cidxO (e := eDLease) (y := y64) rfl rfl trivial rfl rfl trivial e65) ?_)
      refine st (c_ (cp_ ⟨trivial, trivial⟩ rfl trivial) ?_)
      obtain ⟨y66, e67, h1⟩ := bnd h1
      refine st (sto_ (y' := (DLease.mk y66.id (IntKind.i64.wrap (p27 + 1)) y66.cap y66.queued)) rfl rfl trivial rfl rfl rfl rfl e67 (Nat.le_of_ble_eq_true rfl) rfl rfl rfl rfl ?_)
      refine oe_ ?_
      refine wk_ ⟨[(0, .own 2097152 0 4 (((p26.set p28.toNat (DLease.mk p27 y62.until_ y62.cap y62.queued)).set p28.toNat (DLease.mk y66.id (IntKind.i64.wrap (p27 + 1)) y66.cap y66.queued)).map eDLease)), (1, .int .i64 (IntKind.i64.wrap (p27 + 1))), (5, .int .i64 p28)], []⟩ (fg ⟨(congrArg (fun z => some ((.own 2097152 0 4 z : V))) overlay_map), rfl, rfl, trivial⟩ trivial) ?_
      refine seq_ ?_
      refine reg_ ?_
      refine st (mv_ rfl trivial ?_)
      refine st (c_ (cp_ ⟨trivial, trivial, trivial⟩ rfl trivial) ?_)
      refine st (mv_ rfl trivial ?_)
      refine oe_ ?_
      obtain ⟨v68, e69, h1⟩ := bl h1
      refine wk_ ⟨[(0, .own 2097152 0 4 (v68.map eDLease)), (1, .int .i64 (IntKind.i64.wrap ((IntKind.i64.wrap (p27 + 1)) + 1))), (5, .int .i64 p28)], []⟩ (fg ⟨(by subst e69; rfl), (by subst e69; rfl), (by subst e69; rfl), trivial⟩ trivial) ?_
      refine seq_ ?_
      refine reg_ ?_
      refine st (mv_ rfl trivial ?_)
      refine st (mv_ rfl trivial ?_)
      refine st (mv_ rfl trivial ?_)
      obtain ⟨y70, e71, h1⟩ := bnd h1
      refine st (c_ (cidxO (e := eDLease) (y := y70) rfl rfl trivial rfl rfl trivial e71) ?_)
      refine st (c_ (cp_ ⟨trivial, trivial⟩ rfl trivial) ?_)
      obtain ⟨y72, e73, h1⟩ := bnd h1
      refine st (sto_ (y' := (DLease.mk y72.id y72.until_ (IntKind.i64.wrap ((IntKind.i64.wrap (p27 + 1)) + 1)) y72.queued)) rfl rfl trivial rfl rfl rfl rfl e73 (Nat.le_of_ble_eq_true rfl) rfl rfl rfl rfl ?_)
      refine oe_ ?_
      refine wk_ ⟨[(0, .own 2097152 0 4 ((v68.set p28.toNat (DLease.mk y72.id y72.until_ (IntKind.i64.wrap ((IntKind.i64.wrap (p27 + 1)) + 1)) y72.queued)).map eDLease)), (1, .int .i64 (IntKind.i64.wrap ((IntKind.i64.wrap (p27 + 1)) + 1))), (5, .int .i64 p28)], []⟩ (fg ⟨(congrArg (fun z => some ((.own 2097152 0 4 z : V))) overlay_map), rfl, rfl, trivial⟩ trivial) ?_
      refine seq_ ?_
      refine reg_ ?_
      refine st (mv_ rfl trivial ?_)
      refine st (c_ (cp_ ⟨trivial, trivial, trivial⟩ rfl trivial) ?_)
      refine st (mv_ rfl trivial ?_)
      refine oe_ ?_
      obtain ⟨v74, e75, h1⟩ := bl h1
      obtain ⟨v76, e77, h1⟩ := bl h1
      refine wk_ ⟨[(0, .own 2097152 0 4 (v74.map eDLease)), (1, .int .i64 v76), (5, .int .i64 p28)], []⟩ (fg ⟨(by subst e75 e77; rfl), (by subst e75 e77; rfl), (by subst e75 e77; rfl), trivial⟩ trivial) ?_
      refine seq_ ?_
      refine reg_ ?_
      refine st (mv_ rfl trivial ?_)
      refine st (mv_ rfl trivial ?_)
      refine st (mv_ rfl trivial ?_)
      refine st (c_ (cp_ ⟨trivial, trivial, trivial⟩ rfl (by decide)) ?_)
      refine st (c_ (cp_ ⟨trivial, trivial, trivial⟩ rfl trivial) ?_)
      obtain ⟨y78, e79, h1⟩ := bnd h1
      refine st (c_ (cidxO (e := eDLease) (y := y78) rfl rfl trivial rfl rfl trivial e79) ?_)
      refine st (c_ (cp_ ⟨trivial, trivial⟩ rfl trivial) ?_)
      obtain ⟨y80, e81, h1⟩ := bnd h1
      refine st (sto_ (y' := (DLease.mk y80.id y80.until_ y80.cap (((v76).tmod 3) == 0))) rfl rfl trivial rfl rfl rfl rfl e81 (Nat.le_of_ble_eq_true rfl) rfl rfl rfl rfl ?_)
      refine oe_ ?_
      refine wk_ ⟨[(0, .own 2097152 0 4 ((v74.set p28.toNat (DLease.mk y80.id y80.until_ y80.cap (((v76).tmod 3) == 0))).map eDLease)), (1, .int .i64 v76), (5, .int .i64 p28)], []⟩ (fg ⟨(congrArg (fun z => some ((.own 2097152 0 4 z : V))) overlay_map), rfl, rfl, trivial⟩ trivial) ?_
      refine reg_ ?_
      refine st (mv_ rfl trivial ?_)
      refine st (c_ (cp_ ⟨trivial, trivial, trivial⟩ rfl trivial) ?_)
      refine st (mv_ rfl trivial ?_)
      refine oe_ ?_
      refine bn_ ?_
      obtain ⟨v82, e83, h1⟩ := bl h1
      refine wk_ ⟨[(0, .own 2097152 0 4 (v82.map eDLease)), (1, .int .i64 (IntKind.i64.wrap (v76 + 1))), (5, .int .i64 p28)], []⟩ (fg ⟨(by subst e83; rfl), (by subst e83; rfl), (by subst e83; rfl), trivial⟩ trivial) ?_
      refine reg_ ?_
      refine st (mv_ rfl trivial ?_)
      refine st (c_ (cp_ ⟨trivial, trivial, trivial⟩ rfl trivial) ?_)
      refine st (mv_ rfl trivial ?_)
      refine oe_ ?_
      obtain rfl := Option.some.inj h1
      exact hK1 _ rfl _ ⟨[(0, .own 2097152 0 4 (v82.map eDLease)), (1, .int .i64 (IntKind.i64.wrap (v76 + 1))), (5, .int .i64 (IntKind.i64.wrap (p28 + 1)))], []⟩ (fg ⟨rfl, rfl, rfl, trivial⟩ trivial) rfl
    · replace h1 := inb c59 h1
      obtain rfl := Option.some.inj h1
      obtain rfl := hx1 _ rfl
      refine exQ rfl ?_
      exact hE1 _ ⟨[(0, .own 2097152 0 4 (p26.map eDLease)), (1, .int .i64 p27)], []⟩ (fg ⟨rfl, rfl, trivial⟩ trivial) ⟨_, _, rfl, rfl⟩

/- loop.example/g00149/laws.markTable -/
def c26_r0 : List Ins := [⟨some 2, .box (.t 0), none⟩,
 ⟨some 4, .p (.mv (.c (.int .i64 0))), none⟩]
def c26_r1 : List Ins := [⟨some 5, .p (.fieldA (.t 2) 2), none⟩,
 ⟨some 6, .p (.load (.t 5) 1 false), none⟩,
 ⟨some 7, .p (.mv (.t 1)), none⟩,
 ⟨some 8, .call 72 [(.t 6), (.t 7)], none⟩,
 ⟨some 1, .p (.mv (.t 8)), none⟩]
def c26_r2 : List Ins := [⟨some 9, .p (.mv (.t 1)), none⟩,
 ⟨some 4, .p (.mv (.t 9)), none⟩]
def c26 : XFn := { np := 2, nt := 10, res := [.t 4], body := (.seq (.reg c26_r0) (.seq (.reg c26_r1) (.seq (.reg c26_r2) .ret))) }
def K26 (C : CRel) : Prop := ∀ (a0 : DTable) (a1 : Int) (r : Int × (List DLease)), g26 a0 a1 = some r → C 26 ⟨[.agg [.int .i64 a0.clock, .int .i64 a0.next, .own 2097152 0 4 (a0.list_.map eDLease)], .int .i64 a1], []⟩ ⟨.int .i64 r.1, [], [(0, 4, r.2.map eDLease)]⟩
theorem F26 {C : CRel} (H72 : K72 C) (a0 : DTable) (a1 : Int) (r : Int × (List DLease)) (h0 : g26 a0 a1 = some r) : FnOK C c26 ⟨[.agg [.int .i64 a0.clock, .int .i64 a0.next, .own 2097152 0 4 (a0.list_.map eDLease)], .int .i64 a1], []⟩ ⟨.int .i64 r.1, [], [(0, 4, r.2.map eDLease)]⟩ := by
  refine fn_ (Nat.le_of_ble_eq_true rfl) ?_
  refine seq_ ?_
  refine reg_ ?_
  refine st (box_ rfl trivial rfl ?_)
  refine st (mvc_ trivial ?_)
  refine oe_ ?_
  refine wk_ ⟨[(0, .agg [.int .i64 a0.clock, .int .i64 a0.next, .own 2097152 0 4 (a0.list_.map eDLease)]), (1, .int .i64 a1), (2, .ptr 128 0)], [(128, [.int .i64 a0.clock, .int .i64 a0.next, .own 2097152 0 4 (a0.list_.map eDLease)])]⟩ (fg ⟨rfl, rfl, rfl, trivial⟩ ⟨rfl, trivial⟩) ?_
  refine seq_ ?_
  refine reg_ ?_
  refine st (c_ (cp_ ⟨trivial, trivial⟩ rfl trivial) ?_)
  refine st (c_ (cp_ ⟨trivial, trivial⟩ rfl (Nat.le_of_ble_eq_true rfl)) ?_)
  refine st (mv_ rfl trivial ?_)
  obtain ⟨r1, e2, h0⟩ := bnd h0
  obtain ⟨c3, h0⟩ := grd h0
  refine st (call1_ [] [2097152] [] false (H72 a0.list_ a1 r1 e2) ⟨trivial, trivial, trivial⟩ rfl rfl rfl rfl (fun _ => and_ rfl (and_ (fl2 (fun _ => rfl)) rfl)) ?_)
  refine sw ⟨[(0, .agg [.int .i64 a0.clock, .int .i64 a0.next, .own 2097152 0 4 (r1.2.map eDLease)]), (8, .int .i64 r1.1)], []⟩ (fg ⟨(congrArg (fun z => some ((.agg [.int .i64 a0.clock, .int .i64 a0.next, z] : V))) (row_eq c3)), rfl, trivial⟩ trivial) (mv_ rfl trivial ?_)
  refine oe_ ?_
  refine wk_ ⟨[(0, .agg [.int .i64 a0.clock, .int .i64 a0.next, .own 2097152 0 4 (r1.2.map eDLease)]), (1, .int .i64 r1.1)], []⟩ (fg ⟨rfl, rfl, trivial⟩ trivial) ?_
  refine seq_ ?_
  refine reg_ ?_
  refine st (mv_ rfl trivial ?_)
  refine st (mv_ rfl trivial ?_)
  refine oe_ ?_
  refine wk_ ⟨[(0, .agg [.int .i64 a0.clock, .int .i64 a0.next, .own 2097152 0 4 (r1.2.map eDLease)]), (4, .int .i64 r1.1)], []⟩ (fg ⟨rfl, rfl, trivial⟩ trivial) ?_
  obtain rfl := Option.some.inj h0
  exact rt_ (ret_ rfl rfl rfl rfl rfl ⟨⟨rfl, mlen (fun _ => rfl)⟩, trivial⟩)

/- loop.example/g00149/laws.heldLeaseS -/
def c73_r0 : List Ins := [⟨some 4, .p (.mv (.c (.int .i64 0))), none⟩]
def c73_r1 : List Ins := [⟨some 5, .p (.mv (.c (.int .i64 0))), none⟩]
def c73_r2 : List Ins := [⟨some 6, .p (.mv (.t 5)), none⟩,
 ⟨some 7, .p (.mv (.t 0)), none⟩,
 ⟨some 8, .p (.len (.t 7)), none⟩,
 ⟨some 9, .p (.bin .lss (.t 6) (.t 8)), none⟩]
def c73_r3 : List Ins := [⟨some 12, .p (.mv (.t 0)), none⟩,
 ⟨some 13, .p (.mv (.t 5)), none⟩,
 ⟨some 14, .p (.idxA (.t 12) (.t 13) 4), none⟩,
 ⟨some 15, .p (.fieldA (.t 14) 0), none⟩,
 ⟨some 16, .p (.load (.t 15) 1 false), none⟩,
 ⟨some 17, .p (.mv (.t 1)), none⟩,
 ⟨some 18, .p (.bin .neq (.t 16) (.t 17)), none⟩]
def c73_r4 : List Ins := [⟨some 4, .p (.mv (.c (.int .i64 (-1)))), none⟩]
def c73_r5 : List Ins := [⟨some 19, .p (.mv (.t 1)), none⟩,
 ⟨some 20, .p (.bin .add (.t 19) (.c (.int .i64 1))), none⟩,
 ⟨some 1, .p (.mv (.t 20)), none⟩]
def c73_r6 : List Ins := [⟨some 21, .p (.mv (.t 0)), none⟩,
 ⟨some 22, .p (.mv (.t 5)), none⟩,
 ⟨some 23, .p (.idxA (.t 21) (.t 22) 4), none⟩,
 ⟨some 24, .p (.fieldA (.t 23) 1), none⟩,
 ⟨some 25, .p (.load (.t 24) 1 false), none⟩,
 ⟨some 26, .p (.mv (.t 1)), none⟩,
 ⟨some 27, .p (.bin .neq (.t 25) (.t 26)), none⟩]
def c73_r7 : List Ins := [⟨some 4, .p (.mv (.c (.int .i64 (-1)))), none⟩]
def c73_r8 : List Ins := [⟨some 28, .p (.mv (.t 1)), none⟩,
 ⟨some 29, .p (.bin .add (.t 28) (.c (.int .i64 1))), none⟩,
 ⟨some 1, .p (.mv (.t 29)), none⟩]
def c73_r9 : List Ins := [⟨some 30, .p (.mv (.t 0)), none⟩,
 ⟨some 31, .p (.mv (.t 5)), none⟩,
 ⟨some 32, .p (.idxA (.t 30) (.t 31) 4), none⟩,
 ⟨some 33, .p (.fieldA (.t 32) 2), none⟩,
 ⟨some 34, .p (.load (.t 33) 1 false), none⟩,
 ⟨some 35, .p (.mv (.t 1)), none⟩,
 ⟨some 36, .p (.bin .neq (.t 34) (.t 35)), none⟩]
def c73_r10 : List Ins := [⟨some 4, .p (.mv (.c (.int .i64 (-1)))), none⟩]
def c73_r11 : List Ins := [⟨some 37, .p (.mv (.t 1)), none⟩,
 ⟨some 38, .p (.bin .add (.t 37) (.c (.int .i64 1))), none⟩,
 ⟨some 1, .p (.mv (.t 38)), none⟩]
def c73_r12 : List Ins := [⟨some 39, .p (.mv (.t 0)), none⟩,
 ⟨some 40, .p (.mv (.t 5)), none⟩,
 ⟨some 41, .p (.idxA (.t 39) (.t 40) 4), none⟩,
 ⟨some 42, .p (.fieldA (.t 41) 3), none⟩,
 ⟨some 43, .p (.load (.t 42) 1 false), none⟩,
 ⟨some 44, .p (.mv (.t 1)), none⟩,
 ⟨some 45, .p (.bin .rem (.t 44) (.c (.int .i64 3))), none⟩,
 ⟨some 46, .p (.bin .eql (.t 45) (.c (.int .i64 0))), none⟩,
 ⟨some 47, .p (.binB .neq (.t 43) (.t 46)), none⟩]
def c73_r13 : List Ins := [⟨some 4, .p (.mv (.c (.int .i64 (-1)))), none⟩]
def c73_r14 : List Ins := [⟨some 48, .p (.mv (.t 1)), none⟩,
 ⟨some 49, .p (.bin .add (.t 48) (.c (.int .i64 1))), none⟩,
 ⟨some 1, .p (.mv (.t 49)), none⟩]
def c73_r15 : List Ins := [⟨some 10, .p (.mv (.t 5)), none⟩,
 ⟨some 11, .p (.bin .add (.t 10) (.c (.int .i64 1))), none⟩,
 ⟨some 5, .p (.mv (.t 11)), none⟩]
def c73_l0 : IR := (.seq (.seq (.reg c73_r2) (.ite (.t 9) .skip (.exit 0))) (.seq (.block 1 (.seq (.seq (.reg c73_r3) (.ite (.t 18) (.seq (.reg c73_r4) .ret) .skip)) (.seq (.reg c73_r5) (.seq (.seq (.reg c73_r6) (.ite (.t 27) (.seq (.reg c73_r7) .ret) .skip)) (.seq (.reg c73_r8) (.seq (.seq (.reg c73_r9) (.ite (.t 36) (.seq (.reg c73_r10) .ret) .skip)) (.seq (.reg c73_r11) (.seq (.seq (.reg c73_r12) (.ite (.t 47) (.seq (.reg c73_r13) .ret) .skip)) (.reg c73_r14))))))))) (.reg c73_r15)))
def c73_r16 : List Ins := [⟨some 50, .p (.mv (.t 1)), none⟩,
 ⟨some 4, .p (.mv (.t 50)), none⟩]
def c73 : XFn := { np := 2, nt := 51, res := [.t 4], body := (.seq (.reg c73_r0) (.seq (.seq (.reg c73_r1) (.block 0 (.loop c73_l0))) (.seq (.reg c73_r16) .ret))) }
def K73 (C : CRel) : Prop := ∀ (a0 : List DLease) (a1 : Int) (r : Int), g73 a0 a1 = some r → C 73 ⟨[.lst 4 (a0.map eDLease), .int .i64 a1], []⟩ ⟨.int .i64 r, [], []⟩
theorem F73 {C : CRel}  (a0 : List DLease) (a1 : Int) (r : Int) (h0 : g73 a0 a1 = some r) : FnOK C c73 ⟨[.lst 4 (a0.map eDLease), .int .i64 a1], []⟩ ⟨.int .i64 r, [], []⟩ := by
  refine fn_ (Nat.le_of_ble_eq_true rfl) ?_
  refine seq_ ?_
  refine reg_ ?_
  refine st (mvc_ trivial ?_)
  refine oe_ ?_
  refine wk_ ⟨[(0, .lst 4 (a0.map eDLease)), (1, .int .i64 a1)], []⟩ (fg ⟨rfl, rfl, trivial⟩ trivial) ?_
  refine seq_ ?_
  refine seq_ ?_
  refine reg_ ?_
  refine st (mvc_ trivial ?_)
  refine oe_ ?_
  refine wk_ ⟨[(0, .lst 4 (a0.map eDLease)), (1, .int .i64 a1), (5, .int .i64 0)], []⟩ (fg ⟨rfl, rfl, rfl, trivial⟩ trivial) ?_
  refine block_ ?_
  obtain ⟨r51, e52, h0⟩ := bnd h0
  refine loop_ (R := (fun S => ∃ p35 : Int, .inl p35 = r51 ∧ S = ⟨[(1, .int .i64 p35)], []⟩)) (g73_l0 a0) (fun s S => match s with | (p16, p17) => S = ⟨[(0, .lst 4 (a0.map eDLease)), (1, .int .i64 p16), (5, .int .i64 p17)], []⟩) e52 ⟨[(0, .lst 4 (a0.map eDLease)), (1, .int .i64 a1), (5, .int .i64 0)], []⟩ (fg ⟨rfl, rfl, rfl, trivial⟩ trivial) rfl 0 (fun _ => rfl) ?_ ?_
  · rintro S _ hfg ⟨p35, rfl, rfl⟩
    refine wk_ ⟨[(1, .int .i64 p35)], []⟩ (fgl hfg ⟨rfl, trivial⟩ trivial) ?_
    refine seq_ ?_
    refine reg_ ?_
    refine st (mv_ rfl trivial ?_)
    refine st (mv_ rfl trivial ?_)
    refine oe_ ?_
    refine wk_ ⟨[(4, .int .i64 p35)], []⟩ (fg ⟨rfl, trivial⟩ trivial) ?_
    obtain rfl := Option.some.inj h0
    exact rt_ (ret_ rfl rfl rfl rfl rfl trivial)
  · rintro ⟨p16, p17⟩ o1 _ K1 rfl h1 hx1 hK1 hE1 hR1
    refine seq_ ?_
    refine seq_ ?_
    refine reg_ ?_
    refine st (mv_ rfl trivial ?_)
    refine st (mv_ rfl trivial ?_)
    refine st (c_ (clenL (e := eDLease) (l0 := a0) rfl rfl trivial) ?_)
    refine st (c_ (cp_ ⟨trivial, trivial, trivial⟩ rfl trivial) ?_)
    refine oe_ ?_
    refine wk_ ⟨[(0, .lst 4 (a0.map eDLease)), (1, .int .i64 p16), (5, .int .i64 p17), (9, .bool (decide (p17 < (a0.length : Int))))], []⟩ (fg ⟨rfl, rfl, rfl, rfl, trivial⟩ trivial) ?_
    refine ite_ (cb := (decide (p17 < (a0.length : Int)))) rfl (fun c36 => ?_) (fun c36 => ?_)
    · replace h1 := ip c36 h1
      refine sk_ ?_
      refine wk_ ⟨[(0, .lst 4 (a0.map eDLease)), (1, .int .i64 p16), (5, .int .i64 p17)], []⟩ (fg ⟨rfl, rfl, rfl, trivial⟩ trivial) ?_
      refine seq_ ?_
      refine block_ ?_
      refine seq_ ?_
      refine seq_ ?_
      refine reg_ ?_
      refine st (mv_ rfl trivial ?_)
      refine st (mv_ rfl trivial ?_)
      obtain ⟨y37, e38, h1⟩ := bnd h1
      refine st (c_ (cidxL (e := eDLease) (y := y37) rfl rfl trivial rfl rfl trivial e38) ?_)
      refine st (c_ (cp_ ⟨trivial, trivial⟩ rfl (Nat.le_of_ble_eq_true rfl)) ?_)
      refine st (c_ (cp_ ⟨trivial, trivial⟩ rfl (Nat.le_of_ble_eq_true rfl)) ?_)
      refine st (mv_ rfl trivial ?_)
      refine st (c_ (cp_ ⟨trivial, trivial, trivial⟩ rfl trivial) ?_)
      refine oe_ ?_
      refine wk_ ⟨[(0, .lst 4 (a0.map eDLease)), (1, .int .i64 p16), (5, .int .i64 p17), (18, .bool (y37.id != p16))], []⟩ (fg ⟨rfl, rfl, rfl, rfl, trivial⟩ trivial) ?_
      refine ite_ (cb := (y37.id != p16)) rfl (fun c39 => ?_) (fun c39 => ?_)
      · replace h1 := ip c39 h1
        refine seq_ ?_
        refine reg_ ?_
        refine st (mvc_ trivial ?_)
        refine oe_ ?_
        refine wk_ ⟨[(4, .int .i64 (-1))], []⟩ (fg ⟨rfl, trivial⟩ trivial) ?_
        obtain rfl := Option.some.inj h1
        obtain rfl := hx1 _ rfl
        obtain rfl := Option.some.inj h0
        exact rt_ (hR1 _ (ret_ rfl rfl rfl rfl rfl trivial))
      · replace h1 := inb c39 h1
        refine sk_ ?_
        refine wk_ ⟨[(0, .lst 4 (a0.map eDLease)), (1, .int .i64 p16), (5, .int .i64 p17)], []⟩ (fg ⟨rfl, rfl, rfl, trivial⟩ trivial) ?_
        refine seq_ ?_
        refine reg_ ?_
        refine st (mv_ rfl trivial ?_)
        refine st (c_ (cp_ ⟨trivial, trivial, trivial⟩ rfl trivial) ?_)
        refine st (mv_ rfl trivial ?_)
        refine oe_ ?_
        refine wk_ ⟨[(0, .lst 4 (a0.map eDLease)), (1, .int .i64 (IntKind.i64.wrap (p16 + 1))), (5, .int .i64 p17)], []⟩ (fg ⟨rfl, rfl, rfl, trivial⟩ trivial) ?_
        refine seq_ ?_
        refine seq_ ?_
        refine reg_ ?_
        refine st (mv_ rfl trivial ?_)
        refine st (mv_ rfl trivial ?_)
        obtain ⟨y40, e41, h1⟩ := bnd h1
        refine st (c_ (cidxL (e := eDLease) (y := y40) rfl rfl trivial rfl rfl trivial e41) ?_)
        refine st (c_ (cp_ ⟨trivial, trivial⟩ rfl (Nat.le_of_ble_eq_true rfl)) ?_)
        refine st (c_ (cp_ ⟨trivial, trivial⟩ rfl (Nat.le_of_ble_eq_true rfl)) ?_)
        refine st (mv_ rfl trivial ?_)
        refine st (c_ (cp_ ⟨trivial, trivial, trivial⟩ rfl trivial) ?_)
        refine oe_ ?_
        refine wk_ ⟨[(0, .lst 4 (a0.map eDLease)), (1, .int .i64 (IntKind.i64.wrap (p16 + 1))), (5, .int .i64 p17), (27, .bool (y40.until_ != (IntKind.i64.wrap (p16 + 1))))], []⟩ (fg ⟨rfl, rfl, rfl, rfl, trivial⟩ trivial) ?_
        refine ite_ (cb := (y40.until_ != (IntKind.i64.wrap (p16 + 1)))) rfl (fun c42 => ?_) (fun c42 => ?_)
        · replace h1 := ip c42 h1
          refine seq_ ?_
          refine reg_ ?_
          refine st (mvc_ trivial ?_)
          refine oe_ ?_
          refine wk_ ⟨[(4, .int .i64 (-1))], []⟩ (fg ⟨rfl, trivial⟩ trivial) ?_
          obtain rfl := Option.some.inj h1
          obtain rfl := hx1 _ rfl
          obtain rfl := Option.some.inj h0
          exact rt_ (hR1 _ (ret_ rfl rfl rfl rfl rfl trivial))
        · replace h1 := inb c42 h1
          refine sk_ ?_
          refine wk_ ⟨[(0, .lst 4 (a0.map eDLease)), (1, .int .i64 (IntKind.i64.wrap (p16 + 1))), (5, .int .i64 p17)], []⟩ (fg ⟨rfl, rfl, rfl, trivial⟩ trivial) ?_
          refine seq_ ?_
          refine reg_ ?_
          refine st (mv_ rfl trivial ?_)
          refine st (c_ (cp_ ⟨trivial, trivial, trivial⟩ rfl trivial) ?_)
          refine st (mv_ rfl trivial ?_)
          refine oe_ ?_
          refine wk_ ⟨[(0, .lst 4 (a0.map eDLease)), (1, .int .i64 (IntKind.i64.wrap ((IntKind.i64.wrap (p16 + 1)) + 1))), (5, .int .i64 p17)], []⟩ (fg ⟨rfl, rfl, rfl, trivial⟩ trivial) ?_
          refine seq_ ?_
          refine seq_ ?_
          refine reg_ ?_
          refine st (mv_ rfl trivial ?_)
          refine st (mv_ rfl trivial ?_)
          obtain ⟨y43, e44, h1⟩ := bnd h1
          refine st (c_ (cidxL (e := eDLease) (y := y43) rfl rfl trivial rfl rfl trivial e44) ?_)
          refine st (c_ (cp_ ⟨trivial, trivial⟩ rfl (Nat.le_of_ble_eq_true rfl)) ?_)
          refine st (c_ (cp_ ⟨trivial, trivial⟩ rfl (Nat.le_of_ble_eq_true rfl)) ?_)
          refine st (mv_ rfl trivial ?_)
          refine st (c_ (cp_ ⟨trivial, trivial, trivial⟩ rfl trivial) ?_)
          refine oe_ ?_
          refine wk_ ⟨[(0, .lst 4 (a0.map eDLease)), (1, .int .i64 (IntKind.i64.wrap ((IntKind.i64.wrap (p16 + 1)) + 1))), (5, .int .i64 p17), (36, .bool (y43.cap != (IntKind.i64.wrap ((IntKind.i64.wrap (p16 + 1)) + 1))))], []⟩ (fg ⟨rfl, rfl, rfl, rfl, trivial⟩ trivial) ?_
          refine ite_ (cb := (y43.cap != (IntKind.i64.wrap ((IntKind.i64.wrap (p16 + 1)) + 1)))) rfl (fun c45 => ?_) (fun c45 => ?_)
          · replace h1 := ip c45 h1
            refine seq_ ?_
            refine reg_ ?_
            refine st (mvc_ trivial ?_)
            refine oe_ ?_
            refine wk_ ⟨[(4, .int .i64 (-1))], []⟩ (fg ⟨rfl, trivial⟩ trivial) ?_
            obtain rfl := Option.some.inj h1
            obtain rfl := hx1 _ rfl
            obtain rfl := Option.some.inj h0
            exact rt_ (hR1 _ (ret_ rfl rfl rfl rfl rfl trivial))
          · replace h1 := inb c45 h1
            refine sk_ ?_
            refine wk_ ⟨[(0, .lst 4 (a0.map eDLease)), (1, .int .i64 (IntKind.i64.wrap ((IntKind.i64.wrap (p16 + 1)) + 1))), (5, .int .i64 p17)], []⟩ (fg ⟨rfl, rfl, rfl, trivial⟩ trivial) ?_
            refine seq_ ?_
            refine reg_ ?_
            refine st (mv_ rfl trivial ?_)
            refine st (c_ (cp_ ⟨trivial, trivial, trivial⟩ rfl trivial) ?_)
            refine st (mv_ rfl trivial ?_)
            refine oe_ ?_
            obtain ⟨v46, e47, h1⟩ := bl h1
            refine wk_ ⟨[(0, .lst 4 (a0.map eDLease)), (1, .int .i64 v46), (5, .int .i64 p17)], []⟩ (fg ⟨(by subst e47; rfl), (by subst e47; rfl), (by subst e47; rfl), trivial⟩ trivial) ?_
            refine seq_ ?_
            refine seq_ ?_
            refine reg_ ?_
            refine st (mv_ rfl trivial ?_)
            refine st (mv_ rfl trivial ?_)
            obtain ⟨y48, e49, h1⟩ := bnd h1
            refine st (c_ (cidxL (e := eDLease) (y := y48) rfl rfl trivial rfl rfl trivial e49) ?_)
            refine st (c_ (cp_ ⟨trivial, trivial⟩ rfl (Nat.le_of_ble_eq_true rfl)) ?_)
            refine st (c_ (cp_ ⟨trivial, trivial⟩ rfl (Nat.le_of_ble_eq_true rfl)) ?_)
            refine st (mv_ rfl trivial ?_)
            refine st (c_ (cp_ ⟨trivial, trivial, trivial⟩ rfl (by decide)) ?_)
            refine st (c_ (cp_ ⟨trivial, trivial, trivial⟩ rfl trivial) ?_)
            refine st (c_ (cp_ ⟨trivial, trivial, trivial⟩ rfl trivial) ?_)
            refine oe_ ?_
            refine wk_ ⟨[(0, .lst 4 (a0.map eDLease)), (1, .int .i64 v46), (5, .int .i64 p17), (47, .bool (!(y48.queued == (((v46).tmod 3) == 0))))], []⟩ (fg ⟨rfl, rfl, rfl, rfl, trivial⟩ trivial) ?_
            refine ite_ (cb := (!(y48.queued == (((v46).tmod 3) == 0)))) rfl (fun c50 => ?_) (fun c50 => ?_)
            · replace h1 := ip c50 h1
              refine seq_ ?_
              refine reg_ ?_
              refine st (mvc_ trivial ?_)
              refine oe_ ?_
              refine wk_ ⟨[(4, .int .i64 (-1))], []⟩ (fg ⟨rfl, trivial⟩ trivial) ?_
              obtain rfl := Option.some.inj h1
              obtain rfl := hx1 _ rfl
              obtain rfl := Option.some.inj h0
              exact rt_ (hR1 _ (ret_ rfl rfl rfl rfl rfl trivial))
            · replace h1 := inb c50 h1
              refine sk_ ?_
              refine wk_ ⟨[(0, .lst 4 (a0.map eDLease)), (1, .int .i64 v46), (5, .int .i64 p17)], []⟩ (fg ⟨rfl, rfl, rfl, trivial⟩ trivial) ?_
              refine reg_ ?_
              refine st (mv_ rfl trivial ?_)
              refine st (c_ (cp_ ⟨trivial, trivial, trivial⟩ rfl trivial) ?_)
              refine st (mv_ rfl trivial ?_)
              refine oe_ ?_
              refine bn_ ?_
              refine wk_ ⟨[(0, .lst 4 (a0.map eDLease)), (1, .int .i64 (IntKind.i64.wrap (v46 + 1))), (5, .int .i64 p17)], []⟩ (fg ⟨rfl, rfl, rfl, trivial⟩ trivial) ?_
              refine reg_ ?_
              refine st (mv_ rfl trivial ?_)
              refine st (c_ (cp_ ⟨trivial, trivial, trivial⟩ rfl trivial) ?_)
              refine st (mv_ rfl trivial ?_)
              refine oe_ ?_
              obtain rfl := Option.some.inj h1
              exact hK1 _ rfl _ ⟨[(0, .lst 4 (a0.map eDLease)), (1, .int .i64 (IntKind.i64.wrap (v46 + 1))), (5, .int .i64 (IntKind.i64.wrap (p17 + 1)))], []⟩ (fg ⟨rfl, rfl, rfl, trivial⟩ trivial) rfl
    · replace h1 := inb c36 h1
      obtain rfl := Option.some.inj h1
      obtain rfl := hx1 _ rfl
      refine exQ rfl ?_
      exact hE1 _ ⟨[(1, .int .i64 p16)], []⟩ (fg ⟨rfl, trivial⟩ trivial) ⟨_, rfl, rfl⟩

/- loop.example/g00149/laws.heldTable -/
def c27_r0 : List Ins := [⟨some 2, .box (.t 0), none⟩,
 ⟨some 4, .p (.mv (.c (.int .i64 0))), none⟩]
def c27_r1 : List Ins := [⟨some 5, .p (.fieldA (.t 2) 2), none⟩,
 ⟨some 6, .p (.load (.t 5) 1 false), none⟩,
 ⟨some 7, .p (.mv (.t 1)), none⟩,
 ⟨some 8, .call 73 [(.t 6), (.t 7)], none⟩,
 ⟨some 1, .p (.mv (.t 8)), none⟩]
def c27_r2 : List Ins := [⟨some 9, .p (.mv (.t 1)), none⟩,
 ⟨some 10, .p (.bin .lss (.t 9) (.c (.int .i64 0))), none⟩]
def c27_r3 : List Ins := [⟨some 4, .p (.mv (.c (.int .i64 (-1)))), none⟩]
def c27_r4 : List Ins := [⟨some 11, .p (.mv (.t 1)), none⟩,
 ⟨some 4, .p (.mv (.t 11)), none⟩]
def c27 : XFn := { np := 2, nt := 12, res := [.t 4], body := (.seq (.reg c27_r0) (.seq (.reg c27_r1) (.seq (.seq (.reg c27_r2) (.ite (.t 10) (.seq (.reg c27_r3) .ret) .skip)) (.seq (.reg c27_r4) .ret)))) }
def K27 (C : CRel) : Prop := ∀ (a0 : DTable) (a1 : Int) (r : Int), g27 a0 a1 = some r → C 27 ⟨[.agg [.int .i64 a0.clock, .int .i64 a0.next, .lst 4 (a0.list_.map eDLease)], .int .i64 a1], []⟩ ⟨.int .i64 r, [], []⟩
theorem F27 {C : CRel} (H73 : K73 C) (a0 : DTable) (a1 : Int) (r : Int) (h0 : g27 a0 a1 = some r) : FnOK C c27 ⟨[.agg [.int .i64 a0.clock, .int .i64 a0.next, .lst 4 (a0.list_.map eDLease)], .int .i64 a1], []⟩ ⟨.int .i64 r, [], []⟩ := by
  refine fn_ (Nat.le_of_ble_eq_true rfl) ?_
  refine seq_ ?_
  refine reg_ ?_
  refine st (box_ rfl trivial rfl ?_)
  refine st (mvc_ trivial ?_)
  refine oe_ ?_
  refine wk_ ⟨[(1, .int .i64 a1), (2, .ptr 128 0)], [(128, [.int .i64 a0.clock, .int .i64 a0.next, .lst 4 (a0.list_.map eDLease)])]⟩ (fg ⟨rfl, rfl, trivial⟩ ⟨rfl, trivial⟩) ?_
  refine seq_ ?_
  refine reg_ ?_
  refine st (c_ (cp_ ⟨trivial, trivial⟩ rfl trivial) ?_)
  refine st (c_ (cp_ ⟨trivial, trivial⟩ rfl (Nat.le_of_ble_eq_true rfl)) ?_)
  refine st (mv_ rfl trivial ?_)
  obtain ⟨r1, e2, h0⟩ := bnd h0
  refine st (call0_ (r := .int .i64 r1) false (H73 a0.list_ a1 r1 e2) ⟨trivial, trivial, trivial⟩ rfl rfl (fun _ => rfl) ?_)
  refine st (mv_ rfl trivial ?_)
  refine oe_ ?_
  refine wk_ ⟨[(1, .int .i64 r1)], []⟩ (fg ⟨rfl, trivial⟩ trivial) ?_
  refine seq_ ?_
  refine seq_ ?_
  refine reg_ ?_
  refine st (mv_ rfl trivial ?_)
  refine st (c_ (cp_ ⟨trivial, trivial, trivial⟩ rfl trivial) ?_)
  refine oe_ ?_
  refine wk_ ⟨[(1, .int .i64 r1), (10, .bool (decide (r1 < 0)))], []⟩ (fg ⟨rfl, rfl, trivial⟩ trivial) ?_
  refine ite_ (cb := (decide (r1 < 0))) rfl (fun c3 => ?_) (fun c3 => ?_)
  · replace h0 := ip c3 h0
    refine seq_ ?_
    refine reg_ ?_
    refine st (mvc_ trivial ?_)
    refine oe_ ?_
    refine wk_ ⟨[(4, .int .i64 (-1))], []⟩ (fg ⟨rfl, trivial⟩ trivial) ?_
    obtain rfl := Option.some.inj h0
    exact rt_ (ret_ rfl rfl rfl rfl rfl trivial)
  · replace h0 := inb c3 h0
    refine sk_ ?_
    refine wk_ ⟨[(1, .int .i64 r1)], []⟩ (fg ⟨rfl, trivial⟩ trivial) ?_
    refine seq_ ?_
    refine reg_ ?_
    refine st (mv_ rfl trivial ?_)
    refine st (mv_ rfl trivial ?_)
    refine oe_ ?_
    refine wk_ ⟨[(4, .int .i64 r1)], []⟩ (fg ⟨rfl, trivial⟩ trivial) ?_
    obtain rfl := Option.some.inj h0
    exact rt_ (ret_ rfl rfl rfl rfl rfl trivial)

/- loop.example/g00149/laws.FnExactGrant -/
def c6_r0 : List Ins := [⟨some 3, .box (.t 0), none⟩,
 ⟨some 6, .p (.mv (.c (.bool false))), none⟩]
def c6_r1 : List Ins := [⟨some 7, .p (.mv (.c (.int .i64 1048576))), none⟩]
def c6_r2 : List Ins := [⟨some 21, .p (.load (.t 3) 3 true), none⟩,
 ⟨some 22, .p (.mv (.t 7)), none⟩,
 ⟨some 23, .call 17 [(.t 21), (.t 22)], none⟩,
 ⟨some 7, .p (.mv (.t 23)), none⟩]
def c6_r3 : List Ins := [⟨some 24, .p (.mv (.t 7)), none⟩,
 ⟨some 25, .p (.bin .lss (.t 24) (.c (.int .i64 0))), none⟩]
def c6_r4 : List Ins := [⟨some 6, .p (.mv (.c (.bool true))), none⟩]
def c6_r5 : List Ins := [⟨some 27, .p (.load (.t 3) 3 true), none⟩,
 ⟨some 28, .call 19 [(.t 27)], none⟩,
 ⟨some 29, .p (.mv (.t 1)), none⟩,
 ⟨some 30, .p (.mv (.t 2)), none⟩,
 ⟨some 31, .call 24 [(.t 28), (.t 29), (.t 30)], none⟩,
 ⟨some 26, .p (.mv (.t 31)), none⟩,
 ⟨some 32, .p (.ext (.t 26) 0), none⟩,
 ⟨some 33, .p (.ext (.t 26) 1), none⟩,
 ⟨some 34, .p (.ext (.t 26) 2), none⟩,
 ⟨some 8, .alloc [(.int .i64 0), (.int .i64 0), (.own 515 0 4 [])], none⟩,
 ⟨none, .store (.t 8) (.t 32) 3, none⟩,
 ⟨some 9, .p (.mv (.t 33)), none⟩,
 ⟨some 10, .p (.mv (.t 34)), none⟩]
def c6_r6 : List Ins := [⟨some 35, .p (.load (.t 3) 3 true), none⟩,
 ⟨some 36, .call 19 [(.t 35)], none⟩,
 ⟨some 11, .alloc [(.int .i64 0), (.int .i64 0), (.own 707 0 4 [])], none⟩,
 ⟨none, .store (.t 11) (.t 36) 3, none⟩]
def c6_r7 : List Ins := [⟨some 38, .p (.load (.t 11) 3 true), none⟩,
 ⟨some 39, .p (.mv (.t 1)), none⟩,
 ⟨some 40, .p (.mv (.t 2)), none⟩,
 ⟨some 41, .call 25 [(.t 38), (.t 39), (.t 40)], none⟩,
 ⟨some 37, .p (.mv (.t 41)), none⟩,
 ⟨some 42, .p (.ext (.t 37) 0), none⟩,
 ⟨some 43, .p (.ext (.t 37) 1), none⟩,
 ⟨some 44, .p (.ext (.t 37) 2), none⟩,
 ⟨some 12, .alloc [(.int .i64 0), (.int .i64 0), (.own 771 0 4 [])], none⟩,
 ⟨none, .store (.t 12) (.t 42) 3, none⟩,
 ⟨some 13, .p (.mv (.t 43)), none⟩,
 ⟨some 14, .p (.mv (.t 44)), none⟩]
def c6_r8 : List Ins := [⟨some 45, .p (.load (.t 12) 3 true), none⟩,
 ⟨some 46, .p (.load (.t 8) 3 true), none⟩,
 ⟨some 47, .call 21 [(.t 45), (.t 46)], none⟩,
 ⟨some 48, .p (.un .not (.t 47)), none⟩,
 ⟨some 49, .p (.mv (.t 48)), none⟩,
 ⟨some 50, .p (.mv (.t 13)), some (49, false)⟩,
 ⟨some 51, .p (.mv (.t 9)), some (49, false)⟩,
 ⟨some 52, .p (.bin .neq (.t 50) (.t 51)), some (49, false)⟩,
 ⟨some 53, .pick (.t 49) (.c (.bool true)) (.t 52), none⟩,
 ⟨some 54, .p (.mv (.t 53)), none⟩,
 ⟨some 55, .p (.mv (.t 14)), some (54, false)⟩,
 ⟨some 56, .p (.mv (.t 10)), some (54, false)⟩,
 ⟨some 57, .p (.bin .neq (.t 55) (.t 56)), some (54, false)⟩,
 ⟨some 58, .pick (.t 54) (.c (.bool true)) (.t 57), none⟩]
def c6_r9 : List Ins := [⟨some 6, .p (.mv (.c (.bool false))), none⟩]
def c6_r10 : DP := (.take ⟨some 59, .p (.load (.t 11) 3 true), none⟩
 (.take ⟨some 60, .p (.load (.t 3) 3 true), none⟩
 (.alt [⟨some 59, .p (.load (.t 11) 3 true), none⟩] ⟨some 61, .call 19 [(.t 60)], none⟩
 (.alt [] ⟨some 62, .call 21 [(.t 59), (.t 61)], none⟩
 (.take ⟨some 63, .p (.un .not (.t 62)), none⟩
 .fin)
 .stop)
 .stop)))
def c6_r11 : List Ins := [⟨some 6, .p (.mv (.c (.bool false))), none⟩]
def c6_r12 : List Ins := [⟨some 15, .p (.mv (.c (.int .i64 1))), none⟩]
def c6_r13 : List Ins := [⟨some 64, .p (.load (.t 11) 3 true), none⟩,
 ⟨some 65, .p (.mv (.t 15)), none⟩,
 ⟨some 66, .call 26 [(.t 64), (.t 65)], none⟩,
 ⟨some 15, .p (.mv (.t 66)), none⟩]
def c6_r14 : List Ins := [⟨some 67, .p (.mv (.t 15)), none⟩,
 ⟨some 68, .p (.bin .lss (.t 67) (.c (.int .i64 0))), none⟩,
 ⟨some 69, .p (.mv (.t 68)), none⟩,
 ⟨some 70, .p (.load (.t 12) 3 true), some (69, false)⟩,
 ⟨some 71, .p (.load (.t 8) 3 true), some (69, false)⟩,
 ⟨some 72, .call 21 [(.t 70), (.t 71)], some (69, false)⟩,
 ⟨some 73, .p (.un .not (.t 72)), some (69, false)⟩,
 ⟨some 74, .pick (.t 69) (.c (.bool true)) (.t 73), none⟩,
 ⟨some 75, .p (.mv (.t 74)), none⟩,
 ⟨some 76, .p (.mv (.t 13)), some (75, false)⟩,
 ⟨some 77, .p (.mv (.t 9)), some (75, false)⟩,
 ⟨some 78, .p (.bin .neq (.t 76) (.t 77)), some (75, false)⟩,
 ⟨some 79, .pick (.t 75) (.c (.bool true)) (.t 78), none⟩,
 ⟨some 80, .p (.mv (.t 79)), none⟩,
 ⟨some 81, .p (.mv (.t 14)), some (80, false)⟩,
 ⟨some 82, .p (.mv (.t 10)), some (80, false)⟩,
 ⟨some 83, .p (.bin .neq (.t 81) (.t 82)), some (80, false)⟩,
 ⟨some 84, .pick (.t 80) (.c (.bool true)) (.t 83), none⟩]
def c6_r15 : List Ins := [⟨some 6, .p (.mv (.c (.bool false))), none⟩]
def c6_r16 : List Ins := [⟨some 16, .p (.mv (.c (.int .i64 1))), none⟩]
def c6_r17 : List Ins := [⟨some 85, .p (.load (.t 12) 3 true), none⟩,
 ⟨some 86, .p (.mv (.t 16)), none⟩,
 ⟨some 87, .call 26 [(.t 85), (.t 86)], none⟩,
 ⟨some 16, .p (.mv (.t 87)), none⟩]
def c6_r18 : List Ins := [⟨some 17, .p (.mv (.c (.int .i64 1))), none⟩]
def c6_r19 : List Ins := [⟨some 88, .p (.load (.t 12) 3 true), none⟩,
 ⟨some 89, .p (.mv (.t 17)), none⟩,
 ⟨some 90, .call 27 [(.t 88), (.t 89)], none⟩,
 ⟨some 17, .p (.mv (.t 90)), none⟩]
def c6_r20 : List Ins := [⟨some 91, .p (.mv (.t 17)), none⟩,
 ⟨some 92, .p (.bin .lss (.t 91) (.c (.int .i64 0))), none⟩]
def c6_r21 : List Ins := [⟨some 6, .p (.mv (.c (.bool false))), none⟩]
def c6_r22 : List Ins := [⟨some 93, .p (.mv (.t 17)), none⟩,
 ⟨some 94, .p (.mv (.t 16)), none⟩,
 ⟨some 95, .p (.bin .neq (.t 93) (.t 94)), none⟩]
def c6_r23 : List Ins := [⟨some 6, .p (.mv (.c (.bool false))), none⟩]
def c6_r24 : List Ins := [⟨some 97, .p (.load (.t 3) 3 true), none⟩,
 ⟨some 98, .call 19 [(.t 97)], none⟩,
 ⟨some 99, .p (.mv (.t 1)), none⟩,
 ⟨some 100, .p (.mv (.t 2)), none⟩,
 ⟨some 101, .call 25 [(.t 98), (.t 99), (.t 100)], none⟩,
 ⟨some 96, .p (.mv (.t 101)), none⟩,
 ⟨some 102, .p (.ext (.t 96) 0), none⟩,
 ⟨some 103, .p (.ext (.t 96) 1), none⟩,
 ⟨some 104, .p (.ext (.t 96) 2), none⟩,
 ⟨some 18, .alloc [(.int .i64 0), (.int .i64 0), (.own 1155 0 4 [])], none⟩,
 ⟨none, .store (.t 18) (.t 102) 3, none⟩,
 ⟨some 19, .p (.mv (.t 103)), none⟩,
 ⟨some 20, .p (.mv (.t 104)), none⟩]
def c6_r25 : List Ins := [⟨some 105, .p (.load (.t 18) 3 true), none⟩,
 ⟨some 106, .p (.load (.t 8) 3 true), none⟩,
 ⟨some 107, .call 21 [(.t 105), (.t 106)], none⟩,
 ⟨some 108, .p (.un .not (.t 107)), none⟩,
 ⟨some 109, .p (.mv (.t 108)), none⟩,
 ⟨some 110, .p (.mv (.t 19)), some (109, false)⟩,
 ⟨some 111, .p (.mv (.t 9)), some (109, false)⟩,
 ⟨some 112, .p (.bin .neq (.t 110) (.t 111)), some (109, false)⟩,
 ⟨some 113, .pick (.t 109) (.c (.bool true)) (.t 112), none⟩,
 ⟨some 114, .p (.mv (.t 113)), none⟩,
 ⟨some 115, .p (.mv (.t 20)), some (114, false)⟩,
 ⟨some 116, .p (.mv (.t 10)), some (114, false)⟩,
 ⟨some 117, .p (.bin .neq (.t 115) (.t 116)), some (114, false)⟩,
 ⟨some 118, .pick (.t 114) (.c (.bool true)) (.t 117), none⟩]
def c6_r26 : List Ins := [⟨some 6, .p (.mv (.c (.bool false))), none⟩]
def c6_r27 : List Ins := [⟨some 17, .p (.mv (.c (.int .i64 1))), none⟩]
def c6_r28 : List Ins := [⟨some 119, .p (.load (.t 12) 3 true), none⟩,
 ⟨some 120, .p (.mv (.t 17)), none⟩,
 ⟨some 121, .call 27 [(.t 119), (.t 120)], none⟩,
 ⟨some 17, .p (.mv (.t 121)), none⟩]
def c6_r29 : List Ins := [⟨some 122, .p (.mv (.t 17)), none⟩,
 ⟨some 123, .p (.bin .lss (.t 122) (.c (.int .i64 0))), none⟩]
def c6_r30 : List Ins := [⟨some 6, .p (.mv (.c (.bool false))), none⟩]
def c6_r31 : List Ins := [⟨some 124, .p (.mv (.t 17)), none⟩,
 ⟨some 125, .p (.mv (.t 16)), none⟩,
 ⟨some 126, .p (.bin .neq (.t 124) (.t 125)), none⟩]
def c6_r32 : List Ins := [⟨some 6, .p (.mv (.c (.bool false))), none⟩]
def c6_r33 : List Ins := [⟨some 6, .p (.mv (.c (.bool true))), none⟩]
def c6 : XFn := { np := 3, nt := 127, res := [.t 6], body := (.seq (.reg c6_r0) (.seq (.reg c6_r1) (.seq (.reg c6_r2) (.seq (.seq (.reg c6_r3) (.ite (.t 25) (.seq (.reg c6_r4) .ret) .skip)) (.seq (.reg c6_r5) (.seq (.reg c6_r6) (.seq (.reg c6_r7) (.seq (.seq (.reg c6_r8) (.ite (.t 58) (.seq (.reg c6_r9) .ret) .skip)) (.seq (.seq (.draw c6_r10) (.ite (.t 63) (.seq (.reg c6_r11) .ret) .skip)) (.seq (.reg c6_r12) (.seq (.reg c6_r13) (.seq (.seq (.reg c6_r14) (.ite (.t 84) (.seq (.reg c6_r15) .ret) .skip)) (.seq (.reg c6_r16) (.seq (.reg c6_r17) (.seq (.reg c6_r18) (.seq (.reg c6_r19) (.seq (.seq (.reg c6_r20) (.ite (.t 92) (.seq (.reg c6_r21) .ret) .skip)) (.seq (.seq (.reg c6_r22) (.ite (.t 95) (.seq (.reg c6_r23) .ret) .skip)) (.seq (.reg c6_r24) (.seq (.seq (.reg c6_r25) (.ite (.t 118) (.seq (.reg c6_r26) .ret) .skip)) (.seq (.reg c6_r27) (.seq (.reg c6_r28) (.seq (.seq (.reg c6_r29) (.ite (.t 123) (.seq (.reg c6_r30) .ret) .skip)) (.seq (.seq (.reg c6_r31) (.ite (.t 126) (.seq (.reg c6_r32) .ret) .skip)) (.seq (.reg c6_r33) .ret))))))))))))))))))))))))) }
def K6 (C : CRel) : Prop := ∀ (a0 : DTable) (a1 : Int) (a2 : Int) (r : Bool), g6 a0 a1 a2 = some r → C 6 ⟨[.agg [.int .i64 a0.clock, .int .i64 a0.next, .lst 4 (a0.list_.map eDLease)], .int .i64 a1, .int .i64 a2], []⟩ ⟨.bool r, [], []⟩
theorem F6 {C : CRel} (H17 : K17 C) (H19 : K19 C) (H21 : K21 C) (H24 : K24 C) (H25 : K25 C) (H26 : K26 C) (H27 : K27 C) (a0 : DTable) (a1 : Int) (a2 : Int) (r : Bool) (h0 : g6 a0 a1 a2 = some r) : FnOK C c6 ⟨[.agg [.int .i64 a0.clock, .int .i64 a0.next, .lst 4 (a0.list_.map eDLease)], .int .i64 a1, .int .i64 a2], []⟩ ⟨.bool r, [], []⟩ := by
  refine fn_ (Nat.le_of_ble_eq_true rfl) ?_
  refine seq_ ?_
  refine reg_ ?_
  refine st (box_ rfl trivial rfl ?_)
  refine st (mvc_ trivial ?_)
  refine oe_ ?_
  refine wk_ ⟨[(1, .int .i64 a1), (2, .int .i64 a2), (3, .ptr 192 0)], [(192, [.int .i64 a0.clock, .int .i64 a0.next, .lst 4 (a0.list_.map eDLease)])]⟩ (fg ⟨rfl, rfl, rfl, trivial⟩ ⟨rfl, trivial⟩) ?_
  refine seq_ ?_
  refine reg_ ?_
  refine st (mvc_ trivial ?_)
  refine oe_ ?_
  refine wk_ ⟨[(1, .int .i64 a1), (2, .int .i64 a2), (3, .ptr 192 0), (7, .int .i64 1048576)], [(192, [.int .i64 a0.clock, .int .i64 a0.next, .lst 4 (a0.list_.map eDLease)])]⟩ (fg ⟨rfl, rfl, rfl, rfl, trivial⟩ ⟨rfl, trivial⟩) ?_
  refine seq_ ?_
  refine reg_ ?_
  refine st (c_ (v := .agg [.int .i64 a0.clock, .int .i64 a0.next, .lst 4 (a0.list_.map eDLease)]) (cp_ ⟨trivial, trivial⟩ rfl (Nat.le_of_ble_eq_true rfl)) ?_)
  refine st (mv_ rfl trivial ?_)
  obtain ⟨r1, e2, h0⟩ := bnd h0
  refine st (call0_ (r := .int .i64 r1) false (H17 a0 1048576 r1 e2) ⟨trivial, trivial, trivial⟩ rfl rfl (fun _ => rfl) ?_)
  refine st (mv_ rfl trivial ?_)
  refine oe_ ?_
  refine wk_ ⟨[(1, .int .i64 a1), (2, .int .i64 a2), (3, .ptr 192 0), (7, .int .i64 r1)], [(192, [.int .i64 a0.clock, .int .i64 a0.next, .lst 4 (a0.list_.map eDLease)])]⟩ (fg ⟨rfl, rfl, rfl, rfl, trivial⟩ ⟨rfl, trivial⟩) ?_
  refine seq_ ?_
  refine seq_ ?_
  refine reg_ ?_
  refine st (mv_ rfl trivial ?_)
  refine st (c_ (cp_ ⟨trivial, trivial, trivial⟩ rfl trivial) ?_)
  refine oe_ ?_
  refine wk_ ⟨[(1, .int .i64 a1), (2, .int .i64 a2), (3, .ptr 192 0), (25, .bool (decide (r1 < 0)))], [(192, [.int .i64 a0.clock, .int .i64 a0.next, .lst 4 (a0.list_.map eDLease)])]⟩ (fg ⟨rfl, rfl, rfl, rfl, trivial⟩ ⟨rfl, trivial⟩) ?_
  refine ite_ (cb := (decide (r1 < 0))) rfl (fun c3 => ?_) (fun c3 => ?_)
  · replace h0 := ip c3 h0
    refine seq_ ?_
    refine reg_ ?_
    refine st (mvc_ trivial ?_)
    refine oe_ ?_
    refine wk_ ⟨[(6, .bool true)], []⟩ (fg ⟨rfl, trivial⟩ trivial) ?_
    obtain rfl := Option.some.inj h0
    exact rt_ (ret_ rfl rfl rfl rfl rfl trivial)
  · replace h0 := inb c3 h0
    refine sk_ ?_
    refine wk_ ⟨[(1, .int .i64 a1), (2, .int .i64 a2), (3, .ptr 192 0)], [(192, [.int .i64 a0.clock, .int .i64 a0.next, .lst 4 (a0.list_.map eDLease)])]⟩ (fg ⟨rfl, rfl, rfl, trivial⟩ ⟨rfl, trivial⟩) ?_
    refine seq_ ?_
    refine reg_ ?_
    refine st (c_ (v := .agg [.int .i64 a0.clock, .int .i64 a0.next, .lst 4 (a0.list_.map eDLease)]) (cp_ ⟨trivial, trivial⟩ rfl (Nat.le_of_ble_eq_true rfl)) ?_)
    obtain ⟨r4, e5, h0⟩ := bnd h0
    refine st (call0_ (r := .agg [.int .i64 r4.clock, .int .i64 r4.next, .own 0 0 4 (r4.list_.map eDLease)]) false (H19 a0 r4 e5) ⟨trivial, trivial⟩ rfl rfl (fun _ => (and_ rfl (and_ rfl (and_ (fl1 (fun _ => rfl)) rfl)))) ?_)
    refine st (mv_ rfl trivial ?_)
    refine st (mv_ rfl trivial ?_)
    obtain ⟨r6, e7, h0⟩ := bnd h0
    refine st (call0_ (r := .tup [.agg [.int .i64 r6.1.clock, .int .i64 r6.1.next, .lst 4 (r6.1.list_.map eDLease)], .int .i64 r6.2.1, .int .i64 r6.2.2]) true (H24 r4 a1 a2 r6 e7) ⟨trivial, trivial, trivial, trivial⟩ rfl rfl (fun h => nomatch h) ?_)
    refine st (mv_ rfl trivial ?_)
    refine st (c_ (cp_ ⟨trivial, trivial⟩ rfl trivial) ?_)
    refine st (c_ (cp_ ⟨trivial, trivial⟩ rfl trivial) ?_)
    refine st (c_ (cp_ ⟨trivial, trivial⟩ rfl trivial) ?_)
    refine st (alloc_ ?_)
    refine st (stp_ rfl rfl trivial rfl rfl rfl (Nat.le_of_ble_eq_true rfl) ?_)
    refine st (mv_ rfl trivial ?_)
    refine st (mv_ rfl trivial ?_)
    refine oe_ ?_
    refine wk_ ⟨[(1, .int .i64 a1), (2, .int .i64 a2), (3, .ptr 192 0), (8, .ptr 512 0), (9, .int .i64 r6.2.1), (10, .int .i64 r6.2.2)], [(192, [.int .i64 a0.clock, .int .i64 a0.next, .lst 4 (a0.list_.map eDLease)]), (512, [.int .i64 r6.1.clock, .int .i64 r6.1.next, .lst 4 (r6.1.list_.map eDLease)])]⟩ (fg ⟨rfl, rfl, rfl, rfl, rfl, rfl, trivial⟩ ⟨rfl, rfl, trivial⟩) ?_
    refine seq_ ?_
    refine reg_ ?_
    refine st (c_ (v := .agg [.int .i64 a0.clock, .int .i64 a0.next, .lst 4 (a0.list_.map eDLease)]) (cp_ ⟨trivial, trivial⟩ rfl (Nat.le_of_ble_eq_true rfl)) ?_)
    obtain ⟨r8, e9, h0⟩ := bnd h0
    refine st (call0_ (r := .agg [.int .i64 r8.clock, .int .i64 r8.next, .own 0 0 4 (r8.list_.map eDLease)]) false (H19 a0 r8 e9) ⟨trivial, trivial⟩ rfl rfl (fun _ => (and_ rfl (and_ rfl (and_ (fl1 (fun _ => rfl)) rfl)))) ?_)
    refine st (alloc_ ?_)
    refine st (stp_ rfl rfl trivial rfl rfl rfl (Nat.le_of_ble_eq_true rfl) ?_)
    refine oe_ ?_
    refine wk_ ⟨[(1, .int .i64 a1), (2, .int .i64 a2), (3, .ptr 192 0), (8, .ptr 512 0), (9, .int .i64 r6.2.1), (10, .int .i64 r6.2.2), (11, .ptr 704 0)], [(192, [.int .i64 a0.clock, .int .i64 a0.next, .lst 4 (a0.list_.map eDLease)]), (512, [.int .i64 r6.1.clock, .int .i64 r6.1.next, .lst 4 (r6.1.list_.map eDLease)]), (704, [.int .i64 r8.clock, .int .i64 r8.next, .own 2304 0 4 (r8.list_.map eDLease)])]⟩ (fg ⟨rfl, rfl, rfl, rfl, rfl, rfl, rfl, trivial⟩ ⟨rfl, rfl, rfl, trivial⟩) ?_
    refine seq_ ?_
    refine reg_ ?_
    refine st (c_ (v := .agg [.int .i64 r8.clock, .int .i64 r8.next, .own 2304 0 4 (r8.list_.map eDLease)]) (cp_ ⟨trivial, trivial⟩ rfl (Nat.le_of_ble_eq_true rfl)) ?_)
    refine st (mv_ rfl trivial ?_)
    refine st (mv_ rfl trivial ?_)
    obtain ⟨r10, e11, h0⟩ := bnd h0
    refine st (call0_ (r := .tup [.agg [.int .i64 r10.1.clock, .int .i64 r10.1.next, .own 0 0 4 (r10.1.list_.map eDLease)], .int .i64 r10.2.1, .int .i64 r10.2.2]) false (H25 r8 a1 a2 r10 e11) ⟨trivial, trivial, trivial, trivial⟩ rfl rfl (fun _ => (and_ rfl (and_ rfl (and_ (fl1 (fun _ => rfl)) (and_ rfl (and_ rfl rfl)))))) ?_)
    refine st (mv_ rfl trivial ?_)
    refine st (c_ (cp_ ⟨trivial, trivial⟩ rfl trivial) ?_)
    refine st (c_ (cp_ ⟨trivial, trivial⟩ rfl trivial) ?_)
    refine st (c_ (cp_ ⟨trivial, trivial⟩ rfl trivial) ?_)
    refine st (alloc_ ?_)
    refine st (stp_ rfl rfl trivial rfl rfl rfl (Nat.le_of_ble_eq_true rfl) ?_)
    refine st (mv_ rfl trivial ?_)
    refine st (mv_ rfl trivial ?_)
    refine oe_ ?_
    refine wk_ ⟨[(1, .int .i64 a1), (2, .int .i64 a2), (3, .ptr 192 0), (8, .ptr 512 0), (9, .int .i64 r6.2.1), (10, .int .i64 r6.2.2), (11, .ptr 704 0), (12, .ptr 768 0), (13, .int .i64 r10.2.1), (14, .int .i64 r10.2.2)], [(192, [.int .i64 a0.clock, .int .i64 a0.next, .lst 4 (a0.list_.map eDLease)]), (512, [.int .i64 r6.1.clock, .int .i64 r6.1.next, .lst 4 (r6.1.list_.map eDLease)]), (704, [.int .i64 r8.clock, .int .i64 r8.next, .own 2304 0 4 (r8.list_.map eDLease)]), (768, [.int .i64 r10.1.clock, .int .i64 r10.1.next, .own 2624 0 4 (r10.1.list_.map eDLease)])]⟩ (fg ⟨rfl, rfl, rfl, rfl, rfl, rfl, rfl, rfl, rfl, rfl, trivial⟩ ⟨rfl, rfl, rfl, rfl, trivial⟩) ?_
    refine seq_ ?_
    refine seq_ ?_
    refine reg_ ?_
    refine st (c_ (v := .agg [.int .i64 r10.1.clock, .int .i64 r10.1.next, .own 2624 0 4 (r10.1.list_.map eDLease)]) (cp_ ⟨trivial, trivial⟩ rfl (Nat.le_of_ble_eq_true rfl)) ?_)
    refine st (c_ (v := .agg [.int .i64 r6.1.clock, .int .i64 r6.1.next, .lst 4 (r6.1.list_.map eDLease)]) (cp_ ⟨trivial, trivial⟩ rfl (Nat.le_of_ble_eq_true rfl)) ?_)
    obtain ⟨r12, e13, h0⟩ := bnd h0
    refine st (call0_ (r := .bool r12) false (H21 r10.1 r6.1 r12 e13) ⟨trivial, trivial, trivial⟩ rfl rfl (fun _ => rfl) ?_)
    refine st (c_ (cp_ ⟨trivial, trivial⟩ rfl trivial) ?_)
    refine st (mv_ rfl trivial ?_)
    refine st (pg_ (u := .int .i64 r10.2.1) rfl (fun hg => (cmv (v := .int .i64 r10.2.1) rfl trivial)) ?_)
    refine st (pg_ (u := .int .i64 r6.2.1) rfl (fun hg => (cmv (v := .int .i64 r6.2.1) rfl trivial)) ?_)
    refine st (pg_ (u := .bool (r10.2.1 != r6.2.1)) rfl (fun hg => (cp_ ⟨(fun _ => hg), (fun _ => hg), trivial⟩ rfl trivial)) ?_)
    refine st (pick_ rfl rfl rfl trivial (fun h => eqf h) rfl ?_)
    refine st (mv_ rfl trivial ?_)
    refine st (pg_ (u := .int .i64 r10.2.2) rfl (fun hg => (cmv (v := .int .i64 r10.2.2) rfl trivial)) ?_)
    refine st (pg_ (u := .int .i64 r6.2.2) rfl (fun hg => (cmv (v := .int .i64 r6.2.2) rfl trivial)) ?_)
    refine st (pg_ (u := .bool (r10.2.2 != r6.2.2)) rfl (fun hg => (cp_ ⟨(fun _ => hg), (fun _ => hg), trivial⟩ rfl trivial)) ?_)
    refine st (pick_ rfl rfl rfl trivial (fun h => eqf h) rfl ?_)
    refine oe_ ?_
    obtain ⟨v14, e15, h0⟩ := bl h0
    refine wk_ ⟨[(1, .int .i64 a1), (2, .int .i64 a2), (3, .ptr 192 0), (8, .ptr 512 0), (9, .int .i64 r6.2.1), (10, .int .i64 r6.2.2), (11, .ptr 704 0), (12, .ptr 768 0), (13, .int .i64 r10.2.1), (14, .int .i64 r10.2.2), (58, .bool v14)], [(192, [.int .i64 a0.clock, .int .i64 a0.next, .lst 4 (a0.list_.map eDLease)]), (512, [.int .i64 r6.1.clock, .int .i64 r6.1.next, .lst 4 (r6.1.list_.map eDLease)]), (704, [.int .i64 r8.clock, .int .i64 r8.next, .own 2304 0 4 (r8.list_.map eDLease)]), (768, [.int .i64 r10.1.clock, .int .i64 r10.1.next, .own 2624 0 4 (r10.1.list_.map eDLease)])]⟩ (fg ⟨(by subst e15; rfl), (by subst e15; rfl), (by subst e15; rfl), (by subst e15; rfl), (by subst e15; rfl), (by subst e15; rfl), (by subst e15; rfl), (by subst e15; rfl), (by subst e15; rfl), (by subst e15; rfl), (by subst e15; rfl), trivial⟩ ⟨(by subst e15; rfl), (by subst e15; rfl), (by subst e15; rfl), (by subst e15; rfl), trivial⟩) ?_
    refine ite_ (cb := v14) rfl (fun c16 => ?_) (fun c16 => ?_)
    · replace h0 := ip c16 h0
      refine seq_ ?_
      refine reg_ ?_
      refine st (mvc_ trivial ?_)
      refine oe_ ?_
      refine wk_ ⟨[(6, .bool false)], []⟩ (fg ⟨rfl, trivial⟩ trivial) ?_
      obtain rfl := Option.some.inj h0
      exact rt_ (ret_ rfl rfl rfl rfl rfl trivial)
    · replace h0 := inb c16 h0
      refine sk_ ?_
      refine wk_ ⟨[(1, .int .i64 a1), (2, .int .i64 a2), (3, .ptr 192 0), (8, .ptr 512 0), (9, .int .i64 r6.2.1), (10, .int .i64 r6.2.2), (11, .ptr 704 0), (12, .ptr 768 0), (13, .int .i64 r10.2.1), (14, .int .i64 r10.2.2)], [(192, [.int .i64 a0.clock, .int .i64 a0.next, .lst 4 (a0.list_.map eDLease)]), (512, [.int .i64 r6.1.clock, .int .i64 r6.1.next, .lst 4 (r6.1.list_.map eDLease)]), (704, [.int .i64 r8.clock, .int .i64 r8.next, .own 2304 0 4 (r8.list_.map eDLease)]), (768, [.int .i64 r10.1.clock, .int .i64 r10.1.next, .own 2624 0 4 (r10.1.list_.map eDLease)])]⟩ (fg ⟨rfl, rfl, rfl, rfl, rfl, rfl, rfl, rfl, rfl, rfl, trivial⟩ ⟨rfl, rfl, rfl, rfl, trivial⟩) ?_
      refine seq_ ?_
      refine seq_ ?_
      obtain ⟨r17, e18, h0⟩ := bnd h0
      obtain ⟨r19, e20, h0⟩ := bnd h0
      refine draw_ ?_
      refine dtake trivial (c_ (v := .agg [.int .i64 r8.clock, .int .i64 r8.next, .own 2304 0 4 (r8.list_.map eDLease)]) (cp_ ⟨trivial, trivial⟩ rfl (Nat.le_of_ble_eq_true rfl)) ?_)
      refine ⟨trivial, ?_⟩
      refine dtake trivial (c_ (v := .agg [.int .i64 a0.clock, .int .i64 a0.next, .lst 4 (a0.list_.map eDLease)]) (cp_ ⟨trivial, trivial⟩ rfl (Nat.le_of_ble_eq_true rfl)) ?_)
      refine ⟨trivial, ?_⟩
      refine dalt (call0_ (r := .agg [.int .i64 r17.clock, .int .i64 r17.next, .own 0 0 4 (r17.list_.map eDLease)]) false (H19 a0 r17 e18) ⟨trivial, trivial⟩ rfl rfl (fun _ => (and_ rfl (and_ rfl (and_ (fl1 (fun _ => rfl)) rfl)))) ?_) dstop
      refine ⟨[], ⟨⟨.inl trivial, (again1 (cp_ ⟨trivial, trivial⟩ rfl (Nat.le_of_ble_eq_true rfl)) rfl)⟩, trivial⟩, trivial, ?_⟩
      refine dalt (call0_ (r := .bool r19) false (H21 r8 r17 r19 e20) ⟨trivial, trivial, trivial⟩ rfl rfl (fun _ => rfl) ?_) dstop
      refine ⟨[], trivial, trivial, ?_⟩
      refine dtake trivial (c_ (cp_ ⟨trivial, trivial⟩ rfl trivial) ?_)
      refine ⟨trivial, ?_⟩
      refine dfin ?_
      refine wk_ ⟨[(1, .int .i64 a1), (2, .int .i64 a2), (3, .ptr 192 0), (8, .ptr 512 0), (9, .int .i64 r6.2.1), (10, .int .i64 r6.2.2), (11, .ptr 704 0), (12, .ptr 768 0), (13, .int .i64 r10.2.1), (14, .int .i64 r10.2.2), (63, .bool (!r19))], [(192, [.int .i64 a0.clock, .int .i64 a0.next, .lst 4 (a0.list_.map eDLease)]), (512, [.int .i64 r6.1.clock, .int .i64 r6.1.next, .lst 4 (r6.1.list_.map eDLease)]), (704, [.int .i64 r8.clock, .int .i64 r8.next, .own 2304 0 4 (r8.list_.map eDLease)]), (768, [.int .i64 r10.1.clock, .int .i64 r10.1.next, .own 2624 0 4 (r10.1.list_.map eDLease)])]⟩ (fg ⟨rfl, rfl, rfl, rfl, rfl, rfl, rfl, rfl, rfl, rfl, rfl, trivial⟩ ⟨rfl, rfl, rfl, rfl, trivial⟩) ?_
      refine ite_ (cb := (!r19)) rfl (fun c21 => ?_) (fun c21 => ?_)
      · replace h0 := ip c21 h0
        refine seq_ ?_
        refine reg_ ?_
        refine st (mvc_ trivial ?_)
        refine oe_ ?_
        refine wk_ ⟨[(6, .bool false)], []⟩ (fg ⟨rfl, trivial⟩ trivial) ?_
        obtain rfl := Option.some.inj h0
        exact rt_ (ret_ rfl rfl rfl rfl rfl trivial)
      · replace h0 := inb c21 h0
        refine sk_ ?_
        refine wk_ ⟨[(1, .int .i64 a1), (2, .int .i64 a2), (3, .ptr 192 0), (8, .ptr 512 0), (9, .int .i64 r6.2.1), (10, .int .i64 r6.2.2), (11, .ptr 704 0), (12, .ptr 768 0), (13, .int .i64 r10.2.1), (14, .int .i64 r10.2.2)], [(192, [.int .i64 a0.clock, .int .i64 a0.next, .lst 4 (a0.list_.map eDLease)]), (512, [.int .i64 r6.1.clock, .int .i64 r6.1.next, .lst 4 (r6.1.list_.map eDLease)]), (704, [.int .i64 r8.clock, .int .i64 r8.next, .own 2304 0 4 (r8.list_.map eDLease)]), (768, [.int .i64 r10.1.clock, .int .i64 r10.1.next, .own 2624 0 4 (r10.1.list_.map eDLease)])]⟩ (fg ⟨rfl, rfl, rfl, rfl, rfl, rfl, rfl, rfl, rfl, rfl, trivial⟩ ⟨rfl, rfl, rfl, rfl, trivial⟩) ?_
        refine seq_ ?_
        refine reg_ ?_
        refine st (mvc_ trivial ?_)
        refine oe_ ?_
        refine wk_ ⟨[(1, .int .i64 a1), (2, .int .i64 a2), (3, .ptr 192 0), (8, .ptr 512 0), (9, .int .i64 r6.2.1), (10, .int .i64 r6.2.2), (11, .ptr 704 0), (12, .ptr 768 0), (13, .int .i64 r10.2.1), (14, .int .i64 r10.2.2), (15, .int .i64 1)], [(192, [.int .i64 a0.clock, .int .i64 a0.next, .lst 4 (a0.list_.map eDLease)]), (512, [.int .i64 r6.1.clock, .int .i64 r6.1.next, .lst 4 (r6.1.list_.map eDLease)]), (704, [.int .i64 r8.clock, .int .i64 r8.next, .own 2304 0 4 (r8.list_.map eDLease)]), (768, [.int .i64 r10.1.clock, .int .i64 r10.1.next, .own 2624 0 4 (r10.1.list_.map eDLease)])]⟩ (fg ⟨rfl, rfl, rfl, rfl, rfl, rfl, rfl, rfl, rfl, rfl, rfl, trivial⟩ ⟨rfl, rfl, rfl, rfl, trivial⟩) ?_
        refine seq_ ?_
        refine reg_ ?_
        refine st (c_ (v := .agg [.int .i64 r8.clock, .int .i64 r8.next, .own 2304 0 4 (r8.list_.map eDLease)]) (cp_ ⟨trivial, trivial⟩ rfl (Nat.le_of_ble_eq_true rfl)) ?_)
        refine st (mv_ rfl trivial ?_)
        obtain ⟨r22, e23, h0⟩ := bnd h0
        obtain ⟨c24, h0⟩ := grd h0
        refine st (call1_ [] [2304] [] false (H26 r8 1 r22 e23) ⟨trivial, trivial, trivial⟩ rfl rfl rfl rfl (fun _ => and_ rfl (and_ (fl2 (fun _ => rfl)) rfl)) ?_)
        refine sw ⟨[(1, .int .i64 a1), (2, .int .i64 a2), (3, .ptr 192 0), (8, .ptr 512 0), (9, .int .i64 r6.2.1), (10, .int .i64 r6.2.2), (12, .ptr 768 0), (13, .int .i64 r10.2.1), (14, .int .i64 r10.2.2), (66, .int .i64 r22.1)], [(192, [.int .i64 a0.clock, .int .i64 a0.next, .lst 4 (a0.list_.map eDLease)]), (512, [.int .i64 r6.1.clock, .int .i64 r6.1.next, .lst 4 (r6.1.list_.map eDLease)]), (768, [.int .i64 r10.1.clock, .int .i64 r10.1.next, .own 2624 0 4 (r10.1.list_.map eDLease)])]⟩ (fg ⟨rfl, rfl, rfl, rfl, rfl, rfl, rfl, rfl, rfl, rfl, trivial⟩ ⟨rfl, rfl, rfl, trivial⟩) (mv_ rfl trivial ?_)
        refine oe_ ?_
        refine wk_ ⟨[(1, .int .i64 a1), (2, .int .i64 a2), (3, .ptr 192 0), (8, .ptr 512 0), (9, .int .i64 r6.2.1), (10, .int .i64 r6.2.2), (12, .ptr 768 0), (13, .int .i64 r10.2.1), (14, .int .i64 r10.2.2), (15, .int .i64 r22.1)], [(192, [.int .i64 a0.clock, .int .i64 a0.next, .lst 4 (a0.list_.map eDLease)]), (512, [.int .i64 r6.1.clock, .int .i64 r6.1.next, .lst 4 (r6.1.list_.map eDLease)]), (768, [.int .i64 r10.1.clock, .int .i64 r10.1.next, .own 2624 0 4 (r10.1.list_.map eDLease)])]⟩ (fg ⟨rfl, rfl, rfl, rfl, rfl, rfl, rfl, rfl, rfl, rfl, trivial⟩ ⟨rfl, rfl, rfl, trivial⟩) ?_
        refine seq_ ?_
        refine seq_ ?_
        refine reg_ ?_
        refine st (mv_ rfl trivial ?_)
        refine st (c_ (cp_ ⟨trivial, trivial, trivial⟩ rfl trivial) ?_)
        refine st (mv_ rfl trivial ?_)
        refine st (pg_ (u := .agg [.int .i64 r10.1.clock, .int .i64 r10.1.next, .own 2624 0 4 (r10.1.list_.map eDLease)]) rfl (fun hg => (cp_ ⟨trivial, trivial⟩ rfl (Nat.le_of_ble_eq_true rfl))) ?_)
        refine st (pg_ (u := .agg [.int .i64 r6.1.clock, .int .i64 r6.1.next, .lst 4 (r6.1.list_.map eDLease)]) rfl (fun hg => (cp_ ⟨trivial, trivial⟩ rfl (Nat.le_of_ble_eq_true rfl))) ?_)
        obtain ⟨r25, e26, h0⟩ := bnd h0
        refine st (callg_ (r := .bool r25) rfl false (fun hg => H21 r10.1 r6.1 r25 (ip hg e26)) ⟨(fun hg => hg), (fun hg => hg), trivial⟩ (fun _ => rfl) (fun _ => rfl) (fun _ => rfl) (fun h => nomatch h) ?_)
        refine st (pg_ (u := .bool (!r25)) rfl (fun hg => (cp_ ⟨(fun _ => hg), trivial⟩ rfl trivial)) ?_)
        refine st (pick_ rfl rfl rfl trivial (fun h => eqf h) rfl ?_)
        refine st (mv_ rfl trivial ?_)
        refine st (pg_ (u := .int .i64 r10.2.1) rfl (fun hg => (cmv (v := .int .i64 r10.2.1) rfl trivial)) ?_)
        refine st (pg_ (u := .int .i64 r6.2.1) rfl (fun hg => (cmv (v := .int .i64 r6.2.1) rfl trivial)) ?_)
        refine st (pg_ (u := .bool (r10.2.1 != r6.2.1)) rfl (fun hg => (cp_ ⟨(fun _ => hg), (fun _ => hg), trivial⟩ rfl trivial)) ?_)
        refine st (pick_ rfl rfl rfl trivial (fun h => eqf h) rfl ?_)
        refine st (mv_ rfl trivial ?_)
        refine st (pg_ (u := .int .i64 r10.2.2) rfl (fun hg => (cmv (v := .int .i64 r10.2.2) rfl trivial)) ?_)
        refine st (pg_ (u := .int .i64 r6.2.2) rfl (fun hg => (cmv (v := .int .i64 r6.2.2) rfl trivial)) ?_)
        refine st (pg_ (u := .bool (r10.2.2 != r6.2.2)) rfl (fun hg => (cp_ ⟨(fun _ => hg), (fun _ => hg), trivial⟩ rfl trivial)) ?_)
        refine st (pick_ rfl rfl rfl trivial (fun h => eqf h) rfl ?_)
        refine oe_ ?_
        obtain ⟨v27, e28, h0⟩ := bl h0
        refine wk_ ⟨[(1, .int .i64 a1), (2, .int .i64 a2), (3, .ptr 192 0), (8, .ptr 512 0), (9, .int .i64 r6.2.1), (10, .int .i64 r6.2.2), (12, .ptr 768 0), (84, .bool v27)], [(192, [.int .i64 a0.clock, .int .i64 a0.next, .lst 4 (a0.list_.map eDLease)]), (512, [.int .i64 r6.1.clock, .int .i64 r6.1.next, .lst 4 (r6.1.list_.map eDLease)]), (768, [.int .i64 r10.1.clock, .int .i64 r10.1.next, .own 2624 0 4 (r10.1.list_.map eDLease)])]⟩ (fg ⟨(by subst e28; rfl), (by subst e28; rfl), (by subst e28; rfl), (by subst e28; rfl), (by subst e28; rfl), (by subst e28; rfl), (by subst e28; rfl), (by subst e28; rfl), trivial⟩ ⟨(by subst e28; rfl), (by subst e28; rfl), (by subst e28; rfl), trivial⟩) ?_
        refine ite_ (cb := v27) rfl (fun c29 => ?_) (fun c29 => ?_)
        · replace h0 := ip c29 h0
          refine seq_ ?_
          refine reg_ ?_
          refine st (mvc_ trivial ?_)
          refine oe_ ?_
          refine wk_ ⟨[(6, .bool false)], []⟩ (fg ⟨rfl, trivial⟩ trivial) ?_
          obtain rfl := Option.some.inj h0
          exact rt_ (ret_ rfl rfl rfl rfl rfl trivial)
        · replace h0 := inb c29 h0
          refine sk_ ?_
          refine wk_ ⟨[(1, .int .i64 a1), (2, .int .i64 a2), (3, .ptr 192 0), (8, .ptr 512 0), (9, .int .i64 r6.2.1), (10, .int .i64 r6.2.2), (12, .ptr 768 0)], [(192, [.int .i64 a0.clock, .int .i64 a0.next, .lst 4 (a0.list_.map eDLease)]), (512, [.int .i64 r6.1.clock, .int .i64 r6.1.next, .lst 4 (r6.1.list_.map eDLease)]), (768, [.int .i64 r10.1.clock, .int .i64 r10.1.next, .own 2624 0 4 (r10.1.list_.map eDLease)])]⟩ (fg ⟨rfl, rfl, rfl, rfl, rfl, rfl, rfl, trivial⟩ ⟨rfl, rfl, rfl, trivial⟩) ?_
          refine seq_ ?_
          refine reg_ ?_
          refine st (mvc_ trivial ?_)
          refine oe_ ?_
          refine wk_ ⟨[(1, .int .i64 a1), (2, .int .i64 a2), (3, .ptr 192 0), (8, .ptr 512 0), (9, .int .i64 r6.2.1), (10, .int .i64 r6.2.2), (12, .ptr 768 0), (16, .int .i64 1)], [(192, [.int .i64 a0.clock, .int .i64 a0.next, .lst 4 (a0.list_.map eDLease)]), (512, [.int .i64 r6.1.clock, .int .i64 r6.1.next, .lst 4 (r6.1.list_.map eDLease)]), (768, [.int .i64 r10.1.clock, .int .i64 r10.1.next, .own 2624 0 4 (r10.1.list_.map eDLease)])]⟩ (fg ⟨rfl, rfl, rfl, rfl, rfl, rfl, rfl, rfl, trivial⟩ ⟨rfl, rfl, rfl, trivial⟩) ?_
          refine seq_ ?_
          refine reg_ ?_
          refine st (c_ (v := .agg [.int .i64 r10.1.clock, .int .i64 r10.1.next, .own 2624 0 4 (r10.1.list_.map eDLease)]) (cp_ ⟨trivial, trivial⟩ rfl (Nat.le_of_ble_eq_true rfl)) ?_)
          refine st (mv_ rfl trivial ?_)
          obtain ⟨r30, e31, h0⟩ := bnd h0
          obtain ⟨c32, h0⟩ := grd h0
          refine st (call1_ [] [2624] [] false (H26 r10.1 1 r30 e31) ⟨trivial, trivial, trivial⟩ rfl rfl rfl rfl (fun _ => and_ rfl (and_ (fl2 (fun _ => rfl)) rfl)) ?_)
          refine sw ⟨[(1, .int .i64 a1), (2, .int .i64 a2), (3, .ptr 192 0), (8, .ptr 512 0), (9, .int .i64 r6.2.1), (10, .int .i64 r6.2.2), (12, .ptr 768 0), (87, .int .i64 r30.1)], [(192, [.int .i64 a0.clock, .int .i64 a0.next, .lst 4 (a0.list_.map eDLease)]), (512, [.int .i64 r6.1.clock, .int .i64 r6.1.next, .lst 4 (r6.1.list_.map eDLease)]), (768, [.int .i64 r10.1.clock, .int .i64 r10.1.next, .own 2624 0 4 (r30.2.map eDLease)])]⟩ (fg ⟨rfl, rfl, rfl, rfl, rfl, rfl, rfl, rfl, trivial⟩ ⟨rfl, rfl, (congrArg (fun z => some (([.int .i64 r10.1.clock, .int .i64 r10.1.next, z] : List V))) (row_eq c32)), trivial⟩) (mv_ rfl trivial ?_)
          refine oe_ ?_
          refine wk_ ⟨[(1, .int .i64 a1), (2, .int .i64 a2), (3, .ptr 192 0), (8, .ptr 512 0), (9, .int .i64 r6.2.1), (10, .int .i64 r6.2.2), (12, .ptr 768 0), (16, .int .i64 r30.1)], [(192, [.int .i64 a0.clock, .int .i64 a0.next, .lst 4 (a0.list_.map eDLease)]), (512, [.int .i64 r6.1.clock, .int .i64 r6.1.next, .lst 4 (r6.1.list_.map eDLease)]), (768, [.int .i64 r10.1.clock, .int .i64 r10.1.next, .own 2624 0 4 (r30.2.map eDLease)])]⟩ (fg ⟨rfl, rfl, rfl, rfl, rfl, rfl, rfl, rfl, trivial⟩ ⟨rfl, rfl, rfl, trivial⟩) ?_
          refine seq_ ?_
          refine reg_ ?_
          refine st (mvc_ trivial ?_)
          refine oe_ ?_
          refine wk_ ⟨[(1, .int .i64 a1), (2, .int .i64 a2), (3, .ptr 192 0), (8, .ptr 512 0), (9, .int .i64 r6.2.1), (10, .int .i64 r6.2.2), (12, .ptr 768 0), (16, .int .i64 r30.1), (17, .int .i64 1)], [(192, [.int .i64 a0.clock, .int .i64 a0.next, .lst 4 (a0.list_.map eDLease)]), (512, [.int .i64 r6.1.clock, .int .i64 r6.1.next, .lst 4 (r6.1.list_.map eDLease)]), (768, [.int .i64 r10.1.clock, .int .i64 r10.1.next, .own 2624 0 4 (r30.2.map eDLease)])]⟩ (fg ⟨rfl, rfl, rfl, rfl, rfl, rfl, rfl, rfl, rfl, trivial⟩ ⟨rfl, rfl, rfl, trivial⟩) ?_
          refine seq_ ?_
          refine reg_ ?_
          refine st (c_ (v := .agg [.int .i64 r10.1.clock, .int .i64 r10.1.next, .own 2624 0 4 (r30.2.map eDLease)]) (cp_ ⟨trivial, trivial⟩ rfl (Nat.le_of_ble_eq_true rfl)) ?_)
          refine st (mv_ rfl trivial ?_)
          obtain ⟨r33, e34, h0⟩ := bnd h0
          refine st (call0_ (r := .int .i64 r33) false (H27 (DTable.mk r10.1.clock r10.1.next r30.2) 1 r33 e34) ⟨trivial, trivial, trivial⟩ rfl rfl (fun _ => rfl) ?_)
          refine st (mv_ rfl trivial ?_)
          refine oe_ ?_
          refine wk_ ⟨[(1, .int .i64 a1), (2, .int .i64 a2), (3, .ptr 192 0), (8, .ptr 512 0), (9, .int .i64 r6.2.1), (10, .int .i64 r6.2.2), (12, .ptr 768 0), (16, .int .i64 r30.1), (17, .int .i64 r33)], [(192, [.int .i64 a0.clock, .int .i64 a0.next, .lst 4 (a0.list_.map eDLease)]), (512, [.int .i64 r6.1.clock, .int .i64 r6.1.next, .lst 4 (r6.1.list_.map eDLease)]), (768, [.int .i64 r10.1.clock, .int .i64 r10.1.next, .own 2624 0 4 (r30.2.map eDLease)])]⟩ (fg ⟨rfl, rfl, rfl, rfl, rfl, rfl, rfl, rfl, rfl, trivial⟩ ⟨rfl, rfl, rfl, trivial⟩) ?_
          refine seq_ ?_
          refine seq_ ?_
          refine reg_ ?_
          refine st (mv_ rfl trivial ?_)
          refine st (c_ (cp_ ⟨trivial, trivial, trivial⟩ rfl trivial) ?_)
          refine oe_ ?_
          refine wk_ ⟨[(1, .int .i64 a1), (2, .int .i64 a2), (3, .ptr 192 0), (8, .ptr 512 0), (9, .int .i64 r6.2.1), (10, .int .i64 r6.2.2), (12, .ptr 768 0), (16, .int .i64 r30.1), (17, .int .i64 r33), (92, .bool (decide (r33 < 0)))], [(192, [.int .i64 a0.clock, .int .i64 a0.next, .lst 4 (a0.list_.map eDLease)]), (512, [.int .i64 r6.1.clock, .int .i64 r6.1.next, .lst 4 (r6.1.list_.map eDLease)]), (768, [.int .i64 r10.1.clock, .int .i64 r10.1.next, .own 2624 0 4 (r30.2.map eDLease)])]⟩ (fg ⟨rfl, rfl, rfl, rfl, rfl, rfl, rfl, rfl, rfl, rfl, trivial⟩ ⟨rfl, rfl, rfl, trivial⟩) ?_
          refine ite_ (cb := (decide (r33 < 0))) rfl (fun c35 => ?_) (fun c35 => ?_)
          · replace h0 := ip c35 h0
            refine seq_ ?_
            refine reg_ ?_
            refine st (mvc_ trivial ?_)
            refine oe_ ?_
            refine wk_ ⟨[(6, .bool false)], []⟩ (fg ⟨rfl, trivial⟩ trivial) ?_
            obtain rfl := Option.some.inj h0
            exact rt_ (ret_ rfl rfl rfl rfl rfl trivial)
          · replace h0 := inb c35 h0
            refine sk_ ?_
            refine wk_ ⟨[(1, .int .i64 a1), (2, .int .i64 a2), (3, .ptr 192 0), (8, .ptr 512 0), (9, .int .i64 r6.2.1), (10, .int .i64 r6.2.2), (12, .ptr 768 0), (16, .int .i64 r30.1), (17, .int .i64 r33)], [(192, [.int .i64 a0.clock, .int .i64 a0.next, .lst 4 (a0.list_.map eDLease)]), (512, [.int .i64 r6.1.clock, .int .i64 r6.1.next, .lst 4 (r6.1.list_.map eDLease)]), (768, [.int .i64 r10.1.clock, .int .i64 r10.1.next, .own 2624 0 4 (r30.2.map eDLease)])]⟩ (fg ⟨rfl, rfl, rfl, rfl, rfl, rfl, rfl, rfl, rfl, trivial⟩ ⟨rfl, rfl, rfl, trivial⟩) ?_
            refine seq_ ?_
            refine seq_ ?_
            refine reg_ ?_
            refine st (mv_ rfl trivial ?_)
            refine st (mv_ rfl trivial ?_)
            refine st (c_ (cp_ ⟨trivial, trivial, trivial⟩ rfl trivial) ?_)
            refine oe_ ?_
            refine wk_ ⟨[(1, .int .i64 a1), (2, .int .i64 a2), (3, .ptr 192 0), (8, .ptr 512 0), (9, .int .i64 r6.2.1), (10, .int .i64 r6.2.2), (12, .ptr 768 0), (16, .int .i64 r30.1), (95, .bool (r33 != r30.1))], [(192, [.int .i64 a0.clock, .int .i64 a0.next, .lst 4 (a0.list_.map eDLease)]), (512, [.int .i64 r6.1.clock, .int .i64 r6.1.next, .lst 4 (r6.1.list_.map eDLease)]), (768, [.int .i64 r10.1.clock, .int .i64 r10.1.next, .own 2624 0 4 (r30.2.map eDLease)])]⟩ (fg ⟨rfl, rfl, rfl, rfl, rfl, rfl, rfl, rfl, rfl, trivial⟩ ⟨rfl, rfl, rfl, trivial⟩) ?_
            refine ite_ (cb := (r33 != r30.1)) rfl (fun c36 => ?_) (fun c36 => ?_)
            · replace h0 := ip c36 h0
              refine seq_ ?_
              refine reg_ ?_
              refine st (mvc_ trivial ?_)
              refine oe_ ?_
              refine wk_ ⟨[(6, .bool false)], []⟩ (fg ⟨rfl, trivial⟩ trivial) ?_
              obtain rfl := Option.some.inj h0
              exact rt_ (ret_ rfl rfl rfl rfl rfl trivial)
            · replace h0 := inb c36 h0
              refine sk_ ?_
              refine wk_ ⟨[(1, .int .i64 a1), (2, .int .i64 a2), (3, .ptr 192 0), (8, .ptr 512 0), (9, .int .i64 r6.2.1), (10, .int .i64 r6.2.2), (12, .ptr 768 0), (16, .int .i64 r30.1)], [(192, [.int .i64 a0.clock, .int .i64 a0.next, .lst 4 (a0.list_.map eDLease)]), (512, [.int .i64 r6.1.clock, .int .i64 r6.1.next, .lst 4 (r6.1.list_.map eDLease)]), (768, [.int .i64 r10.1.clock, .int .i64 r10.1.next, .own 2624 0 4 (r30.2.map eDLease)])]⟩ (fg ⟨rfl, rfl, rfl, rfl, rfl, rfl, rfl, rfl, trivial⟩ ⟨rfl, rfl, rfl, trivial⟩) ?_
              refine seq_ ?_
              refine reg_ ?_
              refine st (c_ (v := .agg [.int .i64 a0.clock, .int .i64 a0.next, .lst 4 (a0.list_.map eDLease)]) (cp_ ⟨trivial, trivial⟩ rfl (Nat.le_of_ble_eq_true rfl)) ?_)
              obtain ⟨r37, e38, h0⟩ := bnd h0
              refine st (call0_ (r := .agg [.int .i64 r37.clock, .int .i64 r37.next, .own 0 0 4 (r37.list_.map eDLease)]) false (H19 a0 r37 e38) ⟨trivial, trivial⟩ rfl rfl (fun _ => (and_ rfl (and_ rfl (and_ (fl1 (fun _ => rfl)) rfl)))) ?_)
              refine st (mv_ rfl trivial ?_)
              refine st (mv_ rfl trivial ?_)
              obtain ⟨r39, e40, h0⟩ := bnd h0
              refine st (call0_ (r := .tup [.agg [.int .i64 r39.1.clock, .int .i64 r39.1.next, .own 0 0 4 (r39.1.list_.map eDLease)], .int .i64 r39.2.1, .int .i64 r39.2.2]) false (H25 r37 a1 a2 r39 e40) ⟨trivial, trivial, trivial, trivial⟩ rfl rfl (fun _ => (and_ rfl (and_ rfl (and_ (fl1 (fun _ => rfl)) (and_ rfl (and_ rfl rfl)))))) ?_)
              refine st (mv_ rfl trivial ?_)
              refine st (c_ (cp_ ⟨trivial, trivial⟩ rfl trivial) ?_)
              refine st (c_ (cp_ ⟨trivial, trivial⟩ rfl trivial) ?_)
              refine st (c_ (cp_ ⟨trivial, trivial⟩ rfl trivial) ?_)
              refine st (alloc_ ?_)
              refine st (stp_ rfl rfl trivial rfl rfl rfl (Nat.le_of_ble_eq_true rfl) ?_)
              refine st (mv_ rfl trivial ?_)
              refine st (mv_ rfl trivial ?_)
              refine oe_ ?_
              refine wk_ ⟨[(8, .ptr 512 0), (9, .int .i64 r6.2.1), (10, .int .i64 r6.2.2), (12, .ptr 768 0), (16, .int .i64 r30.1), (18, .ptr 1152 0), (19, .int .i64 r39.2.1), (20, .int .i64 r39.2.2)], [(512, [.int .i64 r6.1.clock, .int .i64 r6.1.next, .lst 4 (r6.1.list_.map eDLease)]), (768, [.int .i64 r10.1.clock, .int .i64 r10.1.next, .own 2624 0 4 (r30.2.map eDLease)]), (1152, [.int .i64 r39.1.clock, .int .i64 r39.1.next, .own 6464 0 4 (r39.1.list_.map eDLease)])]⟩ (fg ⟨rfl, rfl, rfl, rfl, rfl, rfl, rfl, rfl, trivial⟩ ⟨rfl, rfl, rfl, trivial⟩) ?_
              refine seq_ ?_
              refine seq_ ?_
              refine reg_ ?_
              refine st (c_ (v := .agg [.int .i64 r39.1.clock, .int .i64 r39.1.next, .own 6464 0 4 (r39.1.list_.map eDLease)]) (cp_ ⟨trivial, trivial⟩ rfl (Nat.le_of_ble_eq_true rfl)) ?_)
              refine st (c_ (v := .agg [.int .i64 r6.1.clock, .int .i64 r6.1.next, .lst 4 (r6.1.list_.map eDLease)]) (cp_ ⟨trivial, trivial⟩ rfl (Nat.le_of_ble_eq_true rfl)) ?_)
              obtain ⟨r41, e42, h0⟩ := bnd h0
              refine st (call0_ (r := .bool r41) false (H21 r39.1 r6.1 r41 e42) ⟨trivial, trivial, trivial⟩ rfl rfl (fun _ => rfl) ?_)
              refine st (c_ (cp_ ⟨trivial, trivial⟩ rfl trivial) ?_)
              refine st (mv_ rfl trivial ?_)
              refine st (pg_ (u := .int .i64 r39.2.1) rfl (fun hg => (cmv (v := .int .i64 r39.2.1) rfl trivial)) ?_)
              refine st (pg_ (u := .int .i64 r6.2.1) rfl (fun hg => (cmv (v := .int .i64 r6.2.1) rfl trivial)) ?_)
              refine st (pg_ (u := .bool (r39.2.1 != r6.2.1)) rfl (fun hg => (cp_ ⟨(fun _ => hg), (fun _ => hg), trivial⟩ rfl trivial)) ?_)
              refine st (pick_ rfl rfl rfl trivial (fun h => eqf h) rfl ?_)
              refine st (mv_ rfl trivial ?_)
              refine st (pg_ (u := .int .i64 r39.2.2) rfl (fun hg => (cmv (v := .int .i64 r39.2.2) rfl trivial)) ?_)
              refine st (pg_ (u := .int .i64 r6.2.2) rfl (fun hg => (cmv (v := .int .i64 r6.2.2) rfl trivial)) ?_)
              refine st (pg_ (u := .bool (r39.2.2 != r6.2.2)) rfl (fun hg => (cp_ ⟨(fun _ => hg), (fun _ => hg), trivial⟩ rfl trivial)) ?_)
              refine st (pick_ rfl rfl rfl trivial (fun h => eqf h) rfl ?_)
              refine oe_ ?_
              obtain ⟨v43, e44, h0⟩ := bl h0
              refine wk_ ⟨[(12, .ptr 768 0), (16, .int .i64 r30.1), (118, .bool v43)], [(768, [.int .i64 r10.1.clock, .int .i64 r10.1.next, .own 2624 0 4 (r30.2.map eDLease)])]⟩ (fg ⟨(by subst e44; rfl), (by subst e44; rfl), (by subst e44; rfl), trivial⟩ ⟨(by subst e44; rfl), trivial⟩) ?_
              refine ite_ (cb := v43) rfl (fun c45 => ?_) (fun c45 => ?_)
              · replace h0 := ip c45 h0
                refine seq_ ?_
                refine reg_ ?_
                refine st (mvc_ trivial ?_)
                refine oe_ ?_
                refine wk_ ⟨[(6, .bool false)], []⟩ (fg ⟨rfl, trivial⟩ trivial) ?_
                obtain rfl := Option.some.inj h0
                exact rt_ (ret_ rfl rfl rfl rfl rfl trivial)
              · replace h0 := inb c45 h0
                refine sk_ ?_
                refine wk_ ⟨[(12, .ptr 768 0), (16, .int .i64 r30.1)], [(768, [.int .i64 r10.1.clock, .int .i64 r10.1.next, .own 2624 0 4 (r30.2.map eDLease)])]⟩ (fg ⟨rfl, rfl, trivial⟩ ⟨rfl, trivial⟩) ?_
                refine seq_ ?_
                refine reg_ ?_
                refine st (mvc_ trivial ?_)
                refine oe_ ?_
                refine wk_ ⟨[(12, .ptr 768 0), (16, .int .i64 r30.1), (17, .int .i64 1)], [(768, [.int .i64 r10.1.clock, .int .i64 r10.1.next, .own 2624 0 4 (r30.2.map eDLease)])]⟩ (fg ⟨rfl, rfl, rfl, trivial⟩ ⟨rfl, trivial⟩) ?_
                refine seq_ ?_
                refine reg_ ?_
                refine st (c_ (v := .agg [.int .i64 r10.1.clock, .int .i64 r10.1.next, .own 2624 0 4 (r30.2.map eDLease)]) (cp_ ⟨trivial, trivial⟩ rfl (Nat.le_of_ble_eq_true rfl)) ?_)
                refine st (mv_ rfl trivial ?_)
                obtain ⟨r46, e47, h0⟩ := bnd h0
                refine st (call0_ (r := .int .i64 r46) false (H27 (DTable.mk r10.1.clock r10.1.next r30.2) 1 r46 e47) ⟨trivial, trivial, trivial⟩ rfl rfl (fun _ => rfl) ?_)
                refine st (mv_ rfl trivial ?_)
                refine oe_ ?_
                refine wk_ ⟨[(16, .int .i64 r30.1), (17, .int .i64 r46)], []⟩ (fg ⟨rfl, rfl, trivial⟩ trivial) ?_
                refine seq_ ?_
                refine seq_ ?_
                refine reg_ ?_
                refine st (mv_ rfl trivial ?_)
                refine st (c_ (cp_ ⟨trivial, trivial, trivial⟩ rfl trivial) ?_)
                refine oe_ ?_
                refine wk_ ⟨[(16, .int .i64 r30.1), (17, .int .i64 r46), (123, .bool (decide (r46 < 0)))], []⟩ (fg ⟨rfl, rfl, rfl, trivial⟩ trivial) ?_
                refine ite_ (cb := (decide (r46 < 0))) rfl (fun c48 => ?_) (fun c48 => ?_)
                · replace h0 := ip c48 h0
                  refine seq_ ?_
                  refine reg_ ?_
                  refine st (mvc_ trivial ?_)
                  refine oe_ ?_
                  refine wk_ ⟨[(6, .bool false)], []⟩ (fg ⟨rfl, trivial⟩ trivial) ?_
                  obtain rfl := Option.some.inj h0
                  exact rt_ (ret_ rfl rfl rfl rfl rfl trivial)
                · replace h0 := inb c48 h0
                  refine sk_ ?_
                  refine wk_ ⟨[(16, .int .i64 r30.1), (17, .int .i64 r46)], []⟩ (fg ⟨rfl, rfl, trivial⟩ trivial) ?_
                  refine seq_ ?_
                  refine seq_ ?_
                  refine reg_ ?_
                  refine st (mv_ rfl trivial ?_)
                  refine st (mv_ rfl trivial ?_)
                  refine st (c_ (cp_ ⟨trivial, trivial, trivial⟩ rfl trivial) ?_)
                  refine oe_ ?_
                  refine wk_ ⟨[(126, .bool (r46 != r30.1))], []⟩ (fg ⟨rfl, trivial⟩ trivial) ?_
                  refine ite_ (cb := (r46 != r30.1)) rfl (fun c49 => ?_) (fun c49 => ?_)
                  · replace h0 := ip c49 h0
                    refine seq_ ?_
                    refine reg_ ?_
                    refine st (mvc_ trivial ?_)
                    refine oe_ ?_
                    refine wk_ ⟨[(6, .bool false)], []⟩ (fg ⟨rfl, trivial⟩ trivial) ?_
                    obtain rfl := Option.some.inj h0
                    exact rt_ (ret_ rfl rfl rfl rfl rfl trivial)
                  · replace h0 := inb c49 h0
                    refine sk_ ?_
                    refine wk_ ⟨[], []⟩ (fg trivial trivial) ?_
                    refine seq_ ?_
                    refine reg_ ?_
                    refine st (mvc_ trivial ?_)
                    refine oe_ ?_
                    refine wk_ ⟨[(6, .bool true)], []⟩ (fg ⟨rfl, trivial⟩ trivial) ?_
                    obtain rfl := Option.some.inj h0
                    exact rt_ (ret_ rfl rfl rfl rfl rfl trivial)
end Go.Ev
