/- The walks of functions: the code comes to the answers that QgD tells. Written by a program of ours. -/
import Derived.Test.YtdmclbbhhcpjfaaQgD
set_option linter.all false
set_option maxHeartbeats 4000000
set_option linter.unusedVariables false
set_option maxRecDepth 100000
namespace Go.Ev

/- loop.example/g00149/impl.isList[loop.example/g00149/impl.Sector] -/
def c269_r0 : List Ins := [⟨some 2, .p (.mv (.c (.bool false))), none⟩]
def c269_r1 : List Ins := [⟨some 3, .p (.mv (.t 0)), none⟩,
 ⟨some 4, .p (.len (.t 3)), none⟩,
 ⟨some 5, .p (.bin .leq (.t 4) (.c (.int .i64 4096))), none⟩,
 ⟨some 2, .p (.mv (.t 5)), none⟩]
def c269 : XFn := { np := 1, nt := 6, res := [.t 2], body := (.seq (.reg c269_r0) (.seq (.reg c269_r1) .ret)) }
def K269 (C : CRel) : Prop := ∀ (a0 : List DSector) (r : Bool), g269 a0 = some r → C 269 ⟨[.lst 2 (a0.map eDSector)], []⟩ ⟨.bool r, [], []⟩
theorem F269 {C : CRel}  (a0 : List DSector) (r : Bool) (h0 : g269 a0 = some r) : FnOK C c269 ⟨[.lst 2 (a0.map eDSector)], []⟩ ⟨.bool r, [], []⟩ := by
  refine fn_ (Nat.le_of_ble_eq_true rfl) ?_
  refine seq_ ?_
  refine reg_ ?_
  refine st (mvc_ trivial ?_)
  refine oe_ ?_
  refine wk_ ⟨[(0, .lst 2 (a0.map eDSector))], [], []⟩ (fgk (by kernel_rfl)) ?_
  refine seq_ ?_
  refine reg_ ?_
  refine st (mv_ rfl trivial ?_)
  refine st (c_ (clenL (e := eDSector) (l0 := a0) rfl rfl trivial) ?_)
  refine st (c_ (cp_ ⟨trivial, trivial, trivial⟩ rfl trivial) ?_)
  refine st (mv_ rfl trivial ?_)
  refine oe_ ?_
  refine wk_ ⟨[(2, .bool (decide ((a0.length : Int) ≤ 4096)))], [], []⟩ (fgk (by kernel_rfl)) ?_
  obtain rfl := Option.some.inj h0
  exact rt_ (ret_ rfl rfl rfl rfl rfl trivial)

/- slices.IndexFunc[[]loop.example/g00149/impl.Sector,loop.example/g00149/impl.Sector] -/
def c367_r0 : List Ins := [⟨some 4, .p (.mv (.c (.int .i64 0))), none⟩]
def c367_r1 : List Ins := [⟨some 6, .p (.mv (.t 0)), none⟩,
 ⟨some 7, .p (.len (.t 6)), none⟩,
 ⟨some 8, .p (.mv (.c (.int .i64 0))), none⟩]
def c367_r2 : List Ins := [⟨some 9, .p (.bin .lss (.t 8) (.t 7)), none⟩]
def c367_r3 : List Ins := [⟨some 10, .p (.mv (.t 8)), none⟩,
 ⟨some 5, .p (.mv (.t 10)), none⟩]
def c367_r4 : List Ins := [⟨some 11, .p (.mv (.t 1)), none⟩,
 ⟨some 12, .p (.mv (.t 0)), none⟩,
 ⟨some 13, .p (.mv (.t 5)), none⟩,
 ⟨some 14, .p (.idxA (.t 12) (.t 13) 2), none⟩,
 ⟨some 15, .p (.load (.t 14) 2 true), none⟩,
 ⟨some 16, .callv (.t 11) [(.t 15)], none⟩]
def c367_r5 : List Ins := [⟨some 17, .p (.mv (.t 5)), none⟩,
 ⟨some 4, .p (.mv (.t 17)), none⟩]
def c367_r6 : List Ins := [⟨some 18, .p (.bin .add (.t 8) (.c (.int .i64 1))), none⟩,
 ⟨some 8, .p (.mv (.t 18)), none⟩]
def c367_l0 : IR := (.seq (.reg c367_r2) (.seq (.ite (.t 9) .skip (.exit 0)) (.seq (.block 1 (.seq (.reg c367_r3) (.seq (.reg c367_r4) (.ite (.t 16) (.seq (.reg c367_r5) .ret) .skip)))) (.reg c367_r6))))
def c367_r7 : List Ins := [⟨some 4, .p (.mv (.c (.int .i64 (-1)))), none⟩]
def c367 : XFn := { np := 2, nt := 19, res := [.t 4], body := (.seq (.reg c367_r0) (.seq (.seq (.reg c367_r1) (.block 0 (.loop c367_l0))) (.seq (.reg c367_r7) .ret))) }
def K367 (C : CRel) : Prop := ∀ (a0 : List DSector) (f1 : Nat) (k1 : List V) (is1 : DSector → Option Bool) (hs1 : Shut k1) (hf1 : ∀ (x0 : DSector) r, is1 x0 = some r → C f1 ⟨.agg [.int .i64 x0.at_, .lst 1 (x0.data.map eU8)] :: k1, []⟩ ⟨.bool r, [], []⟩) (r : Int), g367 a0 is1 = some r → C 367 ⟨[.lst 2 (a0.map eDSector), .clo f1 k1], []⟩ ⟨.int .i64 r, [], []⟩
theorem F367 {C : CRel}  (a0 : List DSector) (f1 : Nat) (k1 : List V) (is1 : DSector → Option Bool) (hs1 : Shut k1) (hf1 : ∀ (x0 : DSector) r, is1 x0 = some r → C f1 ⟨.agg [.int .i64 x0.at_, .lst 1 (x0.data.map eU8)] :: k1, []⟩ ⟨.bool r, [], []⟩) (r : Int) (h0 : g367 a0 is1 = some r) : FnOK C c367 ⟨[.lst 2 (a0.map eDSector), .clo f1 k1], []⟩ ⟨.int .i64 r, [], []⟩ := by
  refine fn_ (Nat.le_of_ble_eq_true rfl) ?_
  refine seq_ ?_
  refine reg_ ?_
  refine st (mvc_ trivial ?_)
  refine oe_ ?_
  refine wk_ ⟨[(0, .lst 2 (a0.map eDSector)), (1, .clo f1 k1)], [], []⟩ (fg ⟨rfl, rfl, trivial⟩ trivial) ?_
  refine seq_ ?_
  refine seq_ ?_
  refine reg_ ?_
  refine st (mv_ rfl trivial ?_)
  refine st (c_ (clenL (e := eDSector) (l0 := a0) rfl rfl trivial) ?_)
  refine st (mvc_ trivial ?_)
  refine oe_ ?_
  refine wk_ ⟨[(0, .lst 2 (a0.map eDSector)), (1, .clo f1 k1), (7, .int .i64 (a0.length : Int)), (8, .int .i64 0)], [], []⟩ (fg ⟨rfl, rfl, rfl, rfl, trivial⟩ trivial) ?_
  refine block_ ?_
  obtain ⟨r21, e22, h0⟩ := bnd h0
  refine loop_ (R := (fun S => .inl () = r21 ∧ S = ⟨[], [], []⟩)) (g367_l0 a0 is1) (fun s S => match s with | p7 => S = ⟨[(0, .lst 2 (a0.map eDSector)), (1, .clo f1 k1), (7, .int .i64 (a0.length : Int)), (8, .int .i64 p7)], [], []⟩) e22 ⟨[(0, .lst 2 (a0.map eDSector)), (1, .clo f1 k1), (7, .int .i64 (a0.length : Int)), (8, .int .i64 0)], [], []⟩ (fg ⟨rfl, rfl, rfl, rfl, trivial⟩ trivial) rfl 0 (fun _ => rfl) ?_ ?_
  · rintro S _ hfg ⟨rfl, rfl⟩
    refine wk_ ⟨[], [], []⟩ (fglk hfg (by kernel_rfl)) ?_
    refine seq_ ?_
    refine reg_ ?_
    refine st (mvc_ trivial ?_)
    refine oe_ ?_
    refine wk_ ⟨[(4, .int .i64 (-1))], [], []⟩ (fgk (by kernel_rfl)) ?_
    obtain rfl := Option.some.inj h0
    exact rt_ (ret_ rfl rfl rfl rfl rfl trivial)
  · rintro p7 o1 _ K1 rfl h1 hx1 hK1 hE1 hR1
    refine seq_ ?_
    refine reg_ ?_
    refine st (c_ (cp_ ⟨trivial, trivial, trivial⟩ rfl trivial) ?_)
    refine oe_ ?_
    refine wk_ ⟨[(0, .lst 2 (a0.map eDSector)), (1, .clo f1 k1), (7, .int .i64 (a0.length : Int)), (8, .int .i64 p7), (9, .bool (decide (p7 < (a0.length : Int))))], [], []⟩ (fg ⟨rfl, rfl, rfl, rfl, rfl, trivial⟩ trivial) ?_
    refine seq_ ?_
    refine ite_ (cb := (decide (p7 < (a0.length : Int)))) rfl (fun c15 => ?_) (fun c15 => ?_)
    · replace h1 := ip c15 h1
      refine sk_ ?_
      refine wk_ ⟨[(0, .lst 2 (a0.map eDSector)), (1, .clo f1 k1), (7, .int .i64 (a0.length : Int)), (8, .int .i64 p7)], [], []⟩ (fg ⟨rfl, rfl, rfl, rfl, trivial⟩ trivial) ?_
      refine seq_ ?_
      refine block_ ?_
      refine seq_ ?_
      refine reg_ ?_
      refine st (mv_ rfl trivial ?_)
      refine st (mv_ rfl trivial ?_)
      refine oe_ ?_
      refine wk_ ⟨[(0, .lst 2 (a0.map eDSector)), (1, .clo f1 k1), (5, .int .i64 p7), (7, .int .i64 (a0.length : Int)), (8, .int .i64 p7)], [], []⟩ (fg ⟨rfl, rfl, rfl, rfl, rfl, trivial⟩ trivial) ?_
      refine seq_ ?_
      refine reg_ ?_
      refine st (mv_ rfl trivial ?_)
      refine st (mv_ rfl trivial ?_)
      refine st (mv_ rfl trivial ?_)
      obtain ⟨y16, e17, h1⟩ := bnd h1
      refine st (c_ (cidxL (e := eDSector) (y := y16) rfl rfl trivial rfl rfl trivial e17) ?_)
      refine st (c_ (v := .agg [.int .i64 y16.at_, .lst 1 (y16.data.map eU8)]) (cp_ ⟨trivial, trivial⟩ rfl (Nat.le_of_ble_eq_true rfl)) ?_)
      obtain ⟨r18, e19, h1⟩ := bnd h1
      refine st (callv0_ (r := .bool r18) rfl false (hf1 _ r18 e19) ⟨trivial, trivial⟩ (and_ rfl hs1.2.2.1) (mapc1 rfl (hs1.2.1 _ _ _ _ _)) (fun _ => rfl) ?_)
      refine oe_ ?_
      refine wk_ ⟨[(0, .lst 2 (a0.map eDSector)), (1, .clo f1 k1), (5, .int .i64 p7), (7, .int .i64 (a0.length : Int)), (8, .int .i64 p7), (16, .bool r18)], [], []⟩ (fg ⟨rfl, rfl, rfl, rfl, rfl, rfl, trivial⟩ trivial) ?_
      refine ite_ (cb := r18) rfl (fun c20 => ?_) (fun c20 => ?_)
      · replace h1 := ip c20 h1
        refine seq_ ?_
        refine reg_ ?_
        refine st (mv_ rfl trivial ?_)
        refine st (mv_ rfl trivial ?_)
        refine oe_ ?_
        refine wk_ ⟨[(4, .int .i64 p7)], [], []⟩ (fgk (by kernel_rfl)) ?_
        obtain rfl := Option.some.inj h1
        obtain rfl := hx1 _ rfl
        obtain rfl := Option.some.inj h0
        exact rt_ (hR1 _ (ret_ rfl rfl rfl rfl rfl trivial))
      · replace h1 := inb c20 h1
        refine sk_ ?_
        refine bn_ ?_
        refine wk_ ⟨[(0, .lst 2 (a0.map eDSector)), (1, .clo f1 k1), (7, .int .i64 (a0.length : Int)), (8, .int .i64 p7)], [], []⟩ (fg ⟨rfl, rfl, rfl, rfl, trivial⟩ trivial) ?_
        refine reg_ ?_
        refine st (c_ (cp_ ⟨trivial, trivial, trivial⟩ rfl trivial) ?_)
        refine st (mv_ rfl trivial ?_)
        refine oe_ ?_
        obtain rfl := Option.some.inj h1
        exact hK1 _ rfl _ ⟨[(0, .lst 2 (a0.map eDSector)), (1, .clo f1 k1), (7, .int .i64 (a0.length : Int)), (8, .int .i64 (IntKind.i64.wrap (p7 + 1)))], [], []⟩ (fg ⟨rfl, rfl, rfl, rfl, trivial⟩ trivial) rfl
    · replace h1 := inb c15 h1
      obtain rfl := Option.some.inj h1
      obtain rfl := hx1 _ rfl
      refine exQ rfl ?_
      exact hE1 _ ⟨[], [], []⟩ (fgk (by kernel_rfl)) ⟨rfl, rfl⟩

/- slices.ContainsFunc[[]loop.example/g00149/impl.Sector,loop.example/g00149/impl.Sector] -/
def c329_r0 : List Ins := [⟨some 4, .p (.mv (.c (.bool false))), none⟩]
def c329_r1 : List Ins := [⟨some 5, .p (.mv (.t 0)), none⟩,
 ⟨some 6, .p (.mv (.t 1)), none⟩,
 ⟨some 7, .call 367 [(.t 5), (.t 6)], none⟩,
 ⟨some 8, .p (.bin .geq (.t 7) (.c (.int .i64 0))), none⟩,
 ⟨some 4, .p (.mv (.t 8)), none⟩]
def c329 : XFn := { np := 2, nt := 9, res := [.t 4], body := (.seq (.reg c329_r0) (.seq (.reg c329_r1) .ret)) }
def K329 (C : CRel) : Prop := ∀ (a0 : List DSector) (f1 : Nat) (k1 : List V) (is1 : DSector → Option Bool) (hs1 : Shut k1) (hf1 : ∀ (x0 : DSector) r, is1 x0 = some r → C f1 ⟨.agg [.int .i64 x0.at_, .lst 1 (x0.data.map eU8)] :: k1, []⟩ ⟨.bool r, [], []⟩) (r : Bool), g329 a0 is1 = some r → C 329 ⟨[.lst 2 (a0.map eDSector), .clo f1 k1], []⟩ ⟨.bool r, [], []⟩
theorem F329 {C : CRel} (H367 : K367 C) (a0 : List DSector) (f1 : Nat) (k1 : List V) (is1 : DSector → Option Bool) (hs1 : Shut k1) (hf1 : ∀ (x0 : DSector) r, is1 x0 = some r → C f1 ⟨.agg [.int .i64 x0.at_, .lst 1 (x0.data.map eU8)] :: k1, []⟩ ⟨.bool r, [], []⟩) (r : Bool) (h0 : g329 a0 is1 = some r) : FnOK C c329 ⟨[.lst 2 (a0.map eDSector), .clo f1 k1], []⟩ ⟨.bool r, [], []⟩ := by
  refine fn_ (Nat.le_of_ble_eq_true rfl) ?_
  refine seq_ ?_
  refine reg_ ?_
  refine st (mvc_ trivial ?_)
  refine oe_ ?_
  refine wk_ ⟨[(0, .lst 2 (a0.map eDSector)), (1, .clo f1 k1)], [], []⟩ (fg ⟨rfl, rfl, trivial⟩ trivial) ?_
  refine seq_ ?_
  refine reg_ ?_
  refine st (mv_ rfl trivial ?_)
  refine st (mv_ rfl trivial ?_)
  obtain ⟨r1, e2, h0⟩ := bnd h0
  refine st (call0_ (r := .int .i64 r1) false (H367 a0 f1 k1 is1 hs1 hf1 r1 e2) ⟨trivial, trivial, trivial⟩ rfl (mapc1 rfl (mapc1 (clo_sh hs1) rfl)) (fun _ => rfl) ?_)
  refine st (c_ (cp_ ⟨trivial, trivial, trivial⟩ rfl trivial) ?_)
  refine st (mv_ rfl trivial ?_)
  refine oe_ ?_
  refine wk_ ⟨[(4, .bool (decide (r1 ≥ 0)))], [], []⟩ (fgk (by kernel_rfl)) ?_
  obtain rfl := Option.some.inj h0
  exact rt_ (ret_ rfl rfl rfl rfl rfl trivial)

/- loop.example/g00149/impl.areAll[loop.example/g00149/impl.Sector]$1 -/
def c330_r0 : List Ins := [⟨some 2, .box (.t 0), none⟩,
 ⟨some 3, .p (.mv (.c (.bool false))), none⟩]
def c330_r1 : List Ins := [⟨some 4, .p (.load (.t 1) 1 false), none⟩,
 ⟨some 5, .p (.load (.t 2) 2 true), none⟩,
 ⟨some 6, .callv (.t 4) [(.t 5)], none⟩,
 ⟨some 7, .p (.un .not (.t 6)), none⟩,
 ⟨some 3, .p (.mv (.t 7)), none⟩]
def c330 : XFn := { np := 2, nt := 8, res := [.t 3], body := (.seq (.reg c330_r0) (.seq (.reg c330_r1) .ret)) }
def K330 (C : CRel) : Prop := ∀ (a0 : DSector) (f1 : Nat) (k1 : List V) (is1 : DSector → Option Bool) (hs1 : Shut k1) (hf1 : ∀ (x0 : DSector) r, is1 x0 = some r → C f1 ⟨.agg [.int .i64 x0.at_, .lst 1 (x0.data.map eU8)] :: k1, []⟩ ⟨.bool r, [], []⟩) (r : Bool), g330 a0 is1 = some r → C 330 ⟨[.agg [.int .i64 a0.at_, .lst 1 (a0.data.map eU8)], .iptr [.clo f1 k1]], []⟩ ⟨.bool r, [], []⟩
theorem F330 {C : CRel}  (a0 : DSector) (f1 : Nat) (k1 : List V) (is1 : DSector → Option Bool) (hs1 : Shut k1) (hf1 : ∀ (x0 : DSector) r, is1 x0 = some r → C f1 ⟨.agg [.int .i64 x0.at_, .lst 1 (x0.data.map eU8)] :: k1, []⟩ ⟨.bool r, [], []⟩) (r : Bool) (h0 : g330 a0 is1 = some r) : FnOK C c330 ⟨[.agg [.int .i64 a0.at_, .lst 1 (a0.data.map eU8)], .iptr [.clo f1 k1]], []⟩ ⟨.bool r, [], []⟩ := by
  refine fn_ (Nat.le_of_ble_eq_true rfl) ?_
  refine seq_ ?_
  refine reg_ ?_
  refine st (box_ rfl trivial rfl ?_)
  refine sw ⟨[(1, .iptr [.clo f1 k1]), (2, .ptr 128 0)], [(128, [.int .i64 a0.at_, .lst 1 (a0.data.map eU8)])], []⟩ (fg ⟨rfl, rfl, trivial⟩ ⟨rfl, trivial⟩) (mvc_ trivial ?_)
  refine oe_ ?_
  refine wk_ ⟨[(1, .iptr [.clo f1 k1]), (2, .ptr 128 0)], [(128, [.int .i64 a0.at_, .lst 1 (a0.data.map eU8)])], []⟩ (fg ⟨rfl, rfl, trivial⟩ ⟨rfl, trivial⟩) ?_
  refine seq_ ?_
  refine reg_ ?_
  refine st (c_ (cp_ ⟨trivial, trivial⟩ rfl (Nat.le_of_ble_eq_true rfl)) ?_)
  refine st (c_ (v := .agg [.int .i64 a0.at_, .lst 1 (a0.data.map eU8)]) (cp_ ⟨trivial, trivial⟩ rfl (Nat.le_of_ble_eq_true rfl)) ?_)
  obtain ⟨r1, e2, h0⟩ := bnd h0
  refine st (callv0_ (r := .bool r1) rfl false (hf1 _ r1 e2) ⟨trivial, trivial⟩ (and_ rfl hs1.2.2.1) (mapc1 rfl (hs1.2.1 _ _ _ _ _)) (fun _ => rfl) ?_)
  refine st (c_ (cp_ ⟨trivial, trivial⟩ rfl trivial) ?_)
  refine st (mv_ rfl trivial ?_)
  refine oe_ ?_
  refine wk_ ⟨[(3, .bool (!r1))], [], []⟩ (fgk (by kernel_rfl)) ?_
  obtain rfl := Option.some.inj h0
  exact rt_ (ret_ rfl rfl rfl rfl rfl trivial)

/- loop.example/g00149/impl.areAll[loop.example/g00149/impl.Sector] -/
def c270_r0 : List Ins := [⟨some 3, .box (.t 1), none⟩,
 ⟨some 4, .p (.mv (.c (.bool false))), none⟩]
def c270_r1 : List Ins := [⟨some 5, .p (.mv (.t 0)), none⟩,
 ⟨some 6, .p (.fn 330 [(.t 3)]), none⟩,
 ⟨some 7, .call 329 [(.t 5), (.t 6)], none⟩,
 ⟨some 8, .p (.un .not (.t 7)), none⟩,
 ⟨some 4, .p (.mv (.t 8)), none⟩]
def c270 : XFn := { np := 2, nt := 9, res := [.t 4], body := (.seq (.reg c270_r0) (.seq (.reg c270_r1) .ret)) }
def K270 (C : CRel) : Prop := ∀ (a0 : List DSector) (f1 : Nat) (k1 : List V) (is1 : DSector → Option Bool) (hs1 : Shut k1) (hf1 : ∀ (x0 : DSector) r, is1 x0 = some r → C f1 ⟨.agg [.int .i64 x0.at_, .lst 1 (x0.data.map eU8)] :: k1, []⟩ ⟨.bool r, [], []⟩) (r : Bool), g270 a0 is1 = some r → C 270 ⟨[.lst 2 (a0.map eDSector), .clo f1 k1], []⟩ ⟨.bool r, [], []⟩
theorem F270 {C : CRel} (H329 : K329 C) (H330 : K330 C) (a0 : List DSector) (f1 : Nat) (k1 : List V) (is1 : DSector → Option Bool) (hs1 : Shut k1) (hf1 : ∀ (x0 : DSector) r, is1 x0 = some r → C f1 ⟨.agg [.int .i64 x0.at_, .lst 1 (x0.data.map eU8)] :: k1, []⟩ ⟨.bool r, [], []⟩) (r : Bool) (h0 : g270 a0 is1 = some r) : FnOK C c270 ⟨[.lst 2 (a0.map eDSector), .clo f1 k1], []⟩ ⟨.bool r, [], []⟩ := by
  refine fn_ (Nat.le_of_ble_eq_true rfl) ?_
  refine seq_ ?_
  refine reg_ ?_
  refine st (box_ (dr_sh hs1) trivial rfl ?_)
  refine sw ⟨[(0, .lst 2 (a0.map eDSector)), (3, .ptr 192 0)], [(192, [.clo f1 k1])], []⟩ (fg ⟨rfl, rfl, trivial⟩ ⟨rfl, trivial⟩) (mvc_ trivial ?_)
  refine oe_ ?_
  refine wk_ ⟨[(0, .lst 2 (a0.map eDSector)), (3, .ptr 192 0)], [(192, [.clo f1 k1])], []⟩ (fg ⟨rfl, rfl, trivial⟩ ⟨rfl, trivial⟩) ?_
  refine seq_ ?_
  refine reg_ ?_
  refine st (mv_ rfl trivial ?_)
  refine st (c_ (cp_ ⟨trivial, trivial⟩ rfl rfl) ?_)
  obtain ⟨r1, e2, h0⟩ := bnd h0
  refine st (call0_ (r := .bool r1) false (H329 a0 330 [.iptr [.clo f1 k1]] (fun z330_0 => g330 z330_0 is1) (⟨fun _ _ _ _ _ => rfl, fun _ _ _ _ _ => rfl, rfl, fun _ _ _ n => by cases n <;> rfl, fun _ => rfl⟩) (fun z330_0 r h => H330 z330_0 f1 k1 is1 hs1 hf1 r h) r1 e2) ⟨trivial, trivial, trivial⟩ rfl (mapc1 rfl (mapc1 (congrArg (fun z => V.clo 330 [.iptr [.clo f1 z]]) (hs1.2.2.2.1 _ _ _ _)) rfl)) (fun _ => rfl) ?_)
  refine st (c_ (cp_ ⟨trivial, trivial⟩ rfl trivial) ?_)
  refine st (mv_ rfl trivial ?_)
  refine oe_ ?_
  refine wk_ ⟨[(4, .bool (!r1))], [], []⟩ (fgk (by kernel_rfl)) ?_
  obtain rfl := Option.some.inj h0
  exact rt_ (ret_ rfl rfl rfl rfl rfl trivial)

/- loop.example/g00149/impl.within -/
def c63_r0 : List Ins := [⟨some 6, .p (.mv (.c (.bool false))), none⟩]
def c63_r1 : List Ins := [⟨some 7, .p (.mv (.t 1)), none⟩,
 ⟨some 8, .p (.mv (.t 0)), none⟩,
 ⟨some 9, .p (.bin .leq (.t 7) (.t 8)), none⟩,
 ⟨some 10, .p (.mv (.t 9)), none⟩,
 ⟨some 11, .p (.mv (.t 0)), some (10, true)⟩,
 ⟨some 12, .p (.mv (.t 2)), some (10, true)⟩,
 ⟨some 13, .p (.bin .leq (.t 11) (.t 12)), some (10, true)⟩,
 ⟨some 14, .pick (.t 10) (.t 13) (.c (.bool false)), none⟩,
 ⟨some 6, .p (.mv (.t 14)), none⟩]
def c63 : XFn := { np := 3, nt := 15, res := [.t 6], body := (.seq (.reg c63_r0) (.seq (.reg c63_r1) .ret)) }
def K63 (C : CRel) : Prop := ∀ (a0 : Int) (a1 : Int) (a2 : Int) (r : Bool), g63 a0 a1 a2 = some r → C 63 ⟨[.int .i64 a0, .int .i64 a1, .int .i64 a2], []⟩ ⟨.bool r, [], []⟩
theorem F63 {C : CRel}  (a0 : Int) (a1 : Int) (a2 : Int) (r : Bool) (h0 : g63 a0 a1 a2 = some r) : FnOK C c63 ⟨[.int .i64 a0, .int .i64 a1, .int .i64 a2], []⟩ ⟨.bool r, [], []⟩ := by
  refine fn_ (Nat.le_of_ble_eq_true rfl) ?_
  refine seq_ ?_
  refine reg_ ?_
  refine st (mvc_ trivial ?_)
  refine oe_ ?_
  refine wk_ ⟨[(0, .int .i64 a0), (1, .int .i64 a1), (2, .int .i64 a2)], [], []⟩ (fgk (by kernel_rfl)) ?_
  refine seq_ ?_
  refine reg_ ?_
  refine st (mv_ rfl trivial ?_)
  refine st (mv_ rfl trivial ?_)
  refine st (c_ (cp_ ⟨trivial, trivial, trivial⟩ rfl trivial) ?_)
  refine st (mv_ rfl trivial ?_)
  refine st (pg_ (u := .int .i64 a0) rfl (fun hg => (cmv (v := .int .i64 a0) rfl trivial)) ?_)
  refine st (pg_ (u := .int .i64 a2) rfl (fun hg => (cmv (v := .int .i64 a2) rfl trivial)) ?_)
  refine st (pg_ (u := .bool (decide (a0 ≤ a2))) rfl (fun hg => (cp_ ⟨(fun _ => hg), (fun _ => hg), trivial⟩ rfl trivial)) ?_)
  refine st (pick_ rfl rfl rfl (fun h => eqt h) trivial rfl ?_)
  refine st (mv_ rfl trivial ?_)
  refine oe_ ?_
  refine wk_ ⟨[(6, .bool (bif (decide (a1 ≤ a0)) then (decide (a0 ≤ a2)) else false))], [], []⟩ (fgk (by kernel_rfl)) ?_
  obtain rfl := Option.some.inj h0
  exact rt_ (ret_ rfl rfl rfl rfl rfl trivial)

/- loop.example/g00149/impl.DeviceOK$1 -/
def c271_r0 : List Ins := [⟨some 1, .box (.t 0), none⟩,
 ⟨some 2, .p (.mv (.c (.bool false))), none⟩]
def c271_r1 : List Ins := [⟨some 3, .p (.fieldA (.t 1) 0), none⟩,
 ⟨some 4, .p (.load (.t 3) 1 false), none⟩,
 ⟨some 5, .call 63 [(.t 4), (.c (.int .i64 0)), (.c (.int .i64 127))], none⟩,
 ⟨some 6, .p (.mv (.t 5)), none⟩,
 ⟨some 7, .p (.fieldA (.t 1) 1), some (6, true)⟩,
 ⟨some 8, .p (.load (.t 7) 1 false), some (6, true)⟩,
 ⟨some 9, .p (.len (.t 8)), some (6, true)⟩,
 ⟨some 10, .p (.bin .eql (.t 9) (.c (.int .i64 32))), some (6, true)⟩,
 ⟨some 11, .pick (.t 6) (.t 10) (.c (.bool false)), none⟩,
 ⟨some 2, .p (.mv (.t 11)), none⟩]
def c271 : XFn := { np := 1, nt := 12, res := [.t 2], body := (.seq (.reg c271_r0) (.seq (.reg c271_r1) .ret)) }
def K271 (C : CRel) : Prop := ∀ (a0 : DSector) (r : Bool), g271 a0 = some r → C 271 ⟨[.agg [.int .i64 a0.at_, .lst 1 (a0.data.map eU8)]], []⟩ ⟨.bool r, [], []⟩
theorem F271 {C : CRel} (H63 : K63 C) (a0 : DSector) (r : Bool) (h0 : g271 a0 = some r) : FnOK C c271 ⟨[.agg [.int .i64 a0.at_, .lst 1 (a0.data.map eU8)]], []⟩ ⟨.bool r, [], []⟩ := by
  refine fn_ (Nat.le_of_ble_eq_true rfl) ?_
  refine seq_ ?_
  refine reg_ ?_
  refine st (box_ rfl trivial rfl ?_)
  refine st (mvc_ trivial ?_)
  refine oe_ ?_
  refine wk_ ⟨[(1, .ptr 64 0)], [(64, [.int .i64 a0.at_, .lst 1 (a0.data.map eU8)])], []⟩ (fgk (by kernel_rfl)) ?_
  refine seq_ ?_
  refine reg_ ?_
  refine st (c_ (cp_ ⟨trivial, trivial⟩ rfl trivial) ?_)
  refine st (c_ (cp_ ⟨trivial, trivial⟩ rfl (Nat.le_of_ble_eq_true rfl)) ?_)
  obtain ⟨r1, e2, h0⟩ := bnd h0
  refine st (call0_ (r := .bool r1) false (H63 a0.at_ 0 127 r1 e2) ⟨trivial, trivial, trivial, trivial⟩ rfl rfl (fun _ => rfl) ?_)
  refine st (mv_ rfl trivial ?_)
  refine st (pg_ (u := .ptr 64 1) rfl (fun hg => (cp_ ⟨trivial, trivial⟩ rfl trivial)) ?_)
  refine st (pg_ (u := .lst 1 (a0.data.map eU8)) rfl (fun hg => (cp_ ⟨(fun _ => hg), trivial⟩ rfl (Nat.le_of_ble_eq_true rfl))) ?_)
  refine st (pg_ (u := .int .i64 (a0.data.length : Int)) rfl (fun hg => (clenL (e := eU8) (l0 := a0.data) rfl rfl (fun _ => hg))) ?_)
  refine st (pg_ (u := .bool ((a0.data.length : Int) == 32)) rfl (fun hg => (cp_ ⟨(fun _ => hg), trivial, trivial⟩ rfl trivial)) ?_)
  refine st (pick_ rfl rfl rfl (fun h => eqt h) trivial rfl ?_)
  refine st (mv_ rfl trivial ?_)
  refine oe_ ?_
  refine wk_ ⟨[(2, .bool (bif r1 then ((a0.data.length : Int) == 32) else false))], [], []⟩ (fgk (by kernel_rfl)) ?_
  obtain rfl := Option.some.inj h0
  exact rt_ (ret_ rfl rfl rfl rfl rfl trivial)

/- loop.example/g00149/impl.DeviceOK -/
def c216_r0 : List Ins := [⟨some 1, .box (.t 0), none⟩,
 ⟨some 2, .p (.mv (.c (.bool false))), none⟩]
def c216_r1 : List Ins := [⟨some 3, .p (.fieldA (.t 1) 0), none⟩,
 ⟨some 4, .p (.load (.t 3) 1 false), none⟩,
 ⟨some 5, .p (.len (.t 4)), none⟩,
 ⟨some 6, .p (.bin .rem (.t 5) (.c (.int .i64 32))), none⟩,
 ⟨some 7, .p (.bin .eql (.t 6) (.c (.int .i64 0))), none⟩,
 ⟨some 8, .p (.mv (.t 7)), none⟩,
 ⟨some 9, .p (.fieldA (.t 1) 0), some (8, true)⟩,
 ⟨some 10, .p (.load (.t 9) 1 false), some (8, true)⟩,
 ⟨some 11, .p (.len (.t 10)), some (8, true)⟩,
 ⟨some 12, .p (.bin .leq (.t 11) (.c (.int .i64 4096))), some (8, true)⟩,
 ⟨some 13, .pick (.t 8) (.t 12) (.c (.bool false)), none⟩,
 ⟨some 14, .p (.mv (.t 13)), none⟩,
 ⟨some 15, .p (.fieldA (.t 1) 1), some (14, true)⟩,
 ⟨some 16, .p (.load (.t 15) 1 false), some (14, true)⟩,
 ⟨some 17, .call 269 [(.t 16)], some (14, true)⟩,
 ⟨some 18, .pick (.t 14) (.t 17) (.c (.bool false)), none⟩,
 ⟨some 19, .p (.mv (.t 18)), none⟩,
 ⟨some 20, .p (.fieldA (.t 1) 1), some (19, true)⟩,
 ⟨some 21, .p (.load (.t 20) 1 false), some (19, true)⟩,
 ⟨some 22, .call 270 [(.t 21), (.c (.clo 271 []))], some (19, true)⟩,
 ⟨some 23, .pick (.t 19) (.t 22) (.c (.bool false)), none⟩,
 ⟨some 2, .p (.mv (.t 23)), none⟩]
def c216 : XFn := { np := 1, nt := 24, res := [.t 2], body := (.seq (.reg c216_r0) (.seq (.reg c216_r1) .ret)) }
def K216 (C : CRel) : Prop := ∀ (a0 : DDevice) (r : Bool), g216 a0 = some r → C 216 ⟨[.agg [.lst 1 (a0.held.map eU8), .lst 2 (a0.waiting.map eDSector)]], []⟩ ⟨.bool r, [], []⟩
theorem F216 {C : CRel} (H269 : K269 C) (H270 : K270 C) (H271 : K271 C) (a0 : DDevice) (r : Bool) (h0 : g216 a0 = some r) : FnOK C c216 ⟨[.agg [.lst 1 (a0.held.map eU8), .lst 2 (a0.waiting.map eDSector)]], []⟩ ⟨.bool r, [], []⟩ := by
  refine fn_ (Nat.le_of_ble_eq_true rfl) ?_
  refine seq_ ?_
  refine reg_ ?_
  refine st (box_ rfl trivial rfl ?_)
  refine st (mvc_ trivial ?_)
  refine oe_ ?_
  refine wk_ ⟨[(1, .ptr 64 0)], [(64, [.lst 1 (a0.held.map eU8), .lst 2 (a0.waiting.map eDSector)])], []⟩ (fgk (by kernel_rfl)) ?_
  refine seq_ ?_
  refine reg_ ?_
  refine st (c_ (cp_ ⟨trivial, trivial⟩ rfl trivial) ?_)
  refine st (c_ (cp_ ⟨trivial, trivial⟩ rfl (Nat.le_of_ble_eq_true rfl)) ?_)
  refine st (c_ (clenL (e := eU8) (l0 := a0.held) rfl rfl trivial) ?_)
  refine st (c_ (cp_ ⟨trivial, trivial, trivial⟩ rfl (by decide)) ?_)
  refine st (c_ (cp_ ⟨trivial, trivial, trivial⟩ rfl trivial) ?_)
  refine st (mv_ rfl trivial ?_)
  refine st (pg_ (u := .ptr 64 0) rfl (fun hg => (cp_ ⟨trivial, trivial⟩ rfl trivial)) ?_)
  refine st (pg_ (u := .lst 1 (a0.held.map eU8)) rfl (fun hg => (cp_ ⟨(fun _ => hg), trivial⟩ rfl (Nat.le_of_ble_eq_true rfl))) ?_)
  refine st (pg_ (u := .int .i64 (a0.held.length : Int)) rfl (fun hg => (clenL (e := eU8) (l0 := a0.held) rfl rfl (fun _ => hg))) ?_)
  refine st (pg_ (u := .bool (decide ((a0.held.length : Int) ≤ 4096))) rfl (fun hg => (cp_ ⟨(fun _ => hg), trivial, trivial⟩ rfl trivial)) ?_)
  refine st (pick_ rfl rfl rfl (fun h => eqt h) trivial rfl ?_)
  refine st (mv_ rfl trivial ?_)
  refine st (pg_ (u := .ptr 64 1) rfl (fun hg => (cp_ ⟨trivial, trivial⟩ rfl trivial)) ?_)
  refine st (pg_ (u := .lst 2 (a0.waiting.map eDSector)) rfl (fun hg => (cp_ ⟨(fun _ => hg), trivial⟩ rfl (Nat.le_of_ble_eq_true rfl))) ?_)
  obtain ⟨r1, e2, h0⟩ := bnd h0
  refine sw ⟨[(1, .ptr 64 0), (14, .bool (bif ((((a0.held.length : Int)).tmod 32) == 0) then (decide ((a0.held.length : Int) ≤ 4096)) else false)), (16, .may ((bif ((((a0.held.length : Int)).tmod 32) == 0) then (decide ((a0.held.length : Int) ≤ 4096)) else false) == true) (.lst 2 (a0.waiting.map eDSector)))], [(64, [.lst 1 (a0.held.map eU8), .lst 2 (a0.waiting.map eDSector)])], []⟩ (fgk (by kernel_rfl)) (callg_ (r := .bool r1) rfl false (fun hg => H269 a0.waiting r1 (ip hg e2)) ⟨(fun hg => hg), trivial⟩ (fun _ => rfl) (fun _ => rfl) (fun _ => rfl) (fun h => nomatch h) ?_)
  refine st (pick_ rfl rfl rfl (fun h => eqt h) trivial rfl ?_)
  refine st (mv_ rfl trivial ?_)
  refine st (pg_ (u := .ptr 64 1) rfl (fun hg => (cp_ ⟨trivial, trivial⟩ rfl trivial)) ?_)
  refine st (pg_ (u := .lst 2 (a0.waiting.map eDSector)) rfl (fun hg => (cp_ ⟨(fun _ => hg), trivial⟩ rfl (Nat.le_of_ble_eq_true rfl))) ?_)
  obtain ⟨r3, e4, h0⟩ := bnd h0
  refine sw ⟨[(19, .bool (bif (bif ((((a0.held.length : Int)).tmod 32) == 0) then (decide ((a0.held.length : Int) ≤ 4096)) else false) then r1 else false)), (21, .may ((bif (bif ((((a0.held.length : Int)).tmod 32) == 0) then (decide ((a0.held.length : Int) ≤ 4096)) else false) then r1 else false) == true) (.lst 2 (a0.waiting.map eDSector)))], [], []⟩ (fgk (by kernel_rfl)) (callg_ (r := .bool r3) rfl false (fun hg => H270 a0.waiting 271 [] (fun z271_0 => g271 z271_0) (⟨fun _ _ _ _ _ => rfl, fun _ _ _ _ _ => rfl, rfl, fun _ _ _ n => by cases n <;> rfl, fun _ => rfl⟩) (fun z271_0 r h => H271 z271_0 r h) r3 (ip hg e4)) ⟨(fun hg => hg), trivial, trivial⟩ (fun _ => rfl) (fun _ => rfl) (fun _ => rfl) (fun h => nomatch h) ?_)
  refine st (pick_ rfl rfl rfl (fun h => eqt h) trivial rfl ?_)
  refine st (mv_ rfl trivial ?_)
  refine oe_ ?_
  obtain ⟨v5, e6, h0⟩ := bl h0
  refine wk_ ⟨[(2, .bool v5)], [], []⟩ (fgk (by subst e6; kernel_rfl)) ?_
  obtain rfl := Option.some.inj h0
  exact rt_ (ret_ rfl rfl rfl rfl rfl trivial)

/- loop.example/g00149/impl.isShort[[]byte] -/
def c264_r0 : List Ins := [⟨some 2, .p (.mv (.c (.bool false))), none⟩]
def c264_r1 : List Ins := [⟨some 3, .p (.mv (.t 0)), none⟩,
 ⟨some 4, .p (.len (.t 3)), none⟩,
 ⟨some 5, .p (.bin .leq (.t 4) (.c (.int .i64 65536))), none⟩,
 ⟨some 2, .p (.mv (.t 5)), none⟩]
def c264 : XFn := { np := 1, nt := 6, res := [.t 2], body := (.seq (.reg c264_r0) (.seq (.reg c264_r1) .ret)) }
def K264 (C : CRel) : Prop := ∀ (a0 : List UInt8) (r : Bool), g264 a0 = some r → C 264 ⟨[.lst 1 (a0.map eU8)], []⟩ ⟨.bool r, [], []⟩
theorem F264 {C : CRel}  (a0 : List UInt8) (r : Bool) (h0 : g264 a0 = some r) : FnOK C c264 ⟨[.lst 1 (a0.map eU8)], []⟩ ⟨.bool r, [], []⟩ := by
  refine fn_ (Nat.le_of_ble_eq_true rfl) ?_
  refine seq_ ?_
  refine reg_ ?_
  refine st (mvc_ trivial ?_)
  refine oe_ ?_
  refine wk_ ⟨[(0, .lst 1 (a0.map eU8))], [], []⟩ (fgk (by kernel_rfl)) ?_
  refine seq_ ?_
  refine reg_ ?_
  refine st (mv_ rfl trivial ?_)
  refine st (c_ (clenL (e := eU8) (l0 := a0) rfl rfl trivial) ?_)
  refine st (c_ (cp_ ⟨trivial, trivial, trivial⟩ rfl trivial) ?_)
  refine st (mv_ rfl trivial ?_)
  refine oe_ ?_
  refine wk_ ⟨[(2, .bool (decide ((a0.length : Int) ≤ 65536)))], [], []⟩ (fgk (by kernel_rfl)) ?_
  obtain rfl := Option.some.inj h0
  exact rt_ (ret_ rfl rfl rfl rfl rfl trivial)

/- loop.example/g00149/impl.isRoom -/
def c327_r0 : List Ins := [⟨some 4, .p (.mv (.c (.bool false))), none⟩]
def c327_r1 : List Ins := [⟨some 5, .p (.mv (.t 0)), none⟩,
 ⟨some 6, .call 63 [(.t 5), (.c (.int .i64 0)), (.c (.int .i64 4096))], none⟩,
 ⟨some 7, .p (.mv (.t 6)), none⟩,
 ⟨some 8, .p (.mv (.t 0)), some (7, true)⟩,
 ⟨some 9, .p (.mv (.t 1)), some (7, true)⟩,
 ⟨some 10, .p (.bin .add (.t 8) (.t 9)), some (7, true)⟩,
 ⟨some 11, .p (.bin .leq (.t 10) (.c (.int .i64 4096))), some (7, true)⟩,
 ⟨some 12, .pick (.t 7) (.t 11) (.c (.bool false)), none⟩,
 ⟨some 4, .p (.mv (.t 12)), none⟩]
def c327 : XFn := { np := 2, nt := 13, res := [.t 4], body := (.seq (.reg c327_r0) (.seq (.reg c327_r1) .ret)) }
def K327 (C : CRel) : Prop := ∀ (a0 : Int) (a1 : Int) (r : Bool), g327 a0 a1 = some r → C 327 ⟨[.int .i64 a0, .int .i64 a1], []⟩ ⟨.bool r, [], []⟩
theorem F327 {C : CRel} (H63 : K63 C) (a0 : Int) (a1 : Int) (r : Bool) (h0 : g327 a0 a1 = some r) : FnOK C c327 ⟨[.int .i64 a0, .int .i64 a1], []⟩ ⟨.bool r, [], []⟩ := by
  refine fn_ (Nat.le_of_ble_eq_true rfl) ?_
  refine seq_ ?_
  refine reg_ ?_
  refine st (mvc_ trivial ?_)
  refine oe_ ?_
  refine wk_ ⟨[(0, .int .i64 a0), (1, .int .i64 a1)], [], []⟩ (fgk (by kernel_rfl)) ?_
  refine seq_ ?_
  refine reg_ ?_
  refine st (mv_ rfl trivial ?_)
  obtain ⟨r1, e2, h0⟩ := bnd h0
  refine st (call0_ (r := .bool r1) false (H63 a0 0 4096 r1 e2) ⟨trivial, trivial, trivial, trivial⟩ rfl rfl (fun _ => rfl) ?_)
  refine st (mv_ rfl trivial ?_)
  refine st (pg_ (u := .int .i64 a0) rfl (fun hg => (cmv (v := .int .i64 a0) rfl trivial)) ?_)
  refine st (pg_ (u := .int .i64 a1) rfl (fun hg => (cmv (v := .int .i64 a1) rfl trivial)) ?_)
  refine st (pg_ (u := .int .i64 (IntKind.i64.wrap (a0 + a1))) rfl (fun hg => (cp_ ⟨(fun _ => hg), (fun _ => hg), trivial⟩ rfl trivial)) ?_)
  refine st (pg_ (u := .bool (decide ((IntKind.i64.wrap (a0 + a1)) ≤ 4096))) rfl (fun hg => (cp_ ⟨(fun _ => hg), trivial, trivial⟩ rfl trivial)) ?_)
  refine st (pick_ rfl rfl rfl (fun h => eqt h) trivial rfl ?_)
  refine st (mv_ rfl trivial ?_)
  refine oe_ ?_
  obtain ⟨v3, e4, h0⟩ := bl h0
  refine wk_ ⟨[(4, .bool v3)], [], []⟩ (fgk (by subst e4; kernel_rfl)) ?_
  obtain rfl := Option.some.inj h0
  exact rt_ (ret_ rfl rfl rfl rfl rfl trivial)

/- slices.Clone[[]byte,byte] -/
def c325_r0 : List Ins := [⟨some 2, .nilS 1, none⟩]
def c325_r1 : List Ins := [⟨some 3, .p (.mv (.t 0)), none⟩,
 ⟨some 4, .isnil (.t 3) false, none⟩]
def c325_r2 : List Ins := [⟨some 2, .nilS 1, none⟩]
def c325_r3 : List Ins := [⟨some 5, .mkS 1 [(.int .u8 0)] 0 [], none⟩,
 ⟨some 6, .p (.mv (.t 0)), none⟩,
 ⟨some 7, .app 1 1 (.t 5) (.t 6), none⟩,
 ⟨some 2, .p (.mv (.t 7)), none⟩]
def c325 : XFn := { np := 1, nt := 8, res := [.t 2], body := (.seq (.reg c325_r0) (.seq (.seq (.reg c325_r1) (.ite (.t 4) (.seq (.reg c325_r2) .ret) .skip)) (.seq (.reg c325_r3) .ret))) }
def K325 (C : CRel) : Prop := ∀ (a0 : List UInt8) (r : List UInt8), g325 a0 = some r → C 325 ⟨[.lst 1 (a0.map eU8)], []⟩ ⟨.own 0 0 1 (r.map eU8), [], []⟩
theorem F325 {C : CRel} (a0 : List UInt8) (r : List UInt8) (h0 : g325 a0 = some r) : FnOK C c325 ⟨[.lst 1 (a0.map eU8)], []⟩ ⟨.own 0 0 1 (r.map eU8), [], []⟩ := by
  refine fn_ (Nat.le_of_ble_eq_true rfl) ?_
  obtain ⟨hc, h0⟩ := grd h0
  obtain rfl := Option.some.inj h0
  refine seq_ ?_
  refine reg_ ?_
  refine st (nilS_ ?_)
  refine oe_ ?_
  refine wk_ ⟨[(0, .lst 1 (a0.map eU8))], [], []⟩ (fg ⟨rfl, trivial⟩ trivial) ?_
  refine seq_ ?_
  refine seq_ ?_
  refine reg_ ?_
  refine st (mv_ rfl trivial ?_)
  refine st (isnilL (e := eU8) (l0 := a0) rfl fun b hb => ?_)
  refine oe_ ?_
  refine w0_ ?_
  refine ite_ (cb := b) rfl (fun h => ?_) (fun h => ?_)
  · obtain rfl := hb h
    refine seq_ ?_
    refine reg_ ?_
    refine st (nilS_ ?_)
    refine oe_ ?_
    refine w0_ ?_
    refine rt_ (ret_ rfl rfl rfl rfl rfl trivial)
  · refine sk_ ?_
    refine wk_ ⟨[(0, .lst 1 (a0.map eU8))], [], []⟩ (fg ⟨rfl, trivial⟩ trivial) ?_
    refine seq_ ?_
    refine reg_ ?_
    refine st (mkS_ trivial trivial ?_)
    refine st (mv_ rfl trivial ?_)
    refine st (app_ (e := eU8) (l0 := ([] : List UInt8)) (l1 := a0) rfl rfl trivial rfl (by decide) ?_ ?_)
    rotate_left
    refine st (mv_ rfl trivial ?_)
    refine oe_ ?_
    refine w0_ ?_
    refine rt_ (ret_ rfl rfl rfl rfl rfl trivial)
    have := Nat.mul_le_mul_right 1 hc
    exact Nat.le_trans this (by decide)

/- loop.example/g00149/impl.put -/
def c326_r0 : List Ins := [⟨some 3, .box (.t 1), none⟩,
 ⟨some 4, .nilS 1, none⟩]
def c326_r1 : List Ins := [⟨some 6, .p (.fieldA (.t 3) 0), none⟩,
 ⟨some 7, .p (.load (.t 6) 1 false), none⟩,
 ⟨some 8, .p (.bin .add (.t 7) (.c (.int .i64 1))), none⟩,
 ⟨some 9, .p (.bin .mul (.c (.int .i64 32)) (.t 8)), none⟩,
 ⟨some 5, .p (.mv (.t 9)), none⟩]
def c326_r2 : List Ins := [⟨some 10, .p (.mv (.t 0)), none⟩,
 ⟨some 11, .p (.len (.t 10)), none⟩,
 ⟨some 12, .p (.mv (.t 5)), none⟩,
 ⟨some 13, .p (.bin .lss (.t 11) (.t 12)), none⟩]
def c326_r3 : List Ins := [⟨some 14, .p (.mv (.t 0)), none⟩,
 ⟨some 15, .p (.mv (.t 5)), none⟩,
 ⟨some 16, .p (.mv (.t 0)), none⟩,
 ⟨some 17, .p (.len (.t 16)), none⟩,
 ⟨some 18, .p (.bin .sub (.t 15) (.t 17)), none⟩,
 ⟨some 19, .appz 1 1 [(.int .u8 0)] (.t 14) (.t 18), none⟩,
 ⟨some 0, .p (.mv (.t 19)), none⟩]
def c326_r4 : DP := (.take ⟨some 20, .p (.mv (.t 0)), none⟩
 (.take ⟨some 21, .p (.fieldA (.t 3) 0), none⟩
 (.take ⟨some 22, .p (.load (.t 21) 1 false), none⟩
 (.take ⟨some 23, .p (.bin .mul (.c (.int .i64 32)) (.t 22)), none⟩
 (.take ⟨some 24, .p (.slice (.t 20) (some (.t 23)) none 1), none⟩
 (.take ⟨some 25, .p (.fieldA (.t 3) 1), none⟩
 (.take ⟨some 26, .p (.load (.t 25) 1 false), none⟩
 (.alt [] ⟨some 27, .copy 1 (.t 24) (.t 26), none⟩
 .fin
 .stop))))))))
def c326_r5 : List Ins := [⟨some 28, .p (.mv (.t 0)), none⟩,
 ⟨some 4, .p (.mv (.t 28)), none⟩]
def c326 : XFn := { np := 2, nt := 29, res := [.t 4], body := (.seq (.reg c326_r0) (.seq (.seq (.reg c326_r1) (.seq (.reg c326_r2) (.ite (.t 13) (.reg c326_r3) .skip))) (.seq (.draw c326_r4) (.seq (.reg c326_r5) .ret)))) }
def K326 (C : CRel) : Prop := ∀ (a0 : List UInt8) (a1 : DSector) (r : (List UInt8)), g326 a0 a1 = some r → C 326 ⟨[.own 1024000 0 1 (a0.map eU8), .agg [.int .i64 a1.at_, .lst 1 (a1.data.map eU8)]], []⟩ ⟨.own 0 0 1 (r.map eU8), [], []⟩
theorem F326 {C : CRel}  (a0 : List UInt8) (a1 : DSector) (r : (List UInt8)) (h0 : g326 a0 a1 = some r) : FnOK C c326 ⟨[.own 1024000 0 1 (a0.map eU8), .agg [.int .i64 a1.at_, .lst 1 (a1.data.map eU8)]], []⟩ ⟨.own 0 0 1 (r.map eU8), [], []⟩ := by
  refine fn_ (Nat.le_of_ble_eq_true rfl) ?_
  refine seq_ ?_
  refine reg_ ?_
  refine st (box_ rfl trivial rfl ?_)
  refine st (nilS_ ?_)
  refine oe_ ?_
  refine wk_ ⟨[(0, .own 1024000 0 1 (a0.map eU8)), (3, .ptr 192 0)], [(192, [.int .i64 a1.at_, .lst 1 (a1.data.map eU8)])], []⟩ (fgk (by kernel_rfl)) ?_
  refine seq_ ?_
  refine seq_ ?_
  refine reg_ ?_
  refine st (c_ (cp_ ⟨trivial, trivial⟩ rfl trivial) ?_)
  refine st (c_ (cp_ ⟨trivial, trivial⟩ rfl (Nat.le_of_ble_eq_true rfl)) ?_)
  refine st (c_ (cp_ ⟨trivial, trivial, trivial⟩ rfl trivial) ?_)
  refine st (c_ (cp_ ⟨trivial, trivial, trivial⟩ rfl trivial) ?_)
  refine st (mv_ rfl trivial ?_)
  refine oe_ ?_
  refine wk_ ⟨[(0, .own 1024000 0 1 (a0.map eU8)), (3, .ptr 192 0), (5, .int .i64 (IntKind.i64.wrap (32 * (IntKind.i64.wrap (a1.at_ + 1)))))], [(192, [.int .i64 a1.at_, .lst 1 (a1.data.map eU8)])], []⟩ (fgk (by kernel_rfl)) ?_
  refine seq_ ?_
  refine reg_ ?_
  refine st (mv_ rfl trivial ?_)
  refine st (c_ (clenO (e := eU8) (l0 := a0) rfl rfl trivial) ?_)
  refine st (mv_ rfl trivial ?_)
  refine st (c_ (cp_ ⟨trivial, trivial, trivial⟩ rfl trivial) ?_)
  refine oe_ ?_
  obtain ⟨v1, e2, h0⟩ := bl h0
  refine wk_ ⟨[(0, .own 1024000 0 1 (a0.map eU8)), (3, .ptr 192 0), (5, .int .i64 (IntKind.i64.wrap (32 * (IntKind.i64.wrap (a1.at_ + 1))))), (13, .bool v1)], [(192, [.int .i64 a1.at_, .lst 1 (a1.data.map eU8)])], []⟩ (fgk (by subst e2; kernel_rfl)) ?_
  refine iteJ (cb := v1) (fun S => ∃ p6 : List UInt8, S = ⟨[(0, .own 1024000 0 1 (p6.map eU8)), (3, .ptr 192 0)], [(192, [.int .i64 a1.at_, .lst 1 (a1.data.map eU8)])], []⟩ ∧ g326_j0 a1 p6 = some r) rfl ?_ (fun c12 J11 => ?_) (fun c12 J11 => ?_)
  · rintro _ ⟨p6, rfl, h0⟩
    refine wk_ ⟨[(0, .own 1024000 0 1 (p6.map eU8)), (3, .ptr 192 0)], [(192, [.int .i64 a1.at_, .lst 1 (a1.data.map eU8)])], []⟩ (fgk (by kernel_rfl)) ?_
    refine seq_ ?_
    obtain ⟨s7, e8, h0⟩ := bnd h0
    refine draw_ ?_
    refine dtake trivial (mv_ rfl trivial ?_)
    refine ⟨trivial, ?_⟩
    refine dtake trivial (c_ (cp_ ⟨trivial, trivial⟩ rfl trivial) ?_)
    refine ⟨trivial, ?_⟩
    refine dtake trivial (c_ (cp_ ⟨trivial, trivial⟩ rfl (Nat.le_of_ble_eq_true rfl)) ?_)
    refine ⟨trivial, ?_⟩
    refine dtake trivial (c_ (cp_ ⟨trivial, trivial, trivial⟩ rfl trivial) ?_)
    refine ⟨trivial, ?_⟩
    refine dtake trivial (c_ (csliceO (e := eU8) (y := s7) rfl rfl trivial ⟨trivial, trivial⟩ rfl rfl e8) ?_)
    refine ⟨trivial, ?_⟩
    refine dtake trivial (c_ (cp_ ⟨trivial, trivial⟩ rfl trivial) ?_)
    refine ⟨trivial, ?_⟩
    refine dtake trivial (c_ (cp_ ⟨trivial, trivial⟩ rfl (Nat.le_of_ble_eq_true rfl)) ?_)
    refine ⟨trivial, ?_⟩
    refine dalt (copy_ (e := eU8) (l1 := a1.data) rfl rfl trivial rfl ?_) dstop
    refine dk0 ⟨[], trivial, trivial, ?_⟩
    refine dfin ?_
    refine wk_ ⟨[(0, .own 1024000 0 1 ((ovl p6 ((IntKind.i64.wrap (32 * a1.at_)).toNat) (a1.data.take s7.length)).map eU8))], [], []⟩ (fg ⟨(congrArg (fun z => some ((.own 1024000 0 1 z : V))) overlay_ovl), trivial⟩ trivial) ?_
    refine seq_ ?_
    refine reg_ ?_
    refine st (mv_ rfl trivial ?_)
    refine st (mv_ rfl trivial ?_)
    refine oe_ ?_
    obtain ⟨v9, e10, h0⟩ := bl h0
    refine wk_ ⟨[(4, .own 1024000 0 1 (v9.map eU8))], [], []⟩ (fgk (by subst e10; kernel_rfl)) ?_
    obtain rfl := Option.some.inj h0
    exact rt_ (ret_ rfl rfl rfl rfl rfl trivial)
  · replace h0 := ip c12 h0
    refine reg_ ?_
    refine st (mv_ rfl trivial ?_)
    refine st (mv_ rfl trivial ?_)
    refine st (mv_ rfl trivial ?_)
    refine st (c_ (clenO (e := eU8) (l0 := a0) rfl rfl trivial) ?_)
    refine st (c_ (cp_ ⟨trivial, trivial, trivial⟩ rfl trivial) ?_)
    obtain ⟨c13, h0⟩ := grd h0
    obtain ⟨c14, h0⟩ := grd h0
    refine st (appz_ (e := eU8) (l0 := a0) (0 : UInt8) rfl rfl rfl (by decide) c13 c14 ?_)
    refine st (mv_ rfl trivial ?_)
    refine oe_ ?_
    exact J11 _ ⟨[(0, .own 1024000 0 1 ((a0 ++ List.replicate (IntKind.i64.wrap ((IntKind.i64.wrap (32 * (IntKind.i64.wrap (a1.at_ + 1)))) - (a0.length : Int))).toNat (0 : UInt8)).map eU8)), (3, .ptr 192 0)], [(192, [.int .i64 a1.at_, .lst 1 (a1.data.map eU8)])], []⟩ (fgk (by kernel_rfl)) ⟨_, rfl, h0⟩
  · replace h0 := inb c12 h0
    refine sk_ ?_
    exact J11 _ ⟨[(0, .own 1024000 0 1 (a0.map eU8)), (3, .ptr 192 0)], [(192, [.int .i64 a1.at_, .lst 1 (a1.data.map eU8)])], []⟩ (fgk (by kernel_rfl)) ⟨_, rfl, h0⟩

/- (loop.example/g00149/impl.Device).read -/
def c263_r0 : List Ins := [⟨some 1, .box (.t 0), none⟩,
 ⟨some 2, .nilS 1, none⟩]
def c263_r1 : List Ins := [⟨some 6, .p (.fieldA (.t 1) 0), none⟩,
 ⟨some 7, .p (.load (.t 6) 1 false), none⟩,
 ⟨some 8, .call 325 [(.t 7)], none⟩,
 ⟨some 3, .p (.mv (.t 8)), none⟩]
def c263_r2 : List Ins := [⟨some 9, .p (.fieldA (.t 1) 1), none⟩,
 ⟨some 10, .p (.load (.t 9) 1 false), none⟩,
 ⟨some 11, .p (.len (.t 10)), none⟩,
 ⟨some 12, .p (.mv (.c (.int .i64 0))), none⟩]
def c263_r3 : List Ins := [⟨some 13, .p (.bin .lss (.t 12) (.t 11)), none⟩]
def c263_r4 : List Ins := [⟨some 14, .p (.idxA (.t 10) (.t 12) 2), none⟩,
 ⟨some 15, .p (.load (.t 14) 2 true), none⟩,
 ⟨some 5, .alloc [(.int .i64 0), (.own 322 0 1 [])], none⟩,
 ⟨none, .store (.t 5) (.t 15) 2, none⟩]
def c263_r5 : List Ins := [⟨some 16, .p (.mv (.t 3)), none⟩,
 ⟨some 17, .p (.load (.t 5) 2 true), none⟩,
 ⟨some 18, .call 326 [(.t 16), (.t 17)], none⟩,
 ⟨some 3, .p (.mv (.t 18)), none⟩]
def c263_r6 : List Ins := [⟨some 19, .p (.bin .add (.t 12) (.c (.int .i64 1))), none⟩,
 ⟨some 12, .p (.mv (.t 19)), none⟩]
def c263_l0 : IR := (.seq (.reg c263_r3) (.seq (.ite (.t 13) .skip (.exit 0)) (.seq (.block 1 (.seq (.reg c263_r4) (.reg c263_r5))) (.reg c263_r6))))
def c263_r7 : List Ins := [⟨some 20, .p (.mv (.t 3)), none⟩,
 ⟨some 2, .p (.mv (.t 20)), none⟩]
def c263 : XFn := { np := 1, nt := 21, res := [.t 2], body := (.seq (.reg c263_r0) (.seq (.reg c263_r1) (.seq (.seq (.reg c263_r2) (.block 0 (.loop c263_l0))) (.seq (.reg c263_r7) .ret)))) }
def K263 (C : CRel) : Prop := ∀ (a0 : DDevice) (r : (List UInt8)), g263 a0 = some r → C 263 ⟨[.agg [.lst 1 (a0.held.map eU8), .lst 2 (a0.waiting.map eDSector)]], []⟩ ⟨.own 0 0 1 (r.map eU8), [], []⟩
theorem F263 {C : CRel} (H325 : K325 C) (H326 : K326 C) (a0 : DDevice) (r : (List UInt8)) (h0 : g263 a0 = some r) : FnOK C c263 ⟨[.agg [.lst 1 (a0.held.map eU8), .lst 2 (a0.waiting.map eDSector)]], []⟩ ⟨.own 0 0 1 (r.map eU8), [], []⟩ := by
  refine fn_ (Nat.le_of_ble_eq_true rfl) ?_
  refine seq_ ?_
  refine reg_ ?_
  refine st (box_ rfl trivial rfl ?_)
  refine st (nilS_ ?_)
  refine oe_ ?_
  refine wk_ ⟨[(1, .ptr 64 0)], [(64, [.lst 1 (a0.held.map eU8), .lst 2 (a0.waiting.map eDSector)])], []⟩ (fgk (by kernel_rfl)) ?_
  refine seq_ ?_
  refine reg_ ?_
  refine st (c_ (cp_ ⟨trivial, trivial⟩ rfl trivial) ?_)
  refine st (c_ (cp_ ⟨trivial, trivial⟩ rfl (Nat.le_of_ble_eq_true rfl)) ?_)
  obtain ⟨r1, e2, h0⟩ := bnd h0
  refine st (call0_ (r := .own 0 0 1 (r1.map eU8)) false (H325 a0.held r1 e2) ⟨trivial, trivial⟩ rfl rfl (fun _ => (and_ (fl1 (fun _ => rfl)) rfl)) ?_)
  refine st (mv_ rfl trivial ?_)
  refine oe_ ?_
  refine wk_ ⟨[(1, .ptr 64 0), (3, .own 512 0 1 (r1.map eU8))], [(64, [.lst 1 (a0.held.map eU8), .lst 2 (a0.waiting.map eDSector)])], []⟩ (fgk (by kernel_rfl)) ?_
  refine seq_ ?_
  refine seq_ ?_
  refine reg_ ?_
  refine st (c_ (cp_ ⟨trivial, trivial⟩ rfl trivial) ?_)
  refine st (c_ (cp_ ⟨trivial, trivial⟩ rfl (Nat.le_of_ble_eq_true rfl)) ?_)
  refine st (c_ (clenL (e := eDSector) (l0 := a0.waiting) rfl rfl trivial) ?_)
  refine st (mvc_ trivial ?_)
  refine oe_ ?_
  refine wk_ ⟨[(3, .own 512 0 1 (r1.map eU8)), (10, .lst 2 (a0.waiting.map eDSector)), (11, .int .i64 (a0.waiting.length : Int)), (12, .int .i64 0)], [], []⟩ (fgk (by kernel_rfl)) ?_
  refine block_ ?_
  obtain ⟨r23, e24, h0⟩ := bnd h0
  refine loop_ (R := (fun S => ∃ p17 : List UInt8, p17 = r23 ∧ S = ⟨[(3, .own 512 0 1 (p17.map eU8))], [], []⟩)) (g263_l0 a0) (fun s S => match s with | (p8, p9) => S = ⟨[(3, .own 512 0 1 (p8.map eU8)), (10, .lst 2 (a0.waiting.map eDSector)), (11, .int .i64 (a0.waiting.length : Int)), (12, .int .i64 p9)], [], []⟩) e24 ⟨[(3, .own 512 0 1 (r1.map eU8)), (10, .lst 2 (a0.waiting.map eDSector)), (11, .int .i64 (a0.waiting.length : Int)), (12, .int .i64 0)], [], []⟩ (fgk (by kernel_rfl)) rfl 0 (fun _ => rfl) ?_ ?_
  · rintro S _ hfg ⟨p17, rfl, rfl⟩
    refine wk_ ⟨[(3, .own 512 0 1 (p17.map eU8))], [], []⟩ (fglk hfg (by kernel_rfl)) ?_
    refine seq_ ?_
    refine reg_ ?_
    refine st (mv_ rfl trivial ?_)
    refine st (mv_ rfl trivial ?_)
    refine oe_ ?_
    refine wk_ ⟨[(2, .own 512 0 1 (p17.map eU8))], [], []⟩ (fgk (by kernel_rfl)) ?_
    obtain rfl := Option.some.inj h0
    exact rt_ (ret_ rfl rfl rfl rfl rfl trivial)
  · rintro ⟨p8, p9⟩ o1 _ K1 rfl h1 hx1 hK1 hE1 hR1
    refine seq_ ?_
    refine reg_ ?_
    refine st (c_ (cp_ ⟨trivial, trivial, trivial⟩ rfl trivial) ?_)
    refine oe_ ?_
    refine wk_ ⟨[(3, .own 512 0 1 (p8.map eU8)), (10, .lst 2 (a0.waiting.map eDSector)), (11, .int .i64 (a0.waiting.length : Int)), (12, .int .i64 p9), (13, .bool (decide (p9 < (a0.waiting.length : Int))))], [], []⟩ (fgk (by kernel_rfl)) ?_
    refine seq_ ?_
    refine ite_ (cb := (decide (p9 < (a0.waiting.length : Int)))) rfl (fun c18 => ?_) (fun c18 => ?_)
    · replace h1 := ip c18 h1
      refine sk_ ?_
      refine wk_ ⟨[(3, .own 512 0 1 (p8.map eU8)), (10, .lst 2 (a0.waiting.map eDSector)), (11, .int .i64 (a0.waiting.length : Int)), (12, .int .i64 p9)], [], []⟩ (fgk (by kernel_rfl)) ?_
      refine seq_ ?_
      refine block_ ?_
      refine seq_ ?_
      refine reg_ ?_
      obtain ⟨y19, e20, h1⟩ := bnd h1
      refine st (c_ (cidxL (e := eDSector) (y := y19) rfl rfl trivial rfl rfl trivial e20) ?_)
      refine st (c_ (v := .agg [.int .i64 y19.at_, .lst 1 (y19.data.map eU8)]) (cp_ ⟨trivial, trivial⟩ rfl (Nat.le_of_ble_eq_true rfl)) ?_)
      refine st (alloc_ ?_)
      refine st (stp_ rfl rfl trivial rfl rfl rfl (Nat.le_of_ble_eq_true rfl) ?_)
      refine oe_ ?_
      refine wk_ ⟨[(3, .own 512 0 1 (p8.map eU8)), (5, .ptr 320 0), (10, .lst 2 (a0.waiting.map eDSector)), (11, .int .i64 (a0.waiting.length : Int)), (12, .int .i64 p9)], [(320, [.int .i64 y19.at_, .lst 1 (y19.data.map eU8)])], []⟩ (fgk (by kernel_rfl)) ?_
      refine reg_ ?_
      refine st (mv_ rfl trivial ?_)
      refine st (c_ (v := .agg [.int .i64 y19.at_, .lst 1 (y19.data.map eU8)]) (cp_ ⟨trivial, trivial⟩ rfl (Nat.le_of_ble_eq_true rfl)) ?_)
      obtain ⟨r21, e22, h1⟩ := bnd h1
      refine st (call1_ [] [] [512] false (H326 p8 y19 r21 e22) ⟨trivial, trivial, trivial⟩ (by kernel_rfl) (by kernel_rfl) (by kernel_rfl) (by kernel_rfl) (fun _ => and_ (and_ (fl1 (fun _ => rfl)) rfl) rfl) ?_)
      refine sw ⟨[(10, .lst 2 (a0.waiting.map eDSector)), (11, .int .i64 (a0.waiting.length : Int)), (12, .int .i64 p9), (18, .own 1152 0 1 (r21.map eU8))], [], []⟩ (fgk (by kernel_rfl)) (mv_ rfl trivial ?_)
      refine oe_ ?_
      refine bn_ ?_
      refine wk_ ⟨[(3, .own 1152 0 1 (r21.map eU8)), (10, .lst 2 (a0.waiting.map eDSector)), (11, .int .i64 (a0.waiting.length : Int)), (12, .int .i64 p9)], [], []⟩ (fgk (by kernel_rfl)) ?_
      refine reg_ ?_
      refine st (c_ (cp_ ⟨trivial, trivial, trivial⟩ rfl trivial) ?_)
      refine st (mv_ rfl trivial ?_)
      refine oe_ ?_
      obtain rfl := Option.some.inj h1
      exact hK1 _ rfl _ ⟨[(3, .own 512 0 1 (r21.map eU8)), (10, .lst 2 (a0.waiting.map eDSector)), (11, .int .i64 (a0.waiting.length : Int)), (12, .int .i64 (IntKind.i64.wrap (p9 + 1)))], [], []⟩ (fgsk [] [(1152, 512)] rfl (by kernel_rfl)) rfl
    · replace h1 := inb c18 h1
      obtain rfl := Option.some.inj h1
      obtain rfl := hx1 _ rfl
      refine exQ rfl ?_
      exact hE1 _ ⟨[(3, .own 512 0 1 (p8.map eU8))], [], []⟩ (fgk (by kernel_rfl)) ⟨_, rfl, rfl⟩

/- (loop.example/g00149/impl.Device).own -/
def c366_r0 : List Ins := [⟨some 1, .box (.t 0), none⟩,
 ⟨some 2, .alloc [(.own 129 0 1 []), (.own 130 0 2 [])], none⟩]
def c366_r1 : List Ins := [⟨some 6, .p (.fieldA (.t 1) 0), none⟩,
 ⟨some 7, .p (.load (.t 6) 1 false), none⟩,
 ⟨some 8, .call 325 [(.t 7)], none⟩,
 ⟨some 9, .p (.build [(.own 577 0 1 []), (.own 578 0 2 [])] [(0, 1, (.t 8))]), none⟩,
 ⟨some 3, .alloc [(.own 193 0 1 []), (.own 194 0 2 [])], none⟩,
 ⟨none, .store (.t 3) (.t 9) 2, none⟩]
def c366_r2 : List Ins := [⟨some 10, .p (.fieldA (.t 1) 1), none⟩,
 ⟨some 11, .p (.load (.t 10) 1 false), none⟩,
 ⟨some 12, .p (.len (.t 11)), none⟩,
 ⟨some 13, .p (.mv (.c (.int .i64 0))), none⟩]
def c366_r3 : List Ins := [⟨some 14, .p (.bin .lss (.t 13) (.t 12)), none⟩]
def c366_r4 : List Ins := [⟨some 15, .p (.idxA (.t 11) (.t 13) 2), none⟩,
 ⟨some 16, .p (.load (.t 15) 2 true), none⟩,
 ⟨some 5, .alloc [(.int .i64 0), (.own 322 0 1 [])], none⟩,
 ⟨none, .store (.t 5) (.t 16) 2, none⟩]
def c366_r5 : DP := (.take ⟨some 17, .p (.fieldA (.t 3) 1), none⟩
 (.take ⟨some 18, .p (.load (.t 17) 1 false), none⟩
 (.take ⟨some 19, .p (.fieldA (.t 5) 0), none⟩
 (.take ⟨some 20, .p (.load (.t 19) 1 false), none⟩
 (.take ⟨some 21, .p (.fieldA (.t 5) 1), none⟩
 (.take ⟨some 22, .p (.load (.t 21) 1 false), none⟩
 (.alt [⟨some 20, .p (.load (.t 19) 1 false), none⟩, ⟨some 19, .p (.fieldA (.t 5) 0), none⟩, ⟨some 18, .p (.load (.t 17) 1 false), none⟩, ⟨some 17, .p (.fieldA (.t 3) 1), none⟩] ⟨some 23, .call 325 [(.t 22)], none⟩
 (.take ⟨some 24, .p (.build [(.int .i64 0), (.own 1538 0 1 [])] [(0, 1, (.t 20)), (1, 1, (.t 23))]), none⟩
 (.alt [⟨some 18, .p (.load (.t 17) 1 false), none⟩, ⟨some 17, .p (.fieldA (.t 3) 1), none⟩] ⟨some 25, .mkS 2 [(.int .i64 0), (.lst 1 [])] 1 [(0, (.t 24))], none⟩
 (.alt [] ⟨some 26, .app 2 32 (.t 18) (.t 25), none⟩
 (.take ⟨some 27, .p (.fieldA (.t 3) 1), none⟩
 (.alt [] ⟨none, .store (.t 27) (.t 26) 1, none⟩
 .fin
 .stop))
 .stop)
 .stop))
 .stop)))))))
def c366_r6 : List Ins := [⟨some 28, .p (.bin .add (.t 13) (.c (.int .i64 1))), none⟩,
 ⟨some 13, .p (.mv (.t 28)), none⟩]
def c366_l0 : IR := (.seq (.reg c366_r3) (.seq (.ite (.t 14) .skip (.exit 0)) (.seq (.block 1 (.seq (.reg c366_r4) (.draw c366_r5))) (.reg c366_r6))))
def c366_r7 : List Ins := [⟨some 29, .p (.load (.t 3) 2 true), none⟩,
 ⟨none, .store (.t 2) (.t 29) 2, none⟩]
def c366 : XFn := { np := 1, nt := 30, res := [.cell 2 2 true], body := (.seq (.reg c366_r0) (.seq (.reg c366_r1) (.seq (.seq (.reg c366_r2) (.block 0 (.loop c366_l0))) (.seq (.reg c366_r7) .ret)))) }
def K366 (C : CRel) : Prop := ∀ (a0 : DDevice) (r : DDevice), g366 a0 = some r → C 366 ⟨[.agg [.lst 1 (a0.held.map eU8), .lst 2 (a0.waiting.map eDSector)]], []⟩ ⟨.agg [.own 0 0 1 (r.held.map eU8), .own 1 0 2 (r.waiting.map eDSector)], [], []⟩
theorem F366 {C : CRel} (H325 : K325 C) (a0 : DDevice) (r : DDevice) (h0 : g366 a0 = some r) : FnOK C c366 ⟨[.agg [.lst 1 (a0.held.map eU8), .lst 2 (a0.waiting.map eDSector)]], []⟩ ⟨.agg [.own 0 0 1 (r.held.map eU8), .own 1 0 2 (r.waiting.map eDSector)], [], []⟩ := by
  refine fn_ (Nat.le_of_ble_eq_true rfl) ?_
  refine seq_ ?_
  refine reg_ ?_
  refine st (box_ rfl trivial rfl ?_)
  refine st (alloc_ ?_)
  refine oe_ ?_
  refine wk_ ⟨[(1, .ptr 64 0), (2, .ptr 128 0)], [(64, [.lst 1 (a0.held.map eU8), .lst 2 (a0.waiting.map eDSector)]), (128, [.own 129 0 1 (([] : List UInt8).map eU8), .own 130 0 2 (([] : List DSector).map eDSector)])], []⟩ (fgk (by kernel_rfl)) ?_
  refine seq_ ?_
  refine reg_ ?_
  refine st (c_ (cp_ ⟨trivial, trivial⟩ rfl trivial) ?_)
  refine st (c_ (cp_ ⟨trivial, trivial⟩ rfl (Nat.le_of_ble_eq_true rfl)) ?_)
  obtain ⟨r1, e2, h0⟩ := bnd h0
  refine st (call0_ (r := .own 0 0 1 (r1.map eU8)) false (H325 a0.held r1 e2) ⟨trivial, trivial⟩ rfl rfl (fun _ => (and_ (fl1 (fun _ => rfl)) rfl)) ?_)
  refine st (c_ (v := .agg [.own 512 0 1 (r1.map eU8), .own 578 0 2 (([] : List DSector).map eDSector)]) (cp_ ⟨trivial, trivial⟩ rfl ⟨⟨rfl, rfl, Nat.le_of_ble_eq_true rfl⟩, trivial⟩) ?_)
  refine st (alloc_ ?_)
  refine st (stp_ rfl rfl trivial rfl rfl rfl (Nat.le_of_ble_eq_true rfl) ?_)
  refine oe_ ?_
  refine wk_ ⟨[(1, .ptr 64 0), (2, .ptr 128 0), (3, .ptr 192 0)], [(64, [.lst 1 (a0.held.map eU8), .lst 2 (a0.waiting.map eDSector)]), (128, [.own 129 0 1 (([] : List UInt8).map eU8), .own 130 0 2 (([] : List DSector).map eDSector)]), (192, [.own 512 0 1 (r1.map eU8), .own 578 0 2 (([] : List DSector).map eDSector)])], []⟩ (fgk (by kernel_rfl)) ?_
  refine seq_ ?_
  refine seq_ ?_
  refine reg_ ?_
  refine st (c_ (cp_ ⟨trivial, trivial⟩ rfl trivial) ?_)
  refine st (c_ (cp_ ⟨trivial, trivial⟩ rfl (Nat.le_of_ble_eq_true rfl)) ?_)
  refine st (c_ (clenL (e := eDSector) (l0 := a0.waiting) rfl rfl trivial) ?_)
  refine st (mvc_ trivial ?_)
  refine oe_ ?_
  refine wk_ ⟨[(2, .ptr 128 0), (3, .ptr 192 0), (11, .lst 2 (a0.waiting.map eDSector)), (12, .int .i64 (a0.waiting.length : Int)), (13, .int .i64 0)], [(128, [.own 129 0 1 (([] : List UInt8).map eU8), .own 130 0 2 (([] : List DSector).map eDSector)]), (192, [.own 512 0 1 (r1.map eU8), .own 578 0 2 (([] : List DSector).map eDSector)])], []⟩ (fgk (by kernel_rfl)) ?_
  refine block_ ?_
  obtain ⟨r26, e27, h0⟩ := bnd h0
  refine loop_ (R := (fun S => ∃ p19 : List DSector, p19 = r26 ∧ S = ⟨[(2, .ptr 128 0), (3, .ptr 192 0)], [(128, [.own 129 0 1 (([] : List UInt8).map eU8), .own 130 0 2 (([] : List DSector).map eDSector)]), (192, [.own 512 0 1 (r1.map eU8), .own 578 0 2 (p19.map eDSector)])], []⟩)) (g366_l0 a0) (fun s S => match s with | (p9, p10) => S = ⟨[(2, .ptr 128 0), (3, .ptr 192 0), (11, .lst 2 (a0.waiting.map eDSector)), (12, .int .i64 (a0.waiting.length : Int)), (13, .int .i64 p9)], [(128, [.own 129 0 1 (([] : List UInt8).map eU8), .own 130 0 2 (([] : List DSector).map eDSector)]), (192, [.own 512 0 1 (r1.map eU8), .own 578 0 2 (p10.map eDSector)])], []⟩) e27 ⟨[(2, .ptr 128 0), (3, .ptr 192 0), (11, .lst 2 (a0.waiting.map eDSector)), (12, .int .i64 (a0.waiting.length : Int)), (13, .int .i64 0)], [(128, [.own 129 0 1 (([] : List UInt8).map eU8), .own 130 0 2 (([] : List DSector).map eDSector)]), (192, [.own 512 0 1 (r1.map eU8), .own 578 0 2 (([] : List DSector).map eDSector)])], []⟩ (fgk (by kernel_rfl)) rfl 0 (fun _ => rfl) ?_ ?_
  · rintro S _ hfg ⟨p19, rfl, rfl⟩
    refine wk_ ⟨[(2, .ptr 128 0), (3, .ptr 192 0)], [(128, [.own 129 0 1 (([] : List UInt8).map eU8), .own 130 0 2 (([] : List DSector).map eDSector)]), (192, [.own 512 0 1 (r1.map eU8), .own 578 0 2 (p19.map eDSector)])], []⟩ (fglk hfg (by kernel_rfl)) ?_
    refine seq_ ?_
    refine reg_ ?_
    refine st (c_ (v := .agg [.own 512 0 1 (r1.map eU8), .own 578 0 2 (p19.map eDSector)]) (cp_ ⟨trivial, trivial⟩ rfl (Nat.le_of_ble_eq_true rfl)) ?_)
    refine st (stp_ rfl rfl trivial rfl rfl rfl (Nat.le_of_ble_eq_true rfl) ?_)
    refine oe_ ?_
    refine wk_ ⟨[(2, .ptr 128 0)], [(128, [.own 512 0 1 (r1.map eU8), .own 578 0 2 (p19.map eDSector)])], []⟩ (fgk (by kernel_rfl)) ?_
    obtain rfl := Option.some.inj h0
    exact rt_ (ret_ rfl rfl rfl rfl rfl trivial)
  · rintro ⟨p9, p10⟩ o1 _ K1 rfl h1 hx1 hK1 hE1 hR1
    refine seq_ ?_
    refine reg_ ?_
    refine st (c_ (cp_ ⟨trivial, trivial, trivial⟩ rfl trivial) ?_)
    refine oe_ ?_
    refine wk_ ⟨[(2, .ptr 128 0), (3, .ptr 192 0), (11, .lst 2 (a0.waiting.map eDSector)), (12, .int .i64 (a0.waiting.length : Int)), (13, .int .i64 p9), (14, .bool (decide (p9 < (a0.waiting.length : Int))))], [(128, [.own 129 0 1 (([] : List UInt8).map eU8), .own 130 0 2 (([] : List DSector).map eDSector)]), (192, [.own 512 0 1 (r1.map eU8), .own 578 0 2 (p10.map eDSector)])], []⟩ (fgk (by kernel_rfl)) ?_
    refine seq_ ?_
    refine ite_ (cb := (decide (p9 < (a0.waiting.length : Int)))) rfl (fun c20 => ?_) (fun c20 => ?_)
    · replace h1 := ip c20 h1
      refine sk_ ?_
      refine wk_ ⟨[(2, .ptr 128 0), (3, .ptr 192 0), (11, .lst 2 (a0.waiting.map eDSector)), (12, .int .i64 (a0.waiting.length : Int)), (13, .int .i64 p9)], [(128, [.own 129 0 1 (([] : List UInt8).map eU8), .own 130 0 2 (([] : List DSector).map eDSector)]), (192, [.own 512 0 1 (r1.map eU8), .own 578 0 2 (p10.map eDSector)])], []⟩ (fgk (by kernel_rfl)) ?_
      refine seq_ ?_
      refine block_ ?_
      refine seq_ ?_
      refine reg_ ?_
      obtain ⟨y21, e22, h1⟩ := bnd h1
      refine st (c_ (cidxL (e := eDSector) (y := y21) rfl rfl trivial rfl rfl trivial e22) ?_)
      refine st (c_ (v := .agg [.int .i64 y21.at_, .lst 1 (y21.data.map eU8)]) (cp_ ⟨trivial, trivial⟩ rfl (Nat.le_of_ble_eq_true rfl)) ?_)
      refine st (alloc_ ?_)
      refine st (stp_ rfl rfl trivial rfl rfl rfl (Nat.le_of_ble_eq_true rfl) ?_)
      refine oe_ ?_
      refine wk_ ⟨[(2, .ptr 128 0), (3, .ptr 192 0), (5, .ptr 320 0), (11, .lst 2 (a0.waiting.map eDSector)), (12, .int .i64 (a0.waiting.length : Int)), (13, .int .i64 p9)], [(128, [.own 129 0 1 (([] : List UInt8).map eU8), .own 130 0 2 (([] : List DSector).map eDSector)]), (192, [.own 512 0 1 (r1.map eU8), .own 578 0 2 (p10.map eDSector)]), (320, [.int .i64 y21.at_, .lst 1 (y21.data.map eU8)])], []⟩ (fgk (by kernel_rfl)) ?_
      obtain ⟨r23, e24, h1⟩ := bnd h1
      obtain ⟨c25, h1⟩ := grd h1
      refine draw_ ?_
      refine dtake trivial (c_ (cp_ ⟨trivial, trivial⟩ rfl trivial) ?_)
      refine ⟨trivial, ?_⟩
      refine dtake trivial (c_ (cp_ ⟨trivial, trivial⟩ rfl (Nat.le_of_ble_eq_true rfl)) ?_)
      refine ⟨trivial, ?_⟩
      refine dtake trivial (c_ (cp_ ⟨trivial, trivial⟩ rfl trivial) ?_)
      refine ⟨trivial, ?_⟩
      refine dtake trivial (c_ (cp_ ⟨trivial, trivial⟩ rfl (Nat.le_of_ble_eq_true rfl)) ?_)
      refine ⟨trivial, ?_⟩
      refine dtake trivial (c_ (cp_ ⟨trivial, trivial⟩ rfl trivial) ?_)
      refine ⟨trivial, ?_⟩
      refine dtake trivial (c_ (cp_ ⟨trivial, trivial⟩ rfl (Nat.le_of_ble_eq_true rfl)) ?_)
      refine ⟨trivial, ?_⟩
      refine dalt (call0_ (r := .own 0 0 1 (r23.map eU8)) false (H325 y21.data r23 e24) ⟨trivial, trivial⟩ rfl rfl (fun _ => (and_ (fl1 (fun _ => rfl)) rfl)) ?_) dstop
      refine dkw ⟨[(2, .ptr 128 0), (3, .ptr 192 0), (5, .ptr 320 0), (11, .lst 2 (a0.waiting.map eDSector)), (12, .int .i64 (a0.waiting.length : Int)), (13, .int .i64 p9), (17, .ptr 192 1), (18, .own 578 0 2 (p10.map eDSector)), (19, .ptr 320 0), (20, .int .i64 y21.at_), (23, .own 1472 0 1 (r23.map eU8))], [(128, [.own 129 0 1 (([] : List UInt8).map eU8), .own 130 0 2 (([] : List DSector).map eDSector)]), (192, [.own 512 0 1 (r1.map eU8), .own 578 0 2 (p10.map eDSector)]), (320, [.int .i64 y21.at_, .lst 1 (y21.data.map eU8)])], []⟩ (fgk (by kernel_rfl)) ⟨[], ⟨⟨.inl trivial, (again1 (cp_ ⟨trivial, trivial⟩ rfl (Nat.le_of_ble_eq_true rfl)) rfl)⟩, ⟨.inl trivial, (again1 (cp_ ⟨trivial, trivial⟩ rfl trivial) rfl)⟩, ⟨.inl trivial, (again1 (cp_ ⟨trivial, trivial⟩ rfl (Nat.le_of_ble_eq_true rfl)) rfl)⟩, ⟨.inl trivial, (again1 (cp_ ⟨trivial, trivial⟩ rfl trivial) rfl)⟩, trivial⟩, trivial, ?_⟩
      refine dtake trivial (c_ (v := .agg [.int .i64 y21.at_, .own 1472 0 1 (r23.map eU8)]) (cp_ ⟨trivial, trivial, trivial⟩ rfl ⟨⟨rfl, rfl, Nat.le_of_ble_eq_true rfl⟩, ⟨rfl, rfl, Nat.le_of_ble_eq_true rfl⟩, trivial⟩) ?_)
      refine ⟨trivial, ?_⟩
      refine dalt (mkS_ ⟨trivial, trivial⟩ ⟨⟨Nat.le_of_ble_eq_true rfl, rfl, rfl⟩, trivial⟩ ?_) dstop
      refine dk0 ⟨[], ⟨⟨.inl trivial, (again1 (cp_ ⟨trivial, trivial⟩ rfl (Nat.le_of_ble_eq_true rfl)) rfl)⟩, ⟨.inl trivial, (again1 (cp_ ⟨trivial, trivial⟩ rfl trivial) rfl)⟩, trivial⟩, trivial, ?_⟩
      refine dalt (app_ (e := eDSector) (l0 := p10) (l1 := ([(DSector.mk y21.at_ r23)] : List DSector)) rfl rfl trivial rfl (by decide) c25 ?_) dstop
      refine dk0 ⟨[], trivial, trivial, ?_⟩
      refine dtake trivial (c_ (cp_ ⟨trivial, trivial⟩ rfl trivial) ?_)
      refine ⟨trivial, ?_⟩
      refine dalt (stp_ rfl rfl trivial rfl rfl rfl (Nat.le_of_ble_eq_true rfl) ?_) dstop
      refine dk0 ⟨[], trivial, trivial, ?_⟩
      refine dfin ?_
      refine bn_ ?_
      refine wk_ ⟨[(2, .ptr 128 0), (3, .ptr 192 0), (11, .lst 2 (a0.waiting.map eDSector)), (12, .int .i64 (a0.waiting.length : Int)), (13, .int .i64 p9)], [(128, [.own 129 0 1 (([] : List UInt8).map eU8), .own 130 0 2 (([] : List DSector).map eDSector)]), (192, [.own 512 0 1 (r1.map eU8), .own 578 0 2 ((p10 ++ ([(DSector.mk y21.at_ r23)] : List DSector)).map eDSector)])], []⟩ (fgk (by kernel_rfl)) ?_
      refine reg_ ?_
      refine st (c_ (cp_ ⟨trivial, trivial, trivial⟩ rfl trivial) ?_)
      refine st (mv_ rfl trivial ?_)
      refine oe_ ?_
      obtain rfl := Option.some.inj h1
      exact hK1 _ rfl _ ⟨[(2, .ptr 128 0), (3, .ptr 192 0), (11, .lst 2 (a0.waiting.map eDSector)), (12, .int .i64 (a0.waiting.length : Int)), (13, .int .i64 (IntKind.i64.wrap (p9 + 1)))], [(128, [.own 129 0 1 (([] : List UInt8).map eU8), .own 130 0 2 (([] : List DSector).map eDSector)]), (192, [.own 512 0 1 (r1.map eU8), .own 578 0 2 ((p10 ++ ([(DSector.mk y21.at_ r23)] : List DSector)).map eDSector)])], []⟩ (fgk (by kernel_rfl)) rfl
    · replace h1 := inb c20 h1
      obtain rfl := Option.some.inj h1
      obtain rfl := hx1 _ rfl
      refine exQ rfl ?_
      exact hE1 _ ⟨[(2, .ptr 128 0), (3, .ptr 192 0)], [(128, [.own 129 0 1 (([] : List UInt8).map eU8), .own 130 0 2 (([] : List DSector).map eDSector)]), (192, [.own 512 0 1 (r1.map eU8), .own 578 0 2 (p10.map eDSector)])], []⟩ (fgk (by kernel_rfl)) ⟨_, rfl, rfl⟩

/- (loop.example/g00149/impl.Device).write -/
def c328_r0 : List Ins := [⟨some 3, .box (.t 0), none⟩,
 ⟨some 6, .alloc [(.own 385 0 1 []), (.own 386 0 2 [])], none⟩]
def c328_r1 : List Ins := [⟨some 13, .p (.load (.t 3) 2 true), none⟩,
 ⟨some 14, .call 366 [(.t 13)], none⟩,
 ⟨some 7, .alloc [(.own 449 0 1 []), (.own 450 0 2 [])], none⟩,
 ⟨none, .store (.t 7) (.t 14) 2, none⟩]
def c328_r2 : List Ins := [⟨some 15, .p (.mv (.t 2)), none⟩,
 ⟨some 16, .p (.len (.t 15)), none⟩,
 ⟨some 17, .p (.bin .eql (.t 16) (.c (.int .i64 0))), none⟩]
def c328_r3 : List Ins := [⟨some 18, .p (.load (.t 7) 2 true), none⟩,
 ⟨none, .store (.t 6) (.t 18) 2, none⟩]
def c328_r4 : List Ins := [⟨some 19, .p (.load (.t 3) 2 true), none⟩,
 ⟨some 20, .call 263 [(.t 19)], none⟩,
 ⟨some 8, .p (.mv (.t 20)), none⟩]
def c328_r5 : List Ins := [⟨some 21, .p (.mv (.t 1)), none⟩,
 ⟨some 22, .p (.mv (.t 2)), none⟩,
 ⟨some 23, .p (.len (.t 22)), none⟩,
 ⟨some 24, .p (.bin .add (.t 21) (.t 23)), none⟩,
 ⟨some 9, .p (.mv (.t 24)), none⟩]
def c328_r6 : List Ins := [⟨some 25, .p (.mv (.t 9)), none⟩,
 ⟨some 26, .p (.bin .sub (.t 25) (.c (.int .i64 1))), none⟩,
 ⟨some 27, .p (.bin .quo (.t 26) (.c (.int .i64 32))), none⟩,
 ⟨some 10, .p (.mv (.t 27)), none⟩]
def c328_r7 : List Ins := [⟨some 28, .p (.mv (.t 10)), none⟩,
 ⟨some 29, .p (.bin .add (.t 28) (.c (.int .i64 1))), none⟩,
 ⟨some 30, .p (.bin .mul (.c (.int .i64 32)) (.t 29)), none⟩,
 ⟨some 11, .p (.mv (.t 30)), none⟩]
def c328_r8 : List Ins := [⟨some 31, .p (.mv (.t 8)), none⟩,
 ⟨some 32, .p (.len (.t 31)), none⟩,
 ⟨some 33, .p (.mv (.t 11)), none⟩,
 ⟨some 34, .p (.bin .lss (.t 32) (.t 33)), none⟩]
def c328_r9 : List Ins := [⟨some 35, .p (.mv (.t 8)), none⟩,
 ⟨some 36, .p (.mv (.t 11)), none⟩,
 ⟨some 37, .p (.mv (.t 8)), none⟩,
 ⟨some 38, .p (.len (.t 37)), none⟩,
 ⟨some 39, .p (.bin .sub (.t 36) (.t 38)), none⟩,
 ⟨some 40, .appz 1 1 [(.int .u8 0)] (.t 35) (.t 39), none⟩,
 ⟨some 8, .p (.mv (.t 40)), none⟩]
def c328_r10 : List Ins := [⟨some 41, .p (.mv (.t 8)), none⟩,
 ⟨some 42, .p (.mv (.t 1)), none⟩,
 ⟨some 43, .p (.slice (.t 41) (some (.t 42)) none 1), none⟩,
 ⟨some 44, .p (.mv (.t 2)), none⟩,
 ⟨some 45, .copy 1 (.t 43) (.t 44), none⟩]
def c328_r11 : List Ins := [⟨some 46, .p (.mv (.t 1)), none⟩,
 ⟨some 47, .p (.bin .quo (.t 46) (.c (.int .i64 32))), none⟩,
 ⟨some 12, .p (.mv (.t 47)), none⟩]
def c328_r12 : List Ins := [⟨some 48, .p (.mv (.t 12)), none⟩,
 ⟨some 49, .p (.mv (.t 10)), none⟩,
 ⟨some 50, .p (.bin .leq (.t 48) (.t 49)), none⟩]
def c328_r13 : DP := (.take ⟨some 53, .p (.fieldA (.t 7) 1), none⟩
 (.take ⟨some 54, .p (.load (.t 53) 1 false), none⟩
 (.take ⟨some 55, .p (.mv (.t 12)), none⟩
 (.take ⟨some 56, .p (.mv (.t 8)), none⟩
 (.take ⟨some 57, .p (.mv (.t 12)), none⟩
 (.take ⟨some 58, .p (.bin .mul (.c (.int .i64 32)) (.t 57)), none⟩
 (.take ⟨some 59, .p (.mv (.t 12)), none⟩
 (.take ⟨some 60, .p (.bin .add (.t 59) (.c (.int .i64 1))), none⟩
 (.take ⟨some 61, .p (.bin .mul (.c (.int .i64 32)) (.t 60)), none⟩
 (.take ⟨some 62, .p (.slice (.t 56) (some (.t 58)) (some (.t 61)) 1), none⟩
 (.alt [⟨some 55, .p (.mv (.t 12)), none⟩, ⟨some 54, .p (.load (.t 53) 1 false), none⟩, ⟨some 53, .p (.fieldA (.t 7) 1), none⟩] ⟨some 63, .call 325 [(.t 62)], none⟩
 (.take ⟨some 64, .p (.build [(.int .i64 0), (.own 4098 0 1 [])] [(0, 1, (.t 55)), (1, 1, (.t 63))]), none⟩
 (.alt [⟨some 54, .p (.load (.t 53) 1 false), none⟩, ⟨some 53, .p (.fieldA (.t 7) 1), none⟩] ⟨some 65, .mkS 2 [(.int .i64 0), (.lst 1 [])] 1 [(0, (.t 64))], none⟩
 (.alt [] ⟨some 66, .app 2 32 (.t 54) (.t 65), none⟩
 (.take ⟨some 67, .p (.fieldA (.t 7) 1), none⟩
 (.alt [] ⟨none, .store (.t 67) (.t 66) 1, none⟩
 .fin
 .stop))
 .stop)
 .stop))
 .stop)))))))))))
def c328_r14 : List Ins := [⟨some 51, .p (.mv (.t 12)), none⟩,
 ⟨some 52, .p (.bin .add (.t 51) (.c (.int .i64 1))), none⟩,
 ⟨some 12, .p (.mv (.t 52)), none⟩]
def c328_l0 : IR := (.seq (.seq (.reg c328_r12) (.ite (.t 50) .skip (.exit 0))) (.seq (.block 1 (.draw c328_r13)) (.reg c328_r14)))
def c328_r15 : List Ins := [⟨some 68, .p (.load (.t 7) 2 true), none⟩,
 ⟨none, .store (.t 6) (.t 68) 2, none⟩]
def c328 : XFn := { np := 3, nt := 69, res := [.cell 6 2 true], body := (.seq (.reg c328_r0) (.seq (.reg c328_r1) (.seq (.seq (.reg c328_r2) (.ite (.t 17) (.seq (.reg c328_r3) .ret) .skip)) (.seq (.reg c328_r4) (.seq (.reg c328_r5) (.seq (.reg c328_r6) (.seq (.seq (.reg c328_r7) (.seq (.reg c328_r8) (.ite (.t 34) (.reg c328_r9) .skip))) (.seq (.reg c328_r10) (.seq (.seq (.reg c328_r11) (.block 0 (.loop c328_l0))) (.seq (.reg c328_r15) .ret)))))))))) }
def K328 (C : CRel) : Prop := ∀ (a0 : DDevice) (a1 : Int) (a2 : List UInt8) (r : DDevice), g328 a0 a1 a2 = some r → C 328 ⟨[.agg [.lst 1 (a0.held.map eU8), .lst 2 (a0.waiting.map eDSector)], .int .i64 a1, .lst 1 (a2.map eU8)], []⟩ ⟨.agg [.own 0 0 1 (r.held.map eU8), .own 1 0 2 (r.waiting.map eDSector)], [], []⟩
theorem F328 {C : CRel} (H263 : K263 C) (H325 : K325 C) (H366 : K366 C) (a0 : DDevice) (a1 : Int) (a2 : List UInt8) (r : DDevice) (h0 : g328 a0 a1 a2 = some r) : FnOK C c328 ⟨[.agg [.lst 1 (a0.held.map eU8), .lst 2 (a0.waiting.map eDSector)], .int .i64 a1, .lst 1 (a2.map eU8)], []⟩ ⟨.agg [.own 0 0 1 (r.held.map eU8), .own 1 0 2 (r.waiting.map eDSector)], [], []⟩ := by
  refine fn_ (Nat.le_of_ble_eq_true rfl) ?_
  refine seq_ ?_
  refine reg_ ?_
  refine st (box_ rfl trivial rfl ?_)
  refine st (alloc_ ?_)
  refine oe_ ?_
  refine wk_ ⟨[(1, .int .i64 a1), (2, .lst 1 (a2.map eU8)), (3, .ptr 192 0), (6, .ptr 384 0)], [(192, [.lst 1 (a0.held.map eU8), .lst 2 (a0.waiting.map eDSector)]), (384, [.own 385 0 1 (([] : List UInt8).map eU8), .own 386 0 2 (([] : List DSector).map eDSector)])], []⟩ (fgk (by kernel_rfl)) ?_
  refine seq_ ?_
  refine reg_ ?_
  refine st (c_ (v := .agg [.lst 1 (a0.held.map eU8), .lst 2 (a0.waiting.map eDSector)]) (cp_ ⟨trivial, trivial⟩ rfl (Nat.le_of_ble_eq_true rfl)) ?_)
  obtain ⟨r1, e2, h0⟩ := bnd h0
  refine st (call0_ (r := .agg [.own 0 0 1 (r1.held.map eU8), .own 1 0 2 (r1.waiting.map eDSector)]) true (H366 a0 r1 e2) ⟨trivial, trivial⟩ rfl rfl (fun h => nomatch h) ?_)
  refine st (alloc_ ?_)
  refine st (stp_ rfl rfl trivial rfl rfl rfl (Nat.le_of_ble_eq_true rfl) ?_)
  refine oe_ ?_
  refine wk_ ⟨[(1, .int .i64 a1), (2, .lst 1 (a2.map eU8)), (3, .ptr 192 0), (6, .ptr 384 0), (7, .ptr 448 0)], [(192, [.lst 1 (a0.held.map eU8), .lst 2 (a0.waiting.map eDSector)]), (384, [.own 385 0 1 (([] : List UInt8).map eU8), .own 386 0 2 (([] : List DSector).map eDSector)]), (448, [.own 896 0 1 (r1.held.map eU8), .own 897 0 2 (r1.waiting.map eDSector)])], []⟩ (fgk (by kernel_rfl)) ?_
  refine seq_ ?_
  refine seq_ ?_
  refine reg_ ?_
  refine st (mv_ rfl trivial ?_)
  refine st (c_ (clenL (e := eU8) (l0 := a2) rfl rfl trivial) ?_)
  refine st (c_ (cp_ ⟨trivial, trivial, trivial⟩ rfl trivial) ?_)
  refine oe_ ?_
  refine wk_ ⟨[(1, .int .i64 a1), (2, .lst 1 (a2.map eU8)), (3, .ptr 192 0), (6, .ptr 384 0), (7, .ptr 448 0), (17, .bool ((a2.length : Int) == 0))], [(192, [.lst 1 (a0.held.map eU8), .lst 2 (a0.waiting.map eDSector)]), (384, [.own 385 0 1 (([] : List UInt8).map eU8), .own 386 0 2 (([] : List DSector).map eDSector)]), (448, [.own 896 0 1 (r1.held.map eU8), .own 897 0 2 (r1.waiting.map eDSector)])], []⟩ (fgk (by kernel_rfl)) ?_
  refine ite_ (cb := ((a2.length : Int) == 0)) rfl (fun c3 => ?_) (fun c3 => ?_)
  · replace h0 := ip c3 h0
    refine seq_ ?_
    refine reg_ ?_
    refine st (c_ (v := .agg [.own 896 0 1 (r1.held.map eU8), .own 897 0 2 (r1.waiting.map eDSector)]) (cp_ ⟨trivial, trivial⟩ rfl (Nat.le_of_ble_eq_true rfl)) ?_)
    refine st (stp_ rfl rfl trivial rfl rfl rfl (Nat.le_of_ble_eq_true rfl) ?_)
    refine oe_ ?_
    refine wk_ ⟨[(6, .ptr 384 0)], [(384, [.own 896 0 1 (r1.held.map eU8), .own 897 0 2 (r1.waiting.map eDSector)])], []⟩ (fgk (by kernel_rfl)) ?_
    obtain rfl := Option.some.inj h0
    exact rt_ (ret_ rfl rfl rfl rfl rfl trivial)
  · replace h0 := inb c3 h0
    refine sk_ ?_
    refine wk_ ⟨[(1, .int .i64 a1), (2, .lst 1 (a2.map eU8)), (3, .ptr 192 0), (6, .ptr 384 0), (7, .ptr 448 0)], [(192, [.lst 1 (a0.held.map eU8), .lst 2 (a0.waiting.map eDSector)]), (384, [.own 385 0 1 (([] : List UInt8).map eU8), .own 386 0 2 (([] : List DSector).map eDSector)]), (448, [.own 896 0 1 (r1.held.map eU8), .own 897 0 2 (r1.waiting.map eDSector)])], []⟩ (fgk (by kernel_rfl)) ?_
    refine seq_ ?_
    refine reg_ ?_
    refine st (c_ (v := .agg [.lst 1 (a0.held.map eU8), .lst 2 (a0.waiting.map eDSector)]) (cp_ ⟨trivial, trivial⟩ rfl (Nat.le_of_ble_eq_true rfl)) ?_)
    obtain ⟨r4, e5, h0⟩ := bnd h0
    refine st (call0_ (r := .own 0 0 1 (r4.map eU8)) false (H263 a0 r4 e5) ⟨trivial, trivial⟩ rfl rfl (fun _ => (and_ (fl1 (fun _ => rfl)) rfl)) ?_)
    refine st (mv_ rfl trivial ?_)
    refine oe_ ?_
    refine wk_ ⟨[(1, .int .i64 a1), (2, .lst 1 (a2.map eU8)), (6, .ptr 384 0), (7, .ptr 448 0), (8, .own 1280 0 1 (r4.map eU8))], [(384, [.own 385 0 1 (([] : List UInt8).map eU8), .own 386 0 2 (([] : List DSector).map eDSector)]), (448, [.own 896 0 1 (r1.held.map eU8), .own 897 0 2 (r1.waiting.map eDSector)])], []⟩ (fgk (by kernel_rfl)) ?_
    refine seq_ ?_
    refine reg_ ?_
    refine st (mv_ rfl trivial ?_)
    refine st (mv_ rfl trivial ?_)
    refine st (c_ (clenL (e := eU8) (l0 := a2) rfl rfl trivial) ?_)
    refine st (c_ (cp_ ⟨trivial, trivial, trivial⟩ rfl trivial) ?_)
    refine st (mv_ rfl trivial ?_)
    refine oe_ ?_
    refine wk_ ⟨[(1, .int .i64 a1), (2, .lst 1 (a2.map eU8)), (6, .ptr 384 0), (7, .ptr 448 0), (8, .own 1280 0 1 (r4.map eU8)), (9, .int .i64 (IntKind.i64.wrap (a1 + (a2.length : Int))))], [(384, [.own 385 0 1 (([] : List UInt8).map eU8), .own 386 0 2 (([] : List DSector).map eDSector)]), (448, [.own 896 0 1 (r1.held.map eU8), .own 897 0 2 (r1.waiting.map eDSector)])], []⟩ (fgk (by kernel_rfl)) ?_
    refine seq_ ?_
    refine reg_ ?_
    refine st (mv_ rfl trivial ?_)
    refine st (c_ (cp_ ⟨trivial, trivial, trivial⟩ rfl trivial) ?_)
    refine st (c_ (cp_ ⟨trivial, trivial, trivial⟩ rfl (by decide)) ?_)
    refine st (mv_ rfl trivial ?_)
    refine oe_ ?_
    obtain ⟨v6, e7, h0⟩ := bl h0
    refine wk_ ⟨[(1, .int .i64 a1), (2, .lst 1 (a2.map eU8)), (6, .ptr 384 0), (7, .ptr 448 0), (8, .own 1280 0 1 (r4.map eU8)), (10, .int .i64 v6)], [(384, [.own 385 0 1 (([] : List UInt8).map eU8), .own 386 0 2 (([] : List DSector).map eDSector)]), (448, [.own 896 0 1 (r1.held.map eU8), .own 897 0 2 (r1.waiting.map eDSector)])], []⟩ (fgk (by subst e7; kernel_rfl)) ?_
    refine seq_ ?_
    refine seq_ ?_
    refine reg_ ?_
    refine st (mv_ rfl trivial ?_)
    refine st (c_ (cp_ ⟨trivial, trivial, trivial⟩ rfl trivial) ?_)
    refine st (c_ (cp_ ⟨trivial, trivial, trivial⟩ rfl trivial) ?_)
    refine st (mv_ rfl trivial ?_)
    refine oe_ ?_
    refine wk_ ⟨[(1, .int .i64 a1), (2, .lst 1 (a2.map eU8)), (6, .ptr 384 0), (7, .ptr 448 0), (8, .own 1280 0 1 (r4.map eU8)), (10, .int .i64 v6), (11, .int .i64 (IntKind.i64.wrap (32 * (IntKind.i64.wrap (v6 + 1)))))], [(384, [.own 385 0 1 (([] : List UInt8).map eU8), .own 386 0 2 (([] : List DSector).map eDSector)]), (448, [.own 896 0 1 (r1.held.map eU8), .own 897 0 2 (r1.waiting.map eDSector)])], []⟩ (fgk (by kernel_rfl)) ?_
    refine seq_ ?_
    refine reg_ ?_
    refine st (mv_ rfl trivial ?_)
    refine st (c_ (clenO (e := eU8) (l0 := r4) rfl rfl trivial) ?_)
    refine st (mv_ rfl trivial ?_)
    refine st (c_ (cp_ ⟨trivial, trivial, trivial⟩ rfl trivial) ?_)
    refine oe_ ?_
    obtain ⟨v8, e9, h0⟩ := bl h0
    refine wk_ ⟨[(1, .int .i64 a1), (2, .lst 1 (a2.map eU8)), (6, .ptr 384 0), (7, .ptr 448 0), (8, .own 1280 0 1 (r4.map eU8)), (10, .int .i64 v6), (11, .int .i64 (IntKind.i64.wrap (32 * (IntKind.i64.wrap (v6 + 1))))), (34, .bool v8)], [(384, [.own 385 0 1 (([] : List UInt8).map eU8), .own 386 0 2 (([] : List DSector).map eDSector)]), (448, [.own 896 0 1 (r1.held.map eU8), .own 897 0 2 (r1.waiting.map eDSector)])], []⟩ (fgk (by subst e9; kernel_rfl)) ?_
    refine iteJ (cb := v8) (fun S => ∃ p13 : List UInt8, S = ⟨[(1, .int .i64 a1), (2, .lst 1 (a2.map eU8)), (6, .ptr 384 0), (7, .ptr 448 0), (8, .own 1280 0 1 (p13.map eU8)), (10, .int .i64 v6)], [(384, [.own 385 0 1 (([] : List UInt8).map eU8), .own 386 0 2 (([] : List DSector).map eDSector)]), (448, [.own 896 0 1 (r1.held.map eU8), .own 897 0 2 (r1.waiting.map eDSector)])], []⟩ ∧ g328_j0 a1 a2 r1 v6 p13 = some r) rfl ?_ (fun c44 J43 => ?_) (fun c44 J43 => ?_)
    · rintro _ ⟨p13, rfl, h0⟩
      refine wk_ ⟨[(1, .int .i64 a1), (2, .lst 1 (a2.map eU8)), (6, .ptr 384 0), (7, .ptr 448 0), (8, .own 1280 0 1 (p13.map eU8)), (10, .int .i64 v6)], [(384, [.own 385 0 1 (([] : List UInt8).map eU8), .own 386 0 2 (([] : List DSector).map eDSector)]), (448, [.own 896 0 1 (r1.held.map eU8), .own 897 0 2 (r1.waiting.map eDSector)])], []⟩ (fgk (by kernel_rfl)) ?_
      refine seq_ ?_
      refine reg_ ?_
      refine st (mv_ rfl trivial ?_)
      refine st (mv_ rfl trivial ?_)
      obtain ⟨s14, e15, h0⟩ := bnd h0
      refine st (c_ (csliceO (e := eU8) (y := s14) rfl rfl trivial ⟨trivial, trivial⟩ rfl rfl e15) ?_)
      refine st (mv_ rfl trivial ?_)
      refine st (copy_ (e := eU8) (l1 := a2) rfl rfl trivial rfl ?_)
      refine oe_ ?_
      refine wk_ ⟨[(1, .int .i64 a1), (6, .ptr 384 0), (7, .ptr 448 0), (8, .own 1280 0 1 ((ovl p13 a1.toNat (a2.take s14.length)).map eU8)), (10, .int .i64 v6)], [(384, [.own 385 0 1 (([] : List UInt8).map eU8), .own 386 0 2 (([] : List DSector).map eDSector)]), (448, [.own 896 0 1 (r1.held.map eU8), .own 897 0 2 (r1.waiting.map eDSector)])], []⟩ (fg ⟨rfl, rfl, rfl, (congrArg (fun z => some ((.own 1280 0 1 z : V))) overlay_ovl), rfl, trivial⟩ ⟨rfl, rfl, trivial⟩) ?_
      refine seq_ ?_
      refine seq_ ?_
      refine reg_ ?_
      refine st (mv_ rfl trivial ?_)
      refine st (c_ (cp_ ⟨trivial, trivial, trivial⟩ rfl (by decide)) ?_)
      refine st (mv_ rfl trivial ?_)
      refine oe_ ?_
      refine wk_ ⟨[(6, .ptr 384 0), (7, .ptr 448 0), (8, .own 1280 0 1 ((ovl p13 a1.toNat (a2.take s14.length)).map eU8)), (10, .int .i64 v6), (12, .int .i64 (IntKind.i64.wrap ((a1).tdiv 32)))], [(384, [.own 385 0 1 (([] : List UInt8).map eU8), .own 386 0 2 (([] : List DSector).map eDSector)]), (448, [.own 896 0 1 (r1.held.map eU8), .own 897 0 2 (r1.waiting.map eDSector)])], []⟩ (fgk (by kernel_rfl)) ?_
      refine block_ ?_
      obtain ⟨r41, e42, h0⟩ := bnd h0
      refine loop_ (R := (fun S => ∃ p34 : List DSector, p34 = r41 ∧ S = ⟨[(6, .ptr 384 0), (7, .ptr 448 0)], [(384, [.own 385 0 1 (([] : List UInt8).map eU8), .own 386 0 2 (([] : List DSector).map eDSector)]), (448, [.own 896 0 1 (r1.held.map eU8), .own 897 0 2 (p34.map eDSector)])], []⟩)) (g328_l0 a1 a2 v6 p13 s14) (fun s S => match s with | (p24, p25) => S = ⟨[(6, .ptr 384 0), (7, .ptr 448 0), (8, .own 1280 0 1 ((ovl p13 a1.toNat (a2.take s14.length)).map eU8)), (10, .int .i64 v6), (12, .int .i64 p24)], [(384, [.own 385 0 1 (([] : List UInt8).map eU8), .own 386 0 2 (([] : List DSector).map eDSector)]), (448, [.own 896 0 1 (r1.held.map eU8), .own 897 0 2 (p25.map eDSector)])], []⟩) e42 ⟨[(6, .ptr 384 0), (7, .ptr 448 0), (8, .own 1280 0 1 ((ovl p13 a1.toNat (a2.take s14.length)).map eU8)), (10, .int .i64 v6), (12, .int .i64 (IntKind.i64.wrap ((a1).tdiv 32)))], [(384, [.own 385 0 1 (([] : List UInt8).map eU8), .own 386 0 2 (([] : List DSector).map eDSector)]), (448, [.own 896 0 1 (r1.held.map eU8), .own 897 0 2 (r1.waiting.map eDSector)])], []⟩ (fgk (by kernel_rfl)) rfl 0 (fun _ => rfl) ?_ ?_
      · rintro S _ hfg ⟨p34, rfl, rfl⟩
        refine wk_ ⟨[(6, .ptr 384 0), (7, .ptr 448 0)], [(384, [.own 385 0 1 (([] : List UInt8).map eU8), .own 386 0 2 (([] : List DSector).map eDSector)]), (448, [.own 896 0 1 (r1.held.map eU8), .own 897 0 2 (p34.map eDSector)])], []⟩ (fglk hfg (by kernel_rfl)) ?_
        refine seq_ ?_
        refine reg_ ?_
        refine st (c_ (v := .agg [.own 896 0 1 (r1.held.map eU8), .own 897 0 2 (p34.map eDSector)]) (cp_ ⟨trivial, trivial⟩ rfl (Nat.le_of_ble_eq_true rfl)) ?_)
        refine st (stp_ rfl rfl trivial rfl rfl rfl (Nat.le_of_ble_eq_true rfl) ?_)
        refine oe_ ?_
        refine wk_ ⟨[(6, .ptr 384 0)], [(384, [.own 896 0 1 (r1.held.map eU8), .own 897 0 2 (p34.map eDSector)])], []⟩ (fgk (by kernel_rfl)) ?_
        obtain rfl := Option.some.inj h0
        exact rt_ (ret_ rfl rfl rfl rfl rfl trivial)
      · rintro ⟨p24, p25⟩ o1 _ K1 rfl h1 hx1 hK1 hE1 hR1
        refine seq_ ?_
        refine seq_ ?_
        refine reg_ ?_
        refine st (mv_ rfl trivial ?_)
        refine st (mv_ rfl trivial ?_)
        refine st (c_ (cp_ ⟨trivial, trivial, trivial⟩ rfl trivial) ?_)
        refine oe_ ?_
        refine wk_ ⟨[(6, .ptr 384 0), (7, .ptr 448 0), (8, .own 1280 0 1 ((ovl p13 a1.toNat (a2.take s14.length)).map eU8)), (10, .int .i64 v6), (12, .int .i64 p24), (50, .bool (decide (p24 ≤ v6)))], [(384, [.own 385 0 1 (([] : List UInt8).map eU8), .own 386 0 2 (([] : List DSector).map eDSector)]), (448, [.own 896 0 1 (r1.held.map eU8), .own 897 0 2 (p25.map eDSector)])], []⟩ (fgk (by kernel_rfl)) ?_
        refine ite_ (cb := (decide (p24 ≤ v6))) rfl (fun c35 => ?_) (fun c35 => ?_)
        · replace h1 := ip c35 h1
          refine sk_ ?_
          refine wk_ ⟨[(6, .ptr 384 0), (7, .ptr 448 0), (8, .own 1280 0 1 ((ovl p13 a1.toNat (a2.take s14.length)).map eU8)), (10, .int .i64 v6), (12, .int .i64 p24)], [(384, [.own 385 0 1 (([] : List UInt8).map eU8), .own 386 0 2 (([] : List DSector).map eDSector)]), (448, [.own 896 0 1 (r1.held.map eU8), .own 897 0 2 (p25.map eDSector)])], []⟩ (fgk (by kernel_rfl)) ?_
          refine seq_ ?_
          refine block_ ?_
          obtain ⟨s36, e37, h1⟩ := bnd h1
          obtain ⟨r38, e39, h1⟩ := bnd h1
          obtain ⟨c40, h1⟩ := grd h1
          refine draw_ ?_
          refine dtake trivial (c_ (cp_ ⟨trivial, trivial⟩ rfl trivial) ?_)
          refine ⟨trivial, ?_⟩
          refine dtake trivial (c_ (cp_ ⟨trivial, trivial⟩ rfl (Nat.le_of_ble_eq_true rfl)) ?_)
          refine ⟨trivial, ?_⟩
          refine dtake trivial (mv_ rfl trivial ?_)
          refine ⟨trivial, ?_⟩
          refine dtake trivial (mv_ rfl trivial ?_)
          refine ⟨trivial, ?_⟩
          refine dtake trivial (mv_ rfl trivial ?_)
          refine ⟨trivial, ?_⟩
          refine dtake trivial (c_ (cp_ ⟨trivial, trivial, trivial⟩ rfl trivial) ?_)
          refine ⟨trivial, ?_⟩
          refine dtake trivial (mv_ rfl trivial ?_)
          refine ⟨trivial, ?_⟩
          refine dtake trivial (c_ (cp_ ⟨trivial, trivial, trivial⟩ rfl trivial) ?_)
          refine ⟨trivial, ?_⟩
          refine dtake trivial (c_ (cp_ ⟨trivial, trivial, trivial⟩ rfl trivial) ?_)
          refine ⟨trivial, ?_⟩
          refine dtake trivial (c_ (csliceO (e := eU8) (y := s36) rfl rfl trivial ⟨trivial, trivial, trivial⟩ rfl rfl e37) ?_)
          refine ⟨trivial, ?_⟩
          refine dalt (call0_ (r := .own 0 0 1 (r38.map eU8)) false (H325 s36 r38 e39) ⟨trivial, trivial⟩ rfl rfl (fun _ => (and_ (fl1 (fun _ => rfl)) rfl)) ?_) dstop
          refine dkw ⟨[(6, .ptr 384 0), (7, .ptr 448 0), (8, .own 1280 0 1 ((ovl p13 a1.toNat (a2.take s14.length)).map eU8)), (10, .int .i64 v6), (12, .int .i64 p24), (53, .ptr 448 1), (54, .own 897 0 2 (p25.map eDSector)), (55, .int .i64 p24), (63, .own 4032 0 1 (r38.map eU8))], [(384, [.own 385 0 1 (([] : List UInt8).map eU8), .own 386 0 2 (([] : List DSector).map eDSector)]), (448, [.own 896 0 1 (r1.held.map eU8), .own 897 0 2 (p25.map eDSector)])], []⟩ (fgk (by kernel_rfl)) ⟨[], ⟨⟨.inl trivial, (again1 (cmv (v := .int .i64 p24) rfl trivial) rfl)⟩, ⟨.inl trivial, (again1 (cp_ ⟨trivial, trivial⟩ rfl (Nat.le_of_ble_eq_true rfl)) rfl)⟩, ⟨.inl trivial, (again1 (cp_ ⟨trivial, trivial⟩ rfl trivial) rfl)⟩, trivial⟩, trivial, ?_⟩
          refine dtake trivial (c_ (v := .agg [.int .i64 p24, .own 4032 0 1 (r38.map eU8)]) (cp_ ⟨trivial, trivial, trivial⟩ rfl ⟨⟨rfl, rfl, Nat.le_of_ble_eq_true rfl⟩, ⟨rfl, rfl, Nat.le_of_ble_eq_true rfl⟩, trivial⟩) ?_)
          refine ⟨trivial, ?_⟩
          refine dalt (mkS_ ⟨trivial, trivial⟩ ⟨⟨Nat.le_of_ble_eq_true rfl, rfl, rfl⟩, trivial⟩ ?_) dstop
          refine dk0 ⟨[], ⟨⟨.inl trivial, (again1 (cp_ ⟨trivial, trivial⟩ rfl (Nat.le_of_ble_eq_true rfl)) rfl)⟩, ⟨.inl trivial, (again1 (cp_ ⟨trivial, trivial⟩ rfl trivial) rfl)⟩, trivial⟩, trivial, ?_⟩
          refine dalt (app_ (e := eDSector) (l0 := p25) (l1 := ([(DSector.mk p24 r38)] : List DSector)) rfl rfl trivial rfl (by decide) c40 ?_) dstop
          refine dk0 ⟨[], trivial, trivial, ?_⟩
          refine dtake trivial (c_ (cp_ ⟨trivial, trivial⟩ rfl trivial) ?_)
          refine ⟨trivial, ?_⟩
          refine dalt (stp_ rfl rfl trivial rfl rfl rfl (Nat.le_of_ble_eq_true rfl) ?_) dstop
          refine dk0 ⟨[], trivial, trivial, ?_⟩
          refine dfin ?_
          refine bn_ ?_
          refine wk_ ⟨[(6, .ptr 384 0), (7, .ptr 448 0), (8, .own 1280 0 1 ((ovl p13 a1.toNat (a2.take s14.length)).map eU8)), (10, .int .i64 v6), (12, .int .i64 p24)], [(384, [.own 385 0 1 (([] : List UInt8).map eU8), .own 386 0 2 (([] : List DSector).map eDSector)]), (448, [.own 896 0 1 (r1.held.map eU8), .own 897 0 2 ((p25 ++ ([(DSector.mk p24 r38)] : List DSector)).map eDSector)])], []⟩ (fgk (by kernel_rfl)) ?_
          refine reg_ ?_
          refine st (mv_ rfl trivial ?_)
          refine st (c_ (cp_ ⟨trivial, trivial, trivial⟩ rfl trivial) ?_)
          refine st (mv_ rfl trivial ?_)
          refine oe_ ?_
          obtain rfl := Option.some.inj h1
          exact hK1 _ rfl _ ⟨[(6, .ptr 384 0), (7, .ptr 448 0), (8, .own 1280 0 1 ((ovl p13 a1.toNat (a2.take s14.length)).map eU8)), (10, .int .i64 v6), (12, .int .i64 (IntKind.i64.wrap (p24 + 1)))], [(384, [.own 385 0 1 (([] : List UInt8).map eU8), .own 386 0 2 (([] : List DSector).map eDSector)]), (448, [.own 896 0 1 (r1.held.map eU8), .own 897 0 2 ((p25 ++ ([(DSector.mk p24 r38)] : List DSector)).map eDSector)])], []⟩ (fgk (by kernel_rfl)) rfl
        · replace h1 := inb c35 h1
          obtain rfl := Option.some.inj h1
          obtain rfl := hx1 _ rfl
          refine exQ rfl ?_
          exact hE1 _ ⟨[(6, .ptr 384 0), (7, .ptr 448 0)], [(384, [.own 385 0 1 (([] : List UInt8).map eU8), .own 386 0 2 (([] : List DSector).map eDSector)]), (448, [.own 896 0 1 (r1.held.map eU8), .own 897 0 2 (p25.map eDSector)])], []⟩ (fgk (by kernel_rfl)) ⟨_, rfl, rfl⟩
    · replace h0 := ip c44 h0
      refine reg_ ?_
      refine st (mv_ rfl trivial ?_)
      refine st (mv_ rfl trivial ?_)
      refine st (mv_ rfl trivial ?_)
      refine st (c_ (clenO (e := eU8) (l0 := r4) rfl rfl trivial) ?_)
      refine st (c_ (cp_ ⟨trivial, trivial, trivial⟩ rfl trivial) ?_)
      obtain ⟨c45, h0⟩ := grd h0
      obtain ⟨c46, h0⟩ := grd h0
      refine st (appz_ (e := eU8) (l0 := r4) (0 : UInt8) rfl rfl rfl (by decide) c45 c46 ?_)
      refine st (mv_ rfl trivial ?_)
      refine oe_ ?_
      exact J43 _ ⟨[(1, .int .i64 a1), (2, .lst 1 (a2.map eU8)), (6, .ptr 384 0), (7, .ptr 448 0), (8, .own 1280 0 1 ((r4 ++ List.replicate (IntKind.i64.wrap ((IntKind.i64.wrap (32 * (IntKind.i64.wrap (v6 + 1)))) - (r4.length : Int))).toNat (0 : UInt8)).map eU8)), (10, .int .i64 v6)], [(384, [.own 385 0 1 (([] : List UInt8).map eU8), .own 386 0 2 (([] : List DSector).map eDSector)]), (448, [.own 896 0 1 (r1.held.map eU8), .own 897 0 2 (r1.waiting.map eDSector)])], []⟩ (fgk (by kernel_rfl)) ⟨_, rfl, h0⟩
    · replace h0 := inb c44 h0
      refine sk_ ?_
      exact J43 _ ⟨[(1, .int .i64 a1), (2, .lst 1 (a2.map eU8)), (6, .ptr 384 0), (7, .ptr 448 0), (8, .own 1280 0 1 (r4.map eU8)), (10, .int .i64 v6)], [(384, [.own 385 0 1 (([] : List UInt8).map eU8), .own 386 0 2 (([] : List DSector).map eDSector)]), (448, [.own 896 0 1 (r1.held.map eU8), .own 897 0 2 (r1.waiting.map eDSector)])], []⟩ (fgk (by kernel_rfl)) ⟨_, rfl, h0⟩

/- (loop.example/g00149/impl.Device).written -/
def c265_r0 : List Ins := [⟨some 3, .box (.t 0), none⟩,
 ⟨some 6, .alloc [(.own 385 0 1 []), (.own 386 0 2 [])], none⟩,
 ⟨some 7, .p (.mv (.c (.int .i64 0))), none⟩]
def c265_r1 : List Ins := [⟨some 9, .p (.mv (.t 1)), none⟩,
 ⟨some 10, .p (.mv (.t 2)), none⟩,
 ⟨some 11, .p (.len (.t 10)), none⟩,
 ⟨some 12, .call 327 [(.t 9), (.t 11)], none⟩,
 ⟨some 13, .p (.un .not (.t 12)), none⟩]
def c265_r2 : List Ins := [⟨some 14, .p (.build [(.own 897 0 1 []), (.own 898 0 2 [])] []), none⟩,
 ⟨none, .store (.t 6) (.t 14) 2, none⟩,
 ⟨some 7, .p (.mv (.c (.int .i64 9))), none⟩]
def c265_r3 : List Ins := [⟨some 15, .p (.load (.t 3) 2 true), none⟩,
 ⟨some 16, .p (.mv (.t 1)), none⟩,
 ⟨some 17, .p (.mv (.t 2)), none⟩,
 ⟨some 18, .call 328 [(.t 15), (.t 16), (.t 17)], none⟩,
 ⟨some 8, .alloc [(.own 513 0 1 []), (.own 514 0 2 [])], none⟩,
 ⟨none, .store (.t 8) (.t 18) 2, none⟩]
def c265_r4 : List Ins := [⟨some 19, .p (.fieldA (.t 8) 1), none⟩,
 ⟨some 20, .p (.load (.t 19) 1 false), none⟩,
 ⟨some 21, .call 269 [(.t 20)], none⟩,
 ⟨some 22, .p (.un .not (.t 21)), none⟩]
def c265_r5 : List Ins := [⟨some 23, .p (.build [(.own 1473 0 1 []), (.own 1474 0 2 [])] []), none⟩,
 ⟨none, .store (.t 6) (.t 23) 2, none⟩,
 ⟨some 7, .p (.mv (.c (.int .i64 6))), none⟩]
def c265_r6 : List Ins := [⟨some 24, .p (.load (.t 8) 2 true), none⟩,
 ⟨none, .store (.t 6) (.t 24) 2, none⟩,
 ⟨some 7, .p (.mv (.c (.int .i64 0))), none⟩]
def c265 : XFn := { np := 3, nt := 25, res := [.cell 6 2 true, .t 7], body := (.seq (.reg c265_r0) (.seq (.seq (.reg c265_r1) (.ite (.t 13) (.seq (.reg c265_r2) .ret) .skip)) (.seq (.reg c265_r3) (.seq (.seq (.reg c265_r4) (.ite (.t 22) (.seq (.reg c265_r5) .ret) .skip)) (.seq (.reg c265_r6) .ret))))) }
def K265 (C : CRel) : Prop := ∀ (a0 : DDevice) (a1 : Int) (a2 : List UInt8) (r : DDevice × Int), g265 a0 a1 a2 = some r → C 265 ⟨[.agg [.lst 1 (a0.held.map eU8), .lst 2 (a0.waiting.map eDSector)], .int .i64 a1, .lst 1 (a2.map eU8)], []⟩ ⟨.tup [.agg [.own 0 0 1 (r.1.held.map eU8), .own 1 0 2 (r.1.waiting.map eDSector)], .int .i64 r.2], [], []⟩
theorem F265 {C : CRel} (H269 : K269 C) (H327 : K327 C) (H328 : K328 C) (a0 : DDevice) (a1 : Int) (a2 : List UInt8) (r : DDevice × Int) (h0 : g265 a0 a1 a2 = some r) : FnOK C c265 ⟨[.agg [.lst 1 (a0.held.map eU8), .lst 2 (a0.waiting.map eDSector)], .int .i64 a1, .lst 1 (a2.map eU8)], []⟩ ⟨.tup [.agg [.own 0 0 1 (r.1.held.map eU8), .own 1 0 2 (r.1.waiting.map eDSector)], .int .i64 r.2], [], []⟩ := by
  refine fn_ (Nat.le_of_ble_eq_true rfl) ?_
  refine seq_ ?_
  refine reg_ ?_
  refine st (box_ rfl trivial rfl ?_)
  refine st (alloc_ ?_)
  refine st (mvc_ trivial ?_)
  refine oe_ ?_
  refine wk_ ⟨[(1, .int .i64 a1), (2, .lst 1 (a2.map eU8)), (3, .ptr 192 0), (6, .ptr 384 0)], [(192, [.lst 1 (a0.held.map eU8), .lst 2 (a0.waiting.map eDSector)]), (384, [.own 385 0 1 (([] : List UInt8).map eU8), .own 386 0 2 (([] : List DSector).map eDSector)])], []⟩ (fgk (by kernel_rfl)) ?_
  refine seq_ ?_
  refine seq_ ?_
  refine reg_ ?_
  refine st (mv_ rfl trivial ?_)
  refine st (mv_ rfl trivial ?_)
  refine st (c_ (clenL (e := eU8) (l0 := a2) rfl rfl trivial) ?_)
  obtain ⟨r1, e2, h0⟩ := bnd h0
  refine st (call0_ (r := .bool r1) false (H327 a1 (a2.length : Int) r1 e2) ⟨trivial, trivial, trivial⟩ rfl rfl (fun _ => rfl) ?_)
  refine st (c_ (cp_ ⟨trivial, trivial⟩ rfl trivial) ?_)
  refine oe_ ?_
  refine wk_ ⟨[(1, .int .i64 a1), (2, .lst 1 (a2.map eU8)), (3, .ptr 192 0), (6, .ptr 384 0), (13, .bool (!r1))], [(192, [.lst 1 (a0.held.map eU8), .lst 2 (a0.waiting.map eDSector)]), (384, [.own 385 0 1 (([] : List UInt8).map eU8), .own 386 0 2 (([] : List DSector).map eDSector)])], []⟩ (fgk (by kernel_rfl)) ?_
  refine ite_ (cb := (!r1)) rfl (fun c3 => ?_) (fun c3 => ?_)
  · replace h0 := ip c3 h0
    refine seq_ ?_
    refine reg_ ?_
    refine st (c_ (v := .agg [.own 897 0 1 (([] : List UInt8).map eU8), .own 898 0 2 (([] : List DSector).map eDSector)]) (cp_ trivial rfl trivial) ?_)
    refine st (stp_ rfl rfl trivial rfl rfl rfl (Nat.le_of_ble_eq_true rfl) ?_)
    refine st (mvc_ trivial ?_)
    refine oe_ ?_
    refine wk_ ⟨[(6, .ptr 384 0), (7, .int .i64 9)], [(384, [.own 897 0 1 (([] : List UInt8).map eU8), .own 898 0 2 (([] : List DSector).map eDSector)])], []⟩ (fgk (by kernel_rfl)) ?_
    obtain rfl := Option.some.inj h0
    exact rt_ (ret_ rfl rfl rfl rfl rfl trivial)
  · replace h0 := inb c3 h0
    refine sk_ ?_
    refine wk_ ⟨[(1, .int .i64 a1), (2, .lst 1 (a2.map eU8)), (3, .ptr 192 0), (6, .ptr 384 0)], [(192, [.lst 1 (a0.held.map eU8), .lst 2 (a0.waiting.map eDSector)]), (384, [.own 385 0 1 (([] : List UInt8).map eU8), .own 386 0 2 (([] : List DSector).map eDSector)])], []⟩ (fgk (by kernel_rfl)) ?_
    refine seq_ ?_
    refine reg_ ?_
    refine st (c_ (v := .agg [.lst 1 (a0.held.map eU8), .lst 2 (a0.waiting.map eDSector)]) (cp_ ⟨trivial, trivial⟩ rfl (Nat.le_of_ble_eq_true rfl)) ?_)
    refine st (mv_ rfl trivial ?_)
    refine st (mv_ rfl trivial ?_)
    obtain ⟨r4, e5, h0⟩ := bnd h0
    refine st (call0_ (r := .agg [.own 0 0 1 (r4.held.map eU8), .own 1 0 2 (r4.waiting.map eDSector)]) true (H328 a0 a1 a2 r4 e5) ⟨trivial, trivial, trivial, trivial⟩ rfl rfl (fun h => nomatch h) ?_)
    refine st (alloc_ ?_)
    refine st (stp_ rfl rfl trivial rfl rfl rfl (Nat.le_of_ble_eq_true rfl) ?_)
    refine oe_ ?_
    refine wk_ ⟨[(6, .ptr 384 0), (8, .ptr 512 0)], [(384, [.own 385 0 1 (([] : List UInt8).map eU8), .own 386 0 2 (([] : List DSector).map eDSector)]), (512, [.own 1152 0 1 (r4.held.map eU8), .own 1153 0 2 (r4.waiting.map eDSector)])], []⟩ (fgk (by kernel_rfl)) ?_
    refine seq_ ?_
    refine seq_ ?_
    refine reg_ ?_
    refine st (c_ (cp_ ⟨trivial, trivial⟩ rfl trivial) ?_)
    refine st (c_ (cp_ ⟨trivial, trivial⟩ rfl (Nat.le_of_ble_eq_true rfl)) ?_)
    obtain ⟨r6, e7, h0⟩ := bnd h0
    refine st (call0_ (r := .bool r6) false (H269 r4.waiting r6 e7) ⟨trivial, trivial⟩ rfl rfl (fun _ => rfl) ?_)
    refine st (c_ (cp_ ⟨trivial, trivial⟩ rfl trivial) ?_)
    refine oe_ ?_
    refine wk_ ⟨[(6, .ptr 384 0), (8, .ptr 512 0), (22, .bool (!r6))], [(384, [.own 385 0 1 (([] : List UInt8).map eU8), .own 386 0 2 (([] : List DSector).map eDSector)]), (512, [.own 1152 0 1 (r4.held.map eU8), .own 1153 0 2 (r4.waiting.map eDSector)])], []⟩ (fgk (by kernel_rfl)) ?_
    refine ite_ (cb := (!r6)) rfl (fun c8 => ?_) (fun c8 => ?_)
    · replace h0 := ip c8 h0
      refine seq_ ?_
      refine reg_ ?_
      refine st (c_ (v := .agg [.own 1473 0 1 (([] : List UInt8).map eU8), .own 1474 0 2 (([] : List DSector).map eDSector)]) (cp_ trivial rfl trivial) ?_)
      refine st (stp_ rfl rfl trivial rfl rfl rfl (Nat.le_of_ble_eq_true rfl) ?_)
      refine st (mvc_ trivial ?_)
      refine oe_ ?_
      refine wk_ ⟨[(6, .ptr 384 0), (7, .int .i64 6)], [(384, [.own 1473 0 1 (([] : List UInt8).map eU8), .own 1474 0 2 (([] : List DSector).map eDSector)])], []⟩ (fgk (by kernel_rfl)) ?_
      obtain rfl := Option.some.inj h0
      exact rt_ (ret_ rfl rfl rfl rfl rfl trivial)
    · replace h0 := inb c8 h0
      refine sk_ ?_
      refine wk_ ⟨[(6, .ptr 384 0), (8, .ptr 512 0)], [(384, [.own 385 0 1 (([] : List UInt8).map eU8), .own 386 0 2 (([] : List DSector).map eDSector)]), (512, [.own 1152 0 1 (r4.held.map eU8), .own 1153 0 2 (r4.waiting.map eDSector)])], []⟩ (fgk (by kernel_rfl)) ?_
      refine seq_ ?_
      refine reg_ ?_
      refine st (c_ (v := .agg [.own 1152 0 1 (r4.held.map eU8), .own 1153 0 2 (r4.waiting.map eDSector)]) (cp_ ⟨trivial, trivial⟩ rfl (Nat.le_of_ble_eq_true rfl)) ?_)
      refine st (stp_ rfl rfl trivial rfl rfl rfl (Nat.le_of_ble_eq_true rfl) ?_)
      refine st (mvc_ trivial ?_)
      refine oe_ ?_
      refine wk_ ⟨[(6, .ptr 384 0), (7, .int .i64 0)], [(384, [.own 1152 0 1 (r4.held.map eU8), .own 1153 0 2 (r4.waiting.map eDSector)])], []⟩ (fgk (by kernel_rfl)) ?_
      obtain rfl := Option.some.inj h0
      exact rt_ (ret_ rfl rfl rfl rfl rfl trivial)

/- loop.example/g00149/impl.DeviceWrite -/
def c214_r0 : List Ins := [⟨some 3, .box (.t 0), none⟩,
 ⟨some 6, .alloc [(.own 385 0 1 []), (.own 386 0 2 [])], none⟩,
 ⟨some 7, .p (.mv (.c (.int .i64 0))), none⟩]
def c214_r1 : List Ins := [⟨some 9, .p (.mv (.t 2)), none⟩,
 ⟨some 10, .call 264 [(.t 9)], none⟩,
 ⟨some 11, .p (.un .not (.t 10)), none⟩,
 ⟨some 8, .p (.mv (.t 11)), none⟩]
def c214_r2 : List Ins := [⟨some 12, .p (.build [(.own 769 0 1 []), (.own 770 0 2 [])] []), none⟩,
 ⟨none, .store (.t 6) (.t 12) 2, none⟩,
 ⟨some 7, .p (.mv (.c (.int .i64 2))), none⟩]
def c214_r3 : List Ins := [⟨some 14, .p (.load (.t 3) 2 true), none⟩,
 ⟨some 15, .call 216 [(.t 14)], none⟩,
 ⟨some 16, .p (.un .not (.t 15)), none⟩,
 ⟨some 13, .p (.mv (.t 16)), none⟩]
def c214_r4 : List Ins := [⟨some 17, .p (.build [(.own 1089 0 1 []), (.own 1090 0 2 [])] []), none⟩,
 ⟨none, .store (.t 6) (.t 17) 2, none⟩,
 ⟨some 7, .p (.mv (.c (.int .i64 1))), none⟩]
def c214_r5 : List Ins := [⟨some 18, .p (.load (.t 3) 2 true), none⟩,
 ⟨some 19, .p (.mv (.t 1)), none⟩,
 ⟨some 20, .p (.mv (.t 2)), none⟩,
 ⟨some 21, .call 265 [(.t 18), (.t 19), (.t 20)], none⟩,
 ⟨some 22, .p (.ext (.t 21) 0), none⟩,
 ⟨some 23, .p (.ext (.t 21) 1), none⟩,
 ⟨none, .store (.t 6) (.t 22) 2, none⟩,
 ⟨some 7, .p (.mv (.t 23)), none⟩]
def c214 : XFn := { np := 3, nt := 24, res := [.cell 6 2 true, .t 7], body := (.seq (.reg c214_r0) (.seq (.block 0 (.seq (.reg c214_r1) (.ite (.t 8) (.seq (.reg c214_r2) .ret) (.seq (.reg c214_r3) (.ite (.t 13) (.seq (.reg c214_r4) .ret) .skip))))) (.seq (.reg c214_r5) .ret))) }
def K214 (C : CRel) : Prop := ∀ (a0 : DDevice) (a1 : Int) (a2 : List UInt8) (r : DDevice × Int), g214 a0 a1 a2 = some r → C 214 ⟨[.agg [.lst 1 (a0.held.map eU8), .lst 2 (a0.waiting.map eDSector)], .int .i64 a1, .lst 1 (a2.map eU8)], []⟩ ⟨.tup [.agg [.own 0 0 1 (r.1.held.map eU8), .own 1 0 2 (r.1.waiting.map eDSector)], .int .i64 r.2], [], []⟩
theorem F214 {C : CRel} (H216 : K216 C) (H264 : K264 C) (H265 : K265 C) (a0 : DDevice) (a1 : Int) (a2 : List UInt8) (r : DDevice × Int) (h0 : g214 a0 a1 a2 = some r) : FnOK C c214 ⟨[.agg [.lst 1 (a0.held.map eU8), .lst 2 (a0.waiting.map eDSector)], .int .i64 a1, .lst 1 (a2.map eU8)], []⟩ ⟨.tup [.agg [.own 0 0 1 (r.1.held.map eU8), .own 1 0 2 (r.1.waiting.map eDSector)], .int .i64 r.2], [], []⟩ := by
  refine fn_ (Nat.le_of_ble_eq_true rfl) ?_
  refine seq_ ?_
  refine reg_ ?_
  refine st (box_ rfl trivial rfl ?_)
  refine st (alloc_ ?_)
  refine st (mvc_ trivial ?_)
  refine oe_ ?_
  refine wk_ ⟨[(1, .int .i64 a1), (2, .lst 1 (a2.map eU8)), (3, .ptr 192 0), (6, .ptr 384 0)], [(192, [.lst 1 (a0.held.map eU8), .lst 2 (a0.waiting.map eDSector)]), (384, [.own 385 0 1 (([] : List UInt8).map eU8), .own 386 0 2 (([] : List DSector).map eDSector)])], []⟩ (fgk (by kernel_rfl)) ?_
  refine seq_ ?_
  refine block_ ?_
  refine seq_ ?_
  refine reg_ ?_
  refine st (mv_ rfl trivial ?_)
  obtain ⟨r1, e2, h0⟩ := bnd h0
  refine st (call0_ (r := .bool r1) false (H264 a2 r1 e2) ⟨trivial, trivial⟩ rfl rfl (fun _ => rfl) ?_)
  refine st (c_ (cp_ ⟨trivial, trivial⟩ rfl trivial) ?_)
  refine st (mv_ rfl trivial ?_)
  refine oe_ ?_
  refine wk_ ⟨[(1, .int .i64 a1), (2, .lst 1 (a2.map eU8)), (3, .ptr 192 0), (6, .ptr 384 0), (8, .bool (!r1))], [(192, [.lst 1 (a0.held.map eU8), .lst 2 (a0.waiting.map eDSector)]), (384, [.own 385 0 1 (([] : List UInt8).map eU8), .own 386 0 2 (([] : List DSector).map eDSector)])], []⟩ (fgk (by kernel_rfl)) ?_
  refine ite_ (cb := (!r1)) rfl (fun c3 => ?_) (fun c3 => ?_)
  · replace h0 := ip c3 h0
    refine seq_ ?_
    refine reg_ ?_
    refine st (c_ (v := .agg [.own 769 0 1 (([] : List UInt8).map eU8), .own 770 0 2 (([] : List DSector).map eDSector)]) (cp_ trivial rfl trivial) ?_)
    refine st (stp_ rfl rfl trivial rfl rfl rfl (Nat.le_of_ble_eq_true rfl) ?_)
    refine st (mvc_ trivial ?_)
    refine oe_ ?_
    refine wk_ ⟨[(6, .ptr 384 0), (7, .int .i64 2)], [(384, [.own 769 0 1 (([] : List UInt8).map eU8), .own 770 0 2 (([] : List DSector).map eDSector)])], []⟩ (fgk (by kernel_rfl)) ?_
    obtain rfl := Option.some.inj h0
    exact rt_ (ret_ rfl rfl rfl rfl rfl trivial)
  · replace h0 := inb c3 h0
    refine seq_ ?_
    refine reg_ ?_
    refine st (c_ (v := .agg [.lst 1 (a0.held.map eU8), .lst 2 (a0.waiting.map eDSector)]) (cp_ ⟨trivial, trivial⟩ rfl (Nat.le_of_ble_eq_true rfl)) ?_)
    obtain ⟨r4, e5, h0⟩ := bnd h0
    refine st (call0_ (r := .bool r4) false (H216 a0 r4 e5) ⟨trivial, trivial⟩ rfl rfl (fun _ => rfl) ?_)
    refine st (c_ (cp_ ⟨trivial, trivial⟩ rfl trivial) ?_)
    refine st (mv_ rfl trivial ?_)
    refine oe_ ?_
    refine wk_ ⟨[(1, .int .i64 a1), (2, .lst 1 (a2.map eU8)), (3, .ptr 192 0), (6, .ptr 384 0), (13, .bool (!r4))], [(192, [.lst 1 (a0.held.map eU8), .lst 2 (a0.waiting.map eDSector)]), (384, [.own 385 0 1 (([] : List UInt8).map eU8), .own 386 0 2 (([] : List DSector).map eDSector)])], []⟩ (fgk (by kernel_rfl)) ?_
    refine ite_ (cb := (!r4)) rfl (fun c6 => ?_) (fun c6 => ?_)
    · replace h0 := ip c6 h0
      refine seq_ ?_
      refine reg_ ?_
      refine st (c_ (v := .agg [.own 1089 0 1 (([] : List UInt8).map eU8), .own 1090 0 2 (([] : List DSector).map eDSector)]) (cp_ trivial rfl trivial) ?_)
      refine st (stp_ rfl rfl trivial rfl rfl rfl (Nat.le_of_ble_eq_true rfl) ?_)
      refine st (mvc_ trivial ?_)
      refine oe_ ?_
      refine wk_ ⟨[(6, .ptr 384 0), (7, .int .i64 1)], [(384, [.own 1089 0 1 (([] : List UInt8).map eU8), .own 1090 0 2 (([] : List DSector).map eDSector)])], []⟩ (fgk (by kernel_rfl)) ?_
      obtain rfl := Option.some.inj h0
      exact rt_ (ret_ rfl rfl rfl rfl rfl trivial)
    · replace h0 := inb c6 h0
      refine sk_ ?_
      refine bn_ ?_
      refine wk_ ⟨[(1, .int .i64 a1), (2, .lst 1 (a2.map eU8)), (3, .ptr 192 0), (6, .ptr 384 0)], [(192, [.lst 1 (a0.held.map eU8), .lst 2 (a0.waiting.map eDSector)]), (384, [.own 385 0 1 (([] : List UInt8).map eU8), .own 386 0 2 (([] : List DSector).map eDSector)])], []⟩ (fgk (by kernel_rfl)) ?_
      refine seq_ ?_
      refine reg_ ?_
      refine st (c_ (v := .agg [.lst 1 (a0.held.map eU8), .lst 2 (a0.waiting.map eDSector)]) (cp_ ⟨trivial, trivial⟩ rfl (Nat.le_of_ble_eq_true rfl)) ?_)
      refine st (mv_ rfl trivial ?_)
      refine st (mv_ rfl trivial ?_)
      obtain ⟨r7, e8, h0⟩ := bnd h0
      refine st (call0_ (r := .tup [.agg [.own 0 0 1 (r7.1.held.map eU8), .own 1 0 2 (r7.1.waiting.map eDSector)], .int .i64 r7.2]) true (H265 a0 a1 a2 r7 e8) ⟨trivial, trivial, trivial, trivial⟩ rfl rfl (fun h => nomatch h) ?_)
      refine st (c_ (cp_ ⟨trivial, trivial⟩ rfl trivial) ?_)
      refine st (c_ (cp_ ⟨trivial, trivial⟩ rfl trivial) ?_)
      refine st (stp_ rfl rfl trivial rfl rfl rfl (Nat.le_of_ble_eq_true rfl) ?_)
      refine st (mv_ rfl trivial ?_)
      refine oe_ ?_
      refine wk_ ⟨[(6, .ptr 384 0), (7, .int .i64 r7.2)], [(384, [.own 1344 0 1 (r7.1.held.map eU8), .own 1345 0 2 (r7.1.waiting.map eDSector)])], []⟩ (fgk (by kernel_rfl)) ?_
      obtain rfl := Option.some.inj h0
      exact rt_ (ret_ rfl rfl rfl rfl rfl trivial)

/- loop.example/g00149/spec.l00Source -/
def c83_r0 : List Ins := [⟨some 2, .p (.mv (.c .undef)), none⟩]
def c83_r1 : List Ins := [⟨some 3, .p (.mv (.t 0)), none⟩,
 ⟨some 4, .p (.mv (.t 0)), none⟩,
 ⟨some 5, .p (.len (.t 4)), none⟩,
 ⟨some 6, .p (.bin .rem (.t 5) (.c (.int .i64 1000))), none⟩,
 ⟨some 7, .p (.build [(.own 449 0 1 []), (.int .i64 0), (.int .i64 0)] [(0, 1, (.t 3)), (2, 1, (.t 6))]), none⟩,
 ⟨some 8, .box (.t 7), none⟩,
 ⟨some 2, .p (.mv (.t 8)), none⟩]
def c83 : XFn := { np := 1, nt := 9, res := [.t 2], body := (.seq (.reg c83_r0) (.seq (.reg c83_r1) .ret)) }
def K83 (C : CRel) : Prop := ∀ (a0 : List UInt8) (r : Dl00Src), g83 a0 = some r → C 83 ⟨[.lst 1 (a0.map eU8)], []⟩ ⟨.ptr 0 0, [[.lst 1 (r.code_.map eU8), .int .i64 r.at_, .int .i64 r.seed]], []⟩
theorem F83 {C : CRel}  (a0 : List UInt8) (r : Dl00Src) (h0 : g83 a0 = some r) : FnOK C c83 ⟨[.lst 1 (a0.map eU8)], []⟩ ⟨.ptr 0 0, [[.lst 1 (r.code_.map eU8), .int .i64 r.at_, .int .i64 r.seed]], []⟩ := by
  refine fn_ (Nat.le_of_ble_eq_true rfl) ?_
  refine seq_ ?_
  refine reg_ ?_
  refine st (mvc_ trivial ?_)
  refine oe_ ?_
  refine wk_ ⟨[(0, .lst 1 (a0.map eU8))], [], []⟩ (fgk (by kernel_rfl)) ?_
  refine seq_ ?_
  refine reg_ ?_
  refine st (mv_ rfl trivial ?_)
  refine st (mv_ rfl trivial ?_)
  refine st (c_ (clenL (e := eU8) (l0 := a0) rfl rfl trivial) ?_)
  refine st (c_ (cp_ ⟨trivial, trivial, trivial⟩ rfl (by decide)) ?_)
  refine st (c_ (v := .agg [.lst 1 (a0.map eU8), .int .i64 0, .int .i64 (((a0.length : Int)).tmod 1000)]) (cp_ ⟨trivial, trivial, trivial⟩ rfl ⟨⟨rfl, rfl, Nat.le_of_ble_eq_true rfl⟩, ⟨rfl, rfl, Nat.le_of_ble_eq_true rfl⟩, trivial⟩) ?_)
  refine st (box_ rfl trivial rfl ?_)
  refine st (mv_ rfl trivial ?_)
  refine oe_ ?_
  refine wk_ ⟨[(2, .ptr 512 0)], [(512, [.lst 1 (a0.map eU8), .int .i64 0, .int .i64 (((a0.length : Int)).tmod 1000)])], []⟩ (fgk (by kernel_rfl)) ?_
  obtain rfl := Option.some.inj h0
  exact rt_ (ret_ rfl rfl rfl rfl rfl trivial)

/- (*loop.example/g00149/spec.l00Src).byte -/
def c139_r0 : List Ins := [⟨some 2, .p (.mv (.c (.int .i64 0))), none⟩]
def c139_r1 : List Ins := [⟨some 3, .p (.mv (.t 0)), none⟩,
 ⟨some 4, .p (.nilc (.t 3)), none⟩,
 ⟨some 5, .p (.fieldA (.t 4) 1), none⟩,
 ⟨some 6, .p (.load (.t 5) 1 false), none⟩,
 ⟨some 7, .p (.bin .add (.t 6) (.c (.int .i64 1))), none⟩,
 ⟨some 8, .p (.nilc (.t 3)), none⟩,
 ⟨some 9, .p (.fieldA (.t 8) 1), none⟩,
 ⟨none, .store (.t 9) (.t 7) 1, none⟩]
def c139_r2 : DP := (.take ⟨some 10, .p (.mv (.t 0)), none⟩
 (.take ⟨some 11, .p (.nilc (.t 10)), none⟩
 (.take ⟨some 12, .p (.fieldA (.t 11) 1), none⟩
 (.take ⟨some 13, .p (.load (.t 12) 1 false), none⟩
 (.take ⟨some 14, .p (.mv (.t 0)), none⟩
 (.take ⟨some 15, .p (.nilc (.t 14)), none⟩
 (.take ⟨some 16, .p (.fieldA (.t 15) 0), none⟩
 (.take ⟨some 17, .p (.load (.t 16) 1 false), none⟩
 (.take ⟨some 18, .p (.len (.t 17)), none⟩
 (.take ⟨some 19, .p (.bin .leq (.t 13) (.t 18)), none⟩
 .fin))))))))))
def c139_r3 : DP := (.take ⟨some 20, .p (.mv (.t 0)), none⟩
 (.take ⟨some 21, .p (.mv (.t 0)), none⟩
 (.take ⟨some 22, .p (.nilc (.t 21)), none⟩
 (.take ⟨some 23, .p (.fieldA (.t 22) 2), none⟩
 (.take ⟨some 24, .p (.load (.t 23) 1 false), none⟩
 (.take ⟨some 25, .p (.bin .mul (.t 24) (.c (.int .i64 31))), none⟩
 (.take ⟨some 26, .p (.mv (.t 0)), none⟩
 (.take ⟨some 27, .p (.nilc (.t 26)), none⟩
 (.take ⟨some 28, .p (.fieldA (.t 27) 0), none⟩
 (.take ⟨some 29, .p (.load (.t 28) 1 false), none⟩
 (.take ⟨some 30, .p (.mv (.t 0)), none⟩
 (.take ⟨some 31, .p (.nilc (.t 30)), none⟩
 (.take ⟨some 32, .p (.fieldA (.t 31) 1), none⟩
 (.take ⟨some 33, .p (.load (.t 32) 1 false), none⟩
 (.take ⟨some 34, .p (.bin .sub (.t 33) (.c (.int .i64 1))), none⟩
 (.take ⟨some 35, .p (.idxA (.t 29) (.t 34) 1), none⟩
 (.take ⟨some 36, .p (.load (.t 35) 1 false), none⟩
 (.take ⟨some 37, .p (.conv .i64 (.t 36)), none⟩
 (.take ⟨some 38, .p (.bin .add (.t 25) (.t 37)), none⟩
 (.take ⟨some 39, .p (.bin .add (.t 38) (.c (.int .i64 7))), none⟩
 (.take ⟨some 40, .p (.bin .rem (.t 39) (.c (.int .i64 2147483648))), none⟩
 (.take ⟨some 41, .p (.nilc (.t 20)), none⟩
 (.take ⟨some 42, .p (.fieldA (.t 41) 2), none⟩
 (.alt [] ⟨none, .store (.t 42) (.t 40) 1, none⟩
 .fin
 .stop))))))))))))))))))))))))
def c139_r4 : DP := (.take ⟨some 43, .p (.mv (.t 0)), none⟩
 (.take ⟨some 44, .p (.nilc (.t 43)), none⟩
 (.take ⟨some 45, .p (.fieldA (.t 44) 0), none⟩
 (.take ⟨some 46, .p (.load (.t 45) 1 false), none⟩
 (.take ⟨some 47, .p (.mv (.t 0)), none⟩
 (.take ⟨some 48, .p (.nilc (.t 47)), none⟩
 (.take ⟨some 49, .p (.fieldA (.t 48) 1), none⟩
 (.take ⟨some 50, .p (.load (.t 49) 1 false), none⟩
 (.take ⟨some 51, .p (.bin .sub (.t 50) (.c (.int .i64 1))), none⟩
 (.take ⟨some 52, .p (.idxA (.t 46) (.t 51) 1), none⟩
 (.take ⟨some 53, .p (.load (.t 52) 1 false), none⟩
 (.take ⟨some 54, .p (.conv .i64 (.t 53)), none⟩
 (.take ⟨some 2, .p (.mv (.t 54)), none⟩
 .fin)))))))))))))
def c139_r5 : List Ins := [⟨some 55, .p (.mv (.t 0)), none⟩,
 ⟨some 56, .p (.nilc (.t 55)), none⟩,
 ⟨some 57, .p (.fieldA (.t 56) 1), none⟩,
 ⟨some 58, .p (.load (.t 57) 1 false), none⟩,
 ⟨some 59, .p (.bin .gtr (.t 58) (.c (.int .i64 3000))), none⟩]
def c139_r6 : List Ins := [⟨some 2, .p (.mv (.c (.int .i64 0))), none⟩]
def c139_r7 : List Ins := [⟨some 60, .p (.mv (.t 0)), none⟩,
 ⟨some 61, .p (.mv (.t 0)), none⟩,
 ⟨some 62, .p (.nilc (.t 61)), none⟩,
 ⟨some 63, .p (.fieldA (.t 62) 2), none⟩,
 ⟨some 64, .p (.load (.t 63) 1 false), none⟩,
 ⟨some 65, .p (.bin .mul (.t 64) (.c (.int .i64 1103515245))), none⟩,
 ⟨some 66, .p (.bin .add (.t 65) (.c (.int .i64 12345))), none⟩,
 ⟨some 67, .p (.bin .rem (.t 66) (.c (.int .i64 2147483648))), none⟩,
 ⟨some 68, .p (.nilc (.t 60)), none⟩,
 ⟨some 69, .p (.fieldA (.t 68) 2), none⟩,
 ⟨none, .store (.t 69) (.t 67) 1, none⟩]
def c139_r8 : List Ins := [⟨some 70, .p (.mv (.t 0)), none⟩,
 ⟨some 71, .p (.nilc (.t 70)), none⟩,
 ⟨some 72, .p (.fieldA (.t 71) 2), none⟩,
 ⟨some 73, .p (.load (.t 72) 1 false), none⟩,
 ⟨some 74, .p (.bin .quo (.t 73) (.c (.int .i64 65536))), none⟩,
 ⟨some 75, .p (.bin .rem (.t 74) (.c (.int .i64 256))), none⟩,
 ⟨some 2, .p (.mv (.t 75)), none⟩]
def c139 : XFn := { np := 1, nt := 76, res := [.t 2], body := (.seq (.reg c139_r0) (.seq (.reg c139_r1) (.seq (.seq (.draw c139_r2) (.ite (.t 19) (.seq (.draw c139_r3) (.seq (.draw c139_r4) .ret)) .skip)) (.seq (.seq (.reg c139_r5) (.ite (.t 59) (.seq (.reg c139_r6) .ret) .skip)) (.seq (.reg c139_r7) (.seq (.reg c139_r8) .ret)))))) }
def K139 (C : CRel) : Prop := ∀ (a0 : Dl00Src) (r : Int × Dl00Src), g139 a0 = some r → C 139 ⟨[.ptr 1048576 0], [[.lst 1 (a0.code_.map eU8), .int .i64 a0.at_, .int .i64 a0.seed]]⟩ ⟨.int .i64 r.1, [[.lst 1 (r.2.code_.map eU8), .int .i64 r.2.at_, .int .i64 r.2.seed]], []⟩
theorem F139 {C : CRel}  (a0 : Dl00Src) (r : Int × Dl00Src) (h0 : g139 a0 = some r) : FnOK C c139 ⟨[.ptr 1048576 0], [[.lst 1 (a0.code_.map eU8), .int .i64 a0.at_, .int .i64 a0.seed]]⟩ ⟨.int .i64 r.1, [[.lst 1 (r.2.code_.map eU8), .int .i64 r.2.at_, .int .i64 r.2.seed]], []⟩ := by
  refine fn_ (Nat.le_of_ble_eq_true rfl) ?_
  refine seq_ ?_
  refine reg_ ?_
  refine st (mvc_ trivial ?_)
  refine oe_ ?_
  refine wk_ ⟨[(0, .ptr 1048576 0)], [(1048576, [.lst 1 (a0.code_.map eU8), .int .i64 a0.at_, .int .i64 a0.seed])], []⟩ (fgk (by kernel_rfl)) ?_
  refine seq_ ?_
  refine reg_ ?_
  refine st (mv_ rfl trivial ?_)
  refine st (c_ (cp_ ⟨trivial, trivial⟩ rfl trivial) ?_)
  refine st (c_ (cp_ ⟨trivial, trivial⟩ rfl trivial) ?_)
  refine st (c_ (cp_ ⟨trivial, trivial⟩ rfl (Nat.le_of_ble_eq_true rfl)) ?_)
  refine st (c_ (cp_ ⟨trivial, trivial, trivial⟩ rfl trivial) ?_)
  refine st (c_ (cp_ ⟨trivial, trivial⟩ rfl trivial) ?_)
  refine st (c_ (cp_ ⟨trivial, trivial⟩ rfl trivial) ?_)
  refine st (stp_ rfl rfl trivial rfl rfl rfl (Nat.le_of_ble_eq_true rfl) ?_)
  refine oe_ ?_
  refine wk_ ⟨[(0, .ptr 1048576 0)], [(1048576, [.lst 1 (a0.code_.map eU8), .int .i64 (IntKind.i64.wrap (a0.at_ + 1)), .int .i64 a0.seed])], []⟩ (fgk (by kernel_rfl)) ?_
  refine seq_ ?_
  refine seq_ ?_
  refine draw_ ?_
  refine dtake trivial (mv_ rfl trivial ?_)
  refine ⟨trivial, ?_⟩
  refine dtake trivial (c_ (cp_ ⟨trivial, trivial⟩ rfl trivial) ?_)
  refine ⟨trivial, ?_⟩
  refine dtake trivial (c_ (cp_ ⟨trivial, trivial⟩ rfl trivial) ?_)
  refine ⟨trivial, ?_⟩
  refine dtake trivial (c_ (cp_ ⟨trivial, trivial⟩ rfl (Nat.le_of_ble_eq_true rfl)) ?_)
  refine ⟨trivial, ?_⟩
  refine dtake trivial (mv_ rfl trivial ?_)
  refine ⟨trivial, ?_⟩
  refine dtake trivial (c_ (cp_ ⟨trivial, trivial⟩ rfl trivial) ?_)
  refine ⟨trivial, ?_⟩
  refine dtake trivial (c_ (cp_ ⟨trivial, trivial⟩ rfl trivial) ?_)
  refine ⟨trivial, ?_⟩
  refine dtake trivial (c_ (cp_ ⟨trivial, trivial⟩ rfl (Nat.le_of_ble_eq_true rfl)) ?_)
  refine ⟨trivial, ?_⟩
  refine dtake trivial (c_ (clenL (e := eU8) (l0 := a0.code_) rfl rfl trivial) ?_)
  refine ⟨trivial, ?_⟩
  refine dtake trivial (c_ (cp_ ⟨trivial, trivial, trivial⟩ rfl trivial) ?_)
  refine ⟨trivial, ?_⟩
  refine dfin ?_
  refine wk_ ⟨[(0, .ptr 1048576 0), (19, .bool (decide ((IntKind.i64.wrap (a0.at_ + 1)) ≤ (a0.code_.length : Int))))], [(1048576, [.lst 1 (a0.code_.map eU8), .int .i64 (IntKind.i64.wrap (a0.at_ + 1)), .int .i64 a0.seed])], []⟩ (fgk (by kernel_rfl)) ?_
  refine ite_ (cb := (decide ((IntKind.i64.wrap (a0.at_ + 1)) ≤ (a0.code_.length : Int)))) rfl (fun c1 => ?_) (fun c1 => ?_)
  · replace h0 := ip c1 h0
    refine seq_ ?_
    obtain ⟨y2, e3, h0⟩ := bnd h0
    refine draw_ ?_
    refine dtake trivial (mv_ rfl trivial ?_)
    refine ⟨trivial, ?_⟩
    refine dtake trivial (mv_ rfl trivial ?_)
    refine ⟨trivial, ?_⟩
    refine dtake trivial (c_ (cp_ ⟨trivial, trivial⟩ rfl trivial) ?_)
    refine ⟨trivial, ?_⟩
    refine dtake trivial (c_ (cp_ ⟨trivial, trivial⟩ rfl trivial) ?_)
    refine ⟨trivial, ?_⟩
    refine dtake trivial (c_ (cp_ ⟨trivial, trivial⟩ rfl (Nat.le_of_ble_eq_true rfl)) ?_)
    refine ⟨trivial, ?_⟩
    refine dtake trivial (c_ (cp_ ⟨trivial, trivial, trivial⟩ rfl trivial) ?_)
    refine ⟨trivial, ?_⟩
    refine dtake trivial (mv_ rfl trivial ?_)
    refine ⟨trivial, ?_⟩
    refine dtake trivial (c_ (cp_ ⟨trivial, trivial⟩ rfl trivial) ?_)
    refine ⟨trivial, ?_⟩
    refine dtake trivial (c_ (cp_ ⟨trivial, trivial⟩ rfl trivial) ?_)
    refine ⟨trivial, ?_⟩
    refine dtake trivial (c_ (cp_ ⟨trivial, trivial⟩ rfl (Nat.le_of_ble_eq_true rfl)) ?_)
    refine ⟨trivial, ?_⟩
    refine dtake trivial (mv_ rfl trivial ?_)
    refine ⟨trivial, ?_⟩
    refine dtake trivial (c_ (cp_ ⟨trivial, trivial⟩ rfl trivial) ?_)
    refine ⟨trivial, ?_⟩
    refine dtake trivial (c_ (cp_ ⟨trivial, trivial⟩ rfl trivial) ?_)
    refine ⟨trivial, ?_⟩
    refine dtake trivial (c_ (cp_ ⟨trivial, trivial⟩ rfl (Nat.le_of_ble_eq_true rfl)) ?_)
    refine ⟨trivial, ?_⟩
    refine dtake trivial (c_ (cp_ ⟨trivial, trivial, trivial⟩ rfl trivial) ?_)
    refine ⟨trivial, ?_⟩
    refine dtake trivial (c_ (cidxL (e := eU8) (y := y2) rfl rfl trivial rfl rfl trivial e3) ?_)
    refine ⟨trivial, ?_⟩
    refine dtake trivial (c_ (cp_ ⟨trivial, trivial⟩ rfl (Nat.le_of_ble_eq_true rfl)) ?_)
    refine ⟨trivial, ?_⟩
    refine dtake trivial (c_ (cp_ ⟨trivial, trivial⟩ rfl trivial) ?_)
    refine ⟨trivial, ?_⟩
    refine dtake trivial (c_ (cp_ ⟨trivial, trivial, trivial⟩ rfl trivial) ?_)
    refine ⟨trivial, ?_⟩
    refine dtake trivial (c_ (cp_ ⟨trivial, trivial, trivial⟩ rfl trivial) ?_)
    refine ⟨trivial, ?_⟩
    refine dtake trivial (c_ (cp_ ⟨trivial, trivial, trivial⟩ rfl (by decide)) ?_)
    refine ⟨trivial, ?_⟩
    refine dtake trivial (c_ (cp_ ⟨trivial, trivial⟩ rfl trivial) ?_)
    refine ⟨trivial, ?_⟩
    refine dtake trivial (c_ (cp_ ⟨trivial, trivial⟩ rfl trivial) ?_)
    refine ⟨trivial, ?_⟩
    refine dalt (stp_ rfl rfl trivial rfl rfl rfl (Nat.le_of_ble_eq_true rfl) ?_) dstop
    refine dk0 ⟨[], trivial, trivial, ?_⟩
    refine dfin ?_
    obtain ⟨v4, e5, h0⟩ := bl h0
    refine wk_ ⟨[(0, .ptr 1048576 0)], [(1048576, [.lst 1 (a0.code_.map eU8), .int .i64 (IntKind.i64.wrap (a0.at_ + 1)), .int .i64 v4])], []⟩ (fgk (by subst e5; kernel_rfl)) ?_
    refine seq_ ?_
    obtain ⟨y6, e7, h0⟩ := bnd h0
    refine draw_ ?_
    refine dtake trivial (mv_ rfl trivial ?_)
    refine ⟨trivial, ?_⟩
    refine dtake trivial (c_ (cp_ ⟨trivial, trivial⟩ rfl trivial) ?_)
    refine ⟨trivial, ?_⟩
    refine dtake trivial (c_ (cp_ ⟨trivial, trivial⟩ rfl trivial) ?_)
    refine ⟨trivial, ?_⟩
    refine dtake trivial (c_ (cp_ ⟨trivial, trivial⟩ rfl (Nat.le_of_ble_eq_true rfl)) ?_)
    refine ⟨trivial, ?_⟩
    refine dtake trivial (mv_ rfl trivial ?_)
    refine ⟨trivial, ?_⟩
    refine dtake trivial (c_ (cp_ ⟨trivial, trivial⟩ rfl trivial) ?_)
    refine ⟨trivial, ?_⟩
    refine dtake trivial (c_ (cp_ ⟨trivial, trivial⟩ rfl trivial) ?_)
    refine ⟨trivial, ?_⟩
    refine dtake trivial (c_ (cp_ ⟨trivial, trivial⟩ rfl (Nat.le_of_ble_eq_true rfl)) ?_)
    refine ⟨trivial, ?_⟩
    refine dtake trivial (c_ (cp_ ⟨trivial, trivial, trivial⟩ rfl trivial) ?_)
    refine ⟨trivial, ?_⟩
    refine dtake trivial (c_ (cidxL (e := eU8) (y := y6) rfl rfl trivial rfl rfl trivial e7) ?_)
    refine ⟨trivial, ?_⟩
    refine dtake trivial (c_ (cp_ ⟨trivial, trivial⟩ rfl (Nat.le_of_ble_eq_true rfl)) ?_)
    refine ⟨trivial, ?_⟩
    refine dtake trivial (c_ (cp_ ⟨trivial, trivial⟩ rfl trivial) ?_)
    refine ⟨trivial, ?_⟩
    refine dtake trivial (mv_ rfl trivial ?_)
    refine ⟨trivial, ?_⟩
    refine dfin ?_
    refine wk_ ⟨[(2, .int .i64 (IntKind.i64.wrap ((y6).toNat : Int)))], [(1048576, [.lst 1 (a0.code_.map eU8), .int .i64 (IntKind.i64.wrap (a0.at_ + 1)), .int .i64 v4])], []⟩ (fgk (by kernel_rfl)) ?_
    obtain rfl := Option.some.inj h0
    exact rt_ (ret_ rfl rfl rfl rfl rfl trivial)
  · replace h0 := inb c1 h0
    refine sk_ ?_
    refine wk_ ⟨[(0, .ptr 1048576 0)], [(1048576, [.lst 1 (a0.code_.map eU8), .int .i64 (IntKind.i64.wrap (a0.at_ + 1)), .int .i64 a0.seed])], []⟩ (fgk (by kernel_rfl)) ?_
    refine seq_ ?_
    refine seq_ ?_
    refine reg_ ?_
    refine st (mv_ rfl trivial ?_)
    refine st (c_ (cp_ ⟨trivial, trivial⟩ rfl trivial) ?_)
    refine st (c_ (cp_ ⟨trivial, trivial⟩ rfl trivial) ?_)
    refine st (c_ (cp_ ⟨trivial, trivial⟩ rfl (Nat.le_of_ble_eq_true rfl)) ?_)
    refine st (c_ (cp_ ⟨trivial, trivial, trivial⟩ rfl trivial) ?_)
    refine oe_ ?_
    refine wk_ ⟨[(0, .ptr 1048576 0), (59, .bool (decide ((IntKind.i64.wrap (a0.at_ + 1)) > 3000)))], [(1048576, [.lst 1 (a0.code_.map eU8), .int .i64 (IntKind.i64.wrap (a0.at_ + 1)), .int .i64 a0.seed])], []⟩ (fgk (by kernel_rfl)) ?_
    refine ite_ (cb := (decide ((IntKind.i64.wrap (a0.at_ + 1)) > 3000))) rfl (fun c8 => ?_) (fun c8 => ?_)
    · replace h0 := ip c8 h0
      refine seq_ ?_
      refine reg_ ?_
      refine st (mvc_ trivial ?_)
      refine oe_ ?_
      refine wk_ ⟨[(2, .int .i64 0)], [(1048576, [.lst 1 (a0.code_.map eU8), .int .i64 (IntKind.i64.wrap (a0.at_ + 1)), .int .i64 a0.seed])], []⟩ (fgk (by kernel_rfl)) ?_
      obtain rfl := Option.some.inj h0
      exact rt_ (ret_ rfl rfl rfl rfl rfl trivial)
    · replace h0 := inb c8 h0
      refine sk_ ?_
      refine wk_ ⟨[(0, .ptr 1048576 0)], [(1048576, [.lst 1 (a0.code_.map eU8), .int .i64 (IntKind.i64.wrap (a0.at_ + 1)), .int .i64 a0.seed])], []⟩ (fgk (by kernel_rfl)) ?_
      refine seq_ ?_
      refine reg_ ?_
      refine st (mv_ rfl trivial ?_)
      refine st (mv_ rfl trivial ?_)
      refine st (c_ (cp_ ⟨trivial, trivial⟩ rfl trivial) ?_)
      refine st (c_ (cp_ ⟨trivial, trivial⟩ rfl trivial) ?_)
      refine st (c_ (cp_ ⟨trivial, trivial⟩ rfl (Nat.le_of_ble_eq_true rfl)) ?_)
      refine st (c_ (cp_ ⟨trivial, trivial, trivial⟩ rfl trivial) ?_)
      refine st (c_ (cp_ ⟨trivial, trivial, trivial⟩ rfl trivial) ?_)
      refine st (c_ (cp_ ⟨trivial, trivial, trivial⟩ rfl (by decide)) ?_)
      refine st (c_ (cp_ ⟨trivial, trivial⟩ rfl trivial) ?_)
      refine st (c_ (cp_ ⟨trivial, trivial⟩ rfl trivial) ?_)
      refine st (stp_ rfl rfl trivial rfl rfl rfl (Nat.le_of_ble_eq_true rfl) ?_)
      refine oe_ ?_
      obtain ⟨v9, e10, h0⟩ := bl h0
      refine wk_ ⟨[(0, .ptr 1048576 0)], [(1048576, [.lst 1 (a0.code_.map eU8), .int .i64 (IntKind.i64.wrap (a0.at_ + 1)), .int .i64 v9])], []⟩ (fgk (by subst e10; kernel_rfl)) ?_
      refine seq_ ?_
      refine reg_ ?_
      refine st (mv_ rfl trivial ?_)
      refine st (c_ (cp_ ⟨trivial, trivial⟩ rfl trivial) ?_)
      refine st (c_ (cp_ ⟨trivial, trivial⟩ rfl trivial) ?_)
      refine st (c_ (cp_ ⟨trivial, trivial⟩ rfl (Nat.le_of_ble_eq_true rfl)) ?_)
      refine st (c_ (cp_ ⟨trivial, trivial, trivial⟩ rfl (by decide)) ?_)
      refine st (c_ (cp_ ⟨trivial, trivial, trivial⟩ rfl (by decide)) ?_)
      refine st (mv_ rfl trivial ?_)
      refine oe_ ?_
      refine wk_ ⟨[(2, .int .i64 (((IntKind.i64.wrap ((v9).tdiv 65536))).tmod 256))], [(1048576, [.lst 1 (a0.code_.map eU8), .int .i64 (IntKind.i64.wrap (a0.at_ + 1)), .int .i64 v9])], []⟩ (fgk (by kernel_rfl)) ?_
      obtain rfl := Option.some.inj h0
      exact rt_ (ret_ rfl rfl rfl rfl rfl trivial)

/- (*loop.example/g00149/spec.l00Src).next -/
def c117_r0 : List Ins := [⟨some 4, .p (.mv (.c (.int .i64 0))), none⟩]
def c117_r1 : List Ins := [⟨some 8, .p (.mv (.t 1)), none⟩,
 ⟨some 9, .p (.bin .leq (.t 8) (.c (.int .i64 1))), none⟩]
def c117_r2 : List Ins := [⟨some 4, .p (.mv (.c (.int .i64 0))), none⟩]
def c117_r3 : List Ins := [⟨some 10, .p (.mv (.t 1)), none⟩,
 ⟨some 11, .p (.bin .leq (.t 10) (.c (.int .i64 256))), none⟩]
def c117_r4 : List Ins := [⟨some 12, .p (.mv (.t 0)), none⟩,
 ⟨some 13, .call 139 [(.t 12)], none⟩,
 ⟨some 14, .p (.mv (.t 1)), none⟩,
 ⟨some 15, .p (.bin .rem (.t 13) (.t 14)), none⟩,
 ⟨some 4, .p (.mv (.t 15)), none⟩]
def c117_r5 : List Ins := [⟨some 16, .p (.mv (.t 0)), none⟩,
 ⟨some 17, .call 139 [(.t 16)], none⟩,
 ⟨some 5, .p (.mv (.t 17)), none⟩]
def c117_r6 : List Ins := [⟨some 18, .p (.mv (.t 0)), none⟩,
 ⟨some 19, .call 139 [(.t 18)], none⟩,
 ⟨some 6, .p (.mv (.t 19)), none⟩]
def c117_r7 : List Ins := [⟨some 20, .p (.mv (.t 0)), none⟩,
 ⟨some 21, .call 139 [(.t 20)], none⟩,
 ⟨some 7, .p (.mv (.t 21)), none⟩]
def c117_r8 : List Ins := [⟨some 22, .p (.mv (.t 5)), none⟩,
 ⟨some 23, .p (.bin .mul (.t 22) (.c (.int .i64 65536))), none⟩,
 ⟨some 24, .p (.mv (.t 6)), none⟩,
 ⟨some 25, .p (.bin .mul (.t 24) (.c (.int .i64 256))), none⟩,
 ⟨some 26, .p (.bin .add (.t 23) (.t 25)), none⟩,
 ⟨some 27, .p (.mv (.t 7)), none⟩,
 ⟨some 28, .p (.bin .add (.t 26) (.t 27)), none⟩,
 ⟨some 29, .p (.mv (.t 1)), none⟩,
 ⟨some 30, .p (.bin .rem (.t 28) (.t 29)), none⟩,
 ⟨some 4, .p (.mv (.t 30)), none⟩]
def c117 : XFn := { np := 2, nt := 31, res := [.t 4], body := (.seq (.reg c117_r0) (.seq (.seq (.reg c117_r1) (.ite (.t 9) (.seq (.reg c117_r2) .ret) .skip)) (.seq (.seq (.reg c117_r3) (.ite (.t 11) (.seq (.reg c117_r4) .ret) .skip)) (.seq (.reg c117_r5) (.seq (.reg c117_r6) (.seq (.reg c117_r7) (.seq (.reg c117_r8) .ret))))))) }
def K117 (C : CRel) : Prop := ∀ (a0 : Dl00Src) (a1 : Int) (r : Int × Dl00Src), g117 a0 a1 = some r → C 117 ⟨[.ptr 1048576 0, .int .i64 a1], [[.lst 1 (a0.code_.map eU8), .int .i64 a0.at_, .int .i64 a0.seed]]⟩ ⟨.int .i64 r.1, [[.lst 1 (r.2.code_.map eU8), .int .i64 r.2.at_, .int .i64 r.2.seed]], []⟩
theorem F117 {C : CRel} (H139 : K139 C) (a0 : Dl00Src) (a1 : Int) (r : Int × Dl00Src) (h0 : g117 a0 a1 = some r) : FnOK C c117 ⟨[.ptr 1048576 0, .int .i64 a1], [[.lst 1 (a0.code_.map eU8), .int .i64 a0.at_, .int .i64 a0.seed]]⟩ ⟨.int .i64 r.1, [[.lst 1 (r.2.code_.map eU8), .int .i64 r.2.at_, .int .i64 r.2.seed]], []⟩ := by
  refine fn_ (Nat.le_of_ble_eq_true rfl) ?_
  refine seq_ ?_
  refine reg_ ?_
  refine st (mvc_ trivial ?_)
  refine oe_ ?_
  refine wk_ ⟨[(0, .ptr 1048576 0), (1, .int .i64 a1)], [(1048576, [.lst 1 (a0.code_.map eU8), .int .i64 a0.at_, .int .i64 a0.seed])], []⟩ (fgk (by kernel_rfl)) ?_
  refine seq_ ?_
  refine seq_ ?_
  refine reg_ ?_
  refine st (mv_ rfl trivial ?_)
  refine st (c_ (cp_ ⟨trivial, trivial, trivial⟩ rfl trivial) ?_)
  refine oe_ ?_
  refine wk_ ⟨[(0, .ptr 1048576 0), (1, .int .i64 a1), (9, .bool (decide (a1 ≤ 1)))], [(1048576, [.lst 1 (a0.code_.map eU8), .int .i64 a0.at_, .int .i64 a0.seed])], []⟩ (fgk (by kernel_rfl)) ?_
  refine ite_ (cb := (decide (a1 ≤ 1))) rfl (fun c1 => ?_) (fun c1 => ?_)
  · replace h0 := ip c1 h0
    refine seq_ ?_
    refine reg_ ?_
    refine st (mvc_ trivial ?_)
    refine oe_ ?_
    refine wk_ ⟨[(4, .int .i64 0)], [(1048576, [.lst 1 (a0.code_.map eU8), .int .i64 a0.at_, .int .i64 a0.seed])], []⟩ (fgk (by kernel_rfl)) ?_
    obtain rfl := Option.some.inj h0
    exact rt_ (ret_ rfl rfl rfl rfl rfl trivial)
  · replace h0 := inb c1 h0
    refine sk_ ?_
    refine wk_ ⟨[(0, .ptr 1048576 0), (1, .int .i64 a1)], [(1048576, [.lst 1 (a0.code_.map eU8), .int .i64 a0.at_, .int .i64 a0.seed])], []⟩ (fgk (by kernel_rfl)) ?_
    refine seq_ ?_
    refine seq_ ?_
    refine reg_ ?_
    refine st (mv_ rfl trivial ?_)
    refine st (c_ (cp_ ⟨trivial, trivial, trivial⟩ rfl trivial) ?_)
    refine oe_ ?_
    refine wk_ ⟨[(0, .ptr 1048576 0), (1, .int .i64 a1), (11, .bool (decide (a1 ≤ 256)))], [(1048576, [.lst 1 (a0.code_.map eU8), .int .i64 a0.at_, .int .i64 a0.seed])], []⟩ (fgk (by kernel_rfl)) ?_
    refine ite_ (cb := (decide (a1 ≤ 256))) rfl (fun c2 => ?_) (fun c2 => ?_)
    · replace h0 := ip c2 h0
      refine seq_ ?_
      refine reg_ ?_
      refine st (mv_ rfl trivial ?_)
      obtain ⟨r3, e4, h0⟩ := bnd h0
      refine st (call1_ [1048576] [] [] true (H139 a0 r3 e4) ⟨trivial, trivial⟩ (by kernel_rfl) (by kernel_rfl) (by kernel_rfl) (by kernel_rfl) (fun h => nomatch h) ?_)
      refine sw ⟨[(1, .int .i64 a1), (13, .int .i64 r3.1)], [(1048576, [.lst 1 (r3.2.code_.map eU8), .int .i64 r3.2.at_, .int .i64 r3.2.seed])], []⟩ (fgk (by kernel_rfl)) (mv_ rfl trivial ?_)
      obtain ⟨c5, h0⟩ := grd h0
      refine st (c_ (cp_ ⟨trivial, trivial, trivial⟩ rfl c5) ?_)
      refine st (mv_ rfl trivial ?_)
      refine oe_ ?_
      refine wk_ ⟨[(4, .int .i64 ((r3.1).tmod a1))], [(1048576, [.lst 1 (r3.2.code_.map eU8), .int .i64 r3.2.at_, .int .i64 r3.2.seed])], []⟩ (fgk (by kernel_rfl)) ?_
      obtain rfl := Option.some.inj h0
      exact rt_ (ret_ rfl rfl rfl rfl rfl trivial)
    · replace h0 := inb c2 h0
      refine sk_ ?_
      refine wk_ ⟨[(0, .ptr 1048576 0), (1, .int .i64 a1)], [(1048576, [.lst 1 (a0.code_.map eU8), .int .i64 a0.at_, .int .i64 a0.seed])], []⟩ (fgk (by kernel_rfl)) ?_
      refine seq_ ?_
      refine reg_ ?_
      refine st (mv_ rfl trivial ?_)
      obtain ⟨r6, e7, h0⟩ := bnd h0
      refine st (call1_ [1048576] [] [] true (H139 a0 r6 e7) ⟨trivial, trivial⟩ (by kernel_rfl) (by kernel_rfl) (by kernel_rfl) (by kernel_rfl) (fun h => nomatch h) ?_)
      refine sw ⟨[(0, .ptr 1048576 0), (1, .int .i64 a1), (17, .int .i64 r6.1)], [(1048576, [.lst 1 (r6.2.code_.map eU8), .int .i64 r6.2.at_, .int .i64 r6.2.seed])], []⟩ (fgk (by kernel_rfl)) (mv_ rfl trivial ?_)
      refine oe_ ?_
      refine wk_ ⟨[(0, .ptr 1048576 0), (1, .int .i64 a1), (5, .int .i64 r6.1)], [(1048576, [.lst 1 (r6.2.code_.map eU8), .int .i64 r6.2.at_, .int .i64 r6.2.seed])], []⟩ (fgk (by kernel_rfl)) ?_
      refine seq_ ?_
      refine reg_ ?_
      refine st (mv_ rfl trivial ?_)
      obtain ⟨r8, e9, h0⟩ := bnd h0
      refine st (call1_ [1048576] [] [] true (H139 r6.2 r8 e9) ⟨trivial, trivial⟩ (by kernel_rfl) (by kernel_rfl) (by kernel_rfl) (by kernel_rfl) (fun h => nomatch h) ?_)
      refine sw ⟨[(0, .ptr 1048576 0), (1, .int .i64 a1), (5, .int .i64 r6.1), (19, .int .i64 r8.1)], [(1048576, [.lst 1 (r8.2.code_.map eU8), .int .i64 r8.2.at_, .int .i64 r8.2.seed])], []⟩ (fgk (by kernel_rfl)) (mv_ rfl trivial ?_)
      refine oe_ ?_
      refine wk_ ⟨[(0, .ptr 1048576 0), (1, .int .i64 a1), (5, .int .i64 r6.1), (6, .int .i64 r8.1)], [(1048576, [.lst 1 (r8.2.code_.map eU8), .int .i64 r8.2.at_, .int .i64 r8.2.seed])], []⟩ (fgk (by kernel_rfl)) ?_
      refine seq_ ?_
      refine reg_ ?_
      refine st (mv_ rfl trivial ?_)
      obtain ⟨r10, e11, h0⟩ := bnd h0
      refine st (call1_ [1048576] [] [] true (H139 r8.2 r10 e11) ⟨trivial, trivial⟩ (by kernel_rfl) (by kernel_rfl) (by kernel_rfl) (by kernel_rfl) (fun h => nomatch h) ?_)
      refine sw ⟨[(1, .int .i64 a1), (5, .int .i64 r6.1), (6, .int .i64 r8.1), (21, .int .i64 r10.1)], [(1048576, [.lst 1 (r10.2.code_.map eU8), .int .i64 r10.2.at_, .int .i64 r10.2.seed])], []⟩ (fgk (by kernel_rfl)) (mv_ rfl trivial ?_)
      refine oe_ ?_
      refine wk_ ⟨[(1, .int .i64 a1), (5, .int .i64 r6.1), (6, .int .i64 r8.1), (7, .int .i64 r10.1)], [(1048576, [.lst 1 (r10.2.code_.map eU8), .int .i64 r10.2.at_, .int .i64 r10.2.seed])], []⟩ (fgk (by kernel_rfl)) ?_
      refine seq_ ?_
      refine reg_ ?_
      refine st (mv_ rfl trivial ?_)
      refine st (c_ (cp_ ⟨trivial, trivial, trivial⟩ rfl trivial) ?_)
      refine st (mv_ rfl trivial ?_)
      refine st (c_ (cp_ ⟨trivial, trivial, trivial⟩ rfl trivial) ?_)
      refine st (c_ (cp_ ⟨trivial, trivial, trivial⟩ rfl trivial) ?_)
      refine st (mv_ rfl trivial ?_)
      refine st (c_ (cp_ ⟨trivial, trivial, trivial⟩ rfl trivial) ?_)
      refine st (mv_ rfl trivial ?_)
      obtain ⟨c12, h0⟩ := grd h0
      refine st (c_ (cp_ ⟨trivial, trivial, trivial⟩ rfl c12) ?_)
      refine st (mv_ rfl trivial ?_)
      refine oe_ ?_
      obtain ⟨v13, e14, h0⟩ := bl h0
      refine wk_ ⟨[(4, .int .i64 v13)], [(1048576, [.lst 1 (r10.2.code_.map eU8), .int .i64 r10.2.at_, .int .i64 r10.2.seed])], []⟩ (fgk (by subst e14; kernel_rfl)) ?_
      obtain rfl := Option.some.inj h0
      exact rt_ (ret_ rfl rfl rfl rfl rfl trivial)

/- (*loop.example/g00149/spec.l00Src).size -/
def c118_r0 : List Ins := [⟨some 4, .p (.mv (.c (.int .i64 0))), none⟩]
def c118_r1 : List Ins := [⟨some 5, .p (.mv (.t 0)), none⟩,
 ⟨some 6, .p (.nilc (.t 5)), none⟩,
 ⟨some 7, .p (.fieldA (.t 6) 0), none⟩,
 ⟨some 8, .p (.load (.t 7) 1 false), none⟩,
 ⟨some 9, .p (.len (.t 8)), none⟩,
 ⟨some 10, .p (.bin .quo (.t 9) (.c (.int .i64 12))), none⟩,
 ⟨some 11, .p (.bin .add (.c (.int .i64 1)) (.t 10)), none⟩,
 ⟨some 12, .p (.mv (.t 1)), none⟩,
 ⟨some 13, .p (.mn (.t 11) (.t 12)), none⟩,
 ⟨some 4, .p (.mv (.t 13)), none⟩]
def c118 : XFn := { np := 2, nt := 14, res := [.t 4], body := (.seq (.reg c118_r0) (.seq (.reg c118_r1) .ret)) }
def K118 (C : CRel) : Prop := ∀ (a0 : Dl00Src) (a1 : Int) (r : Int), g118 a0 a1 = some r → C 118 ⟨[.iptr [.lst 1 (a0.code_.map eU8), .int .i64 a0.at_, .int .i64 a0.seed], .int .i64 a1], []⟩ ⟨.int .i64 r, [], []⟩
theorem F118 {C : CRel}  (a0 : Dl00Src) (a1 : Int) (r : Int) (h0 : g118 a0 a1 = some r) : FnOK C c118 ⟨[.iptr [.lst 1 (a0.code_.map eU8), .int .i64 a0.at_, .int .i64 a0.seed], .int .i64 a1], []⟩ ⟨.int .i64 r, [], []⟩ := by
  refine fn_ (Nat.le_of_ble_eq_true rfl) ?_
  refine seq_ ?_
  refine reg_ ?_
  refine st (mvc_ trivial ?_)
  refine oe_ ?_
  refine wk_ ⟨[(0, .iptr [.lst 1 (a0.code_.map eU8), .int .i64 a0.at_, .int .i64 a0.seed]), (1, .int .i64 a1)], [], []⟩ (fgk (by kernel_rfl)) ?_
  refine seq_ ?_
  refine reg_ ?_
  refine st (mv_ rfl trivial ?_)
  refine st (c_ (cp_ ⟨trivial, trivial⟩ rfl trivial) ?_)
  refine st (c_ (cp_ ⟨trivial, trivial⟩ rfl (Nat.le_of_ble_eq_true rfl)) ?_)
  refine st (c_ (cp_ ⟨trivial, trivial⟩ rfl (Nat.le_of_ble_eq_true rfl)) ?_)
  refine st (c_ (clenL (e := eU8) (l0 := a0.code_) rfl rfl trivial) ?_)
  refine st (c_ (cp_ ⟨trivial, trivial, trivial⟩ rfl (by decide)) ?_)
  refine st (c_ (cp_ ⟨trivial, trivial, trivial⟩ rfl trivial) ?_)
  refine st (mv_ rfl trivial ?_)
  refine st (c_ (cp_ ⟨trivial, trivial, trivial⟩ rfl rfl) ?_)
  refine st (mv_ rfl trivial ?_)
  refine oe_ ?_
  obtain ⟨v1, e2, h0⟩ := bl h0
  refine wk_ ⟨[(4, .int .i64 v1)], [], []⟩ (fgk (by subst e2; kernel_rfl)) ?_
  obtain rfl := Option.some.inj h0
  exact rt_ (ret_ rfl rfl rfl rfl rfl trivial)

/- (*loop.example/g00149/spec.l00Src).bytes -/
def c272_r0 : List Ins := [⟨some 4, .nilS 1, none⟩]
def c272_r1 : List Ins := [⟨some 7, .mkS 1 [(.int .u8 0)] 0 [], none⟩,
 ⟨some 5, .p (.mv (.t 7)), none⟩]
def c272_r2 : List Ins := [⟨some 8, .p (.mv (.t 0)), none⟩,
 ⟨some 9, .p (.mv (.t 1)), none⟩,
 ⟨some 10, .p (.bin .add (.t 9) (.c (.int .i64 1))), none⟩,
 ⟨some 11, .call 117 [(.t 8), (.t 10)], none⟩,
 ⟨some 6, .p (.mv (.t 11)), none⟩]
def c272_r3 : List Ins := [⟨some 12, .p (.mv (.t 6)), none⟩,
 ⟨some 13, .p (.bin .gtr (.t 12) (.c (.int .i64 0))), none⟩]
def c272_r4 : List Ins := [⟨some 16, .p (.mv (.t 5)), none⟩,
 ⟨some 17, .p (.mv (.t 0)), none⟩,
 ⟨some 18, .call 117 [(.t 17), (.c (.int .i64 256))], none⟩,
 ⟨some 19, .p (.conv .u8 (.t 18)), none⟩,
 ⟨some 20, .mkS 1 [(.int .u8 0)] 1 [(0, (.t 19))], none⟩,
 ⟨some 21, .app 1 1 (.t 16) (.t 20), none⟩,
 ⟨some 5, .p (.mv (.t 21)), none⟩]
def c272_r5 : List Ins := [⟨some 14, .p (.mv (.t 6)), none⟩,
 ⟨some 15, .p (.bin .sub (.t 14) (.c (.int .i64 1))), none⟩,
 ⟨some 6, .p (.mv (.t 15)), none⟩]
def c272_l0 : IR := (.seq (.seq (.reg c272_r3) (.ite (.t 13) .skip (.exit 0))) (.seq (.block 1 (.reg c272_r4)) (.reg c272_r5)))
def c272_r6 : List Ins := [⟨some 22, .p (.mv (.t 5)), none⟩,
 ⟨some 4, .p (.mv (.t 22)), none⟩]
def c272 : XFn := { np := 2, nt := 23, res := [.t 4], body := (.seq (.reg c272_r0) (.seq (.reg c272_r1) (.seq (.seq (.reg c272_r2) (.block 0 (.loop c272_l0))) (.seq (.reg c272_r6) .ret)))) }
def K272 (C : CRel) : Prop := ∀ (a0 : Dl00Src) (a1 : Int) (r : (List UInt8) × Dl00Src), g272 a0 a1 = some r → C 272 ⟨[.ptr 1048576 0, .int .i64 a1], [[.lst 1 (a0.code_.map eU8), .int .i64 a0.at_, .int .i64 a0.seed]]⟩ ⟨.own 0 0 1 (r.1.map eU8), [[.lst 1 (r.2.code_.map eU8), .int .i64 r.2.at_, .int .i64 r.2.seed]], []⟩
theorem F272 {C : CRel} (H117 : K117 C) (a0 : Dl00Src) (a1 : Int) (r : (List UInt8) × Dl00Src) (h0 : g272 a0 a1 = some r) : FnOK C c272 ⟨[.ptr 1048576 0, .int .i64 a1], [[.lst 1 (a0.code_.map eU8), .int .i64 a0.at_, .int .i64 a0.seed]]⟩ ⟨.own 0 0 1 (r.1.map eU8), [[.lst 1 (r.2.code_.map eU8), .int .i64 r.2.at_, .int .i64 r.2.seed]], []⟩ := by
  refine fn_ (Nat.le_of_ble_eq_true rfl) ?_
  refine seq_ ?_
  refine reg_ ?_
  refine st (nilS_ ?_)
  refine oe_ ?_
  refine wk_ ⟨[(0, .ptr 1048576 0), (1, .int .i64 a1)], [(1048576, [.lst 1 (a0.code_.map eU8), .int .i64 a0.at_, .int .i64 a0.seed])], []⟩ (fgk (by kernel_rfl)) ?_
  refine seq_ ?_
  refine reg_ ?_
  refine st (mkS_ trivial trivial ?_)
  refine st (mv_ rfl trivial ?_)
  refine oe_ ?_
  refine wk_ ⟨[(0, .ptr 1048576 0), (1, .int .i64 a1), (5, .own 448 0 1 (([] : List UInt8).map eU8))], [(1048576, [.lst 1 (a0.code_.map eU8), .int .i64 a0.at_, .int .i64 a0.seed])], []⟩ (fgk (by kernel_rfl)) ?_
  refine seq_ ?_
  refine seq_ ?_
  refine reg_ ?_
  refine st (mv_ rfl trivial ?_)
  refine st (mv_ rfl trivial ?_)
  refine st (c_ (cp_ ⟨trivial, trivial, trivial⟩ rfl trivial) ?_)
  obtain ⟨r1, e2, h0⟩ := bnd h0
  refine st (call1_ [1048576] [] [] true (H117 a0 (IntKind.i64.wrap (a1 + 1)) r1 e2) ⟨trivial, trivial, trivial⟩ (by kernel_rfl) (by kernel_rfl) (by kernel_rfl) (by kernel_rfl) (fun h => nomatch h) ?_)
  refine sw ⟨[(0, .ptr 1048576 0), (5, .own 448 0 1 (([] : List UInt8).map eU8)), (11, .int .i64 r1.1)], [(1048576, [.lst 1 (r1.2.code_.map eU8), .int .i64 r1.2.at_, .int .i64 r1.2.seed])], []⟩ (fgk (by kernel_rfl)) (mv_ rfl trivial ?_)
  refine oe_ ?_
  refine wk_ ⟨[(0, .ptr 1048576 0), (5, .own 448 0 1 (([] : List UInt8).map eU8)), (6, .int .i64 r1.1)], [(1048576, [.lst 1 (r1.2.code_.map eU8), .int .i64 r1.2.at_, .int .i64 r1.2.seed])], []⟩ (fgk (by kernel_rfl)) ?_
  refine block_ ?_
  obtain ⟨r29, e30, h0⟩ := bnd h0
  refine loop_ (R := (fun S => ∃ p21 : List UInt8, ∃ p22 : List UInt8, ∃ p23 : Int, ∃ p24 : Int, (p21, p22, p23, p24) = r29 ∧ S = ⟨[(5, .own 448 0 1 (p21.map eU8))], [(1048576, [.lst 1 (p22.map eU8), .int .i64 p23, .int .i64 p24])], []⟩)) (g272_l0) (fun s S => match s with | (p7, p8, p9, p10, p11) => S = ⟨[(0, .ptr 1048576 0), (5, .own 448 0 1 (p7.map eU8)), (6, .int .i64 p8)], [(1048576, [.lst 1 (p9.map eU8), .int .i64 p10, .int .i64 p11])], []⟩) e30 ⟨[(0, .ptr 1048576 0), (5, .own 448 0 1 (([] : List UInt8).map eU8)), (6, .int .i64 r1.1)], [(1048576, [.lst 1 (r1.2.code_.map eU8), .int .i64 r1.2.at_, .int .i64 r1.2.seed])], []⟩ (fgk (by kernel_rfl)) rfl 0 (fun _ => rfl) ?_ ?_
  · rintro S _ hfg ⟨p21, p22, p23, p24, rfl, rfl⟩
    refine wk_ ⟨[(5, .own 448 0 1 (p21.map eU8))], [(1048576, [.lst 1 (p22.map eU8), .int .i64 p23, .int .i64 p24])], []⟩ (fglk hfg (by kernel_rfl)) ?_
    refine seq_ ?_
    refine reg_ ?_
    refine st (mv_ rfl trivial ?_)
    refine st (mv_ rfl trivial ?_)
    refine oe_ ?_
    refine wk_ ⟨[(4, .own 448 0 1 (p21.map eU8))], [(1048576, [.lst 1 (p22.map eU8), .int .i64 p23, .int .i64 p24])], []⟩ (fgk (by kernel_rfl)) ?_
    obtain rfl := Option.some.inj h0
    exact rt_ (ret_ rfl rfl rfl rfl rfl trivial)
  · rintro ⟨p7, p8, p9, p10, p11⟩ o1 _ K1 rfl h1 hx1 hK1 hE1 hR1
    refine seq_ ?_
    refine seq_ ?_
    refine reg_ ?_
    refine st (mv_ rfl trivial ?_)
    refine st (c_ (cp_ ⟨trivial, trivial, trivial⟩ rfl trivial) ?_)
    refine oe_ ?_
    refine wk_ ⟨[(0, .ptr 1048576 0), (5, .own 448 0 1 (p7.map eU8)), (6, .int .i64 p8), (13, .bool (decide (p8 > 0)))], [(1048576, [.lst 1 (p9.map eU8), .int .i64 p10, .int .i64 p11])], []⟩ (fgk (by kernel_rfl)) ?_
    refine ite_ (cb := (decide (p8 > 0))) rfl (fun c25 => ?_) (fun c25 => ?_)
    · replace h1 := ip c25 h1
      refine sk_ ?_
      refine wk_ ⟨[(0, .ptr 1048576 0), (5, .own 448 0 1 (p7.map eU8)), (6, .int .i64 p8)], [(1048576, [.lst 1 (p9.map eU8), .int .i64 p10, .int .i64 p11])], []⟩ (fgk (by kernel_rfl)) ?_
      refine seq_ ?_
      refine block_ ?_
      refine reg_ ?_
      refine st (mv_ rfl trivial ?_)
      refine st (mv_ rfl trivial ?_)
      obtain ⟨r26, e27, h1⟩ := bnd h1
      refine st (call1_ [1048576] [] [] true (H117 (Dl00Src.mk p9 p10 p11) 256 r26 e27) ⟨trivial, trivial, trivial⟩ (by kernel_rfl) (by kernel_rfl) (by kernel_rfl) (by kernel_rfl) (fun h => nomatch h) ?_)
      refine sw ⟨[(0, .ptr 1048576 0), (6, .int .i64 p8), (16, .own 448 0 1 (p7.map eU8)), (18, .int .i64 r26.1)], [(1048576, [.lst 1 (r26.2.code_.map eU8), .int .i64 r26.2.at_, .int .i64 r26.2.seed])], []⟩ (fgk (by kernel_rfl)) (c_ (cb8 (cp_ ⟨trivial, trivial⟩ rfl trivial)) ?_)
      refine st (mkS_ ⟨trivial, trivial⟩ ⟨⟨Nat.le_of_ble_eq_true rfl, rfl, rfl⟩, trivial⟩ ?_)
      obtain ⟨c28, h1⟩ := grd h1
      refine st (app_ (e := eU8) (l0 := p7) (l1 := ([b8 r26.1] : List UInt8)) rfl rfl trivial rfl (by decide) c28 ?_)
      refine st (mv_ rfl trivial ?_)
      refine oe_ ?_
      refine bn_ ?_
      refine wk_ ⟨[(0, .ptr 1048576 0), (5, .own 448 0 1 ((p7 ++ ([b8 r26.1] : List UInt8)).map eU8)), (6, .int .i64 p8)], [(1048576, [.lst 1 (r26.2.code_.map eU8), .int .i64 r26.2.at_, .int .i64 r26.2.seed])], []⟩ (fgk (by kernel_rfl)) ?_
      refine reg_ ?_
      refine st (mv_ rfl trivial ?_)
      refine st (c_ (cp_ ⟨trivial, trivial, trivial⟩ rfl trivial) ?_)
      refine st (mv_ rfl trivial ?_)
      refine oe_ ?_
      obtain rfl := Option.some.inj h1
      exact hK1 _ rfl _ ⟨[(0, .ptr 1048576 0), (5, .own 448 0 1 ((p7 ++ ([b8 r26.1] : List UInt8)).map eU8)), (6, .int .i64 (IntKind.i64.wrap (p8 - 1)))], [(1048576, [.lst 1 (r26.2.code_.map eU8), .int .i64 r26.2.at_, .int .i64 r26.2.seed])], []⟩ (fgk (by kernel_rfl)) rfl
    · replace h1 := inb c25 h1
      obtain rfl := Option.some.inj h1
      obtain rfl := hx1 _ rfl
      refine exQ rfl ?_
      exact hE1 _ ⟨[(5, .own 448 0 1 (p7.map eU8))], [(1048576, [.lst 1 (p9.map eU8), .int .i64 p10, .int .i64 p11])], []⟩ (fgk (by kernel_rfl)) ⟨_, _, _, _, rfl, rfl⟩

/- loop.example/g00149/spec.PayloadsOf -/
def c217_r0 : List Ins := [⟨some 2, .nilS 1, none⟩]
def c217_r1 : List Ins := [⟨some 6, .p (.mv (.t 0)), none⟩,
 ⟨some 7, .call 83 [(.t 6)], none⟩,
 ⟨some 3, .p (.mv (.t 7)), none⟩]
def c217_r2 : List Ins := [⟨some 8, .mkS 1 [(.lst 1 [])] 0 [], none⟩,
 ⟨some 4, .p (.mv (.t 8)), none⟩]
def c217_r3 : List Ins := [⟨some 9, .p (.mv (.t 3)), none⟩,
 ⟨some 10, .p (.mv (.t 3)), none⟩,
 ⟨some 11, .call 118 [(.t 10), (.c (.int .i64 6))], none⟩,
 ⟨some 12, .p (.bin .add (.t 11) (.c (.int .i64 2))), none⟩,
 ⟨some 13, .call 117 [(.t 9), (.t 12)], none⟩,
 ⟨some 5, .p (.mv (.t 13)), none⟩]
def c217_r4 : List Ins := [⟨some 14, .p (.mv (.t 5)), none⟩,
 ⟨some 15, .p (.bin .gtr (.t 14) (.c (.int .i64 0))), none⟩]
def c217_r5 : List Ins := [⟨some 18, .p (.mv (.t 4)), none⟩,
 ⟨some 19, .p (.mv (.t 3)), none⟩,
 ⟨some 20, .call 272 [(.t 19), (.c (.int .i64 30))], none⟩,
 ⟨some 21, .mkS 1 [(.lst 1 [])] 1 [(0, (.t 20))], none⟩,
 ⟨some 22, .app 1 24 (.t 18) (.t 21), none⟩,
 ⟨some 4, .p (.mv (.t 22)), none⟩]
def c217_r6 : List Ins := [⟨some 16, .p (.mv (.t 5)), none⟩,
 ⟨some 17, .p (.bin .sub (.t 16) (.c (.int .i64 1))), none⟩,
 ⟨some 5, .p (.mv (.t 17)), none⟩]
def c217_l0 : IR := (.seq (.seq (.reg c217_r4) (.ite (.t 15) .skip (.exit 0))) (.seq (.block 1 (.reg c217_r5)) (.reg c217_r6)))
def c217_r7 : List Ins := [⟨some 23, .p (.mv (.t 4)), none⟩,
 ⟨some 2, .p (.mv (.t 23)), none⟩]
def c217 : XFn := { np := 1, nt := 24, res := [.t 2], body := (.seq (.reg c217_r0) (.seq (.reg c217_r1) (.seq (.reg c217_r2) (.seq (.seq (.reg c217_r3) (.block 0 (.loop c217_l0))) (.seq (.reg c217_r7) .ret))))) }
def K217 (C : CRel) : Prop := ∀ (a0 : List UInt8) (r : (List (List UInt8))), g217 a0 = some r → C 217 ⟨[.lst 1 (a0.map eU8)], []⟩ ⟨.own 0 0 1 (r.map (eL 1 eU8)), [], []⟩
theorem F217 {C : CRel} (H83 : K83 C) (H117 : K117 C) (H118 : K118 C) (H272 : K272 C) (a0 : List UInt8) (r : (List (List UInt8))) (h0 : g217 a0 = some r) : FnOK C c217 ⟨[.lst 1 (a0.map eU8)], []⟩ ⟨.own 0 0 1 (r.map (eL 1 eU8)), [], []⟩ := by
  refine fn_ (Nat.le_of_ble_eq_true rfl) ?_
  refine seq_ ?_
  refine reg_ ?_
  refine st (nilS_ ?_)
  refine oe_ ?_
  refine wk_ ⟨[(0, .lst 1 (a0.map eU8))], [], []⟩ (fgk (by kernel_rfl)) ?_
  refine seq_ ?_
  refine reg_ ?_
  refine st (mv_ rfl trivial ?_)
  obtain ⟨r1, e2, h0⟩ := bnd h0
  refine st (call1_ [] [] [] true (H83 a0 r1 e2) ⟨trivial, trivial⟩ (by kernel_rfl) (by kernel_rfl) (by kernel_rfl) (by kernel_rfl) (fun h => nomatch h) ?_)
  refine sw ⟨[(7, .ptr 448 0)], [(448, [.lst 1 (r1.code_.map eU8), .int .i64 r1.at_, .int .i64 r1.seed])], []⟩ (fgk (by kernel_rfl)) (mv_ rfl trivial ?_)
  refine oe_ ?_
  refine wk_ ⟨[(3, .ptr 448 0)], [(448, [.lst 1 (r1.code_.map eU8), .int .i64 r1.at_, .int .i64 r1.seed])], []⟩ (fgk (by kernel_rfl)) ?_
  refine seq_ ?_
  refine reg_ ?_
  refine st (mkS_ trivial trivial ?_)
  refine st (mv_ rfl trivial ?_)
  refine oe_ ?_
  refine wk_ ⟨[(3, .ptr 448 0), (4, .own 512 0 1 (([] : List (List UInt8)).map (eL 1 eU8)))], [(448, [.lst 1 (r1.code_.map eU8), .int .i64 r1.at_, .int .i64 r1.seed])], []⟩ (fgk (by kernel_rfl)) ?_
  refine seq_ ?_
  refine seq_ ?_
  refine reg_ ?_
  refine st (mv_ rfl trivial ?_)
  refine st (mv_ rfl trivial ?_)
  obtain ⟨r3, e4, h0⟩ := bnd h0
  refine st (call0_ (r := .int .i64 r3) false (H118 r1 6 r3 e4) ⟨trivial, trivial, trivial⟩ rfl rfl (fun _ => rfl) ?_)
  refine st (c_ (cp_ ⟨trivial, trivial, trivial⟩ rfl trivial) ?_)
  obtain ⟨r5, e6, h0⟩ := bnd h0
  refine sw ⟨[(3, .ptr 448 0), (4, .own 512 0 1 (([] : List (List UInt8)).map (eL 1 eU8))), (9, .ptr 448 0), (12, .int .i64 (IntKind.i64.wrap (r3 + 2)))], [(448, [.lst 1 (r1.code_.map eU8), .int .i64 r1.at_, .int .i64 r1.seed])], []⟩ (fgk (by kernel_rfl)) (call1_ [448] [] [] true (H117 r1 (IntKind.i64.wrap (r3 + 2)) r5 e6) ⟨trivial, trivial, trivial⟩ (by kernel_rfl) (by kernel_rfl) (by kernel_rfl) (by kernel_rfl) (fun h => nomatch h) ?_)
  refine sw ⟨[(3, .ptr 448 0), (4, .own 512 0 1 (([] : List (List UInt8)).map (eL 1 eU8))), (13, .int .i64 r5.1)], [(448, [.lst 1 (r5.2.code_.map eU8), .int .i64 r5.2.at_, .int .i64 r5.2.seed])], []⟩ (fgk (by kernel_rfl)) (mv_ rfl trivial ?_)
  refine oe_ ?_
  refine wk_ ⟨[(3, .ptr 448 0), (4, .own 512 0 1 (([] : List (List UInt8)).map (eL 1 eU8))), (5, .int .i64 r5.1)], [(448, [.lst 1 (r5.2.code_.map eU8), .int .i64 r5.2.at_, .int .i64 r5.2.seed])], []⟩ (fgk (by kernel_rfl)) ?_
  refine block_ ?_
  obtain ⟨r30, e31, h0⟩ := bnd h0
  refine loop_ (R := (fun S => ∃ p25 : List (List UInt8), p25 = r30 ∧ S = ⟨[(4, .own 512 0 1 (p25.map (eL 1 eU8)))], [], []⟩)) (g217_l0) (fun s S => match s with | (p11, p12, p13, p14, p15) => S = ⟨[(3, .ptr 448 0), (4, .own 512 0 1 (p11.map (eL 1 eU8))), (5, .int .i64 p12)], [(448, [.lst 1 (p13.map eU8), .int .i64 p14, .int .i64 p15])], []⟩) e31 ⟨[(3, .ptr 448 0), (4, .own 512 0 1 (([] : List (List UInt8)).map (eL 1 eU8))), (5, .int .i64 r5.1)], [(448, [.lst 1 (r5.2.code_.map eU8), .int .i64 r5.2.at_, .int .i64 r5.2.seed])], []⟩ (fgk (by kernel_rfl)) rfl 0 (fun _ => rfl) ?_ ?_
  · rintro S _ hfg ⟨p25, rfl, rfl⟩
    refine wk_ ⟨[(4, .own 512 0 1 (p25.map (eL 1 eU8)))], [], []⟩ (fglk hfg (by kernel_rfl)) ?_
    refine seq_ ?_
    refine reg_ ?_
    refine st (mv_ rfl trivial ?_)
    refine st (mv_ rfl trivial ?_)
    refine oe_ ?_
    refine wk_ ⟨[(2, .own 512 0 1 (p25.map (eL 1 eU8)))], [], []⟩ (fgk (by kernel_rfl)) ?_
    obtain rfl := Option.some.inj h0
    exact rt_ (ret_ rfl rfl rfl rfl rfl trivial)
  · rintro ⟨p11, p12, p13, p14, p15⟩ o1 _ K1 rfl h1 hx1 hK1 hE1 hR1
    refine seq_ ?_
    refine seq_ ?_
    refine reg_ ?_
    refine st (mv_ rfl trivial ?_)
    refine st (c_ (cp_ ⟨trivial, trivial, trivial⟩ rfl trivial) ?_)
    refine oe_ ?_
    refine wk_ ⟨[(3, .ptr 448 0), (4, .own 512 0 1 (p11.map (eL 1 eU8))), (5, .int .i64 p12), (15, .bool (decide (p12 > 0)))], [(448, [.lst 1 (p13.map eU8), .int .i64 p14, .int .i64 p15])], []⟩ (fgk (by kernel_rfl)) ?_
    refine ite_ (cb := (decide (p12 > 0))) rfl (fun c26 => ?_) (fun c26 => ?_)
    · replace h1 := ip c26 h1
      refine sk_ ?_
      refine wk_ ⟨[(3, .ptr 448 0), (4, .own 512 0 1 (p11.map (eL 1 eU8))), (5, .int .i64 p12)], [(448, [.lst 1 (p13.map eU8), .int .i64 p14, .int .i64 p15])], []⟩ (fgk (by kernel_rfl)) ?_
      refine seq_ ?_
      refine block_ ?_
      refine reg_ ?_
      refine st (mv_ rfl trivial ?_)
      refine st (mv_ rfl trivial ?_)
      obtain ⟨r27, e28, h1⟩ := bnd h1
      refine st (call1_ [448] [] [] true (H272 (Dl00Src.mk p13 p14 p15) 30 r27 e28) ⟨trivial, trivial, trivial⟩ (by kernel_rfl) (by kernel_rfl) (by kernel_rfl) (by kernel_rfl) (fun h => nomatch h) ?_)
      refine sw ⟨[(3, .ptr 448 0), (5, .int .i64 p12), (18, .own 512 0 1 (p11.map (eL 1 eU8))), (20, .own 1280 0 1 (r27.1.map eU8))], [(448, [.lst 1 (r27.2.code_.map eU8), .int .i64 r27.2.at_, .int .i64 r27.2.seed])], []⟩ (fgk (by kernel_rfl)) (mkS_ ⟨trivial, trivial⟩ ⟨⟨Nat.le_of_ble_eq_true rfl, rfl, rfl⟩, trivial⟩ ?_)
      obtain ⟨c29, h1⟩ := grd h1
      refine st (app_ (e := (eL 1 eU8)) (l0 := p11) (l1 := ([r27.1] : List (List UInt8))) rfl rfl trivial rfl (by decide) c29 ?_)
      refine st (mv_ rfl trivial ?_)
      refine oe_ ?_
      refine bn_ ?_
      refine wk_ ⟨[(3, .ptr 448 0), (4, .own 512 0 1 ((p11 ++ ([r27.1] : List (List UInt8))).map (eL 1 eU8))), (5, .int .i64 p12)], [(448, [.lst 1 (r27.2.code_.map eU8), .int .i64 r27.2.at_, .int .i64 r27.2.seed])], []⟩ (fgk (by kernel_rfl)) ?_
      refine reg_ ?_
      refine st (mv_ rfl trivial ?_)
      refine st (c_ (cp_ ⟨trivial, trivial, trivial⟩ rfl trivial) ?_)
      refine st (mv_ rfl trivial ?_)
      refine oe_ ?_
      obtain rfl := Option.some.inj h1
      exact hK1 _ rfl _ ⟨[(3, .ptr 448 0), (4, .own 512 0 1 ((p11 ++ ([r27.1] : List (List UInt8))).map (eL 1 eU8))), (5, .int .i64 (IntKind.i64.wrap (p12 - 1)))], [(448, [.lst 1 (r27.2.code_.map eU8), .int .i64 r27.2.at_, .int .i64 r27.2.seed])], []⟩ (fgk (by kernel_rfl)) rfl
    · replace h1 := inb c26 h1
      obtain rfl := Option.some.inj h1
      obtain rfl := hx1 _ rfl
      refine exQ rfl ?_
      exact hE1 _ ⟨[(4, .own 512 0 1 (p11.map (eL 1 eU8)))], [], []⟩ (fgk (by kernel_rfl)) ⟨_, rfl, rfl⟩

/- loop.example/g00149/impl.big -/
def c331_r0 : List Ins := [⟨some 4, .nilS 1, none⟩]
def c331_r1 : List Ins := [⟨some 7, .p (.mv (.t 1)), none⟩,
 ⟨some 8, .make 1 1 [(.int .u8 0)] (.t 7) (.t 7), none⟩,
 ⟨some 5, .p (.mv (.t 8)), none⟩]
def c331_r2 : List Ins := [⟨some 9, .p (.mv (.t 5)), none⟩,
 ⟨some 10, .p (.len (.t 9)), none⟩,
 ⟨some 11, .p (.mv (.c (.int .i64 0))), none⟩]
def c331_r3 : List Ins := [⟨some 12, .p (.bin .lss (.t 11) (.t 10)), none⟩]
def c331_r4 : List Ins := [⟨some 13, .p (.mv (.t 11)), none⟩,
 ⟨some 6, .p (.mv (.t 13)), none⟩]
def c331_r5 : List Ins := [⟨some 14, .p (.mv (.t 5)), none⟩,
 ⟨some 15, .p (.mv (.t 1)), none⟩,
 ⟨some 16, .p (.bin .sub (.t 15) (.c (.int .i64 1))), none⟩,
 ⟨some 17, .p (.mv (.t 6)), none⟩,
 ⟨some 18, .p (.bin .sub (.t 16) (.t 17)), none⟩,
 ⟨some 19, .p (.mv (.t 0)), none⟩,
 ⟨some 20, .p (.mv (.t 6)), none⟩,
 ⟨some 21, .p (.bin .mul (.c (.int .i64 8)) (.t 20)), none⟩,
 ⟨some 22, .p (.bin .shr (.t 19) (.t 21)), none⟩,
 ⟨some 23, .p (.conv .u8 (.t 22)), none⟩,
 ⟨some 24, .p (.idxA (.t 14) (.t 18) 1), none⟩,
 ⟨none, .store (.t 24) (.t 23) 1, none⟩]
def c331_r6 : List Ins := [⟨some 25, .p (.bin .add (.t 11) (.c (.int .i64 1))), none⟩,
 ⟨some 11, .p (.mv (.t 25)), none⟩]
def c331_l0 : IR := (.seq (.reg c331_r3) (.seq (.ite (.t 12) .skip (.exit 0)) (.seq (.block 1 (.seq (.reg c331_r4) (.reg c331_r5))) (.reg c331_r6))))
def c331_r7 : List Ins := [⟨some 26, .p (.mv (.t 5)), none⟩,
 ⟨some 4, .p (.mv (.t 26)), none⟩]
def c331 : XFn := { np := 2, nt := 27, res := [.t 4], body := (.seq (.reg c331_r0) (.seq (.reg c331_r1) (.seq (.seq (.reg c331_r2) (.block 0 (.loop c331_l0))) (.seq (.reg c331_r7) .ret)))) }
def K331 (C : CRel) : Prop := ∀ (a0 : Int) (a1 : Int) (r : (List UInt8)), g331 a0 a1 = some r → C 331 ⟨[.int .i64 a0, .int .i64 a1], []⟩ ⟨.own 0 0 1 (r.map eU8), [], []⟩
theorem F331 {C : CRel}  (a0 : Int) (a1 : Int) (r : (List UInt8)) (h0 : g331 a0 a1 = some r) : FnOK C c331 ⟨[.int .i64 a0, .int .i64 a1], []⟩ ⟨.own 0 0 1 (r.map eU8), [], []⟩ := by
  refine fn_ (Nat.le_of_ble_eq_true rfl) ?_
  refine seq_ ?_
  refine reg_ ?_
  refine st (nilS_ ?_)
  refine oe_ ?_
  refine wk_ ⟨[(0, .int .i64 a0), (1, .int .i64 a1)], [], []⟩ (fgk (by kernel_rfl)) ?_
  refine seq_ ?_
  refine reg_ ?_
  refine st (mv_ rfl trivial ?_)
  obtain ⟨c1, h0⟩ := grd h0
  obtain ⟨c2, h0⟩ := grd h0
  refine st (make_ (e := eU8) (0 : UInt8) rfl rfl c1 rfl c2 rfl ?_)
  refine st (mv_ rfl trivial ?_)
  refine oe_ ?_
  refine wk_ ⟨[(0, .int .i64 a0), (1, .int .i64 a1), (5, .own 512 0 1 ((List.replicate a1.toNat (0 : UInt8)).map eU8))], [], []⟩ (fgk (by kernel_rfl)) ?_
  refine seq_ ?_
  refine seq_ ?_
  refine reg_ ?_
  refine st (mv_ rfl trivial ?_)
  refine st (c_ (clenO (e := eU8) (l0 := List.replicate a1.toNat (0 : UInt8)) rfl rfl trivial) ?_)
  refine st (mvc_ trivial ?_)
  refine oe_ ?_
  refine wk_ ⟨[(0, .int .i64 a0), (1, .int .i64 a1), (5, .own 512 0 1 ((List.replicate a1.toNat (0 : UInt8)).map eU8)), (10, .int .i64 ((List.replicate a1.toNat (0 : UInt8)).length : Int)), (11, .int .i64 0)], [], []⟩ (fgk (by kernel_rfl)) ?_
  refine block_ ?_
  obtain ⟨r26, e27, h0⟩ := bnd h0
  refine loop_ (R := (fun S => ∃ p19 : List UInt8, p19 = r26 ∧ S = ⟨[(5, .own 512 0 1 (p19.map eU8))], [], []⟩)) (g331_l0 a0 a1) (fun s S => match s with | (p9, p10) => S = ⟨[(0, .int .i64 a0), (1, .int .i64 a1), (5, .own 512 0 1 (p9.map eU8)), (10, .int .i64 ((List.replicate a1.toNat (0 : UInt8)).length : Int)), (11, .int .i64 p10)], [], []⟩) e27 ⟨[(0, .int .i64 a0), (1, .int .i64 a1), (5, .own 512 0 1 ((List.replicate a1.toNat (0 : UInt8)).map eU8)), (10, .int .i64 ((List.replicate a1.toNat (0 : UInt8)).length : Int)), (11, .int .i64 0)], [], []⟩ (fgk (by kernel_rfl)) rfl 0 (fun _ => rfl) ?_ ?_
  · rintro S _ hfg ⟨p19, rfl, rfl⟩
    refine wk_ ⟨[(5, .own 512 0 1 (p19.map eU8))], [], []⟩ (fglk hfg (by kernel_rfl)) ?_
    refine seq_ ?_
    refine reg_ ?_
    refine st (mv_ rfl trivial ?_)
    refine st (mv_ rfl trivial ?_)
    refine oe_ ?_
    refine wk_ ⟨[(4, .own 512 0 1 (p19.map eU8))], [], []⟩ (fgk (by kernel_rfl)) ?_
    obtain rfl := Option.some.inj h0
    exact rt_ (ret_ rfl rfl rfl rfl rfl trivial)
  · rintro ⟨p9, p10⟩ o1 _ K1 rfl h1 hx1 hK1 hE1 hR1
    refine seq_ ?_
    refine reg_ ?_
    refine st (c_ (cp_ ⟨trivial, trivial, trivial⟩ rfl trivial) ?_)
    refine oe_ ?_
    refine wk_ ⟨[(0, .int .i64 a0), (1, .int .i64 a1), (5, .own 512 0 1 (p9.map eU8)), (10, .int .i64 ((List.replicate a1.toNat (0 : UInt8)).length : Int)), (11, .int .i64 p10), (12, .bool (decide (p10 < ((List.replicate a1.toNat (0 : UInt8)).length : Int))))], [], []⟩ (fgk (by kernel_rfl)) ?_
    refine seq_ ?_
    refine ite_ (cb := (decide (p10 < ((List.replicate a1.toNat (0 : UInt8)).length : Int)))) rfl (fun c20 => ?_) (fun c20 => ?_)
    · replace h1 := ip c20 h1
      refine sk_ ?_
      refine wk_ ⟨[(0, .int .i64 a0), (1, .int .i64 a1), (5, .own 512 0 1 (p9.map eU8)), (10, .int .i64 ((List.replicate a1.toNat (0 : UInt8)).length : Int)), (11, .int .i64 p10)], [], []⟩ (fgk (by kernel_rfl)) ?_
      refine seq_ ?_
      refine block_ ?_
      refine seq_ ?_
      refine reg_ ?_
      refine st (mv_ rfl trivial ?_)
      refine st (mv_ rfl trivial ?_)
      refine oe_ ?_
      refine wk_ ⟨[(0, .int .i64 a0), (1, .int .i64 a1), (5, .own 512 0 1 (p9.map eU8)), (6, .int .i64 p10), (10, .int .i64 ((List.replicate a1.toNat (0 : UInt8)).length : Int)), (11, .int .i64 p10)], [], []⟩ (fgk (by kernel_rfl)) ?_
      refine reg_ ?_
      refine st (mv_ rfl trivial ?_)
      refine st (mv_ rfl trivial ?_)
      refine st (c_ (cp_ ⟨trivial, trivial, trivial⟩ rfl trivial) ?_)
      refine st (mv_ rfl trivial ?_)
      refine st (c_ (cp_ ⟨trivial, trivial, trivial⟩ rfl trivial) ?_)
      refine st (mv_ rfl trivial ?_)
      refine st (mv_ rfl trivial ?_)
      refine st (c_ (cp_ ⟨trivial, trivial, trivial⟩ rfl trivial) ?_)
      obtain ⟨c21, h1⟩ := grd h1
      refine st (c_ (cp_ ⟨trivial, trivial, trivial⟩ rfl c21) ?_)
      refine st (c_ (cb8 (cp_ ⟨trivial, trivial⟩ rfl trivial)) ?_)
      obtain ⟨y22, e23, h1⟩ := bnd h1
      refine st (c_ (cidxO (e := eU8) (y := y22) rfl rfl trivial rfl rfl trivial e23) ?_)
      obtain ⟨y24, e25, h1⟩ := bnd h1
      refine st (sto_ (y' := b8 (ishr .i64 a0 (IntKind.i64.wrap (8 * p10)))) rfl rfl trivial rfl rfl rfl rfl e25 (Nat.le_of_ble_eq_true rfl) rfl rfl rfl rfl ?_)
      refine oe_ ?_
      refine bn_ ?_
      refine wk_ ⟨[(0, .int .i64 a0), (1, .int .i64 a1), (5, .own 512 0 1 ((p9.set ((IntKind.i64.wrap ((IntKind.i64.wrap (a1 - 1)) - p10)).toNat) (b8 (ishr .i64 a0 (IntKind.i64.wrap (8 * p10))))).map eU8)), (10, .int .i64 ((List.replicate a1.toNat (0 : UInt8)).length : Int)), (11, .int .i64 p10)], [], []⟩ (fg ⟨rfl, rfl, (congrArg (fun z => some ((.own 512 0 1 z : V))) overlay_map), rfl, rfl, trivial⟩ trivial) ?_
      refine reg_ ?_
      refine st (c_ (cp_ ⟨trivial, trivial, trivial⟩ rfl trivial) ?_)
      refine st (mv_ rfl trivial ?_)
      refine oe_ ?_
      obtain rfl := Option.some.inj h1
      exact hK1 _ rfl _ ⟨[(0, .int .i64 a0), (1, .int .i64 a1), (5, .own 512 0 1 ((p9.set ((IntKind.i64.wrap ((IntKind.i64.wrap (a1 - 1)) - p10)).toNat) (b8 (ishr .i64 a0 (IntKind.i64.wrap (8 * p10))))).map eU8)), (10, .int .i64 ((List.replicate a1.toNat (0 : UInt8)).length : Int)), (11, .int .i64 (IntKind.i64.wrap (p10 + 1)))], [], []⟩ (fgk (by kernel_rfl)) rfl
    · replace h1 := inb c20 h1
      obtain rfl := Option.some.inj h1
      obtain rfl := hx1 _ rfl
      refine exQ rfl ?_
      exact hE1 _ ⟨[(5, .own 512 0 1 (p9.map eU8))], [], []⟩ (fgk (by kernel_rfl)) ⟨_, rfl, rfl⟩

/- loop.example/g00149/impl.crc -/
def c332_r0 : List Ins := [⟨some 2, .p (.mv (.c (.int .i64 0))), none⟩]
def c332_r1 : List Ins := [⟨some 3, .p (.mv (.c (.int .u32 4294967295))), none⟩]
def c332_r2 : List Ins := [⟨some 7, .p (.mv (.t 0)), none⟩,
 ⟨some 8, .p (.len (.t 7)), none⟩,
 ⟨some 9, .p (.mv (.c (.int .i64 0))), none⟩]
def c332_r3 : List Ins := [⟨some 10, .p (.bin .lss (.t 9) (.t 8)), none⟩]
def c332_r4 : List Ins := [⟨some 11, .p (.idxA (.t 7) (.t 9) 1), none⟩,
 ⟨some 12, .p (.load (.t 11) 1 false), none⟩,
 ⟨some 5, .p (.mv (.t 12)), none⟩]
def c332_r5 : List Ins := [⟨some 13, .p (.mv (.t 3)), none⟩,
 ⟨some 14, .p (.mv (.t 5)), none⟩,
 ⟨some 15, .p (.conv .u32 (.t 14)), none⟩,
 ⟨some 16, .p (.bin .xor (.t 13) (.t 15)), none⟩,
 ⟨some 3, .p (.mv (.t 16)), none⟩]
def c332_r6 : List Ins := [⟨some 17, .p (.mv (.c (.int .i64 0))), none⟩]
def c332_r7 : List Ins := [⟨some 18, .p (.bin .lss (.t 17) (.c (.int .i64 8))), none⟩]
def c332_r8 : List Ins := [⟨some 19, .p (.mv (.t 3)), none⟩,
 ⟨some 20, .p (.bin .and (.t 19) (.c (.int .u32 1))), none⟩,
 ⟨some 6, .p (.mv (.t 20)), none⟩]
def c332_r9 : List Ins := [⟨some 21, .p (.mv (.t 3)), none⟩,
 ⟨some 22, .p (.bin .shr (.t 21) (.c (.int .u64 1))), none⟩,
 ⟨some 3, .p (.mv (.t 22)), none⟩]
def c332_r10 : List Ins := [⟨some 23, .p (.mv (.t 6)), none⟩,
 ⟨some 24, .p (.bin .eql (.t 23) (.c (.int .u32 1))), none⟩]
def c332_r11 : List Ins := [⟨some 25, .p (.mv (.t 3)), none⟩,
 ⟨some 26, .p (.bin .xor (.t 25) (.c (.int .u32 3988292384))), none⟩,
 ⟨some 3, .p (.mv (.t 26)), none⟩]
def c332_r12 : List Ins := [⟨some 27, .p (.bin .add (.t 17) (.c (.int .i64 1))), none⟩,
 ⟨some 17, .p (.mv (.t 27)), none⟩]
def c332_l0 : IR := (.seq (.reg c332_r7) (.seq (.ite (.t 18) .skip (.exit 2)) (.seq (.block 3 (.seq (.reg c332_r8) (.seq (.reg c332_r9) (.seq (.reg c332_r10) (.ite (.t 24) (.reg c332_r11) .skip))))) (.reg c332_r12))))
def c332_r13 : List Ins := [⟨some 28, .p (.bin .add (.t 9) (.c (.int .i64 1))), none⟩,
 ⟨some 9, .p (.mv (.t 28)), none⟩]
def c332_l1 : IR := (.seq (.reg c332_r3) (.seq (.ite (.t 10) .skip (.exit 0)) (.seq (.block 1 (.seq (.reg c332_r4) (.seq (.reg c332_r5) (.seq (.reg c332_r6) (.block 2 (.loop c332_l0)))))) (.reg c332_r13))))
def c332_r14 : List Ins := [⟨some 29, .p (.mv (.t 3)), none⟩,
 ⟨some 30, .p (.un .xor (.t 29)), none⟩,
 ⟨some 31, .p (.conv .i64 (.t 30)), none⟩,
 ⟨some 2, .p (.mv (.t 31)), none⟩]
def c332 : XFn := { np := 1, nt := 32, res := [.t 2], body := (.seq (.reg c332_r0) (.seq (.reg c332_r1) (.seq (.seq (.reg c332_r2) (.block 0 (.loop c332_l1))) (.seq (.reg c332_r14) .ret)))) }
def K332 (C : CRel) : Prop := ∀ (a0 : List UInt8) (r : Int), g332 a0 = some r → C 332 ⟨[.lst 1 (a0.map eU8)], []⟩ ⟨.int .i64 r, [], []⟩
theorem F332 {C : CRel}  (a0 : List UInt8) (r : Int) (h0 : g332 a0 = some r) : FnOK C c332 ⟨[.lst 1 (a0.map eU8)], []⟩ ⟨.int .i64 r, [], []⟩ := by
  refine fn_ (Nat.le_of_ble_eq_true rfl) ?_
  refine seq_ ?_
  refine reg_ ?_
  refine st (mvc_ trivial ?_)
  refine oe_ ?_
  refine wk_ ⟨[(0, .lst 1 (a0.map eU8))], [], []⟩ (fgk (by kernel_rfl)) ?_
  refine seq_ ?_
  refine reg_ ?_
  refine st (mvc_ trivial ?_)
  refine oe_ ?_
  refine wk_ ⟨[(0, .lst 1 (a0.map eU8)), (3, .int .u32 4294967295)], [], []⟩ (fgk (by kernel_rfl)) ?_
  refine seq_ ?_
  refine seq_ ?_
  refine reg_ ?_
  refine st (mv_ rfl trivial ?_)
  refine st (c_ (clenL (e := eU8) (l0 := a0) rfl rfl trivial) ?_)
  refine st (mvc_ trivial ?_)
  refine oe_ ?_
  refine wk_ ⟨[(3, .int .u32 4294967295), (7, .lst 1 (a0.map eU8)), (8, .int .i64 (a0.length : Int)), (9, .int .i64 0)], [], []⟩ (fgk (by kernel_rfl)) ?_
  refine block_ ?_
  obtain ⟨r63, e64, h0⟩ := bnd h0
  refine loop_ (R := (fun S => ∃ p39 : Int, p39 = r63 ∧ S = ⟨[(3, .int .u32 p39)], [], []⟩)) (g332_l0 a0) (fun s S => match s with | (p19, p20) => S = ⟨[(3, .int .u32 p19), (7, .lst 1 (a0.map eU8)), (8, .int .i64 (a0.length : Int)), (9, .int .i64 p20)], [], []⟩) e64 ⟨[(3, .int .u32 4294967295), (7, .lst 1 (a0.map eU8)), (8, .int .i64 (a0.length : Int)), (9, .int .i64 0)], [], []⟩ (fgk (by kernel_rfl)) rfl 0 (fun _ => rfl) ?_ ?_
  · rintro S _ hfg ⟨p39, rfl, rfl⟩
    refine wk_ ⟨[(3, .int .u32 p39)], [], []⟩ (fglk hfg (by kernel_rfl)) ?_
    refine seq_ ?_
    refine reg_ ?_
    refine st (mv_ rfl trivial ?_)
    refine st (c_ (cp_ ⟨trivial, trivial⟩ rfl trivial) ?_)
    refine st (c_ (cp_ ⟨trivial, trivial⟩ rfl trivial) ?_)
    refine st (mv_ rfl trivial ?_)
    refine oe_ ?_
    refine wk_ ⟨[(2, .int .i64 (IntKind.i64.wrap (inot .u32 p39)))], [], []⟩ (fgk (by kernel_rfl)) ?_
    obtain rfl := Option.some.inj h0
    exact rt_ (ret_ rfl rfl rfl rfl rfl trivial)
  · rintro ⟨p19, p20⟩ o1 _ K1 rfl h1 hx1 hK1 hE1 hR1
    refine seq_ ?_
    refine reg_ ?_
    refine st (c_ (cp_ ⟨trivial, trivial, trivial⟩ rfl trivial) ?_)
    refine oe_ ?_
    refine wk_ ⟨[(3, .int .u32 p19), (7, .lst 1 (a0.map eU8)), (8, .int .i64 (a0.length : Int)), (9, .int .i64 p20), (10, .bool (decide (p20 < (a0.length : Int))))], [], []⟩ (fgk (by kernel_rfl)) ?_
    refine seq_ ?_
    refine ite_ (cb := (decide (p20 < (a0.length : Int)))) rfl (fun c40 => ?_) (fun c40 => ?_)
    · replace h1 := ip c40 h1
      refine sk_ ?_
      refine wk_ ⟨[(3, .int .u32 p19), (7, .lst 1 (a0.map eU8)), (8, .int .i64 (a0.length : Int)), (9, .int .i64 p20)], [], []⟩ (fgk (by kernel_rfl)) ?_
      refine seq_ ?_
      refine block_ ?_
      refine seq_ ?_
      refine reg_ ?_
      obtain ⟨y41, e42, h1⟩ := bnd h1
      refine st (c_ (cidxL (e := eU8) (y := y41) rfl rfl trivial rfl rfl trivial e42) ?_)
      refine st (c_ (cp_ ⟨trivial, trivial⟩ rfl (Nat.le_of_ble_eq_true rfl)) ?_)
      refine st (mv_ rfl trivial ?_)
      refine oe_ ?_
      refine wk_ ⟨[(3, .int .u32 p19), (5, .int .u8 ((y41).toNat : Int)), (7, .lst 1 (a0.map eU8)), (8, .int .i64 (a0.length : Int)), (9, .int .i64 p20)], [], []⟩ (fgk (by kernel_rfl)) ?_
      refine seq_ ?_
      refine reg_ ?_
      refine st (mv_ rfl trivial ?_)
      refine st (mv_ rfl trivial ?_)
      refine st (c_ (cp_ ⟨trivial, trivial⟩ rfl trivial) ?_)
      refine st (c_ (cp_ ⟨trivial, trivial, trivial⟩ rfl trivial) ?_)
      refine st (mv_ rfl trivial ?_)
      refine oe_ ?_
      refine wk_ ⟨[(3, .int .u32 (ixor .u32 p19 (IntKind.u32.wrap ((y41).toNat : Int)))), (7, .lst 1 (a0.map eU8)), (8, .int .i64 (a0.length : Int)), (9, .int .i64 p20)], [], []⟩ (fgk (by kernel_rfl)) ?_
      refine seq_ ?_
      refine reg_ ?_
      refine st (mvc_ trivial ?_)
      refine oe_ ?_
      refine wk_ ⟨[(3, .int .u32 (ixor .u32 p19 (IntKind.u32.wrap ((y41).toNat : Int)))), (7, .lst 1 (a0.map eU8)), (8, .int .i64 (a0.length : Int)), (9, .int .i64 p20), (17, .int .i64 0)], [], []⟩ (fgk (by kernel_rfl)) ?_
      refine block_ ?_
      obtain ⟨r61, e62, h1⟩ := bnd h1
      refine loop_ (R := (fun S => ∃ p55 : Int, p55 = r61 ∧ S = ⟨[(3, .int .u32 p55), (7, .lst 1 (a0.map eU8)), (8, .int .i64 (a0.length : Int)), (9, .int .i64 p20)], [], []⟩)) (g332_l1) (fun s S => match s with | (p48, p49) => S = ⟨[(3, .int .u32 p48), (7, .lst 1 (a0.map eU8)), (8, .int .i64 (a0.length : Int)), (9, .int .i64 p20), (17, .int .i64 p49)], [], []⟩) e62 ⟨[(3, .int .u32 (ixor .u32 p19 (IntKind.u32.wrap ((y41).toNat : Int)))), (7, .lst 1 (a0.map eU8)), (8, .int .i64 (a0.length : Int)), (9, .int .i64 p20), (17, .int .i64 0)], [], []⟩ (fgk (by kernel_rfl)) rfl 2 (fun _ => rfl) ?_ ?_
      · rintro S _ hfg ⟨p55, rfl, rfl⟩
        refine bn_ ?_
        refine wk_ ⟨[(3, .int .u32 p55), (7, .lst 1 (a0.map eU8)), (8, .int .i64 (a0.length : Int)), (9, .int .i64 p20)], [], []⟩ (fglk hfg (by kernel_rfl)) ?_
        refine reg_ ?_
        refine st (c_ (cp_ ⟨trivial, trivial, trivial⟩ rfl trivial) ?_)
        refine st (mv_ rfl trivial ?_)
        refine oe_ ?_
        obtain rfl := Option.some.inj h1
        exact hK1 _ rfl _ ⟨[(3, .int .u32 p55), (7, .lst 1 (a0.map eU8)), (8, .int .i64 (a0.length : Int)), (9, .int .i64 (IntKind.i64.wrap (p20 + 1)))], [], []⟩ (fgk (by kernel_rfl)) rfl
      · rintro ⟨p48, p49⟩ o2 _ K2 rfl h2 hx2 hK2 hE2 hR2
        refine seq_ ?_
        refine reg_ ?_
        refine st (c_ (cp_ ⟨trivial, trivial, trivial⟩ rfl trivial) ?_)
        refine oe_ ?_
        refine wk_ ⟨[(3, .int .u32 p48), (7, .lst 1 (a0.map eU8)), (8, .int .i64 (a0.length : Int)), (9, .int .i64 p20), (17, .int .i64 p49), (18, .bool (decide (p49 < 8)))], [], []⟩ (fgk (by kernel_rfl)) ?_
        refine seq_ ?_
        refine ite_ (cb := (decide (p49 < 8))) rfl (fun c56 => ?_) (fun c56 => ?_)
        · replace h2 := ip c56 h2
          refine sk_ ?_
          refine wk_ ⟨[(3, .int .u32 p48), (7, .lst 1 (a0.map eU8)), (8, .int .i64 (a0.length : Int)), (9, .int .i64 p20), (17, .int .i64 p49)], [], []⟩ (fgk (by kernel_rfl)) ?_
          refine seq_ ?_
          refine blockJ (fun S => ∃ p58 : Int, S = ⟨[(3, .int .u32 p58), (7, .lst 1 (a0.map eU8)), (8, .int .i64 (a0.length : Int)), (9, .int .i64 p20), (17, .int .i64 p49)], [], []⟩ ∧ g332_j0 p49 p58 = some o2) ?_ (fun J59 => ?_)
          · rintro _ ⟨p58, rfl, h2⟩
            refine wk_ ⟨[(3, .int .u32 p58), (7, .lst 1 (a0.map eU8)), (8, .int .i64 (a0.length : Int)), (9, .int .i64 p20), (17, .int .i64 p49)], [], []⟩ (fgk (by kernel_rfl)) ?_
            refine reg_ ?_
            refine st (c_ (cp_ ⟨trivial, trivial, trivial⟩ rfl trivial) ?_)
            refine st (mv_ rfl trivial ?_)
            refine oe_ ?_
            obtain rfl := Option.some.inj h2
            exact hK2 _ rfl _ ⟨[(3, .int .u32 p58), (7, .lst 1 (a0.map eU8)), (8, .int .i64 (a0.length : Int)), (9, .int .i64 p20), (17, .int .i64 (IntKind.i64.wrap (p49 + 1)))], [], []⟩ (fgk (by kernel_rfl)) rfl
          · refine seq_ ?_
            refine reg_ ?_
            refine st (mv_ rfl trivial ?_)
            refine st (c_ (cp_ ⟨trivial, trivial, trivial⟩ rfl trivial) ?_)
            refine st (mv_ rfl trivial ?_)
            refine oe_ ?_
            refine wk_ ⟨[(3, .int .u32 p48), (6, .int .u32 (iand .u32 p48 1)), (7, .lst 1 (a0.map eU8)), (8, .int .i64 (a0.length : Int)), (9, .int .i64 p20), (17, .int .i64 p49)], [], []⟩ (fgk (by kernel_rfl)) ?_
            refine seq_ ?_
            refine reg_ ?_
            refine st (mv_ rfl trivial ?_)
            refine st (c_ (cp_ ⟨trivial, trivial, trivial⟩ rfl (by decide)) ?_)
            refine st (mv_ rfl trivial ?_)
            refine oe_ ?_
            refine wk_ ⟨[(3, .int .u32 (ishr .u32 p48 1)), (6, .int .u32 (iand .u32 p48 1)), (7, .lst 1 (a0.map eU8)), (8, .int .i64 (a0.length : Int)), (9, .int .i64 p20), (17, .int .i64 p49)], [], []⟩ (fgk (by kernel_rfl)) ?_
            refine seq_ ?_
            refine reg_ ?_
            refine st (mv_ rfl trivial ?_)
            refine st (c_ (cp_ ⟨trivial, trivial, trivial⟩ rfl trivial) ?_)
            refine oe_ ?_
            refine wk_ ⟨[(3, .int .u32 (ishr .u32 p48 1)), (7, .lst 1 (a0.map eU8)), (8, .int .i64 (a0.length : Int)), (9, .int .i64 p20), (17, .int .i64 p49), (24, .bool ((iand .u32 p48 1) == 1))], [], []⟩ (fgk (by kernel_rfl)) ?_
            refine ite_ (cb := ((iand .u32 p48 1) == 1)) rfl (fun c60 => ?_) (fun c60 => ?_)
            · replace h2 := ip c60 h2
              refine reg_ ?_
              refine st (mv_ rfl trivial ?_)
              refine st (c_ (cp_ ⟨trivial, trivial, trivial⟩ rfl trivial) ?_)
              refine st (mv_ rfl trivial ?_)
              refine oe_ ?_
              refine bn_ ?_
              exact J59 _ ⟨[(3, .int .u32 (ixor .u32 (ishr .u32 p48 1) 3988292384)), (7, .lst 1 (a0.map eU8)), (8, .int .i64 (a0.length : Int)), (9, .int .i64 p20), (17, .int .i64 p49)], [], []⟩ (fgk (by kernel_rfl)) ⟨_, rfl, h2⟩
            · replace h2 := inb c60 h2
              refine sk_ ?_
              refine bn_ ?_
              exact J59 _ ⟨[(3, .int .u32 (ishr .u32 p48 1)), (7, .lst 1 (a0.map eU8)), (8, .int .i64 (a0.length : Int)), (9, .int .i64 p20), (17, .int .i64 p49)], [], []⟩ (fgk (by kernel_rfl)) ⟨_, rfl, h2⟩
        · replace h2 := inb c56 h2
          obtain rfl := Option.some.inj h2
          obtain rfl := hx2 _ rfl
          refine exQ rfl ?_
          exact hE2 _ ⟨[(3, .int .u32 p48), (7, .lst 1 (a0.map eU8)), (8, .int .i64 (a0.length : Int)), (9, .int .i64 p20)], [], []⟩ (fgk (by kernel_rfl)) ⟨_, rfl, rfl⟩
    · replace h1 := inb c40 h1
      obtain rfl := Option.some.inj h1
      obtain rfl := hx1 _ rfl
      refine exQ rfl ?_
      exact hE1 _ ⟨[(3, .int .u32 p19)], [], []⟩ (fgk (by kernel_rfl)) ⟨_, rfl, rfl⟩

/- loop.example/g00149/impl.frame -/
def c274_r0 : List Ins := [⟨some 2, .nilS 1, none⟩]
def c274_r1 : List Ins := [⟨some 4, .p (.mv (.t 0)), none⟩,
 ⟨some 5, .p (.len (.t 4)), none⟩,
 ⟨some 6, .p (.bin .add (.t 5) (.c (.int .i64 1))), none⟩,
 ⟨some 7, .call 331 [(.t 6), (.c (.int .i64 2))], none⟩,
 ⟨some 8, .p (.mv (.t 0)), none⟩,
 ⟨some 9, .app 1 1 (.t 7) (.t 8), none⟩,
 ⟨some 3, .p (.mv (.t 9)), none⟩]
def c274_r2 : List Ins := [⟨some 10, .p (.mv (.t 3)), none⟩,
 ⟨some 11, .p (.mv (.t 3)), none⟩,
 ⟨some 12, .call 332 [(.t 11)], none⟩,
 ⟨some 13, .call 331 [(.t 12), (.c (.int .i64 4))], none⟩,
 ⟨some 14, .app 1 1 (.t 10) (.t 13), none⟩,
 ⟨some 2, .p (.mv (.t 14)), none⟩]
def c274 : XFn := { np := 1, nt := 15, res := [.t 2], body := (.seq (.reg c274_r0) (.seq (.reg c274_r1) (.seq (.reg c274_r2) .ret))) }
def K274 (C : CRel) : Prop := ∀ (a0 : List UInt8) (r : (List UInt8)), g274 a0 = some r → C 274 ⟨[.lst 1 (a0.map eU8)], []⟩ ⟨.own 0 0 1 (r.map eU8), [], []⟩
theorem F274 {C : CRel} (H331 : K331 C) (H332 : K332 C) (a0 : List UInt8) (r : (List UInt8)) (h0 : g274 a0 = some r) : FnOK C c274 ⟨[.lst 1 (a0.map eU8)], []⟩ ⟨.own 0 0 1 (r.map eU8), [], []⟩ := by
  refine fn_ (Nat.le_of_ble_eq_true rfl) ?_
  refine seq_ ?_
  refine reg_ ?_
  refine st (nilS_ ?_)
  refine oe_ ?_
  refine wk_ ⟨[(0, .lst 1 (a0.map eU8))], [], []⟩ (fgk (by kernel_rfl)) ?_
  refine seq_ ?_
  refine reg_ ?_
  refine st (mv_ rfl trivial ?_)
  refine st (c_ (clenL (e := eU8) (l0 := a0) rfl rfl trivial) ?_)
  refine st (c_ (cp_ ⟨trivial, trivial, trivial⟩ rfl trivial) ?_)
  obtain ⟨r1, e2, h0⟩ := bnd h0
  refine st (call0_ (r := .own 0 0 1 (r1.map eU8)) false (H331 (IntKind.i64.wrap ((a0.length : Int) + 1)) 2 r1 e2) ⟨trivial, trivial, trivial⟩ rfl rfl (fun _ => (and_ (fl1 (fun _ => rfl)) rfl)) ?_)
  refine st (mv_ rfl trivial ?_)
  obtain ⟨c3, h0⟩ := grd h0
  refine st (app_ (e := eU8) (l0 := r1) (l1 := a0) rfl rfl trivial rfl (by decide) c3 ?_)
  refine st (mv_ rfl trivial ?_)
  refine oe_ ?_
  refine wk_ ⟨[(3, .own 448 0 1 ((r1 ++ a0).map eU8))], [], []⟩ (fgk (by kernel_rfl)) ?_
  refine seq_ ?_
  refine reg_ ?_
  refine st (mv_ rfl trivial ?_)
  refine st (mv_ rfl trivial ?_)
  obtain ⟨r4, e5, h0⟩ := bnd h0
  refine st (call0_ (r := .int .i64 r4) false (H332 (r1 ++ a0) r4 e5) ⟨trivial, trivial⟩ rfl rfl (fun _ => rfl) ?_)
  obtain ⟨r6, e7, h0⟩ := bnd h0
  refine st (call0_ (r := .own 0 0 1 (r6.map eU8)) false (H331 r4 4 r6 e7) ⟨trivial, trivial, trivial⟩ rfl rfl (fun _ => (and_ (fl1 (fun _ => rfl)) rfl)) ?_)
  obtain ⟨c8, h0⟩ := grd h0
  refine st (app_ (e := eU8) (l0 := r1 ++ a0) (l1 := r6) rfl rfl trivial rfl (by decide) c8 ?_)
  refine st (mv_ rfl trivial ?_)
  refine oe_ ?_
  refine wk_ ⟨[(2, .own 448 0 1 (((r1 ++ a0) ++ r6).map eU8))], [], []⟩ (fgk (by kernel_rfl)) ?_
  obtain rfl := Option.some.inj h0
  exact rt_ (ret_ rfl rfl rfl rfl rfl trivial)

/- loop.example/g00149/impl.FrameOf -/
def c219_r0 : List Ins := [⟨some 2, .nilS 1, none⟩,
 ⟨some 3, .p (.mv (.c (.int .i64 0))), none⟩]
def c219_r1 : List Ins := [⟨some 5, .p (.mv (.t 0)), none⟩,
 ⟨some 6, .call 264 [(.t 5)], none⟩,
 ⟨some 7, .p (.un .not (.t 6)), none⟩,
 ⟨some 4, .p (.mv (.t 7)), none⟩]
def c219_r2 : List Ins := [⟨some 2, .nilS 1, none⟩,
 ⟨some 3, .p (.mv (.c (.int .i64 2))), none⟩]
def c219_r3 : List Ins := [⟨some 9, .p (.mv (.t 0)), none⟩,
 ⟨some 10, .p (.len (.t 9)), none⟩,
 ⟨some 11, .p (.bin .gtr (.t 10) (.c (.int .i64 2000))), none⟩,
 ⟨some 8, .p (.mv (.t 11)), none⟩]
def c219_r4 : List Ins := [⟨some 2, .nilS 1, none⟩,
 ⟨some 3, .p (.mv (.c (.int .i64 4))), none⟩]
def c219_r5 : List Ins := [⟨some 12, .p (.mv (.t 0)), none⟩,
 ⟨some 13, .call 274 [(.t 12)], none⟩,
 ⟨some 2, .p (.mv (.t 13)), none⟩,
 ⟨some 3, .p (.mv (.c (.int .i64 0))), none⟩]
def c219 : XFn := { np := 1, nt := 14, res := [.t 2, .t 3], body := (.seq (.reg c219_r0) (.seq (.block 0 (.seq (.reg c219_r1) (.ite (.t 4) (.seq (.reg c219_r2) .ret) (.seq (.reg c219_r3) (.ite (.t 8) (.seq (.reg c219_r4) .ret) .skip))))) (.seq (.reg c219_r5) .ret))) }
def K219 (C : CRel) : Prop := ∀ (a0 : List UInt8) (r : (List UInt8) × Int), g219 a0 = some r → C 219 ⟨[.lst 1 (a0.map eU8)], []⟩ ⟨.tup [.own 0 0 1 (r.1.map eU8), .int .i64 r.2], [], []⟩
theorem F219 {C : CRel} (H264 : K264 C) (H274 : K274 C) (a0 : List UInt8) (r : (List UInt8) × Int) (h0 : g219 a0 = some r) : FnOK C c219 ⟨[.lst 1 (a0.map eU8)], []⟩ ⟨.tup [.own 0 0 1 (r.1.map eU8), .int .i64 r.2], [], []⟩ := by
  refine fn_ (Nat.le_of_ble_eq_true rfl) ?_
  refine seq_ ?_
  refine reg_ ?_
  refine st (nilS_ ?_)
  refine st (mvc_ trivial ?_)
  refine oe_ ?_
  refine wk_ ⟨[(0, .lst 1 (a0.map eU8))], [], []⟩ (fgk (by kernel_rfl)) ?_
  refine seq_ ?_
  refine block_ ?_
  refine seq_ ?_
  refine reg_ ?_
  refine st (mv_ rfl trivial ?_)
  obtain ⟨r1, e2, h0⟩ := bnd h0
  refine st (call0_ (r := .bool r1) false (H264 a0 r1 e2) ⟨trivial, trivial⟩ rfl rfl (fun _ => rfl) ?_)
  refine st (c_ (cp_ ⟨trivial, trivial⟩ rfl trivial) ?_)
  refine st (mv_ rfl trivial ?_)
  refine oe_ ?_
  refine wk_ ⟨[(0, .lst 1 (a0.map eU8)), (4, .bool (!r1))], [], []⟩ (fgk (by kernel_rfl)) ?_
  refine ite_ (cb := (!r1)) rfl (fun c3 => ?_) (fun c3 => ?_)
  · replace h0 := ip c3 h0
    refine seq_ ?_
    refine reg_ ?_
    refine st (nilS_ ?_)
    refine st (mvc_ trivial ?_)
    refine oe_ ?_
    refine wk_ ⟨[(2, .own 128 0 1 ([].map eU8)), (3, .int .i64 2)], [], []⟩ (fgk (by kernel_rfl)) ?_
    obtain rfl := Option.some.inj h0
    exact rt_ (ret_ rfl rfl rfl rfl rfl trivial)
  · replace h0 := inb c3 h0
    refine seq_ ?_
    refine reg_ ?_
    refine st (mv_ rfl trivial ?_)
    refine st (c_ (clenL (e := eU8) (l0 := a0) rfl rfl trivial) ?_)
    refine st (c_ (cp_ ⟨trivial, trivial, trivial⟩ rfl trivial) ?_)
    refine st (mv_ rfl trivial ?_)
    refine oe_ ?_
    refine wk_ ⟨[(0, .lst 1 (a0.map eU8)), (8, .bool (decide ((a0.length : Int) > 2000)))], [], []⟩ (fgk (by kernel_rfl)) ?_
    refine ite_ (cb := (decide ((a0.length : Int) > 2000))) rfl (fun c4 => ?_) (fun c4 => ?_)
    · replace h0 := ip c4 h0
      refine seq_ ?_
      refine reg_ ?_
      refine st (nilS_ ?_)
      refine st (mvc_ trivial ?_)
      refine oe_ ?_
      refine wk_ ⟨[(2, .own 128 0 1 ([].map eU8)), (3, .int .i64 4)], [], []⟩ (fgk (by kernel_rfl)) ?_
      obtain rfl := Option.some.inj h0
      exact rt_ (ret_ rfl rfl rfl rfl rfl trivial)
    · replace h0 := inb c4 h0
      refine sk_ ?_
      refine bn_ ?_
      refine wk_ ⟨[(0, .lst 1 (a0.map eU8))], [], []⟩ (fgk (by kernel_rfl)) ?_
      refine seq_ ?_
      refine reg_ ?_
      refine st (mv_ rfl trivial ?_)
      obtain ⟨r5, e6, h0⟩ := bnd h0
      refine st (call0_ (r := .own 0 0 1 (r5.map eU8)) false (H274 a0 r5 e6) ⟨trivial, trivial⟩ rfl rfl (fun _ => (and_ (fl1 (fun _ => rfl)) rfl)) ?_)
      refine st (mv_ rfl trivial ?_)
      refine st (mvc_ trivial ?_)
      refine oe_ ?_
      refine wk_ ⟨[(2, .own 832 0 1 (r5.map eU8)), (3, .int .i64 0)], [], []⟩ (fgk (by kernel_rfl)) ?_
      obtain rfl := Option.some.inj h0
      exact rt_ (ret_ rfl rfl rfl rfl rfl trivial)

/- loop.example/g00149/impl.bigOf -/
def c333_r0 : List Ins := [⟨some 2, .p (.mv (.c (.int .i64 0))), none⟩]
def c333_r1 : List Ins := [⟨some 3, .p (.mv (.c (.int .i64 0))), none⟩]
def c333_r2 : List Ins := [⟨some 6, .p (.mv (.t 0)), none⟩,
 ⟨some 7, .p (.len (.t 6)), none⟩,
 ⟨some 8, .p (.mv (.c (.int .i64 0))), none⟩]
def c333_r3 : List Ins := [⟨some 9, .p (.bin .lss (.t 8) (.t 7)), none⟩]
def c333_r4 : List Ins := [⟨some 10, .p (.idxA (.t 6) (.t 8) 1), none⟩,
 ⟨some 11, .p (.load (.t 10) 1 false), none⟩,
 ⟨some 5, .p (.mv (.t 11)), none⟩]
def c333_r5 : List Ins := [⟨some 12, .p (.mv (.t 3)), none⟩,
 ⟨some 13, .p (.bin .shl (.t 12) (.c (.int .u64 8))), none⟩,
 ⟨some 14, .p (.mv (.t 5)), none⟩,
 ⟨some 15, .p (.conv .i64 (.t 14)), none⟩,
 ⟨some 16, .p (.bin .or (.t 13) (.t 15)), none⟩,
 ⟨some 3, .p (.mv (.t 16)), none⟩]
def c333_r6 : List Ins := [⟨some 17, .p (.bin .add (.t 8) (.c (.int .i64 1))), none⟩,
 ⟨some 8, .p (.mv (.t 17)), none⟩]
def c333_l0 : IR := (.seq (.reg c333_r3) (.seq (.ite (.t 9) .skip (.exit 0)) (.seq (.block 1 (.seq (.reg c333_r4) (.reg c333_r5))) (.reg c333_r6))))
def c333_r7 : List Ins := [⟨some 18, .p (.mv (.t 3)), none⟩,
 ⟨some 2, .p (.mv (.t 18)), none⟩]
def c333 : XFn := { np := 1, nt := 19, res := [.t 2], body := (.seq (.reg c333_r0) (.seq (.reg c333_r1) (.seq (.seq (.reg c333_r2) (.block 0 (.loop c333_l0))) (.seq (.reg c333_r7) .ret)))) }
def K333 (C : CRel) : Prop := ∀ (a0 : List UInt8) (r : Int), g333 a0 = some r → C 333 ⟨[.lst 1 (a0.map eU8)], []⟩ ⟨.int .i64 r, [], []⟩
theorem F333 {C : CRel}  (a0 : List UInt8) (r : Int) (h0 : g333 a0 = some r) : FnOK C c333 ⟨[.lst 1 (a0.map eU8)], []⟩ ⟨.int .i64 r, [], []⟩ := by
  refine fn_ (Nat.le_of_ble_eq_true rfl) ?_
  refine seq_ ?_
  refine reg_ ?_
  refine st (mvc_ trivial ?_)
  refine oe_ ?_
  refine wk_ ⟨[(0, .lst 1 (a0.map eU8))], [], []⟩ (fgk (by kernel_rfl)) ?_
  refine seq_ ?_
  refine reg_ ?_
  refine st (mvc_ trivial ?_)
  refine oe_ ?_
  refine wk_ ⟨[(0, .lst 1 (a0.map eU8)), (3, .int .i64 0)], [], []⟩ (fgk (by kernel_rfl)) ?_
  refine seq_ ?_
  refine seq_ ?_
  refine reg_ ?_
  refine st (mv_ rfl trivial ?_)
  refine st (c_ (clenL (e := eU8) (l0 := a0) rfl rfl trivial) ?_)
  refine st (mvc_ trivial ?_)
  refine oe_ ?_
  refine wk_ ⟨[(3, .int .i64 0), (6, .lst 1 (a0.map eU8)), (7, .int .i64 (a0.length : Int)), (8, .int .i64 0)], [], []⟩ (fgk (by kernel_rfl)) ?_
  refine block_ ?_
  obtain ⟨r15, e16, h0⟩ := bnd h0
  refine loop_ (R := (fun S => ∃ p11 : Int, p11 = r15 ∧ S = ⟨[(3, .int .i64 p11)], [], []⟩)) (g333_l0 a0) (fun s S => match s with | (p4, p5) => S = ⟨[(3, .int .i64 p4), (6, .lst 1 (a0.map eU8)), (7, .int .i64 (a0.length : Int)), (8, .int .i64 p5)], [], []⟩) e16 ⟨[(3, .int .i64 0), (6, .lst 1 (a0.map eU8)), (7, .int .i64 (a0.length : Int)), (8, .int .i64 0)], [], []⟩ (fgk (by kernel_rfl)) rfl 0 (fun _ => rfl) ?_ ?_
  · rintro S _ hfg ⟨p11, rfl, rfl⟩
    refine wk_ ⟨[(3, .int .i64 p11)], [], []⟩ (fglk hfg (by kernel_rfl)) ?_
    refine seq_ ?_
    refine reg_ ?_
    refine st (mv_ rfl trivial ?_)
    refine st (mv_ rfl trivial ?_)
    refine oe_ ?_
    refine wk_ ⟨[(2, .int .i64 p11)], [], []⟩ (fgk (by kernel_rfl)) ?_
    obtain rfl := Option.some.inj h0
    exact rt_ (ret_ rfl rfl rfl rfl rfl trivial)
  · rintro ⟨p4, p5⟩ o1 _ K1 rfl h1 hx1 hK1 hE1 hR1
    refine seq_ ?_
    refine reg_ ?_
    refine st (c_ (cp_ ⟨trivial, trivial, trivial⟩ rfl trivial) ?_)
    refine oe_ ?_
    refine wk_ ⟨[(3, .int .i64 p4), (6, .lst 1 (a0.map eU8)), (7, .int .i64 (a0.length : Int)), (8, .int .i64 p5), (9, .bool (decide (p5 < (a0.length : Int))))], [], []⟩ (fgk (by kernel_rfl)) ?_
    refine seq_ ?_
    refine ite_ (cb := (decide (p5 < (a0.length : Int)))) rfl (fun c12 => ?_) (fun c12 => ?_)
    · replace h1 := ip c12 h1
      refine sk_ ?_
      refine wk_ ⟨[(3, .int .i64 p4), (6, .lst 1 (a0.map eU8)), (7, .int .i64 (a0.length : Int)), (8, .int .i64 p5)], [], []⟩ (fgk (by kernel_rfl)) ?_
      refine seq_ ?_
      refine block_ ?_
      refine seq_ ?_
      refine reg_ ?_
      obtain ⟨y13, e14, h1⟩ := bnd h1
      refine st (c_ (cidxL (e := eU8) (y := y13) rfl rfl trivial rfl rfl trivial e14) ?_)
      refine st (c_ (cp_ ⟨trivial, trivial⟩ rfl (Nat.le_of_ble_eq_true rfl)) ?_)
      refine st (mv_ rfl trivial ?_)
      refine oe_ ?_
      refine wk_ ⟨[(3, .int .i64 p4), (5, .int .u8 ((y13).toNat : Int)), (6, .lst 1 (a0.map eU8)), (7, .int .i64 (a0.length : Int)), (8, .int .i64 p5)], [], []⟩ (fgk (by kernel_rfl)) ?_
      refine reg_ ?_
      refine st (mv_ rfl trivial ?_)
      refine st (c_ (cp_ ⟨trivial, trivial, trivial⟩ rfl (by decide)) ?_)
      refine st (mv_ rfl trivial ?_)
      refine st (c_ (cp_ ⟨trivial, trivial⟩ rfl trivial) ?_)
      refine st (c_ (cp_ ⟨trivial, trivial, trivial⟩ rfl trivial) ?_)
      refine st (mv_ rfl trivial ?_)
      refine oe_ ?_
      refine bn_ ?_
      refine wk_ ⟨[(3, .int .i64 (ior .i64 (ishl .i64 p4 8) (IntKind.i64.wrap ((y13).toNat : Int)))), (6, .lst 1 (a0.map eU8)), (7, .int .i64 (a0.length : Int)), (8, .int .i64 p5)], [], []⟩ (fgk (by kernel_rfl)) ?_
      refine reg_ ?_
      refine st (c_ (cp_ ⟨trivial, trivial, trivial⟩ rfl trivial) ?_)
      refine st (mv_ rfl trivial ?_)
      refine oe_ ?_
      obtain rfl := Option.some.inj h1
      exact hK1 _ rfl _ ⟨[(3, .int .i64 (ior .i64 (ishl .i64 p4 8) (IntKind.i64.wrap ((y13).toNat : Int)))), (6, .lst 1 (a0.map eU8)), (7, .int .i64 (a0.length : Int)), (8, .int .i64 (IntKind.i64.wrap (p5 + 1)))], [], []⟩ (fgk (by kernel_rfl)) rfl
    · replace h1 := inb c12 h1
      obtain rfl := Option.some.inj h1
      obtain rfl := hx1 _ rfl
      refine exQ rfl ?_
      exact hE1 _ ⟨[(3, .int .i64 p4)], [], []⟩ (fgk (by kernel_rfl)) ⟨_, rfl, rfl⟩

/- loop.example/g00149/impl.scan -/
def c275_r0 : List Ins := [⟨some 2, .nilS 1, none⟩,
 ⟨some 3, .p (.mv (.c (.int .i64 0))), none⟩]
def c275_r1 : List Ins := [⟨some 4, .nilS 1, none⟩]
def c275_r2 : List Ins := [⟨some 5, .p (.mv (.c (.int .i64 0))), none⟩]
def c275_r3 : List Ins := [⟨some 8, .p (.mv (.t 5)), none⟩,
 ⟨some 9, .p (.bin .add (.t 8) (.c (.int .i64 2))), none⟩,
 ⟨some 10, .p (.mv (.t 0)), none⟩,
 ⟨some 11, .p (.len (.t 10)), none⟩,
 ⟨some 12, .p (.bin .leq (.t 9) (.t 11)), none⟩]
def c275_r4 : List Ins := [⟨some 13, .p (.mv (.t 0)), none⟩,
 ⟨some 14, .p (.mv (.t 5)), none⟩,
 ⟨some 15, .p (.mv (.t 5)), none⟩,
 ⟨some 16, .p (.bin .add (.t 15) (.c (.int .i64 2))), none⟩,
 ⟨some 17, .p (.slice (.t 13) (some (.t 14)) (some (.t 16)) 1), none⟩,
 ⟨some 18, .call 333 [(.t 17)], none⟩,
 ⟨some 19, .p (.bin .sub (.t 18) (.c (.int .i64 1))), none⟩,
 ⟨some 6, .p (.mv (.t 19)), none⟩]
def c275_r5 : List Ins := [⟨some 20, .p (.mv (.t 5)), none⟩,
 ⟨some 21, .p (.bin .add (.t 20) (.c (.int .i64 2))), none⟩,
 ⟨some 22, .p (.mv (.t 6)), none⟩,
 ⟨some 23, .p (.bin .add (.t 21) (.t 22)), none⟩,
 ⟨some 7, .p (.mv (.t 23)), none⟩]
def c275_r6 : DP := (.take ⟨some 24, .p (.mv (.t 6)), none⟩
 (.alt [] ⟨some 25, .call 63 [(.t 24), (.c (.int .i64 0)), (.c (.int .i64 2000))], none⟩
 (.take ⟨some 26, .p (.un .not (.t 25)), none⟩
 (.take ⟨some 27, .p (.mv (.t 26)), none⟩
 (.take ⟨some 28, .p (.mv (.t 7)), some (27, false)⟩
 (.take ⟨some 29, .p (.bin .add (.t 28) (.c (.int .i64 4))), some (27, false)⟩
 (.take ⟨some 30, .p (.mv (.t 0)), some (27, false)⟩
 (.take ⟨some 31, .p (.len (.t 30)), some (27, false)⟩
 (.take ⟨some 32, .p (.bin .gtr (.t 29) (.t 31)), some (27, false)⟩
 (.take ⟨some 33, .pick (.t 27) (.c (.bool true)) (.t 32), none⟩
 (.take ⟨some 34, .p (.mv (.t 33)), none⟩
 (.take ⟨some 35, .p (.mv (.t 0)), some (34, false)⟩
 (.take ⟨some 36, .p (.mv (.t 5)), some (34, false)⟩
 (.take ⟨some 37, .p (.mv (.t 7)), some (34, false)⟩
 (.take ⟨some 38, .p (.slice (.t 35) (some (.t 36)) (some (.t 37)) 1), some (34, false)⟩
 (.take ⟨some 40, .p (.mv (.t 0)), some (34, false)⟩
 (.take ⟨some 41, .p (.mv (.t 7)), some (34, false)⟩
 (.take ⟨some 42, .p (.mv (.t 7)), some (34, false)⟩
 (.take ⟨some 43, .p (.bin .add (.t 42) (.c (.int .i64 4))), some (34, false)⟩
 (.take ⟨some 44, .p (.slice (.t 40) (some (.t 41)) (some (.t 43)) 1), some (34, false)⟩
 (.alt [⟨some 44, .p (.slice (.t 40) (some (.t 41)) (some (.t 43)) 1), some (34, false)⟩, ⟨some 43, .p (.bin .add (.t 42) (.c (.int .i64 4))), some (34, false)⟩, ⟨some 42, .p (.mv (.t 7)), some (34, false)⟩, ⟨some 41, .p (.mv (.t 7)), some (34, false)⟩, ⟨some 40, .p (.mv (.t 0)), some (34, false)⟩] ⟨some 39, .call 332 [(.t 38)], some (34, false)⟩
 (.alt [] ⟨some 45, .call 333 [(.t 44)], some (34, false)⟩
 (.take ⟨some 46, .p (.bin .neq (.t 39) (.t 45)), some (34, false)⟩
 (.take ⟨some 47, .pick (.t 34) (.c (.bool true)) (.t 46), none⟩
 .fin))
 .stop)
 .stop)))))))))))))))))))
 .stop))
def c275_r7 : List Ins := [⟨some 48, .p (.mv (.t 4)), none⟩,
 ⟨some 49, .p (.mv (.t 0)), none⟩,
 ⟨some 50, .p (.mv (.t 5)), none⟩,
 ⟨some 51, .p (.bin .add (.t 50) (.c (.int .i64 2))), none⟩,
 ⟨some 52, .p (.mv (.t 7)), none⟩,
 ⟨some 53, .p (.slice (.t 49) (some (.t 51)) (some (.t 52)) 1), none⟩,
 ⟨some 54, .call 325 [(.t 53)], none⟩,
 ⟨some 55, .mkS 1 [(.lst 1 [])] 1 [(0, (.t 54))], none⟩,
 ⟨some 56, .app 1 24 (.t 48) (.t 55), none⟩,
 ⟨some 4, .p (.mv (.t 56)), none⟩]
def c275_r8 : List Ins := [⟨some 57, .p (.mv (.t 7)), none⟩,
 ⟨some 58, .p (.bin .add (.t 57) (.c (.int .i64 4))), none⟩,
 ⟨some 5, .p (.mv (.t 58)), none⟩]
def c275_l0 : IR := (.seq (.seq (.reg c275_r3) (.ite (.t 12) .skip (.exit 0))) (.block 1 (.seq (.reg c275_r4) (.seq (.reg c275_r5) (.seq (.seq (.draw c275_r6) (.ite (.t 47) (.exit 0) .skip)) (.seq (.reg c275_r7) (.reg c275_r8)))))))
def c275_r9 : List Ins := [⟨some 59, .p (.mv (.t 4)), none⟩,
 ⟨some 60, .p (.mv (.t 5)), none⟩,
 ⟨some 2, .p (.mv (.t 59)), none⟩,
 ⟨some 3, .p (.mv (.t 60)), none⟩]
def c275 : XFn := { np := 1, nt := 61, res := [.t 2, .t 3], body := (.seq (.reg c275_r0) (.seq (.reg c275_r1) (.seq (.reg c275_r2) (.seq (.block 0 (.loop c275_l0)) (.seq (.reg c275_r9) .ret))))) }
def K275 (C : CRel) : Prop := ∀ (a0 : List UInt8) (r : (List (List UInt8)) × Int), g275 a0 = some r → C 275 ⟨[.lst 1 (a0.map eU8)], []⟩ ⟨.tup [.own 0 0 1 (r.1.map (eL 1 eU8)), .int .i64 r.2], [], []⟩
theorem F275 {C : CRel} (H63 : K63 C) (H325 : K325 C) (H332 : K332 C) (H333 : K333 C) (a0 : List UInt8) (r : (List (List UInt8)) × Int) (h0 : g275 a0 = some r) : FnOK C c275 ⟨[.lst 1 (a0.map eU8)], []⟩ ⟨.tup [.own 0 0 1 (r.1.map (eL 1 eU8)), .int .i64 r.2], [], []⟩ := by
  refine fn_ (Nat.le_of_ble_eq_true rfl) ?_
  refine seq_ ?_
  refine reg_ ?_
  refine st (nilS_ ?_)
  refine st (mvc_ trivial ?_)
  refine oe_ ?_
  refine wk_ ⟨[(0, .lst 1 (a0.map eU8))], [], []⟩ (fgk (by kernel_rfl)) ?_
  refine seq_ ?_
  refine reg_ ?_
  refine st (nilS_ ?_)
  refine oe_ ?_
  refine wk_ ⟨[(0, .lst 1 (a0.map eU8)), (4, .own 256 0 1 ([].map (eL 1 eU8)))], [], []⟩ (fgk (by kernel_rfl)) ?_
  refine seq_ ?_
  refine reg_ ?_
  refine st (mvc_ trivial ?_)
  refine oe_ ?_
  refine wk_ ⟨[(0, .lst 1 (a0.map eU8)), (4, .own 256 0 1 ([].map (eL 1 eU8))), (5, .int .i64 0)], [], []⟩ (fgk (by kernel_rfl)) ?_
  refine seq_ ?_
  refine block_ ?_
  obtain ⟨r82, e83, h0⟩ := bnd h0
  refine loop_ (R := (fun S => ∃ p55 : List (List UInt8), ∃ p56 : Int, (p55, p56) = r82 ∧ S = ⟨[(4, .own 256 0 1 (p55.map (eL 1 eU8))), (5, .int .i64 p56)], [], []⟩)) (g275_l0 a0) (fun s S => match s with | (p26, p27) => S = ⟨[(0, .lst 1 (a0.map eU8)), (4, .own 256 0 1 (p26.map (eL 1 eU8))), (5, .int .i64 p27)], [], []⟩) e83 ⟨[(0, .lst 1 (a0.map eU8)), (4, .own 256 0 1 ([].map (eL 1 eU8))), (5, .int .i64 0)], [], []⟩ (fgk (by kernel_rfl)) rfl 0 (fun _ => rfl) ?_ ?_
  · rintro S _ hfg ⟨p55, p56, rfl, rfl⟩
    refine wk_ ⟨[(4, .own 256 0 1 (p55.map (eL 1 eU8))), (5, .int .i64 p56)], [], []⟩ (fglk hfg (by kernel_rfl)) ?_
    refine seq_ ?_
    refine reg_ ?_
    refine st (mv_ rfl trivial ?_)
    refine st (mv_ rfl trivial ?_)
    refine st (mv_ rfl trivial ?_)
    refine st (mv_ rfl trivial ?_)
    refine oe_ ?_
    refine wk_ ⟨[(2, .own 256 0 1 (p55.map (eL 1 eU8))), (3, .int .i64 p56)], [], []⟩ (fgk (by kernel_rfl)) ?_
    obtain rfl := Option.some.inj h0
    exact rt_ (ret_ rfl rfl rfl rfl rfl trivial)
  · rintro ⟨p26, p27⟩ o1 _ K1 rfl h1 hx1 hK1 hE1 hR1
    refine seq_ ?_
    refine seq_ ?_
    refine reg_ ?_
    refine st (mv_ rfl trivial ?_)
    refine st (c_ (cp_ ⟨trivial, trivial, trivial⟩ rfl trivial) ?_)
    refine st (mv_ rfl trivial ?_)
    refine st (c_ (clenL (e := eU8) (l0 := a0) rfl rfl trivial) ?_)
    refine st (c_ (cp_ ⟨trivial, trivial, trivial⟩ rfl trivial) ?_)
    refine oe_ ?_
    refine wk_ ⟨[(0, .lst 1 (a0.map eU8)), (4, .own 256 0 1 (p26.map (eL 1 eU8))), (5, .int .i64 p27), (12, .bool (decide ((IntKind.i64.wrap (p27 + 2)) ≤ (a0.length : Int))))], [], []⟩ (fgk (by kernel_rfl)) ?_
    refine ite_ (cb := (decide ((IntKind.i64.wrap (p27 + 2)) ≤ (a0.length : Int)))) rfl (fun c57 => ?_) (fun c57 => ?_)
    · replace h1 := ip c57 h1
      refine sk_ ?_
      refine wk_ ⟨[(0, .lst 1 (a0.map eU8)), (4, .own 256 0 1 (p26.map (eL 1 eU8))), (5, .int .i64 p27)], [], []⟩ (fgk (by kernel_rfl)) ?_
      refine block_ ?_
      refine seq_ ?_
      refine reg_ ?_
      refine st (mv_ rfl trivial ?_)
      refine st (mv_ rfl trivial ?_)
      refine st (mv_ rfl trivial ?_)
      refine st (c_ (cp_ ⟨trivial, trivial, trivial⟩ rfl trivial) ?_)
      obtain ⟨s58, e59, h1⟩ := bnd h1
      refine st (c_ (csliceL (e := eU8) (y := s58) rfl rfl trivial ⟨trivial, trivial, trivial⟩ rfl rfl e59) ?_)
      obtain ⟨r60, e61, h1⟩ := bnd h1
      refine st (call0_ (r := .int .i64 r60) false (H333 s58 r60 e61) ⟨trivial, trivial⟩ rfl rfl (fun _ => rfl) ?_)
      refine st (c_ (cp_ ⟨trivial, trivial, trivial⟩ rfl trivial) ?_)
      refine st (mv_ rfl trivial ?_)
      refine oe_ ?_
      refine wk_ ⟨[(0, .lst 1 (a0.map eU8)), (4, .own 256 0 1 (p26.map (eL 1 eU8))), (5, .int .i64 p27), (6, .int .i64 (IntKind.i64.wrap (r60 - 1)))], [], []⟩ (fgk (by kernel_rfl)) ?_
      refine seq_ ?_
      refine reg_ ?_
      refine st (mv_ rfl trivial ?_)
      refine st (c_ (cp_ ⟨trivial, trivial, trivial⟩ rfl trivial) ?_)
      refine st (mv_ rfl trivial ?_)
      refine st (c_ (cp_ ⟨trivial, trivial, trivial⟩ rfl trivial) ?_)
      refine st (mv_ rfl trivial ?_)
      refine oe_ ?_
      obtain ⟨v62, e63, h1⟩ := bl h1
      refine wk_ ⟨[(0, .lst 1 (a0.map eU8)), (4, .own 256 0 1 (p26.map (eL 1 eU8))), (5, .int .i64 p27), (6, .int .i64 (IntKind.i64.wrap (r60 - 1))), (7, .int .i64 v62)], [], []⟩ (fgk (by subst e63; kernel_rfl)) ?_
      refine seq_ ?_
      refine seq_ ?_
      obtain ⟨r64, e65, h1⟩ := bnd h1
      obtain ⟨s66, e67, h1⟩ := bnd h1
      obtain ⟨s68, e69, h1⟩ := bnd h1
      obtain ⟨r70, e71, h1⟩ := bnd h1
      obtain ⟨r72, e73, h1⟩ := bnd h1
      refine draw_ ?_
      refine dtake trivial (mv_ rfl trivial ?_)
      refine ⟨trivial, ?_⟩
      refine dalt (call0_ (r := .bool r64) false (H63 (IntKind.i64.wrap (r60 - 1)) 0 2000 r64 e65) ⟨trivial, trivial, trivial, trivial⟩ rfl rfl (fun _ => rfl) ?_) dstop
      refine dkw ⟨[(0, .lst 1 (a0.map eU8)), (4, .own 256 0 1 (p26.map (eL 1 eU8))), (5, .int .i64 p27), (7, .int .i64 v62), (25, .bool r64)], [], []⟩ (fgk (by kernel_rfl)) ⟨[], trivial, trivial, ?_⟩
      refine dtake trivial (c_ (cp_ ⟨trivial, trivial⟩ rfl trivial) ?_)
      refine ⟨trivial, ?_⟩
      refine dtake trivial (mv_ rfl trivial ?_)
      refine ⟨trivial, ?_⟩
      refine dtake trivial (pg_ (u := .int .i64 v62) rfl (fun hg => (cmv (v := .int .i64 v62) rfl trivial)) ?_)
      refine ⟨trivial, ?_⟩
      refine dtake trivial (pg_ (u := .int .i64 (IntKind.i64.wrap (v62 + 4))) rfl (fun hg => (cp_ ⟨(fun _ => hg), trivial, trivial⟩ rfl trivial)) ?_)
      refine ⟨trivial, ?_⟩
      refine dtake trivial (pg_ (u := .lst 1 (a0.map eU8)) rfl (fun hg => (cmv (v := .lst 1 (a0.map eU8)) rfl trivial)) ?_)
      refine ⟨trivial, ?_⟩
      refine dtake trivial (pg_ (u := .int .i64 (a0.length : Int)) rfl (fun hg => (clenL (e := eU8) (l0 := a0) rfl rfl (fun _ => hg))) ?_)
      refine ⟨trivial, ?_⟩
      refine dtake trivial (pg_ (u := .bool (decide ((IntKind.i64.wrap (v62 + 4)) > (a0.length : Int)))) rfl (fun hg => (cp_ ⟨(fun _ => hg), (fun _ => hg), trivial⟩ rfl trivial)) ?_)
      refine ⟨trivial, ?_⟩
      refine dtake trivial (pick_ rfl rfl rfl trivial (fun h => eqf h) rfl ?_)
      refine ⟨trivial, ?_⟩
      refine dtake trivial (mv_ rfl trivial ?_)
      refine ⟨trivial, ?_⟩
      refine dtake trivial (pg_ (u := .lst 1 (a0.map eU8)) rfl (fun hg => (cmv (v := .lst 1 (a0.map eU8)) rfl trivial)) ?_)
      refine ⟨trivial, ?_⟩
      refine dtake trivial (pg_ (u := .int .i64 p27) rfl (fun hg => (cmv (v := .int .i64 p27) rfl trivial)) ?_)
      refine ⟨trivial, ?_⟩
      refine dtake trivial (pg_ (u := .int .i64 v62) rfl (fun hg => (cmv (v := .int .i64 v62) rfl trivial)) ?_)
      refine ⟨trivial, ?_⟩
      refine dtake trivial (pg_ (u := .lst 1 (s66.map eU8)) rfl (fun hg => (csliceL (e := eU8) (y := s66) rfl rfl (fun _ => hg) ⟨(fun _ => hg), (fun _ => hg), trivial⟩ rfl rfl (ip hg e67))) ?_)
      refine ⟨trivial, ?_⟩
      refine dtake trivial (pg_ (u := .lst 1 (a0.map eU8)) rfl (fun hg => (cmv (v := .lst 1 (a0.map eU8)) rfl trivial)) ?_)
      refine ⟨trivial, ?_⟩
      refine dtake trivial (pg_ (u := .int .i64 v62) rfl (fun hg => (cmv (v := .int .i64 v62) rfl trivial)) ?_)
      refine ⟨trivial, ?_⟩
      refine dtake trivial (pg_ (u := .int .i64 v62) rfl (fun hg => (cmv (v := .int .i64 v62) rfl trivial)) ?_)
      refine ⟨trivial, ?_⟩
      refine dtake trivial (pg_ (u := .int .i64 (IntKind.i64.wrap (v62 + 4))) rfl (fun hg => (cp_ ⟨(fun _ => hg), trivial, trivial⟩ rfl trivial)) ?_)
      refine ⟨trivial, ?_⟩
      refine dtake trivial (pg_ (u := .lst 1 (s68.map eU8)) rfl (fun hg => (csliceL (e := eU8) (y := s68) rfl rfl (fun _ => hg) ⟨(fun _ => hg), (fun _ => hg), trivial⟩ rfl rfl (ip hg e69))) ?_)
      refine ⟨trivial, ?_⟩
      refine dalt (callg_ (r := .int .i64 r70) rfl false (fun hg => H332 s66 r70 (ip hg e71)) ⟨(fun hg => hg), trivial⟩ (fun _ => rfl) (fun _ => rfl) (fun _ => rfl) (fun h => nomatch h) ?_) dstop
      refine dkw ⟨[(0, .lst 1 (a0.map eU8)), (4, .own 256 0 1 (p26.map (eL 1 eU8))), (5, .int .i64 p27), (7, .int .i64 v62), (34, .bool (bif (!r64) then true else (decide ((IntKind.i64.wrap (v62 + 4)) > (a0.length : Int))))), (39, .may ((bif (!r64) then true else (decide ((IntKind.i64.wrap (v62 + 4)) > (a0.length : Int)))) == false) (.int .i64 r70)), (40, .may ((bif (!r64) then true else (decide ((IntKind.i64.wrap (v62 + 4)) > (a0.length : Int)))) == false) (.lst 1 (a0.map eU8))), (41, .may ((bif (!r64) then true else (decide ((IntKind.i64.wrap (v62 + 4)) > (a0.length : Int)))) == false) (.int .i64 v62)), (42, .may ((bif (!r64) then true else (decide ((IntKind.i64.wrap (v62 + 4)) > (a0.length : Int)))) == false) (.int .i64 v62)), (43, .may ((bif (!r64) then true else (decide ((IntKind.i64.wrap (v62 + 4)) > (a0.length : Int)))) == false) (.int .i64 (IntKind.i64.wrap (v62 + 4)))), (44, .may ((bif (!r64) then true else (decide ((IntKind.i64.wrap (v62 + 4)) > (a0.length : Int)))) == false) (.lst 1 (s68.map eU8)))], [], []⟩ (fgk (by kernel_rfl)) ⟨[], ⟨⟨.inl trivial, (againg (v := .lst 1 (s68.map eU8)) rfl (fun hg => (csliceL (e := eU8) (y := s68) rfl rfl (fun _ => hg) ⟨(fun _ => hg), (fun _ => hg), trivial⟩ rfl rfl (ip hg e69))) rfl)⟩, ⟨.inl trivial, (againg (v := .int .i64 (IntKind.i64.wrap (v62 + 4))) rfl (fun hg => (cp_ ⟨(fun _ => hg), trivial, trivial⟩ rfl trivial)) rfl)⟩, ⟨.inl trivial, (againg (v := .int .i64 v62) rfl (fun hg => (cmv (v := .int .i64 v62) rfl trivial)) rfl)⟩, ⟨.inl trivial, (againg (v := .int .i64 v62) rfl (fun hg => (cmv (v := .int .i64 v62) rfl trivial)) rfl)⟩, ⟨.inl trivial, (againg (v := .lst 1 (a0.map eU8)) rfl (fun hg => (cmv (v := .lst 1 (a0.map eU8)) rfl trivial)) rfl)⟩, trivial⟩, trivial, ?_⟩
      refine dalt (callg_ (r := .int .i64 r72) rfl false (fun hg => H333 s68 r72 (ip hg e73)) ⟨(fun hg => hg), trivial⟩ (fun _ => rfl) (fun _ => rfl) (fun _ => rfl) (fun h => nomatch h) ?_) dstop
      refine dkw ⟨[(0, .lst 1 (a0.map eU8)), (4, .own 256 0 1 (p26.map (eL 1 eU8))), (5, .int .i64 p27), (7, .int .i64 v62), (34, .bool (bif (!r64) then true else (decide ((IntKind.i64.wrap (v62 + 4)) > (a0.length : Int))))), (39, .may ((bif (!r64) then true else (decide ((IntKind.i64.wrap (v62 + 4)) > (a0.length : Int)))) == false) (.int .i64 r70)), (45, .may ((bif (!r64) then true else (decide ((IntKind.i64.wrap (v62 + 4)) > (a0.length : Int)))) == false) (.int .i64 r72))], [], []⟩ (fgk (by kernel_rfl)) ⟨[], trivial, trivial, ?_⟩
      refine dtake trivial (pg_ (u := .bool (r70 != r72)) rfl (fun hg => (cp_ ⟨(fun _ => hg), (fun _ => hg), trivial⟩ rfl trivial)) ?_)
      refine ⟨trivial, ?_⟩
      refine dtake trivial (pick_ rfl rfl rfl trivial (fun h => eqf h) rfl ?_)
      refine ⟨trivial, ?_⟩
      refine dfin ?_
      obtain ⟨v74, e75, h1⟩ := bl h1
      refine wk_ ⟨[(0, .lst 1 (a0.map eU8)), (4, .own 256 0 1 (p26.map (eL 1 eU8))), (5, .int .i64 p27), (7, .int .i64 v62), (47, .bool v74)], [], []⟩ (fgk (by subst e75; kernel_rfl)) ?_
      refine ite_ (cb := v74) rfl (fun c76 => ?_) (fun c76 => ?_)
      · replace h1 := ip c76 h1
        obtain rfl := Option.some.inj h1
        obtain rfl := hx1 _ rfl
        refine exQ rfl ?_
        exact hE1 _ ⟨[(4, .own 256 0 1 (p26.map (eL 1 eU8))), (5, .int .i64 p27)], [], []⟩ (fgk (by kernel_rfl)) ⟨_, _, rfl, rfl⟩
      · replace h1 := inb c76 h1
        refine sk_ ?_
        refine wk_ ⟨[(0, .lst 1 (a0.map eU8)), (4, .own 256 0 1 (p26.map (eL 1 eU8))), (5, .int .i64 p27), (7, .int .i64 v62)], [], []⟩ (fgk (by kernel_rfl)) ?_
        refine seq_ ?_
        refine reg_ ?_
        refine st (mv_ rfl trivial ?_)
        refine st (mv_ rfl trivial ?_)
        refine st (mv_ rfl trivial ?_)
        refine st (c_ (cp_ ⟨trivial, trivial, trivial⟩ rfl trivial) ?_)
        refine st (mv_ rfl trivial ?_)
        obtain ⟨s77, e78, h1⟩ := bnd h1
        refine st (c_ (csliceL (e := eU8) (y := s77) rfl rfl trivial ⟨trivial, trivial, trivial⟩ rfl rfl e78) ?_)
        obtain ⟨r79, e80, h1⟩ := bnd h1
        refine st (call0_ (r := .own 0 0 1 (r79.map eU8)) false (H325 s77 r79 e80) ⟨trivial, trivial⟩ rfl rfl (fun _ => (and_ (fl1 (fun _ => rfl)) rfl)) ?_)
        refine st (mkS_ ⟨trivial, trivial⟩ ⟨⟨Nat.le_of_ble_eq_true rfl, rfl, rfl⟩, trivial⟩ ?_)
        obtain ⟨c81, h1⟩ := grd h1
        refine sw ⟨[(0, .lst 1 (a0.map eU8)), (7, .int .i64 v62), (48, .own 256 0 1 (p26.map (eL 1 eU8))), (55, .own 3520 0 1 (([r79] : List (List UInt8)).map (eL 1 eU8)))], [], []⟩ (fgk (by kernel_rfl)) (app_ (e := (eL 1 eU8)) (l0 := p26) (l1 := ([r79] : List (List UInt8))) rfl rfl trivial rfl (by decide) c81 ?_)
        refine st (mv_ rfl trivial ?_)
        refine oe_ ?_
        refine wk_ ⟨[(0, .lst 1 (a0.map eU8)), (4, .own 256 0 1 ((p26 ++ ([r79] : List (List UInt8))).map (eL 1 eU8))), (7, .int .i64 v62)], [], []⟩ (fgk (by kernel_rfl)) ?_
        refine reg_ ?_
        refine st (mv_ rfl trivial ?_)
        refine st (c_ (cp_ ⟨trivial, trivial, trivial⟩ rfl trivial) ?_)
        refine st (mv_ rfl trivial ?_)
        refine oe_ ?_
        refine bn_ ?_
        obtain rfl := Option.some.inj h1
        exact hK1 _ rfl _ ⟨[(0, .lst 1 (a0.map eU8)), (4, .own 256 0 1 ((p26 ++ ([r79] : List (List UInt8))).map (eL 1 eU8))), (5, .int .i64 (IntKind.i64.wrap (v62 + 4)))], [], []⟩ (fgk (by kernel_rfl)) rfl
    · replace h1 := inb c57 h1
      obtain rfl := Option.some.inj h1
      obtain rfl := hx1 _ rfl
      refine exQ rfl ?_
      exact hE1 _ ⟨[(4, .own 256 0 1 (p26.map (eL 1 eU8))), (5, .int .i64 p27)], [], []⟩ (fgk (by kernel_rfl)) ⟨_, _, rfl, rfl⟩
end Go.Ev
