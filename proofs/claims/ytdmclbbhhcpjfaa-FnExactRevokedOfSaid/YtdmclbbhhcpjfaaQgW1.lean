/- The walks of functions: the code comes to the answers that QgD tells. Written by a program of ours. -/
import Derived.Test.YtdmclbbhhcpjfaaQgW0
set_option linter.all false
set_option maxHeartbeats 4000000
set_option linter.unusedVariables false
set_option maxRecDepth 100000
namespace Go.Ev

/- loop.example/g00149/impl.rises -/
def c59_r0 : List Ins := [⟨some 6, .p (.mv (.c (.bool false))), none⟩]
def c59_r1 : List Ins := [⟨some 9, .p (.mv (.t 0)), none⟩,
 ⟨some 10, .p (.len (.t 9)), none⟩,
 ⟨some 11, .p (.mv (.c (.int .i64 0))), none⟩]
def c59_r2 : List Ins := [⟨some 12, .p (.bin .lss (.t 11) (.t 10)), none⟩]
def c59_r3 : List Ins := [⟨some 13, .p (.mv (.t 11)), none⟩,
 ⟨some 14, .p (.idxA (.t 9) (.t 11) 1), none⟩,
 ⟨some 15, .p (.load (.t 14) 1 false), none⟩,
 ⟨some 7, .p (.mv (.t 13)), none⟩,
 ⟨some 8, .p (.mv (.t 15)), none⟩]
def c59_r4 : List Ins := [⟨some 16, .p (.mv (.t 8)), none⟩,
 ⟨some 17, .p (.mv (.t 1)), none⟩,
 ⟨some 18, .p (.mv (.t 2)), none⟩,
 ⟨some 19, .call 63 [(.t 16), (.t 17), (.t 18)], none⟩,
 ⟨some 20, .p (.un .not (.t 19)), none⟩,
 ⟨some 21, .p (.mv (.t 20)), none⟩,
 ⟨some 22, .p (.mv (.t 7)), some (21, false)⟩,
 ⟨some 23, .p (.bin .gtr (.t 22) (.c (.int .i64 0))), some (21, false)⟩,
 ⟨some 24, .p (.mv (.t 23)), some (21, false)⟩,
 ⟨some 25, .p (.mv (.t 0)), some (24, true)⟩,
 ⟨some 26, .p (.mv (.t 7)), some (24, true)⟩,
 ⟨some 27, .p (.bin .sub (.t 26) (.c (.int .i64 1))), some (24, true)⟩,
 ⟨some 28, .p (.idxA (.t 25) (.t 27) 1), some (24, true)⟩,
 ⟨some 29, .p (.load (.t 28) 1 false), some (24, true)⟩,
 ⟨some 30, .p (.mv (.t 8)), some (24, true)⟩,
 ⟨some 31, .p (.bin .geq (.t 29) (.t 30)), some (24, true)⟩,
 ⟨some 32, .pick (.t 24) (.t 31) (.c (.bool false)), some (21, false)⟩,
 ⟨some 33, .pick (.t 21) (.c (.bool true)) (.t 32), none⟩]
def c59_r5 : List Ins := [⟨some 6, .p (.mv (.c (.bool false))), none⟩]
def c59_r6 : List Ins := [⟨some 34, .p (.bin .add (.t 11) (.c (.int .i64 1))), none⟩,
 ⟨some 11, .p (.mv (.t 34)), none⟩]
def c59_l0 : IR := (.seq (.reg c59_r2) (.seq (.ite (.t 12) .skip (.exit 0)) (.seq (.block 1 (.seq (.reg c59_r3) (.seq (.reg c59_r4) (.ite (.t 33) (.seq (.reg c59_r5) .ret) .skip)))) (.reg c59_r6))))
def c59_r7 : List Ins := [⟨some 6, .p (.mv (.c (.bool true))), none⟩]
def c59 : XFn := { np := 3, nt := 35, res := [.t 6], body := (.seq (.reg c59_r0) (.seq (.seq (.reg c59_r1) (.block 0 (.loop c59_l0))) (.seq (.reg c59_r7) .ret))) }
def K59 (C : CRel) : Prop := ∀ (a0 : List Int) (a1 : Int) (a2 : Int) (r : Bool), g59 a0 a1 a2 = some r → C 59 ⟨[.lst 1 (a0.map eI), .int .i64 a1, .int .i64 a2], []⟩ ⟨.bool r, [], []⟩
theorem F59 {C : CRel} (H63 : K63 C) (a0 : List Int) (a1 : Int) (a2 : Int) (r : Bool) (h0 : g59 a0 a1 a2 = some r) : FnOK C c59 ⟨[.lst 1 (a0.map eI), .int .i64 a1, .int .i64 a2], []⟩ ⟨.bool r, [], []⟩ := by
  refine fn_ (Nat.le_of_ble_eq_true rfl) ?_
  refine seq_ ?_
  refine reg_ ?_
  refine st (mvc_ trivial ?_)
  refine oe_ ?_
  refine wk_ ⟨[(0, .lst 1 (a0.map eI)), (1, .int .i64 a1), (2, .int .i64 a2)], [], []⟩ (fgk (by kernel_rfl)) ?_
  refine seq_ ?_
  refine seq_ ?_
  refine reg_ ?_
  refine st (mv_ rfl trivial ?_)
  refine st (c_ (clenL (e := eI) (l0 := a0) rfl rfl trivial) ?_)
  refine st (mvc_ trivial ?_)
  refine oe_ ?_
  refine wk_ ⟨[(0, .lst 1 (a0.map eI)), (1, .int .i64 a1), (2, .int .i64 a2), (9, .lst 1 (a0.map eI)), (10, .int .i64 (a0.length : Int)), (11, .int .i64 0)], [], []⟩ (fgk (by kernel_rfl)) ?_
  refine block_ ?_
  obtain ⟨r33, e34, h0⟩ := bnd h0
  refine loop_ (R := (fun S => .inl () = r33 ∧ S = ⟨[], [], []⟩)) (g59_l0 a0 a1 a2) (fun s S => match s with | p11 => S = ⟨[(0, .lst 1 (a0.map eI)), (1, .int .i64 a1), (2, .int .i64 a2), (9, .lst 1 (a0.map eI)), (10, .int .i64 (a0.length : Int)), (11, .int .i64 p11)], [], []⟩) e34 ⟨[(0, .lst 1 (a0.map eI)), (1, .int .i64 a1), (2, .int .i64 a2), (9, .lst 1 (a0.map eI)), (10, .int .i64 (a0.length : Int)), (11, .int .i64 0)], [], []⟩ (fgk (by kernel_rfl)) rfl 0 (fun _ => rfl) ?_ ?_
  · rintro S _ hfg ⟨rfl, rfl⟩
    refine wk_ ⟨[], [], []⟩ (fglk hfg (by kernel_rfl)) ?_
    refine seq_ ?_
    refine reg_ ?_
    refine st (mvc_ trivial ?_)
    refine oe_ ?_
    refine wk_ ⟨[(6, .bool true)], [], []⟩ (fgk (by kernel_rfl)) ?_
    obtain rfl := Option.some.inj h0
    exact rt_ (ret_ rfl rfl rfl rfl rfl trivial)
  · rintro p11 o1 _ K1 rfl h1 hx1 hK1 hE1 hR1
    refine seq_ ?_
    refine reg_ ?_
    refine st (c_ (cp_ ⟨trivial, trivial, trivial⟩ rfl trivial) ?_)
    refine oe_ ?_
    refine wk_ ⟨[(0, .lst 1 (a0.map eI)), (1, .int .i64 a1), (2, .int .i64 a2), (9, .lst 1 (a0.map eI)), (10, .int .i64 (a0.length : Int)), (11, .int .i64 p11), (12, .bool (decide (p11 < (a0.length : Int))))], [], []⟩ (fgk (by kernel_rfl)) ?_
    refine seq_ ?_
    refine ite_ (cb := (decide (p11 < (a0.length : Int)))) rfl (fun c23 => ?_) (fun c23 => ?_)
    · replace h1 := ip c23 h1
      refine sk_ ?_
      refine wk_ ⟨[(0, .lst 1 (a0.map eI)), (1, .int .i64 a1), (2, .int .i64 a2), (9, .lst 1 (a0.map eI)), (10, .int .i64 (a0.length : Int)), (11, .int .i64 p11)], [], []⟩ (fgk (by kernel_rfl)) ?_
      refine seq_ ?_
      refine block_ ?_
      refine seq_ ?_
      refine reg_ ?_
      refine st (mv_ rfl trivial ?_)
      obtain ⟨y24, e25, h1⟩ := bnd h1
      refine st (c_ (cidxL (e := eI) (y := y24) rfl rfl trivial rfl rfl trivial e25) ?_)
      refine st (c_ (cp_ ⟨trivial, trivial⟩ rfl (Nat.le_of_ble_eq_true rfl)) ?_)
      refine st (mv_ rfl trivial ?_)
      refine st (mv_ rfl trivial ?_)
      refine oe_ ?_
      refine wk_ ⟨[(0, .lst 1 (a0.map eI)), (1, .int .i64 a1), (2, .int .i64 a2), (7, .int .i64 p11), (8, .int .i64 y24), (9, .lst 1 (a0.map eI)), (10, .int .i64 (a0.length : Int)), (11, .int .i64 p11)], [], []⟩ (fgk (by kernel_rfl)) ?_
      refine seq_ ?_
      refine reg_ ?_
      refine st (mv_ rfl trivial ?_)
      refine st (mv_ rfl trivial ?_)
      refine st (mv_ rfl trivial ?_)
      obtain ⟨r26, e27, h1⟩ := bnd h1
      refine st (call0_ (r := .bool r26) false (H63 y24 a1 a2 r26 e27) ⟨trivial, trivial, trivial, trivial⟩ rfl rfl (fun _ => rfl) ?_)
      refine st (c_ (cp_ ⟨trivial, trivial⟩ rfl trivial) ?_)
      refine st (mv_ rfl trivial ?_)
      refine st (pg_ (u := .int .i64 p11) rfl (fun hg => (cmv (v := .int .i64 p11) rfl trivial)) ?_)
      refine st (pg_ (u := .bool (decide (p11 > 0))) rfl (fun hg => (cp_ ⟨(fun _ => hg), trivial, trivial⟩ rfl trivial)) ?_)
      refine st (pg_ (u := .bool (decide (p11 > 0))) rfl (fun hg => (cmv (v := .may ((!r26) == false) (.bool (decide (p11 > 0)))) rfl (fun _ => hg))) ?_)
      refine st (pg_ (u := .lst 1 (a0.map eI)) rfl (fun hg => (cmv (v := .lst 1 (a0.map eI)) rfl trivial)) ?_)
      refine st (pg_ (u := .int .i64 p11) rfl (fun hg => (cmv (v := .int .i64 p11) rfl trivial)) ?_)
      refine st (pg_ (u := .int .i64 (IntKind.i64.wrap (p11 - 1))) rfl (fun hg => (cp_ ⟨(fun _ => hg), trivial, trivial⟩ rfl trivial)) ?_)
      obtain ⟨y28, e29, h1⟩ := bnd h1
      refine sw ⟨[(0, .lst 1 (a0.map eI)), (1, .int .i64 a1), (2, .int .i64 a2), (8, .int .i64 y24), (9, .lst 1 (a0.map eI)), (10, .int .i64 (a0.length : Int)), (11, .int .i64 p11), (21, .bool (!r26)), (24, .may ((!r26) == false) (.bool (decide (p11 > 0)))), (25, .may (((!r26) == false) && ((decide (p11 > 0)) == true)) (.lst 1 (a0.map eI))), (27, .may (((!r26) == false) && ((decide (p11 > 0)) == true)) (.int .i64 (IntKind.i64.wrap (p11 - 1))))], [], []⟩ (fgk (by kernel_rfl)) (pg_ (u := .iptr [.int .i64 y28]) rfl (fun hg => (cidxL (e := eI) (y := y28) rfl rfl (fun _ => hg) rfl rfl (fun _ => hg) (ip hg e29))) ?_)
      refine st (pg_ (u := .int .i64 y28) rfl (fun hg => (cp_ ⟨(fun _ => hg), trivial⟩ rfl (Nat.le_of_ble_eq_true rfl))) ?_)
      refine st (pg_ (u := .int .i64 y24) rfl (fun hg => (cmv (v := .int .i64 y24) rfl trivial)) ?_)
      refine st (pg_ (u := .bool (decide (y28 ≥ y24))) rfl (fun hg => (cp_ ⟨(fun _ => hg), (fun _ => hg), trivial⟩ rfl trivial)) ?_)
      refine st (pickg_ (u := .bool (bif (decide (p11 > 0)) then (decide (y28 ≥ y24)) else false)) rfl (fun hg => cpick rfl rfl (fun _ => hg) rfl rfl (fun h => and_ hg (eqt h)) trivial rfl) ?_)
      refine st (pick_ rfl rfl rfl trivial (fun h => eqf h) rfl ?_)
      refine oe_ ?_
      obtain ⟨v30, e31, h1⟩ := bl h1
      refine wk_ ⟨[(0, .lst 1 (a0.map eI)), (1, .int .i64 a1), (2, .int .i64 a2), (9, .lst 1 (a0.map eI)), (10, .int .i64 (a0.length : Int)), (11, .int .i64 p11), (33, .bool v30)], [], []⟩ (fgk (by subst e31; kernel_rfl)) ?_
      refine ite_ (cb := v30) rfl (fun c32 => ?_) (fun c32 => ?_)
      · replace h1 := ip c32 h1
        refine seq_ ?_
        refine reg_ ?_
        refine st (mvc_ trivial ?_)
        refine oe_ ?_
        refine wk_ ⟨[(6, .bool false)], [], []⟩ (fgk (by kernel_rfl)) ?_
        obtain rfl := Option.some.inj h1
        obtain rfl := hx1 _ rfl
        obtain rfl := Option.some.inj h0
        exact rt_ (hR1 _ (ret_ rfl rfl rfl rfl rfl trivial))
      · replace h1 := inb c32 h1
        refine sk_ ?_
        refine bn_ ?_
        refine wk_ ⟨[(0, .lst 1 (a0.map eI)), (1, .int .i64 a1), (2, .int .i64 a2), (9, .lst 1 (a0.map eI)), (10, .int .i64 (a0.length : Int)), (11, .int .i64 p11)], [], []⟩ (fgk (by kernel_rfl)) ?_
        refine reg_ ?_
        refine st (c_ (cp_ ⟨trivial, trivial, trivial⟩ rfl trivial) ?_)
        refine st (mv_ rfl trivial ?_)
        refine oe_ ?_
        obtain rfl := Option.some.inj h1
        exact hK1 _ rfl _ ⟨[(0, .lst 1 (a0.map eI)), (1, .int .i64 a1), (2, .int .i64 a2), (9, .lst 1 (a0.map eI)), (10, .int .i64 (a0.length : Int)), (11, .int .i64 (IntKind.i64.wrap (p11 + 1)))], [], []⟩ (fgk (by kernel_rfl)) rfl
    · replace h1 := inb c23 h1
      obtain rfl := Option.some.inj h1
      obtain rfl := hx1 _ rfl
      refine exQ rfl ?_
      exact hE1 _ ⟨[], [], []⟩ (fgk (by kernel_rfl)) ⟨rfl, rfl⟩

/- slices.IndexFunc[[]byte,byte] -/
def c373_r0 : List Ins := [⟨some 4, .p (.mv (.c (.int .i64 0))), none⟩]
def c373_r1 : List Ins := [⟨some 6, .p (.mv (.t 0)), none⟩,
 ⟨some 7, .p (.len (.t 6)), none⟩,
 ⟨some 8, .p (.mv (.c (.int .i64 0))), none⟩]
def c373_r2 : List Ins := [⟨some 9, .p (.bin .lss (.t 8) (.t 7)), none⟩]
def c373_r3 : List Ins := [⟨some 10, .p (.mv (.t 8)), none⟩,
 ⟨some 5, .p (.mv (.t 10)), none⟩]
def c373_r4 : List Ins := [⟨some 11, .p (.mv (.t 1)), none⟩,
 ⟨some 12, .p (.mv (.t 0)), none⟩,
 ⟨some 13, .p (.mv (.t 5)), none⟩,
 ⟨some 14, .p (.idxA (.t 12) (.t 13) 1), none⟩,
 ⟨some 15, .p (.load (.t 14) 1 false), none⟩,
 ⟨some 16, .callv (.t 11) [(.t 15)], none⟩]
def c373_r5 : List Ins := [⟨some 17, .p (.mv (.t 5)), none⟩,
 ⟨some 4, .p (.mv (.t 17)), none⟩]
def c373_r6 : List Ins := [⟨some 18, .p (.bin .add (.t 8) (.c (.int .i64 1))), none⟩,
 ⟨some 8, .p (.mv (.t 18)), none⟩]
def c373_l0 : IR := (.seq (.reg c373_r2) (.seq (.ite (.t 9) .skip (.exit 0)) (.seq (.block 1 (.seq (.reg c373_r3) (.seq (.reg c373_r4) (.ite (.t 16) (.seq (.reg c373_r5) .ret) .skip)))) (.reg c373_r6))))
def c373_r7 : List Ins := [⟨some 4, .p (.mv (.c (.int .i64 (-1)))), none⟩]
def c373 : XFn := { np := 2, nt := 19, res := [.t 4], body := (.seq (.reg c373_r0) (.seq (.seq (.reg c373_r1) (.block 0 (.loop c373_l0))) (.seq (.reg c373_r7) .ret))) }
def K373 (C : CRel) : Prop := ∀ (a0 : List UInt8) (f1 : Nat) (k1 : List V) (is1 : UInt8 → Option Bool) (hs1 : Shut k1) (hf1 : ∀ (x0 : UInt8) r, is1 x0 = some r → C f1 ⟨.int .u8 ((x0).toNat : Int) :: k1, []⟩ ⟨.bool r, [], []⟩) (r : Int), g373 a0 is1 = some r → C 373 ⟨[.lst 1 (a0.map eU8), .clo f1 k1], []⟩ ⟨.int .i64 r, [], []⟩
theorem F373 {C : CRel}  (a0 : List UInt8) (f1 : Nat) (k1 : List V) (is1 : UInt8 → Option Bool) (hs1 : Shut k1) (hf1 : ∀ (x0 : UInt8) r, is1 x0 = some r → C f1 ⟨.int .u8 ((x0).toNat : Int) :: k1, []⟩ ⟨.bool r, [], []⟩) (r : Int) (h0 : g373 a0 is1 = some r) : FnOK C c373 ⟨[.lst 1 (a0.map eU8), .clo f1 k1], []⟩ ⟨.int .i64 r, [], []⟩ := by
  refine fn_ (Nat.le_of_ble_eq_true rfl) ?_
  refine seq_ ?_
  refine reg_ ?_
  refine st (mvc_ trivial ?_)
  refine oe_ ?_
  refine wk_ ⟨[(0, .lst 1 (a0.map eU8)), (1, .clo f1 k1)], [], []⟩ (fg ⟨rfl, rfl, trivial⟩ trivial) ?_
  refine seq_ ?_
  refine seq_ ?_
  refine reg_ ?_
  refine st (mv_ rfl trivial ?_)
  refine st (c_ (clenL (e := eU8) (l0 := a0) rfl rfl trivial) ?_)
  refine st (mvc_ trivial ?_)
  refine oe_ ?_
  refine wk_ ⟨[(0, .lst 1 (a0.map eU8)), (1, .clo f1 k1), (7, .int .i64 (a0.length : Int)), (8, .int .i64 0)], [], []⟩ (fg ⟨rfl, rfl, rfl, rfl, trivial⟩ trivial) ?_
  refine block_ ?_
  obtain ⟨r21, e22, h0⟩ := bnd h0
  refine loop_ (R := (fun S => .inl () = r21 ∧ S = ⟨[], [], []⟩)) (g373_l0 a0 is1) (fun s S => match s with | p7 => S = ⟨[(0, .lst 1 (a0.map eU8)), (1, .clo f1 k1), (7, .int .i64 (a0.length : Int)), (8, .int .i64 p7)], [], []⟩) e22 ⟨[(0, .lst 1 (a0.map eU8)), (1, .clo f1 k1), (7, .int .i64 (a0.length : Int)), (8, .int .i64 0)], [], []⟩ (fg ⟨rfl, rfl, rfl, rfl, trivial⟩ trivial) rfl 0 (fun _ => rfl) ?_ ?_
  · rintro S _ hfg ⟨rfl, rfl⟩
    refine wk_ ⟨[], [], []⟩ (fglk hfg (by kernel_rfl)) ?_
    refine seq_ ?_
    refine reg_ ?_
    refine st (mvc_ trivial ?_)
    refine oe_ ?_
    refine wk_ ⟨[(4, .int .i64 (-1))], [], []⟩ (fgk (by kernel_rfl)) ?_
    obtain rfl := Option.some.inj h0
    exact rt_ (ret_ rfl rfl rfl rfl rfl trivial)
  · rintro p7 o1 _ K1 rfl h1 hx1 hK1 hE1 hR1
    refine seq_ ?_
    refine reg_ ?_
    refine st (c_ (cp_ ⟨trivial, trivial, trivial⟩ rfl trivial) ?_)
    refine oe_ ?_
    refine wk_ ⟨[(0, .lst 1 (a0.map eU8)), (1, .clo f1 k1), (7, .int .i64 (a0.length : Int)), (8, .int .i64 p7), (9, .bool (decide (p7 < (a0.length : Int))))], [], []⟩ (fg ⟨rfl, rfl, rfl, rfl, rfl, trivial⟩ trivial) ?_
    refine seq_ ?_
    refine ite_ (cb := (decide (p7 < (a0.length : Int)))) rfl (fun c15 => ?_) (fun c15 => ?_)
    · replace h1 := ip c15 h1
      refine sk_ ?_
      refine wk_ ⟨[(0, .lst 1 (a0.map eU8)), (1, .clo f1 k1), (7, .int .i64 (a0.length : Int)), (8, .int .i64 p7)], [], []⟩ (fg ⟨rfl, rfl, rfl, rfl, trivial⟩ trivial) ?_
      refine seq_ ?_
      refine block_ ?_
      refine seq_ ?_
      refine reg_ ?_
      refine st (mv_ rfl trivial ?_)
      refine st (mv_ rfl trivial ?_)
      refine oe_ ?_
      refine wk_ ⟨[(0, .lst 1 (a0.map eU8)), (1, .clo f1 k1), (5, .int .i64 p7), (7, .int .i64 (a0.length : Int)), (8, .int .i64 p7)], [], []⟩ (fg ⟨rfl, rfl, rfl, rfl, rfl, trivial⟩ trivial) ?_
      refine seq_ ?_
      refine reg_ ?_
      refine st (mv_ rfl trivial ?_)
      refine st (mv_ rfl trivial ?_)
      refine st (mv_ rfl trivial ?_)
      obtain ⟨y16, e17, h1⟩ := bnd h1
      refine st (c_ (cidxL (e := eU8) (y := y16) rfl rfl trivial rfl rfl trivial e17) ?_)
      refine st (c_ (cp_ ⟨trivial, trivial⟩ rfl (Nat.le_of_ble_eq_true rfl)) ?_)
      obtain ⟨r18, e19, h1⟩ := bnd h1
      refine st (callv0_ (r := .bool r18) rfl false (hf1 _ r18 e19) ⟨trivial, trivial⟩ (and_ rfl hs1.2.2.1) (mapc1 rfl (hs1.2.1 _ _ _ _ _)) (fun _ => rfl) ?_)
      refine oe_ ?_
      refine wk_ ⟨[(0, .lst 1 (a0.map eU8)), (1, .clo f1 k1), (5, .int .i64 p7), (7, .int .i64 (a0.length : Int)), (8, .int .i64 p7), (16, .bool r18)], [], []⟩ (fg ⟨rfl, rfl, rfl, rfl, rfl, rfl, trivial⟩ trivial) ?_
      refine ite_ (cb := r18) rfl (fun c20 => ?_) (fun c20 => ?_)
      · replace h1 := ip c20 h1
        refine seq_ ?_
        refine reg_ ?_
        refine st (mv_ rfl trivial ?_)
        refine st (mv_ rfl trivial ?_)
        refine oe_ ?_
        refine wk_ ⟨[(4, .int .i64 p7)], [], []⟩ (fgk (by kernel_rfl)) ?_
        obtain rfl := Option.some.inj h1
        obtain rfl := hx1 _ rfl
        obtain rfl := Option.some.inj h0
        exact rt_ (hR1 _ (ret_ rfl rfl rfl rfl rfl trivial))
      · replace h1 := inb c20 h1
        refine sk_ ?_
        refine bn_ ?_
        refine wk_ ⟨[(0, .lst 1 (a0.map eU8)), (1, .clo f1 k1), (7, .int .i64 (a0.length : Int)), (8, .int .i64 p7)], [], []⟩ (fg ⟨rfl, rfl, rfl, rfl, trivial⟩ trivial) ?_
        refine reg_ ?_
        refine st (c_ (cp_ ⟨trivial, trivial, trivial⟩ rfl trivial) ?_)
        refine st (mv_ rfl trivial ?_)
        refine oe_ ?_
        obtain rfl := Option.some.inj h1
        exact hK1 _ rfl _ ⟨[(0, .lst 1 (a0.map eU8)), (1, .clo f1 k1), (7, .int .i64 (a0.length : Int)), (8, .int .i64 (IntKind.i64.wrap (p7 + 1)))], [], []⟩ (fg ⟨rfl, rfl, rfl, rfl, trivial⟩ trivial) rfl
    · replace h1 := inb c15 h1
      obtain rfl := Option.some.inj h1
      obtain rfl := hx1 _ rfl
      refine exQ rfl ?_
      exact hE1 _ ⟨[], [], []⟩ (fgk (by kernel_rfl)) ⟨rfl, rfl⟩

/- slices.ContainsFunc[[]byte,byte] -/
def c368_r0 : List Ins := [⟨some 4, .p (.mv (.c (.bool false))), none⟩]
def c368_r1 : List Ins := [⟨some 5, .p (.mv (.t 0)), none⟩,
 ⟨some 6, .p (.mv (.t 1)), none⟩,
 ⟨some 7, .call 373 [(.t 5), (.t 6)], none⟩,
 ⟨some 8, .p (.bin .geq (.t 7) (.c (.int .i64 0))), none⟩,
 ⟨some 4, .p (.mv (.t 8)), none⟩]
def c368 : XFn := { np := 2, nt := 9, res := [.t 4], body := (.seq (.reg c368_r0) (.seq (.reg c368_r1) .ret)) }
def K368 (C : CRel) : Prop := ∀ (a0 : List UInt8) (f1 : Nat) (k1 : List V) (is1 : UInt8 → Option Bool) (hs1 : Shut k1) (hf1 : ∀ (x0 : UInt8) r, is1 x0 = some r → C f1 ⟨.int .u8 ((x0).toNat : Int) :: k1, []⟩ ⟨.bool r, [], []⟩) (r : Bool), g368 a0 is1 = some r → C 368 ⟨[.lst 1 (a0.map eU8), .clo f1 k1], []⟩ ⟨.bool r, [], []⟩
theorem F368 {C : CRel} (H373 : K373 C) (a0 : List UInt8) (f1 : Nat) (k1 : List V) (is1 : UInt8 → Option Bool) (hs1 : Shut k1) (hf1 : ∀ (x0 : UInt8) r, is1 x0 = some r → C f1 ⟨.int .u8 ((x0).toNat : Int) :: k1, []⟩ ⟨.bool r, [], []⟩) (r : Bool) (h0 : g368 a0 is1 = some r) : FnOK C c368 ⟨[.lst 1 (a0.map eU8), .clo f1 k1], []⟩ ⟨.bool r, [], []⟩ := by
  refine fn_ (Nat.le_of_ble_eq_true rfl) ?_
  refine seq_ ?_
  refine reg_ ?_
  refine st (mvc_ trivial ?_)
  refine oe_ ?_
  refine wk_ ⟨[(0, .lst 1 (a0.map eU8)), (1, .clo f1 k1)], [], []⟩ (fg ⟨rfl, rfl, trivial⟩ trivial) ?_
  refine seq_ ?_
  refine reg_ ?_
  refine st (mv_ rfl trivial ?_)
  refine st (mv_ rfl trivial ?_)
  obtain ⟨r1, e2, h0⟩ := bnd h0
  refine st (call0_ (r := .int .i64 r1) false (H373 a0 f1 k1 is1 hs1 hf1 r1 e2) ⟨trivial, trivial, trivial⟩ rfl (mapc1 rfl (mapc1 (clo_sh hs1) rfl)) (fun _ => rfl) ?_)
  refine st (c_ (cp_ ⟨trivial, trivial, trivial⟩ rfl trivial) ?_)
  refine st (mv_ rfl trivial ?_)
  refine oe_ ?_
  refine wk_ ⟨[(4, .bool (decide (r1 ≥ 0)))], [], []⟩ (fgk (by kernel_rfl)) ?_
  obtain rfl := Option.some.inj h0
  exact rt_ (ret_ rfl rfl rfl rfl rfl trivial)

/- loop.example/g00149/impl.areAll[byte]$1 -/
def c369_r0 : List Ins := [⟨some 3, .p (.mv (.c (.bool false))), none⟩]
def c369_r1 : List Ins := [⟨some 4, .p (.load (.t 1) 1 false), none⟩,
 ⟨some 5, .p (.mv (.t 0)), none⟩,
 ⟨some 6, .callv (.t 4) [(.t 5)], none⟩,
 ⟨some 7, .p (.un .not (.t 6)), none⟩,
 ⟨some 3, .p (.mv (.t 7)), none⟩]
def c369 : XFn := { np := 2, nt := 8, res := [.t 3], body := (.seq (.reg c369_r0) (.seq (.reg c369_r1) .ret)) }
def K369 (C : CRel) : Prop := ∀ (a0 : UInt8) (f1 : Nat) (k1 : List V) (is1 : UInt8 → Option Bool) (hs1 : Shut k1) (hf1 : ∀ (x0 : UInt8) r, is1 x0 = some r → C f1 ⟨.int .u8 ((x0).toNat : Int) :: k1, []⟩ ⟨.bool r, [], []⟩) (r : Bool), g369 a0 is1 = some r → C 369 ⟨[.int .u8 ((a0).toNat : Int), .iptr [.clo f1 k1]], []⟩ ⟨.bool r, [], []⟩
theorem F369 {C : CRel}  (a0 : UInt8) (f1 : Nat) (k1 : List V) (is1 : UInt8 → Option Bool) (hs1 : Shut k1) (hf1 : ∀ (x0 : UInt8) r, is1 x0 = some r → C f1 ⟨.int .u8 ((x0).toNat : Int) :: k1, []⟩ ⟨.bool r, [], []⟩) (r : Bool) (h0 : g369 a0 is1 = some r) : FnOK C c369 ⟨[.int .u8 ((a0).toNat : Int), .iptr [.clo f1 k1]], []⟩ ⟨.bool r, [], []⟩ := by
  refine fn_ (Nat.le_of_ble_eq_true rfl) ?_
  refine seq_ ?_
  refine reg_ ?_
  refine st (mvc_ trivial ?_)
  refine oe_ ?_
  refine wk_ ⟨[(0, .int .u8 ((a0).toNat : Int)), (1, .iptr [.clo f1 k1])], [], []⟩ (fg ⟨rfl, rfl, trivial⟩ trivial) ?_
  refine seq_ ?_
  refine reg_ ?_
  refine st (c_ (cp_ ⟨trivial, trivial⟩ rfl (Nat.le_of_ble_eq_true rfl)) ?_)
  refine st (mv_ rfl trivial ?_)
  obtain ⟨r1, e2, h0⟩ := bnd h0
  refine st (callv0_ (r := .bool r1) rfl false (hf1 _ r1 e2) ⟨trivial, trivial⟩ (and_ rfl hs1.2.2.1) (mapc1 rfl (hs1.2.1 _ _ _ _ _)) (fun _ => rfl) ?_)
  refine st (c_ (cp_ ⟨trivial, trivial⟩ rfl trivial) ?_)
  refine st (mv_ rfl trivial ?_)
  refine oe_ ?_
  refine wk_ ⟨[(3, .bool (!r1))], [], []⟩ (fgk (by kernel_rfl)) ?_
  obtain rfl := Option.some.inj h0
  exact rt_ (ret_ rfl rfl rfl rfl rfl trivial)

/- loop.example/g00149/impl.areAll[byte] -/
def c337_r0 : List Ins := [⟨some 3, .box (.t 1), none⟩,
 ⟨some 4, .p (.mv (.c (.bool false))), none⟩]
def c337_r1 : List Ins := [⟨some 5, .p (.mv (.t 0)), none⟩,
 ⟨some 6, .p (.fn 369 [(.t 3)]), none⟩,
 ⟨some 7, .call 368 [(.t 5), (.t 6)], none⟩,
 ⟨some 8, .p (.un .not (.t 7)), none⟩,
 ⟨some 4, .p (.mv (.t 8)), none⟩]
def c337 : XFn := { np := 2, nt := 9, res := [.t 4], body := (.seq (.reg c337_r0) (.seq (.reg c337_r1) .ret)) }
def K337 (C : CRel) : Prop := ∀ (a0 : List UInt8) (f1 : Nat) (k1 : List V) (is1 : UInt8 → Option Bool) (hs1 : Shut k1) (hf1 : ∀ (x0 : UInt8) r, is1 x0 = some r → C f1 ⟨.int .u8 ((x0).toNat : Int) :: k1, []⟩ ⟨.bool r, [], []⟩) (r : Bool), g337 a0 is1 = some r → C 337 ⟨[.lst 1 (a0.map eU8), .clo f1 k1], []⟩ ⟨.bool r, [], []⟩
theorem F337 {C : CRel} (H368 : K368 C) (H369 : K369 C) (a0 : List UInt8) (f1 : Nat) (k1 : List V) (is1 : UInt8 → Option Bool) (hs1 : Shut k1) (hf1 : ∀ (x0 : UInt8) r, is1 x0 = some r → C f1 ⟨.int .u8 ((x0).toNat : Int) :: k1, []⟩ ⟨.bool r, [], []⟩) (r : Bool) (h0 : g337 a0 is1 = some r) : FnOK C c337 ⟨[.lst 1 (a0.map eU8), .clo f1 k1], []⟩ ⟨.bool r, [], []⟩ := by
  refine fn_ (Nat.le_of_ble_eq_true rfl) ?_
  refine seq_ ?_
  refine reg_ ?_
  refine st (box_ (dr_sh hs1) trivial rfl ?_)
  refine sw ⟨[(0, .lst 1 (a0.map eU8)), (3, .ptr 192 0)], [(192, [.clo f1 k1])], []⟩ (fg ⟨rfl, rfl, trivial⟩ ⟨rfl, trivial⟩) (mvc_ trivial ?_)
  refine oe_ ?_
  refine wk_ ⟨[(0, .lst 1 (a0.map eU8)), (3, .ptr 192 0)], [(192, [.clo f1 k1])], []⟩ (fg ⟨rfl, rfl, trivial⟩ ⟨rfl, trivial⟩) ?_
  refine seq_ ?_
  refine reg_ ?_
  refine st (mv_ rfl trivial ?_)
  refine st (c_ (cp_ ⟨trivial, trivial⟩ rfl rfl) ?_)
  obtain ⟨r1, e2, h0⟩ := bnd h0
  refine st (call0_ (r := .bool r1) false (H368 a0 369 [.iptr [.clo f1 k1]] (fun z369_0 => g369 z369_0 is1) (⟨fun _ _ _ _ _ => rfl, fun _ _ _ _ _ => rfl, rfl, fun _ _ _ n => by cases n <;> rfl, fun _ => rfl⟩) (fun z369_0 r h => H369 z369_0 f1 k1 is1 hs1 hf1 r h) r1 e2) ⟨trivial, trivial, trivial⟩ rfl (mapc1 rfl (mapc1 (congrArg (fun z => V.clo 369 [.iptr [.clo f1 z]]) (hs1.2.2.2.1 _ _ _ _)) rfl)) (fun _ => rfl) ?_)
  refine st (c_ (cp_ ⟨trivial, trivial⟩ rfl trivial) ?_)
  refine st (mv_ rfl trivial ?_)
  refine oe_ ?_
  refine wk_ ⟨[(4, .bool (!r1))], [], []⟩ (fgk (by kernel_rfl)) ?_
  obtain rfl := Option.some.inj h0
  exact rt_ (ret_ rfl rfl rfl rfl rfl trivial)

/- loop.example/g00149/impl.isLetter -/
def c339_r0 : List Ins := [⟨some 2, .p (.mv (.c (.bool false))), none⟩]
def c339_r1 : List Ins := [⟨some 3, .p (.mv (.t 0)), none⟩,
 ⟨some 4, .p (.bin .geq (.t 3) (.c (.int .u8 97))), none⟩,
 ⟨some 5, .p (.mv (.t 4)), none⟩,
 ⟨some 6, .p (.mv (.t 0)), some (5, true)⟩,
 ⟨some 7, .p (.bin .leq (.t 6) (.c (.int .u8 122))), some (5, true)⟩,
 ⟨some 8, .pick (.t 5) (.t 7) (.c (.bool false)), none⟩,
 ⟨some 9, .p (.mv (.t 8)), none⟩,
 ⟨some 10, .p (.mv (.t 0)), some (9, false)⟩,
 ⟨some 11, .p (.bin .geq (.t 10) (.c (.int .u8 65))), some (9, false)⟩,
 ⟨some 12, .p (.mv (.t 11)), some (9, false)⟩,
 ⟨some 13, .p (.mv (.t 0)), some (12, true)⟩,
 ⟨some 14, .p (.bin .leq (.t 13) (.c (.int .u8 90))), some (12, true)⟩,
 ⟨some 15, .pick (.t 12) (.t 14) (.c (.bool false)), some (9, false)⟩,
 ⟨some 16, .pick (.t 9) (.c (.bool true)) (.t 15), none⟩,
 ⟨some 2, .p (.mv (.t 16)), none⟩]
def c339 : XFn := { np := 1, nt := 17, res := [.t 2], body := (.seq (.reg c339_r0) (.seq (.reg c339_r1) .ret)) }
def K339 (C : CRel) : Prop := ∀ (a0 : UInt8) (r : Bool), g339 a0 = some r → C 339 ⟨[.int .u8 ((a0).toNat : Int)], []⟩ ⟨.bool r, [], []⟩
theorem F339 {C : CRel}  (a0 : UInt8) (r : Bool) (h0 : g339 a0 = some r) : FnOK C c339 ⟨[.int .u8 ((a0).toNat : Int)], []⟩ ⟨.bool r, [], []⟩ := by
  refine fn_ (Nat.le_of_ble_eq_true rfl) ?_
  refine seq_ ?_
  refine reg_ ?_
  refine st (mvc_ trivial ?_)
  refine oe_ ?_
  refine wk_ ⟨[(0, .int .u8 ((a0).toNat : Int))], [], []⟩ (fgk (by kernel_rfl)) ?_
  refine seq_ ?_
  refine reg_ ?_
  refine st (mv_ rfl trivial ?_)
  refine st (c_ (cp_ ⟨trivial, trivial, trivial⟩ rfl trivial) ?_)
  refine st (mv_ rfl trivial ?_)
  refine st (pg_ (u := .int .u8 ((a0).toNat : Int)) rfl (fun hg => (cmv (v := .int .u8 ((a0).toNat : Int)) rfl trivial)) ?_)
  refine st (pg_ (u := .bool (decide (((a0).toNat : Int) ≤ 122))) rfl (fun hg => (cp_ ⟨(fun _ => hg), trivial, trivial⟩ rfl trivial)) ?_)
  refine st (pick_ rfl rfl rfl (fun h => eqt h) trivial rfl ?_)
  refine st (mv_ rfl trivial ?_)
  refine st (pg_ (u := .int .u8 ((a0).toNat : Int)) rfl (fun hg => (cmv (v := .int .u8 ((a0).toNat : Int)) rfl trivial)) ?_)
  refine st (pg_ (u := .bool (decide (((a0).toNat : Int) ≥ 65))) rfl (fun hg => (cp_ ⟨(fun _ => hg), trivial, trivial⟩ rfl trivial)) ?_)
  refine st (pg_ (u := .bool (decide (((a0).toNat : Int) ≥ 65))) rfl (fun hg => (cmv (v := .may ((bif (decide (((a0).toNat : Int) ≥ 97)) then (decide (((a0).toNat : Int) ≤ 122)) else false) == false) (.bool (decide (((a0).toNat : Int) ≥ 65)))) rfl (fun _ => hg))) ?_)
  refine st (pg_ (u := .int .u8 ((a0).toNat : Int)) rfl (fun hg => (cmv (v := .int .u8 ((a0).toNat : Int)) rfl trivial)) ?_)
  refine st (pg_ (u := .bool (decide (((a0).toNat : Int) ≤ 90))) rfl (fun hg => (cp_ ⟨(fun _ => hg), trivial, trivial⟩ rfl trivial)) ?_)
  refine st (pickg_ (u := .bool (bif (decide (((a0).toNat : Int) ≥ 65)) then (decide (((a0).toNat : Int) ≤ 90)) else false)) rfl (fun hg => cpick rfl rfl (fun _ => hg) rfl rfl (fun h => and_ hg (eqt h)) trivial rfl) ?_)
  refine st (pick_ rfl rfl rfl trivial (fun h => eqf h) rfl ?_)
  refine st (mv_ rfl trivial ?_)
  refine oe_ ?_
  obtain ⟨v1, e2, h0⟩ := bl h0
  refine wk_ ⟨[(2, .bool v1)], [], []⟩ (fgk (by subst e2; kernel_rfl)) ?_
  obtain rfl := Option.some.inj h0
  exact rt_ (ret_ rfl rfl rfl rfl rfl trivial)

/- loop.example/g00149/impl.isDigit -/
def c340_r0 : List Ins := [⟨some 2, .p (.mv (.c (.bool false))), none⟩]
def c340_r1 : List Ins := [⟨some 3, .p (.mv (.t 0)), none⟩,
 ⟨some 4, .p (.bin .geq (.t 3) (.c (.int .u8 48))), none⟩,
 ⟨some 5, .p (.mv (.t 4)), none⟩,
 ⟨some 6, .p (.mv (.t 0)), some (5, true)⟩,
 ⟨some 7, .p (.bin .leq (.t 6) (.c (.int .u8 57))), some (5, true)⟩,
 ⟨some 8, .pick (.t 5) (.t 7) (.c (.bool false)), none⟩,
 ⟨some 2, .p (.mv (.t 8)), none⟩]
def c340 : XFn := { np := 1, nt := 9, res := [.t 2], body := (.seq (.reg c340_r0) (.seq (.reg c340_r1) .ret)) }
def K340 (C : CRel) : Prop := ∀ (a0 : UInt8) (r : Bool), g340 a0 = some r → C 340 ⟨[.int .u8 ((a0).toNat : Int)], []⟩ ⟨.bool r, [], []⟩
theorem F340 {C : CRel}  (a0 : UInt8) (r : Bool) (h0 : g340 a0 = some r) : FnOK C c340 ⟨[.int .u8 ((a0).toNat : Int)], []⟩ ⟨.bool r, [], []⟩ := by
  refine fn_ (Nat.le_of_ble_eq_true rfl) ?_
  refine seq_ ?_
  refine reg_ ?_
  refine st (mvc_ trivial ?_)
  refine oe_ ?_
  refine wk_ ⟨[(0, .int .u8 ((a0).toNat : Int))], [], []⟩ (fgk (by kernel_rfl)) ?_
  refine seq_ ?_
  refine reg_ ?_
  refine st (mv_ rfl trivial ?_)
  refine st (c_ (cp_ ⟨trivial, trivial, trivial⟩ rfl trivial) ?_)
  refine st (mv_ rfl trivial ?_)
  refine st (pg_ (u := .int .u8 ((a0).toNat : Int)) rfl (fun hg => (cmv (v := .int .u8 ((a0).toNat : Int)) rfl trivial)) ?_)
  refine st (pg_ (u := .bool (decide (((a0).toNat : Int) ≤ 57))) rfl (fun hg => (cp_ ⟨(fun _ => hg), trivial, trivial⟩ rfl trivial)) ?_)
  refine st (pick_ rfl rfl rfl (fun h => eqt h) trivial rfl ?_)
  refine st (mv_ rfl trivial ?_)
  refine oe_ ?_
  obtain ⟨v1, e2, h0⟩ := bl h0
  refine wk_ ⟨[(2, .bool v1)], [], []⟩ (fgk (by subst e2; kernel_rfl)) ?_
  obtain rfl := Option.some.inj h0
  exact rt_ (ret_ rfl rfl rfl rfl rfl trivial)

/- internal/stringslite.IndexByte -/
def c370_r0 : List Ins := [⟨some 4, .p (.mv (.c (.int .i64 0))), none⟩]
def c370_r1 : List Ins := [⟨some 5, .p (.mv (.t 0)), none⟩,
 ⟨some 6, .p (.mv (.t 1)), none⟩,
 ⟨some 7, .p (.xbyte (.t 5) (.t 6)), none⟩,
 ⟨some 4, .p (.mv (.t 7)), none⟩]
def c370 : XFn := { np := 2, nt := 8, res := [.t 4], body := (.seq (.reg c370_r0) (.seq (.reg c370_r1) .ret)) }
def K370 (C : CRel) : Prop := ∀ (a0 : List UInt8) (a1 : UInt8) (r : Int), g370 a0 a1 = some r → C 370 ⟨[.str a0, .int .u8 ((a1).toNat : Int)], []⟩ ⟨.int .i64 r, [], []⟩
theorem F370 {C : CRel}  (a0 : List UInt8) (a1 : UInt8) (r : Int) (h0 : g370 a0 a1 = some r) : FnOK C c370 ⟨[.str a0, .int .u8 ((a1).toNat : Int)], []⟩ ⟨.int .i64 r, [], []⟩ := by
  refine fn_ (Nat.le_of_ble_eq_true rfl) ?_
  refine seq_ ?_
  refine reg_ ?_
  refine st (mvc_ trivial ?_)
  refine oe_ ?_
  refine wk_ ⟨[(0, .str a0), (1, .int .u8 ((a1).toNat : Int))], [], []⟩ (fgk (by kernel_rfl)) ?_
  refine seq_ ?_
  refine reg_ ?_
  refine st (mv_ rfl trivial ?_)
  refine st (mv_ rfl trivial ?_)
  refine st (c_ (cxbyte rfl rfl trivial rfl rfl trivial) ?_)
  refine st (mv_ rfl trivial ?_)
  refine oe_ ?_
  refine wk_ ⟨[(4, .int .i64 (byteAt a0 ((a1).toNat : Int)))], [], []⟩ (fgk (by kernel_rfl)) ?_
  obtain rfl := Option.some.inj h0
  exact rt_ (ret_ rfl rfl rfl rfl rfl trivial)

/- strings.IndexByte -/
def c341_r0 : List Ins := [⟨some 4, .p (.mv (.c (.int .i64 0))), none⟩]
def c341_r1 : List Ins := [⟨some 5, .p (.mv (.t 0)), none⟩,
 ⟨some 6, .p (.mv (.t 1)), none⟩,
 ⟨some 7, .call 370 [(.t 5), (.t 6)], none⟩,
 ⟨some 4, .p (.mv (.t 7)), none⟩]
def c341 : XFn := { np := 2, nt := 8, res := [.t 4], body := (.seq (.reg c341_r0) (.seq (.reg c341_r1) .ret)) }
def K341 (C : CRel) : Prop := ∀ (a0 : List UInt8) (a1 : UInt8) (r : Int), g341 a0 a1 = some r → C 341 ⟨[.str a0, .int .u8 ((a1).toNat : Int)], []⟩ ⟨.int .i64 r, [], []⟩
theorem F341 {C : CRel} (H370 : K370 C) (a0 : List UInt8) (a1 : UInt8) (r : Int) (h0 : g341 a0 a1 = some r) : FnOK C c341 ⟨[.str a0, .int .u8 ((a1).toNat : Int)], []⟩ ⟨.int .i64 r, [], []⟩ := by
  refine fn_ (Nat.le_of_ble_eq_true rfl) ?_
  refine seq_ ?_
  refine reg_ ?_
  refine st (mvc_ trivial ?_)
  refine oe_ ?_
  refine wk_ ⟨[(0, .str a0), (1, .int .u8 ((a1).toNat : Int))], [], []⟩ (fgk (by kernel_rfl)) ?_
  refine seq_ ?_
  refine reg_ ?_
  refine st (mv_ rfl trivial ?_)
  refine st (mv_ rfl trivial ?_)
  obtain ⟨r1, e2, h0⟩ := bnd h0
  refine st (call0_ (r := .int .i64 r1) false (H370 a0 a1 r1 e2) ⟨trivial, trivial, trivial⟩ rfl rfl (fun _ => rfl) ?_)
  refine st (mv_ rfl trivial ?_)
  refine oe_ ?_
  refine wk_ ⟨[(4, .int .i64 r1)], [], []⟩ (fgk (by kernel_rfl)) ?_
  obtain rfl := Option.some.inj h0
  exact rt_ (ret_ rfl rfl rfl rfl rfl trivial)

/- loop.example/g00149/impl.isPrintable$1 -/
def c338_r0 : List Ins := [⟨some 2, .p (.mv (.c (.bool false))), none⟩]
def c338_r1 : List Ins := [⟨some 3, .p (.mv (.t 0)), none⟩,
 ⟨some 4, .call 339 [(.t 3)], none⟩,
 ⟨some 5, .p (.mv (.t 4)), none⟩,
 ⟨some 6, .p (.mv (.t 0)), some (5, false)⟩,
 ⟨some 7, .call 340 [(.t 6)], some (5, false)⟩,
 ⟨some 8, .pick (.t 5) (.c (.bool true)) (.t 7), none⟩,
 ⟨some 9, .p (.mv (.t 8)), none⟩,
 ⟨some 10, .p (.mv (.t 0)), some (9, false)⟩,
 ⟨some 11, .call 341 [(.c (.str [39, 40, 41, 43, 44, 45, 46, 47, 58, 61, 63, 32])), (.t 10)], some (9, false)⟩,
 ⟨some 12, .p (.bin .geq (.t 11) (.c (.int .i64 0))), some (9, false)⟩,
 ⟨some 13, .pick (.t 9) (.c (.bool true)) (.t 12), none⟩,
 ⟨some 2, .p (.mv (.t 13)), none⟩]
def c338 : XFn := { np := 1, nt := 14, res := [.t 2], body := (.seq (.reg c338_r0) (.seq (.reg c338_r1) .ret)) }
def K338 (C : CRel) : Prop := ∀ (a0 : UInt8) (r : Bool), g338 a0 = some r → C 338 ⟨[.int .u8 ((a0).toNat : Int)], []⟩ ⟨.bool r, [], []⟩
theorem F338 {C : CRel} (H339 : K339 C) (H340 : K340 C) (H341 : K341 C) (a0 : UInt8) (r : Bool) (h0 : g338 a0 = some r) : FnOK C c338 ⟨[.int .u8 ((a0).toNat : Int)], []⟩ ⟨.bool r, [], []⟩ := by
  refine fn_ (Nat.le_of_ble_eq_true rfl) ?_
  refine seq_ ?_
  refine reg_ ?_
  refine st (mvc_ trivial ?_)
  refine oe_ ?_
  refine wk_ ⟨[(0, .int .u8 ((a0).toNat : Int))], [], []⟩ (fgk (by kernel_rfl)) ?_
  refine seq_ ?_
  refine reg_ ?_
  refine st (mv_ rfl trivial ?_)
  obtain ⟨r1, e2, h0⟩ := bnd h0
  refine st (call0_ (r := .bool r1) false (H339 a0 r1 e2) ⟨trivial, trivial⟩ rfl rfl (fun _ => rfl) ?_)
  refine st (mv_ rfl trivial ?_)
  refine st (pg_ (u := .int .u8 ((a0).toNat : Int)) rfl (fun hg => (cmv (v := .int .u8 ((a0).toNat : Int)) rfl trivial)) ?_)
  obtain ⟨r3, e4, h0⟩ := bnd h0
  refine sw ⟨[(0, .int .u8 ((a0).toNat : Int)), (5, .bool r1), (6, .may (r1 == false) (.int .u8 ((a0).toNat : Int)))], [], []⟩ (fgk (by kernel_rfl)) (callg_ (r := .bool r3) rfl false (fun hg => H340 a0 r3 (ip hg e4)) ⟨(fun hg => hg), trivial⟩ (fun _ => rfl) (fun _ => rfl) (fun _ => rfl) (fun h => nomatch h) ?_)
  refine st (pick_ rfl rfl rfl trivial (fun h => eqf h) rfl ?_)
  refine st (mv_ rfl trivial ?_)
  refine st (pg_ (u := .int .u8 ((a0).toNat : Int)) rfl (fun hg => (cmv (v := .int .u8 ((a0).toNat : Int)) rfl trivial)) ?_)
  obtain ⟨r5, e6, h0⟩ := bnd h0
  refine sw ⟨[(9, .bool (bif r1 then true else r3)), (10, .may ((bif r1 then true else r3) == false) (.int .u8 ((a0).toNat : Int)))], [], []⟩ (fgk (by kernel_rfl)) (callg_ (r := .int .i64 r5) rfl false (fun hg => H341 ([39, 40, 41, 43, 44, 45, 46, 47, 58, 61, 63, 32] : List UInt8) a0 r5 (ip hg e6)) ⟨trivial, (fun hg => hg), trivial⟩ (fun _ => rfl) (fun _ => rfl) (fun _ => rfl) (fun h => nomatch h) ?_)
  refine st (pg_ (u := .bool (decide (r5 ≥ 0))) rfl (fun hg => (cp_ ⟨(fun _ => hg), trivial, trivial⟩ rfl trivial)) ?_)
  refine st (pick_ rfl rfl rfl trivial (fun h => eqf h) rfl ?_)
  refine st (mv_ rfl trivial ?_)
  refine oe_ ?_
  refine wk_ ⟨[(2, .bool (bif (bif r1 then true else r3) then true else (decide (r5 ≥ 0))))], [], []⟩ (fgk (by kernel_rfl)) ?_
  obtain rfl := Option.some.inj h0
  exact rt_ (ret_ rfl rfl rfl rfl rfl trivial)

/- loop.example/g00149/impl.isPrintable -/
def c283_r0 : List Ins := [⟨some 2, .p (.mv (.c (.bool false))), none⟩]
def c283_r1 : List Ins := [⟨some 3, .p (.mv (.t 0)), none⟩,
 ⟨some 4, .toBytes (.t 3), none⟩,
 ⟨some 5, .call 337 [(.t 4), (.c (.clo 338 []))], none⟩,
 ⟨some 2, .p (.mv (.t 5)), none⟩]
def c283 : XFn := { np := 1, nt := 6, res := [.t 2], body := (.seq (.reg c283_r0) (.seq (.reg c283_r1) .ret)) }
def K283 (C : CRel) : Prop := ∀ (a0 : List UInt8) (r : Bool), g283 a0 = some r → C 283 ⟨[.str a0], []⟩ ⟨.bool r, [], []⟩
theorem F283 {C : CRel} (H337 : K337 C) (H338 : K338 C) (a0 : List UInt8) (r : Bool) (h0 : g283 a0 = some r) : FnOK C c283 ⟨[.str a0], []⟩ ⟨.bool r, [], []⟩ := by
  refine fn_ (Nat.le_of_ble_eq_true rfl) ?_
  refine seq_ ?_
  refine reg_ ?_
  refine st (mvc_ trivial ?_)
  refine oe_ ?_
  refine wk_ ⟨[(0, .str a0)], [], []⟩ (fgk (by kernel_rfl)) ?_
  refine seq_ ?_
  refine reg_ ?_
  refine st (mv_ rfl trivial ?_)
  refine st (toBytes_ rfl ?_)
  obtain ⟨r1, e2, h0⟩ := bnd h0
  refine st (call0_ (r := .bool r1) false (H337 a0 338 [] (fun z338_0 => g338 z338_0) (⟨fun _ _ _ _ _ => rfl, fun _ _ _ _ _ => rfl, rfl, fun _ _ _ n => by cases n <;> rfl, fun _ => rfl⟩) (fun z338_0 r h => H338 z338_0 r h) r1 e2) ⟨trivial, trivial, trivial⟩ rfl rfl (fun _ => rfl) ?_)
  refine st (mv_ rfl trivial ?_)
  refine oe_ ?_
  refine wk_ ⟨[(2, .bool r1)], [], []⟩ (fgk (by kernel_rfl)) ?_
  obtain rfl := Option.some.inj h0
  exact rt_ (ret_ rfl rfl rfl rfl rfl trivial)

/- loop.example/g00149/impl.isSubject -/
def c281_r0 : List Ins := [⟨some 2, .p (.mv (.c (.bool false))), none⟩]
def c281_r1 : List Ins := [⟨some 3, .p (.mv (.t 0)), none⟩,
 ⟨some 4, .p (.lenS (.t 3)), none⟩,
 ⟨some 5, .call 63 [(.t 4), (.c (.int .i64 1)), (.c (.int .i64 40))], none⟩,
 ⟨some 6, .p (.mv (.t 5)), none⟩,
 ⟨some 7, .p (.mv (.t 0)), some (6, true)⟩,
 ⟨some 8, .call 283 [(.t 7)], some (6, true)⟩,
 ⟨some 9, .pick (.t 6) (.t 8) (.c (.bool false)), none⟩,
 ⟨some 2, .p (.mv (.t 9)), none⟩]
def c281 : XFn := { np := 1, nt := 10, res := [.t 2], body := (.seq (.reg c281_r0) (.seq (.reg c281_r1) .ret)) }
def K281 (C : CRel) : Prop := ∀ (a0 : List UInt8) (r : Bool), g281 a0 = some r → C 281 ⟨[.str a0], []⟩ ⟨.bool r, [], []⟩
theorem F281 {C : CRel} (H63 : K63 C) (H283 : K283 C) (a0 : List UInt8) (r : Bool) (h0 : g281 a0 = some r) : FnOK C c281 ⟨[.str a0], []⟩ ⟨.bool r, [], []⟩ := by
  refine fn_ (Nat.le_of_ble_eq_true rfl) ?_
  refine seq_ ?_
  refine reg_ ?_
  refine st (mvc_ trivial ?_)
  refine oe_ ?_
  refine wk_ ⟨[(0, .str a0)], [], []⟩ (fgk (by kernel_rfl)) ?_
  refine seq_ ?_
  refine reg_ ?_
  refine st (mv_ rfl trivial ?_)
  refine st (c_ (cp_ ⟨trivial, trivial⟩ rfl trivial) ?_)
  obtain ⟨r1, e2, h0⟩ := bnd h0
  refine st (call0_ (r := .bool r1) false (H63 (a0.length : Int) 1 40 r1 e2) ⟨trivial, trivial, trivial, trivial⟩ rfl rfl (fun _ => rfl) ?_)
  refine st (mv_ rfl trivial ?_)
  refine st (pg_ (u := .str a0) rfl (fun hg => (cmv (v := .str a0) rfl trivial)) ?_)
  obtain ⟨r3, e4, h0⟩ := bnd h0
  refine sw ⟨[(6, .bool r1), (7, .may (r1 == true) (.str a0))], [], []⟩ (fgk (by kernel_rfl)) (callg_ (r := .bool r3) rfl false (fun hg => H283 a0 r3 (ip hg e4)) ⟨(fun hg => hg), trivial⟩ (fun _ => rfl) (fun _ => rfl) (fun _ => rfl) (fun h => nomatch h) ?_)
  refine st (pick_ rfl rfl rfl (fun h => eqt h) trivial rfl ?_)
  refine st (mv_ rfl trivial ?_)
  refine oe_ ?_
  refine wk_ ⟨[(2, .bool (bif r1 then r3 else false))], [], []⟩ (fgk (by kernel_rfl)) ?_
  obtain rfl := Option.some.inj h0
  exact rt_ (ret_ rfl rfl rfl rfl rfl trivial)

/- loop.example/g00149/impl.isSeed -/
def c282_r0 : List Ins := [⟨some 2, .p (.mv (.c (.bool false))), none⟩]
def c282_r1 : List Ins := [⟨some 3, .p (.mv (.t 0)), none⟩,
 ⟨some 4, .p (.len (.t 3)), none⟩,
 ⟨some 5, .p (.bin .eql (.t 4) (.c (.int .i64 32))), none⟩,
 ⟨some 2, .p (.mv (.t 5)), none⟩]
def c282 : XFn := { np := 1, nt := 6, res := [.t 2], body := (.seq (.reg c282_r0) (.seq (.reg c282_r1) .ret)) }
def K282 (C : CRel) : Prop := ∀ (a0 : List UInt8) (r : Bool), g282 a0 = some r → C 282 ⟨[.lst 1 (a0.map eU8)], []⟩ ⟨.bool r, [], []⟩
theorem F282 {C : CRel}  (a0 : List UInt8) (r : Bool) (h0 : g282 a0 = some r) : FnOK C c282 ⟨[.lst 1 (a0.map eU8)], []⟩ ⟨.bool r, [], []⟩ := by
  refine fn_ (Nat.le_of_ble_eq_true rfl) ?_
  refine seq_ ?_
  refine reg_ ?_
  refine st (mvc_ trivial ?_)
  refine oe_ ?_
  refine wk_ ⟨[(0, .lst 1 (a0.map eU8))], [], []⟩ (fgk (by kernel_rfl)) ?_
  refine seq_ ?_
  refine reg_ ?_
  refine st (mv_ rfl trivial ?_)
  refine st (c_ (clenL (e := eU8) (l0 := a0) rfl rfl trivial) ?_)
  refine st (c_ (cp_ ⟨trivial, trivial, trivial⟩ rfl trivial) ?_)
  refine st (mv_ rfl trivial ?_)
  refine oe_ ?_
  refine wk_ ⟨[(2, .bool ((a0.length : Int) == 32))], [], []⟩ (fgk (by kernel_rfl)) ?_
  obtain rfl := Option.some.inj h0
  exact rt_ (ret_ rfl rfl rfl rfl rfl trivial)

/- loop.example/g00149/impl.serials -/
def c284_r0 : List Ins := [⟨some 2, .nilS 1, none⟩]
def c284_r1 : List Ins := [⟨some 3, .nilS 1, none⟩]
def c284_r2 : List Ins := [⟨some 6, .p (.mv (.t 0)), none⟩,
 ⟨some 7, .p (.len (.t 6)), none⟩,
 ⟨some 8, .p (.mv (.c (.int .i64 0))), none⟩]
def c284_r3 : List Ins := [⟨some 9, .p (.bin .lss (.t 8) (.t 7)), none⟩]
def c284_r4 : List Ins := [⟨some 10, .p (.idxA (.t 6) (.t 8) 4), none⟩,
 ⟨some 11, .p (.load (.t 10) 4 true), none⟩,
 ⟨some 5, .alloc [(.int .i64 0), (.int .i64 0), (.str []), (.bool false)], none⟩,
 ⟨none, .store (.t 5) (.t 11) 4, none⟩]
def c284_r5 : List Ins := [⟨some 12, .p (.mv (.t 3)), none⟩,
 ⟨some 13, .p (.fieldA (.t 5) 0), none⟩,
 ⟨some 14, .p (.load (.t 13) 1 false), none⟩,
 ⟨some 15, .mkS 1 [(.int .i64 0)] 1 [(0, (.t 14))], none⟩,
 ⟨some 16, .app 1 8 (.t 12) (.t 15), none⟩,
 ⟨some 3, .p (.mv (.t 16)), none⟩]
def c284_r6 : List Ins := [⟨some 17, .p (.bin .add (.t 8) (.c (.int .i64 1))), none⟩,
 ⟨some 8, .p (.mv (.t 17)), none⟩]
def c284_l0 : IR := (.seq (.reg c284_r3) (.seq (.ite (.t 9) .skip (.exit 0)) (.seq (.block 1 (.seq (.reg c284_r4) (.reg c284_r5))) (.reg c284_r6))))
def c284_r7 : List Ins := [⟨some 18, .p (.mv (.t 3)), none⟩,
 ⟨some 2, .p (.mv (.t 18)), none⟩]
def c284 : XFn := { np := 1, nt := 19, res := [.t 2], body := (.seq (.reg c284_r0) (.seq (.reg c284_r1) (.seq (.seq (.reg c284_r2) (.block 0 (.loop c284_l0))) (.seq (.reg c284_r7) .ret)))) }
def K284 (C : CRel) : Prop := ∀ (a0 : List DIssued) (r : (List Int)), g284 a0 = some r → C 284 ⟨[.lst 4 (a0.map eDIssued)], []⟩ ⟨.own 0 0 1 (r.map eI), [], []⟩
theorem F284 {C : CRel}  (a0 : List DIssued) (r : (List Int)) (h0 : g284 a0 = some r) : FnOK C c284 ⟨[.lst 4 (a0.map eDIssued)], []⟩ ⟨.own 0 0 1 (r.map eI), [], []⟩ := by
  refine fn_ (Nat.le_of_ble_eq_true rfl) ?_
  refine seq_ ?_
  refine reg_ ?_
  refine st (nilS_ ?_)
  refine oe_ ?_
  refine wk_ ⟨[(0, .lst 4 (a0.map eDIssued))], [], []⟩ (fgk (by kernel_rfl)) ?_
  refine seq_ ?_
  refine reg_ ?_
  refine st (nilS_ ?_)
  refine oe_ ?_
  refine wk_ ⟨[(0, .lst 4 (a0.map eDIssued)), (3, .own 192 0 1 ([].map eI))], [], []⟩ (fgk (by kernel_rfl)) ?_
  refine seq_ ?_
  refine seq_ ?_
  refine reg_ ?_
  refine st (mv_ rfl trivial ?_)
  refine st (c_ (clenL (e := eDIssued) (l0 := a0) rfl rfl trivial) ?_)
  refine st (mvc_ trivial ?_)
  refine oe_ ?_
  refine wk_ ⟨[(3, .own 192 0 1 ([].map eI)), (6, .lst 4 (a0.map eDIssued)), (7, .int .i64 (a0.length : Int)), (8, .int .i64 0)], [], []⟩ (fgk (by kernel_rfl)) ?_
  refine block_ ?_
  obtain ⟨r18, e19, h0⟩ := bnd h0
  refine loop_ (R := (fun S => ∃ p13 : List Int, p13 = r18 ∧ S = ⟨[(3, .own 192 0 1 (p13.map eI))], [], []⟩)) (g284_l0 a0) (fun s S => match s with | (p5, p6) => S = ⟨[(3, .own 192 0 1 (p5.map eI)), (6, .lst 4 (a0.map eDIssued)), (7, .int .i64 (a0.length : Int)), (8, .int .i64 p6)], [], []⟩) e19 ⟨[(3, .own 192 0 1 ([].map eI)), (6, .lst 4 (a0.map eDIssued)), (7, .int .i64 (a0.length : Int)), (8, .int .i64 0)], [], []⟩ (fgk (by kernel_rfl)) rfl 0 (fun _ => rfl) ?_ ?_
  · rintro S _ hfg ⟨p13, rfl, rfl⟩
    refine wk_ ⟨[(3, .own 192 0 1 (p13.map eI))], [], []⟩ (fglk hfg (by kernel_rfl)) ?_
    refine seq_ ?_
    refine reg_ ?_
    refine st (mv_ rfl trivial ?_)
    refine st (mv_ rfl trivial ?_)
    refine oe_ ?_
    refine wk_ ⟨[(2, .own 192 0 1 (p13.map eI))], [], []⟩ (fgk (by kernel_rfl)) ?_
    obtain rfl := Option.some.inj h0
    exact rt_ (ret_ rfl rfl rfl rfl rfl trivial)
  · rintro ⟨p5, p6⟩ o1 _ K1 rfl h1 hx1 hK1 hE1 hR1
    refine seq_ ?_
    refine reg_ ?_
    refine st (c_ (cp_ ⟨trivial, trivial, trivial⟩ rfl trivial) ?_)
    refine oe_ ?_
    refine wk_ ⟨[(3, .own 192 0 1 (p5.map eI)), (6, .lst 4 (a0.map eDIssued)), (7, .int .i64 (a0.length : Int)), (8, .int .i64 p6), (9, .bool (decide (p6 < (a0.length : Int))))], [], []⟩ (fgk (by kernel_rfl)) ?_
    refine seq_ ?_
    refine ite_ (cb := (decide (p6 < (a0.length : Int)))) rfl (fun c14 => ?_) (fun c14 => ?_)
    · replace h1 := ip c14 h1
      refine sk_ ?_
      refine wk_ ⟨[(3, .own 192 0 1 (p5.map eI)), (6, .lst 4 (a0.map eDIssued)), (7, .int .i64 (a0.length : Int)), (8, .int .i64 p6)], [], []⟩ (fgk (by kernel_rfl)) ?_
      refine seq_ ?_
      refine block_ ?_
      refine seq_ ?_
      refine reg_ ?_
      obtain ⟨y15, e16, h1⟩ := bnd h1
      refine st (c_ (cidxL (e := eDIssued) (y := y15) rfl rfl trivial rfl rfl trivial e16) ?_)
      refine st (c_ (v := .agg [.int .i64 y15.serial, .int .i64 y15.to_, .str y15.subject, .bool y15.revoked]) (cp_ ⟨trivial, trivial⟩ rfl (Nat.le_of_ble_eq_true rfl)) ?_)
      refine st (alloc_ ?_)
      refine st (stp_ rfl rfl trivial rfl rfl rfl (Nat.le_of_ble_eq_true rfl) ?_)
      refine oe_ ?_
      refine wk_ ⟨[(3, .own 192 0 1 (p5.map eI)), (5, .ptr 320 0), (6, .lst 4 (a0.map eDIssued)), (7, .int .i64 (a0.length : Int)), (8, .int .i64 p6)], [(320, [.int .i64 y15.serial, .int .i64 y15.to_, .str y15.subject, .bool y15.revoked])], []⟩ (fgk (by kernel_rfl)) ?_
      refine reg_ ?_
      refine st (mv_ rfl trivial ?_)
      refine st (c_ (cp_ ⟨trivial, trivial⟩ rfl trivial) ?_)
      refine st (c_ (cp_ ⟨trivial, trivial⟩ rfl (Nat.le_of_ble_eq_true rfl)) ?_)
      refine st (mkS_ ⟨trivial, trivial⟩ ⟨⟨Nat.le_of_ble_eq_true rfl, rfl, rfl⟩, trivial⟩ ?_)
      obtain ⟨c17, h1⟩ := grd h1
      refine st (app_ (e := eI) (l0 := p5) (l1 := ([y15.serial] : List Int)) rfl rfl trivial rfl (by decide) c17 ?_)
      refine st (mv_ rfl trivial ?_)
      refine oe_ ?_
      refine bn_ ?_
      refine wk_ ⟨[(3, .own 192 0 1 ((p5 ++ ([y15.serial] : List Int)).map eI)), (6, .lst 4 (a0.map eDIssued)), (7, .int .i64 (a0.length : Int)), (8, .int .i64 p6)], [], []⟩ (fgk (by kernel_rfl)) ?_
      refine reg_ ?_
      refine st (c_ (cp_ ⟨trivial, trivial, trivial⟩ rfl trivial) ?_)
      refine st (mv_ rfl trivial ?_)
      refine oe_ ?_
      obtain rfl := Option.some.inj h1
      exact hK1 _ rfl _ ⟨[(3, .own 192 0 1 ((p5 ++ ([y15.serial] : List Int)).map eI)), (6, .lst 4 (a0.map eDIssued)), (7, .int .i64 (a0.length : Int)), (8, .int .i64 (IntKind.i64.wrap (p6 + 1)))], [], []⟩ (fgk (by kernel_rfl)) rfl
    · replace h1 := inb c14 h1
      obtain rfl := Option.some.inj h1
      obtain rfl := hx1 _ rfl
      refine exQ rfl ?_
      exact hE1 _ ⟨[(3, .own 192 0 1 (p5.map eI))], [], []⟩ (fgk (by kernel_rfl)) ⟨_, rfl, rfl⟩

/- slices.IndexFunc[[]loop.example/g00149/impl.Issued,loop.example/g00149/impl.Issued] -/
def c371_r0 : List Ins := [⟨some 4, .p (.mv (.c (.int .i64 0))), none⟩]
def c371_r1 : List Ins := [⟨some 6, .p (.mv (.t 0)), none⟩,
 ⟨some 7, .p (.len (.t 6)), none⟩,
 ⟨some 8, .p (.mv (.c (.int .i64 0))), none⟩]
def c371_r2 : List Ins := [⟨some 9, .p (.bin .lss (.t 8) (.t 7)), none⟩]
def c371_r3 : List Ins := [⟨some 10, .p (.mv (.t 8)), none⟩,
 ⟨some 5, .p (.mv (.t 10)), none⟩]
def c371_r4 : List Ins := [⟨some 11, .p (.mv (.t 1)), none⟩,
 ⟨some 12, .p (.mv (.t 0)), none⟩,
 ⟨some 13, .p (.mv (.t 5)), none⟩,
 ⟨some 14, .p (.idxA (.t 12) (.t 13) 4), none⟩,
 ⟨some 15, .p (.load (.t 14) 4 true), none⟩,
 ⟨some 16, .callv (.t 11) [(.t 15)], none⟩]
def c371_r5 : List Ins := [⟨some 17, .p (.mv (.t 5)), none⟩,
 ⟨some 4, .p (.mv (.t 17)), none⟩]
def c371_r6 : List Ins := [⟨some 18, .p (.bin .add (.t 8) (.c (.int .i64 1))), none⟩,
 ⟨some 8, .p (.mv (.t 18)), none⟩]
def c371_l0 : IR := (.seq (.reg c371_r2) (.seq (.ite (.t 9) .skip (.exit 0)) (.seq (.block 1 (.seq (.reg c371_r3) (.seq (.reg c371_r4) (.ite (.t 16) (.seq (.reg c371_r5) .ret) .skip)))) (.reg c371_r6))))
def c371_r7 : List Ins := [⟨some 4, .p (.mv (.c (.int .i64 (-1)))), none⟩]
def c371 : XFn := { np := 2, nt := 19, res := [.t 4], body := (.seq (.reg c371_r0) (.seq (.seq (.reg c371_r1) (.block 0 (.loop c371_l0))) (.seq (.reg c371_r7) .ret))) }
def K371 (C : CRel) : Prop := ∀ (a0 : List DIssued) (f1 : Nat) (k1 : List V) (is1 : DIssued → Option Bool) (hs1 : Shut k1) (hf1 : ∀ (x0 : DIssued) r, is1 x0 = some r → C f1 ⟨.agg [.int .i64 x0.serial, .int .i64 x0.to_, .str x0.subject, .bool x0.revoked] :: k1, []⟩ ⟨.bool r, [], []⟩) (r : Int), g371 a0 is1 = some r → C 371 ⟨[.lst 4 (a0.map eDIssued), .clo f1 k1], []⟩ ⟨.int .i64 r, [], []⟩
theorem F371 {C : CRel}  (a0 : List DIssued) (f1 : Nat) (k1 : List V) (is1 : DIssued → Option Bool) (hs1 : Shut k1) (hf1 : ∀ (x0 : DIssued) r, is1 x0 = some r → C f1 ⟨.agg [.int .i64 x0.serial, .int .i64 x0.to_, .str x0.subject, .bool x0.revoked] :: k1, []⟩ ⟨.bool r, [], []⟩) (r : Int) (h0 : g371 a0 is1 = some r) : FnOK C c371 ⟨[.lst 4 (a0.map eDIssued), .clo f1 k1], []⟩ ⟨.int .i64 r, [], []⟩ := by
  refine fn_ (Nat.le_of_ble_eq_true rfl) ?_
  refine seq_ ?_
  refine reg_ ?_
  refine st (mvc_ trivial ?_)
  refine oe_ ?_
  refine wk_ ⟨[(0, .lst 4 (a0.map eDIssued)), (1, .clo f1 k1)], [], []⟩ (fg ⟨rfl, rfl, trivial⟩ trivial) ?_
  refine seq_ ?_
  refine seq_ ?_
  refine reg_ ?_
  refine st (mv_ rfl trivial ?_)
  refine st (c_ (clenL (e := eDIssued) (l0 := a0) rfl rfl trivial) ?_)
  refine st (mvc_ trivial ?_)
  refine oe_ ?_
  refine wk_ ⟨[(0, .lst 4 (a0.map eDIssued)), (1, .clo f1 k1), (7, .int .i64 (a0.length : Int)), (8, .int .i64 0)], [], []⟩ (fg ⟨rfl, rfl, rfl, rfl, trivial⟩ trivial) ?_
  refine block_ ?_
  obtain ⟨r21, e22, h0⟩ := bnd h0
  refine loop_ (R := (fun S => .inl () = r21 ∧ S = ⟨[], [], []⟩)) (g371_l0 a0 is1) (fun s S => match s with | p7 => S = ⟨[(0, .lst 4 (a0.map eDIssued)), (1, .clo f1 k1), (7, .int .i64 (a0.length : Int)), (8, .int .i64 p7)], [], []⟩) e22 ⟨[(0, .lst 4 (a0.map eDIssued)), (1, .clo f1 k1), (7, .int .i64 (a0.length : Int)), (8, .int .i64 0)], [], []⟩ (fg ⟨rfl, rfl, rfl, rfl, trivial⟩ trivial) rfl 0 (fun _ => rfl) ?_ ?_
  · rintro S _ hfg ⟨rfl, rfl⟩
    refine wk_ ⟨[], [], []⟩ (fglk hfg (by kernel_rfl)) ?_
    refine seq_ ?_
    refine reg_ ?_
    refine st (mvc_ trivial ?_)
    refine oe_ ?_
    refine wk_ ⟨[(4, .int .i64 (-1))], [], []⟩ (fgk (by kernel_rfl)) ?_
    obtain rfl := Option.some.inj h0
    exact rt_ (ret_ rfl rfl rfl rfl rfl trivial)
  · rintro p7 o1 _ K1 rfl h1 hx1 hK1 hE1 hR1
    refine seq_ ?_
    refine reg_ ?_
    refine st (c_ (cp_ ⟨trivial, trivial, trivial⟩ rfl trivial) ?_)
    refine oe_ ?_
    refine wk_ ⟨[(0, .lst 4 (a0.map eDIssued)), (1, .clo f1 k1), (7, .int .i64 (a0.length : Int)), (8, .int .i64 p7), (9, .bool (decide (p7 < (a0.length : Int))))], [], []⟩ (fg ⟨rfl, rfl, rfl, rfl, rfl, trivial⟩ trivial) ?_
    refine seq_ ?_
    refine ite_ (cb := (decide (p7 < (a0.length : Int)))) rfl (fun c15 => ?_) (fun c15 => ?_)
    · replace h1 := ip c15 h1
      refine sk_ ?_
      refine wk_ ⟨[(0, .lst 4 (a0.map eDIssued)), (1, .clo f1 k1), (7, .int .i64 (a0.length : Int)), (8, .int .i64 p7)], [], []⟩ (fg ⟨rfl, rfl, rfl, rfl, trivial⟩ trivial) ?_
      refine seq_ ?_
      refine block_ ?_
      refine seq_ ?_
      refine reg_ ?_
      refine st (mv_ rfl trivial ?_)
      refine st (mv_ rfl trivial ?_)
      refine oe_ ?_
      refine wk_ ⟨[(0, .lst 4 (a0.map eDIssued)), (1, .clo f1 k1), (5, .int .i64 p7), (7, .int .i64 (a0.length : Int)), (8, .int .i64 p7)], [], []⟩ (fg ⟨rfl, rfl, rfl, rfl, rfl, trivial⟩ trivial) ?_
      refine seq_ ?_
      refine reg_ ?_
      refine st (mv_ rfl trivial ?_)
      refine st (mv_ rfl trivial ?_)
      refine st (mv_ rfl trivial ?_)
      obtain ⟨y16, e17, h1⟩ := bnd h1
      refine st (c_ (cidxL (e := eDIssued) (y := y16) rfl rfl trivial rfl rfl trivial e17) ?_)
      refine st (c_ (v := .agg [.int .i64 y16.serial, .int .i64 y16.to_, .str y16.subject, .bool y16.revoked]) (cp_ ⟨trivial, trivial⟩ rfl (Nat.le_of_ble_eq_true rfl)) ?_)
      obtain ⟨r18, e19, h1⟩ := bnd h1
      refine st (callv0_ (r := .bool r18) rfl false (hf1 _ r18 e19) ⟨trivial, trivial⟩ (and_ rfl hs1.2.2.1) (mapc1 rfl (hs1.2.1 _ _ _ _ _)) (fun _ => rfl) ?_)
      refine oe_ ?_
      refine wk_ ⟨[(0, .lst 4 (a0.map eDIssued)), (1, .clo f1 k1), (5, .int .i64 p7), (7, .int .i64 (a0.length : Int)), (8, .int .i64 p7), (16, .bool r18)], [], []⟩ (fg ⟨rfl, rfl, rfl, rfl, rfl, rfl, trivial⟩ trivial) ?_
      refine ite_ (cb := r18) rfl (fun c20 => ?_) (fun c20 => ?_)
      · replace h1 := ip c20 h1
        refine seq_ ?_
        refine reg_ ?_
        refine st (mv_ rfl trivial ?_)
        refine st (mv_ rfl trivial ?_)
        refine oe_ ?_
        refine wk_ ⟨[(4, .int .i64 p7)], [], []⟩ (fgk (by kernel_rfl)) ?_
        obtain rfl := Option.some.inj h1
        obtain rfl := hx1 _ rfl
        obtain rfl := Option.some.inj h0
        exact rt_ (hR1 _ (ret_ rfl rfl rfl rfl rfl trivial))
      · replace h1 := inb c20 h1
        refine sk_ ?_
        refine bn_ ?_
        refine wk_ ⟨[(0, .lst 4 (a0.map eDIssued)), (1, .clo f1 k1), (7, .int .i64 (a0.length : Int)), (8, .int .i64 p7)], [], []⟩ (fg ⟨rfl, rfl, rfl, rfl, trivial⟩ trivial) ?_
        refine reg_ ?_
        refine st (c_ (cp_ ⟨trivial, trivial, trivial⟩ rfl trivial) ?_)
        refine st (mv_ rfl trivial ?_)
        refine oe_ ?_
        obtain rfl := Option.some.inj h1
        exact hK1 _ rfl _ ⟨[(0, .lst 4 (a0.map eDIssued)), (1, .clo f1 k1), (7, .int .i64 (a0.length : Int)), (8, .int .i64 (IntKind.i64.wrap (p7 + 1)))], [], []⟩ (fg ⟨rfl, rfl, rfl, rfl, trivial⟩ trivial) rfl
    · replace h1 := inb c15 h1
      obtain rfl := Option.some.inj h1
      obtain rfl := hx1 _ rfl
      refine exQ rfl ?_
      exact hE1 _ ⟨[], [], []⟩ (fgk (by kernel_rfl)) ⟨rfl, rfl⟩

/- slices.ContainsFunc[[]loop.example/g00149/impl.Issued,loop.example/g00149/impl.Issued] -/
def c342_r0 : List Ins := [⟨some 4, .p (.mv (.c (.bool false))), none⟩]
def c342_r1 : List Ins := [⟨some 5, .p (.mv (.t 0)), none⟩,
 ⟨some 6, .p (.mv (.t 1)), none⟩,
 ⟨some 7, .call 371 [(.t 5), (.t 6)], none⟩,
 ⟨some 8, .p (.bin .geq (.t 7) (.c (.int .i64 0))), none⟩,
 ⟨some 4, .p (.mv (.t 8)), none⟩]
def c342 : XFn := { np := 2, nt := 9, res := [.t 4], body := (.seq (.reg c342_r0) (.seq (.reg c342_r1) .ret)) }
def K342 (C : CRel) : Prop := ∀ (a0 : List DIssued) (f1 : Nat) (k1 : List V) (is1 : DIssued → Option Bool) (hs1 : Shut k1) (hf1 : ∀ (x0 : DIssued) r, is1 x0 = some r → C f1 ⟨.agg [.int .i64 x0.serial, .int .i64 x0.to_, .str x0.subject, .bool x0.revoked] :: k1, []⟩ ⟨.bool r, [], []⟩) (r : Bool), g342 a0 is1 = some r → C 342 ⟨[.lst 4 (a0.map eDIssued), .clo f1 k1], []⟩ ⟨.bool r, [], []⟩
theorem F342 {C : CRel} (H371 : K371 C) (a0 : List DIssued) (f1 : Nat) (k1 : List V) (is1 : DIssued → Option Bool) (hs1 : Shut k1) (hf1 : ∀ (x0 : DIssued) r, is1 x0 = some r → C f1 ⟨.agg [.int .i64 x0.serial, .int .i64 x0.to_, .str x0.subject, .bool x0.revoked] :: k1, []⟩ ⟨.bool r, [], []⟩) (r : Bool) (h0 : g342 a0 is1 = some r) : FnOK C c342 ⟨[.lst 4 (a0.map eDIssued), .clo f1 k1], []⟩ ⟨.bool r, [], []⟩ := by
  refine fn_ (Nat.le_of_ble_eq_true rfl) ?_
  refine seq_ ?_
  refine reg_ ?_
  refine st (mvc_ trivial ?_)
  refine oe_ ?_
  refine wk_ ⟨[(0, .lst 4 (a0.map eDIssued)), (1, .clo f1 k1)], [], []⟩ (fg ⟨rfl, rfl, trivial⟩ trivial) ?_
  refine seq_ ?_
  refine reg_ ?_
  refine st (mv_ rfl trivial ?_)
  refine st (mv_ rfl trivial ?_)
  obtain ⟨r1, e2, h0⟩ := bnd h0
  refine st (call0_ (r := .int .i64 r1) false (H371 a0 f1 k1 is1 hs1 hf1 r1 e2) ⟨trivial, trivial, trivial⟩ rfl (mapc1 rfl (mapc1 (clo_sh hs1) rfl)) (fun _ => rfl) ?_)
  refine st (c_ (cp_ ⟨trivial, trivial, trivial⟩ rfl trivial) ?_)
  refine st (mv_ rfl trivial ?_)
  refine oe_ ?_
  refine wk_ ⟨[(4, .bool (decide (r1 ≥ 0)))], [], []⟩ (fgk (by kernel_rfl)) ?_
  obtain rfl := Option.some.inj h0
  exact rt_ (ret_ rfl rfl rfl rfl rfl trivial)

/- loop.example/g00149/impl.areAll[loop.example/g00149/impl.Issued]$1 -/
def c343_r0 : List Ins := [⟨some 2, .box (.t 0), none⟩,
 ⟨some 3, .p (.mv (.c (.bool false))), none⟩]
def c343_r1 : List Ins := [⟨some 4, .p (.load (.t 1) 1 false), none⟩,
 ⟨some 5, .p (.load (.t 2) 4 true), none⟩,
 ⟨some 6, .callv (.t 4) [(.t 5)], none⟩,
 ⟨some 7, .p (.un .not (.t 6)), none⟩,
 ⟨some 3, .p (.mv (.t 7)), none⟩]
def c343 : XFn := { np := 2, nt := 8, res := [.t 3], body := (.seq (.reg c343_r0) (.seq (.reg c343_r1) .ret)) }
def K343 (C : CRel) : Prop := ∀ (a0 : DIssued) (f1 : Nat) (k1 : List V) (is1 : DIssued → Option Bool) (hs1 : Shut k1) (hf1 : ∀ (x0 : DIssued) r, is1 x0 = some r → C f1 ⟨.agg [.int .i64 x0.serial, .int .i64 x0.to_, .str x0.subject, .bool x0.revoked] :: k1, []⟩ ⟨.bool r, [], []⟩) (r : Bool), g343 a0 is1 = some r → C 343 ⟨[.agg [.int .i64 a0.serial, .int .i64 a0.to_, .str a0.subject, .bool a0.revoked], .iptr [.clo f1 k1]], []⟩ ⟨.bool r, [], []⟩
theorem F343 {C : CRel}  (a0 : DIssued) (f1 : Nat) (k1 : List V) (is1 : DIssued → Option Bool) (hs1 : Shut k1) (hf1 : ∀ (x0 : DIssued) r, is1 x0 = some r → C f1 ⟨.agg [.int .i64 x0.serial, .int .i64 x0.to_, .str x0.subject, .bool x0.revoked] :: k1, []⟩ ⟨.bool r, [], []⟩) (r : Bool) (h0 : g343 a0 is1 = some r) : FnOK C c343 ⟨[.agg [.int .i64 a0.serial, .int .i64 a0.to_, .str a0.subject, .bool a0.revoked], .iptr [.clo f1 k1]], []⟩ ⟨.bool r, [], []⟩ := by
  refine fn_ (Nat.le_of_ble_eq_true rfl) ?_
  refine seq_ ?_
  refine reg_ ?_
  refine st (box_ rfl trivial rfl ?_)
  refine sw ⟨[(1, .iptr [.clo f1 k1]), (2, .ptr 128 0)], [(128, [.int .i64 a0.serial, .int .i64 a0.to_, .str a0.subject, .bool a0.revoked])], []⟩ (fg ⟨rfl, rfl, trivial⟩ ⟨rfl, trivial⟩) (mvc_ trivial ?_)
  refine oe_ ?_
  refine wk_ ⟨[(1, .iptr [.clo f1 k1]), (2, .ptr 128 0)], [(128, [.int .i64 a0.serial, .int .i64 a0.to_, .str a0.subject, .bool a0.revoked])], []⟩ (fg ⟨rfl, rfl, trivial⟩ ⟨rfl, trivial⟩) ?_
  refine seq_ ?_
  refine reg_ ?_
  refine st (c_ (cp_ ⟨trivial, trivial⟩ rfl (Nat.le_of_ble_eq_true rfl)) ?_)
  refine st (c_ (v := .agg [.int .i64 a0.serial, .int .i64 a0.to_, .str a0.subject, .bool a0.revoked]) (cp_ ⟨trivial, trivial⟩ rfl (Nat.le_of_ble_eq_true rfl)) ?_)
  obtain ⟨r1, e2, h0⟩ := bnd h0
  refine st (callv0_ (r := .bool r1) rfl false (hf1 _ r1 e2) ⟨trivial, trivial⟩ (and_ rfl hs1.2.2.1) (mapc1 rfl (hs1.2.1 _ _ _ _ _)) (fun _ => rfl) ?_)
  refine st (c_ (cp_ ⟨trivial, trivial⟩ rfl trivial) ?_)
  refine st (mv_ rfl trivial ?_)
  refine oe_ ?_
  refine wk_ ⟨[(3, .bool (!r1))], [], []⟩ (fgk (by kernel_rfl)) ?_
  obtain rfl := Option.some.inj h0
  exact rt_ (ret_ rfl rfl rfl rfl rfl trivial)

/- loop.example/g00149/impl.areAll[loop.example/g00149/impl.Issued] -/
def c285_r0 : List Ins := [⟨some 3, .box (.t 1), none⟩,
 ⟨some 4, .p (.mv (.c (.bool false))), none⟩]
def c285_r1 : List Ins := [⟨some 5, .p (.mv (.t 0)), none⟩,
 ⟨some 6, .p (.fn 343 [(.t 3)]), none⟩,
 ⟨some 7, .call 342 [(.t 5), (.t 6)], none⟩,
 ⟨some 8, .p (.un .not (.t 7)), none⟩,
 ⟨some 4, .p (.mv (.t 8)), none⟩]
def c285 : XFn := { np := 2, nt := 9, res := [.t 4], body := (.seq (.reg c285_r0) (.seq (.reg c285_r1) .ret)) }
def K285 (C : CRel) : Prop := ∀ (a0 : List DIssued) (f1 : Nat) (k1 : List V) (is1 : DIssued → Option Bool) (hs1 : Shut k1) (hf1 : ∀ (x0 : DIssued) r, is1 x0 = some r → C f1 ⟨.agg [.int .i64 x0.serial, .int .i64 x0.to_, .str x0.subject, .bool x0.revoked] :: k1, []⟩ ⟨.bool r, [], []⟩) (r : Bool), g285 a0 is1 = some r → C 285 ⟨[.lst 4 (a0.map eDIssued), .clo f1 k1], []⟩ ⟨.bool r, [], []⟩
theorem F285 {C : CRel} (H342 : K342 C) (H343 : K343 C) (a0 : List DIssued) (f1 : Nat) (k1 : List V) (is1 : DIssued → Option Bool) (hs1 : Shut k1) (hf1 : ∀ (x0 : DIssued) r, is1 x0 = some r → C f1 ⟨.agg [.int .i64 x0.serial, .int .i64 x0.to_, .str x0.subject, .bool x0.revoked] :: k1, []⟩ ⟨.bool r, [], []⟩) (r : Bool) (h0 : g285 a0 is1 = some r) : FnOK C c285 ⟨[.lst 4 (a0.map eDIssued), .clo f1 k1], []⟩ ⟨.bool r, [], []⟩ := by
  refine fn_ (Nat.le_of_ble_eq_true rfl) ?_
  refine seq_ ?_
  refine reg_ ?_
  refine st (box_ (dr_sh hs1) trivial rfl ?_)
  refine sw ⟨[(0, .lst 4 (a0.map eDIssued)), (3, .ptr 192 0)], [(192, [.clo f1 k1])], []⟩ (fg ⟨rfl, rfl, trivial⟩ ⟨rfl, trivial⟩) (mvc_ trivial ?_)
  refine oe_ ?_
  refine wk_ ⟨[(0, .lst 4 (a0.map eDIssued)), (3, .ptr 192 0)], [(192, [.clo f1 k1])], []⟩ (fg ⟨rfl, rfl, trivial⟩ ⟨rfl, trivial⟩) ?_
  refine seq_ ?_
  refine reg_ ?_
  refine st (mv_ rfl trivial ?_)
  refine st (c_ (cp_ ⟨trivial, trivial⟩ rfl rfl) ?_)
  obtain ⟨r1, e2, h0⟩ := bnd h0
  refine st (call0_ (r := .bool r1) false (H342 a0 343 [.iptr [.clo f1 k1]] (fun z343_0 => g343 z343_0 is1) (⟨fun _ _ _ _ _ => rfl, fun _ _ _ _ _ => rfl, rfl, fun _ _ _ n => by cases n <;> rfl, fun _ => rfl⟩) (fun z343_0 r h => H343 z343_0 f1 k1 is1 hs1 hf1 r h) r1 e2) ⟨trivial, trivial, trivial⟩ rfl (mapc1 rfl (mapc1 (congrArg (fun z => V.clo 343 [.iptr [.clo f1 z]]) (hs1.2.2.2.1 _ _ _ _)) rfl)) (fun _ => rfl) ?_)
  refine st (c_ (cp_ ⟨trivial, trivial⟩ rfl trivial) ?_)
  refine st (mv_ rfl trivial ?_)
  refine oe_ ?_
  refine wk_ ⟨[(4, .bool (!r1))], [], []⟩ (fgk (by kernel_rfl)) ?_
  obtain rfl := Option.some.inj h0
  exact rt_ (ret_ rfl rfl rfl rfl rfl trivial)

/- loop.example/g00149/impl.isTime -/
def c287_r0 : List Ins := [⟨some 2, .p (.mv (.c (.bool false))), none⟩]
def c287_r1 : List Ins := [⟨some 3, .p (.mv (.t 0)), none⟩,
 ⟨some 4, .call 63 [(.t 3), (.c (.int .i64 0)), (.c (.int .i64 253402300799))], none⟩,
 ⟨some 2, .p (.mv (.t 4)), none⟩]
def c287 : XFn := { np := 1, nt := 5, res := [.t 2], body := (.seq (.reg c287_r0) (.seq (.reg c287_r1) .ret)) }
def K287 (C : CRel) : Prop := ∀ (a0 : Int) (r : Bool), g287 a0 = some r → C 287 ⟨[.int .i64 a0], []⟩ ⟨.bool r, [], []⟩
theorem F287 {C : CRel} (H63 : K63 C) (a0 : Int) (r : Bool) (h0 : g287 a0 = some r) : FnOK C c287 ⟨[.int .i64 a0], []⟩ ⟨.bool r, [], []⟩ := by
  refine fn_ (Nat.le_of_ble_eq_true rfl) ?_
  refine seq_ ?_
  refine reg_ ?_
  refine st (mvc_ trivial ?_)
  refine oe_ ?_
  refine wk_ ⟨[(0, .int .i64 a0)], [], []⟩ (fgk (by kernel_rfl)) ?_
  refine seq_ ?_
  refine reg_ ?_
  refine st (mv_ rfl trivial ?_)
  obtain ⟨r1, e2, h0⟩ := bnd h0
  refine st (call0_ (r := .bool r1) false (H63 a0 0 253402300799 r1 e2) ⟨trivial, trivial, trivial, trivial⟩ rfl rfl (fun _ => rfl) ?_)
  refine st (mv_ rfl trivial ?_)
  refine oe_ ?_
  refine wk_ ⟨[(2, .bool r1)], [], []⟩ (fgk (by kernel_rfl)) ?_
  obtain rfl := Option.some.inj h0
  exact rt_ (ret_ rfl rfl rfl rfl rfl trivial)

/- loop.example/g00149/impl.AuthorityOK$1 -/
def c286_r0 : List Ins := [⟨some 1, .box (.t 0), none⟩,
 ⟨some 2, .p (.mv (.c (.bool false))), none⟩]
def c286_r1 : List Ins := [⟨some 3, .p (.fieldA (.t 1) 1), none⟩,
 ⟨some 4, .p (.load (.t 3) 1 false), none⟩,
 ⟨some 5, .call 287 [(.t 4)], none⟩,
 ⟨some 6, .p (.mv (.t 5)), none⟩,
 ⟨some 7, .p (.fieldA (.t 1) 2), some (6, true)⟩,
 ⟨some 8, .p (.load (.t 7) 1 false), some (6, true)⟩,
 ⟨some 9, .call 281 [(.t 8)], some (6, true)⟩,
 ⟨some 10, .pick (.t 6) (.t 9) (.c (.bool false)), none⟩,
 ⟨some 2, .p (.mv (.t 10)), none⟩]
def c286 : XFn := { np := 1, nt := 11, res := [.t 2], body := (.seq (.reg c286_r0) (.seq (.reg c286_r1) .ret)) }
def K286 (C : CRel) : Prop := ∀ (a0 : DIssued) (r : Bool), g286 a0 = some r → C 286 ⟨[.agg [.int .i64 a0.serial, .int .i64 a0.to_, .str a0.subject, .bool a0.revoked]], []⟩ ⟨.bool r, [], []⟩
theorem F286 {C : CRel} (H281 : K281 C) (H287 : K287 C) (a0 : DIssued) (r : Bool) (h0 : g286 a0 = some r) : FnOK C c286 ⟨[.agg [.int .i64 a0.serial, .int .i64 a0.to_, .str a0.subject, .bool a0.revoked]], []⟩ ⟨.bool r, [], []⟩ := by
  refine fn_ (Nat.le_of_ble_eq_true rfl) ?_
  refine seq_ ?_
  refine reg_ ?_
  refine st (box_ rfl trivial rfl ?_)
  refine st (mvc_ trivial ?_)
  refine oe_ ?_
  refine wk_ ⟨[(1, .ptr 64 0)], [(64, [.int .i64 a0.serial, .int .i64 a0.to_, .str a0.subject, .bool a0.revoked])], []⟩ (fgk (by kernel_rfl)) ?_
  refine seq_ ?_
  refine reg_ ?_
  refine st (c_ (cp_ ⟨trivial, trivial⟩ rfl trivial) ?_)
  refine st (c_ (cp_ ⟨trivial, trivial⟩ rfl (Nat.le_of_ble_eq_true rfl)) ?_)
  obtain ⟨r1, e2, h0⟩ := bnd h0
  refine st (call0_ (r := .bool r1) false (H287 a0.to_ r1 e2) ⟨trivial, trivial⟩ rfl rfl (fun _ => rfl) ?_)
  refine st (mv_ rfl trivial ?_)
  refine st (pg_ (u := .ptr 64 2) rfl (fun hg => (cp_ ⟨trivial, trivial⟩ rfl trivial)) ?_)
  refine st (pg_ (u := .str a0.subject) rfl (fun hg => (cp_ ⟨(fun _ => hg), trivial⟩ rfl (Nat.le_of_ble_eq_true rfl))) ?_)
  obtain ⟨r3, e4, h0⟩ := bnd h0
  refine sw ⟨[(6, .bool r1), (8, .may (r1 == true) (.str a0.subject))], [], []⟩ (fgk (by kernel_rfl)) (callg_ (r := .bool r3) rfl false (fun hg => H281 a0.subject r3 (ip hg e4)) ⟨(fun hg => hg), trivial⟩ (fun _ => rfl) (fun _ => rfl) (fun _ => rfl) (fun h => nomatch h) ?_)
  refine st (pick_ rfl rfl rfl (fun h => eqt h) trivial rfl ?_)
  refine st (mv_ rfl trivial ?_)
  refine oe_ ?_
  refine wk_ ⟨[(2, .bool (bif r1 then r3 else false))], [], []⟩ (fgk (by kernel_rfl)) ?_
  obtain rfl := Option.some.inj h0
  exact rt_ (ret_ rfl rfl rfl rfl rfl trivial)

/- loop.example/g00149/impl.AuthorityOK -/
def c226_r0 : List Ins := [⟨some 1, .box (.t 0), none⟩,
 ⟨some 2, .p (.mv (.c (.bool false))), none⟩]
def c226_r1 : DP := (.take ⟨some 3, .p (.fieldA (.t 1) 0), none⟩
 (.take ⟨some 4, .p (.load (.t 3) 1 false), none⟩
 (.alt [] ⟨some 5, .call 281 [(.t 4)], none⟩
 (.take ⟨some 6, .p (.mv (.t 5)), none⟩
 (.take ⟨some 7, .p (.fieldA (.t 1) 1), some (6, true)⟩
 (.take ⟨some 8, .p (.load (.t 7) 1 false), some (6, true)⟩
 (.alt [] ⟨some 9, .call 282 [(.t 8)], some (6, true)⟩
 (.take ⟨some 10, .pick (.t 6) (.t 9) (.c (.bool false)), none⟩
 (.take ⟨some 11, .p (.mv (.t 10)), none⟩
 (.take ⟨some 12, .p (.fieldA (.t 1) 2), some (11, true)⟩
 (.take ⟨some 13, .p (.load (.t 12) 1 false), some (11, true)⟩
 (.alt [] ⟨some 14, .call 58 [(.t 13)], some (11, true)⟩
 (.take ⟨some 15, .pick (.t 11) (.t 14) (.c (.bool false)), none⟩
 (.take ⟨some 16, .p (.mv (.t 15)), none⟩
 (.take ⟨some 17, .p (.fieldA (.t 1) 3), some (16, true)⟩
 (.take ⟨some 18, .p (.load (.t 17) 1 false), some (16, true)⟩
 (.alt [] ⟨some 19, .call 58 [(.t 18)], some (16, true)⟩
 (.take ⟨some 20, .pick (.t 16) (.t 19) (.c (.bool false)), none⟩
 (.take ⟨some 21, .p (.mv (.t 20)), none⟩
 (.take ⟨some 22, .p (.fieldA (.t 1) 4), some (21, true)⟩
 (.take ⟨some 23, .p (.load (.t 22) 1 false), some (21, true)⟩
 (.take ⟨some 24, .p (.lenS (.t 23)), some (21, true)⟩
 (.take ⟨some 25, .p (.bin .leq (.t 24) (.c (.int .i64 40))), some (21, true)⟩
 (.take ⟨some 26, .pick (.t 21) (.t 25) (.c (.bool false)), none⟩
 (.take ⟨some 27, .p (.mv (.t 26)), none⟩
 (.take ⟨some 28, .p (.fieldA (.t 1) 4), some (27, true)⟩
 (.take ⟨some 29, .p (.load (.t 28) 1 false), some (27, true)⟩
 (.alt [] ⟨some 30, .call 283 [(.t 29)], some (27, true)⟩
 (.take ⟨some 31, .pick (.t 27) (.t 30) (.c (.bool false)), none⟩
 (.take ⟨some 32, .p (.mv (.t 31)), none⟩
 (.take ⟨some 33, .p (.fieldA (.t 1) 5), some (32, true)⟩
 (.take ⟨some 34, .p (.load (.t 33) 1 false), some (32, true)⟩
 (.alt [] ⟨some 35, .call 63 [(.t 34), (.c (.int .i64 1)), (.c (.int .i64 253402300799))], some (32, true)⟩
 (.take ⟨some 36, .pick (.t 32) (.t 35) (.c (.bool false)), none⟩
 (.take ⟨some 37, .p (.mv (.t 36)), none⟩
 (.take ⟨some 38, .p (.fieldA (.t 1) 6), some (37, true)⟩
 (.take ⟨some 39, .p (.load (.t 38) 1 false), some (37, true)⟩
 (.take ⟨some 40, .p (.len (.t 39)), some (37, true)⟩
 (.take ⟨some 41, .p (.bin .leq (.t 40) (.c (.int .i64 40))), some (37, true)⟩
 (.take ⟨some 42, .pick (.t 37) (.t 41) (.c (.bool false)), none⟩
 (.take ⟨some 43, .p (.mv (.t 42)), none⟩
 (.take ⟨some 44, .p (.fieldA (.t 1) 6), some (43, true)⟩
 (.take ⟨some 45, .p (.load (.t 44) 1 false), some (43, true)⟩
 (.take ⟨some 47, .p (.fieldA (.t 1) 2), some (43, true)⟩
 (.take ⟨some 48, .p (.load (.t 47) 1 false), some (43, true)⟩
 (.take ⟨some 49, .p (.bin .sub (.t 48) (.c (.int .i64 1))), some (43, true)⟩
 (.alt [⟨some 49, .p (.bin .sub (.t 48) (.c (.int .i64 1))), some (43, true)⟩, ⟨some 48, .p (.load (.t 47) 1 false), some (43, true)⟩, ⟨some 47, .p (.fieldA (.t 1) 2), some (43, true)⟩] ⟨some 46, .call 284 [(.t 45)], some (43, true)⟩
 (.alt [] ⟨some 50, .call 59 [(.t 46), (.c (.int .i64 1)), (.t 49)], some (43, true)⟩
 (.take ⟨some 51, .pick (.t 43) (.t 50) (.c (.bool false)), none⟩
 (.take ⟨some 52, .p (.mv (.t 51)), none⟩
 (.take ⟨some 53, .p (.fieldA (.t 1) 6), some (52, true)⟩
 (.take ⟨some 54, .p (.load (.t 53) 1 false), some (52, true)⟩
 (.alt [] ⟨some 55, .call 285 [(.t 54), (.c (.clo 286 []))], some (52, true)⟩
 (.take ⟨some 56, .pick (.t 52) (.t 55) (.c (.bool false)), none⟩
 (.take ⟨some 2, .p (.mv (.t 56)), none⟩
 .fin))
 .stop)))))
 .stop)
 .stop))))))))))))))
 .stop)))))
 .stop)))))))))))
 .stop)))))
 .stop)))))
 .stop))))
 .stop)))
def c226 : XFn := { np := 1, nt := 57, res := [.t 2], body := (.seq (.reg c226_r0) (.seq (.draw c226_r1) .ret)) }
def K226 (C : CRel) : Prop := ∀ (a0 : DAuthority) (r : Bool), g226 a0 = some r → C 226 ⟨[.agg [.str a0.name_, .lst 1 (a0.seed.map eU8), .int .i64 a0.serial, .int .i64 a0.number, .str a0.suffix, .int .i64 a0.most, .lst 4 (a0.list_.map eDIssued)]], []⟩ ⟨.bool r, [], []⟩
theorem F226 {C : CRel} (H58 : K58 C) (H59 : K59 C) (H63 : K63 C) (H281 : K281 C) (H282 : K282 C) (H283 : K283 C) (H284 : K284 C) (H285 : K285 C) (H286 : K286 C) (a0 : DAuthority) (r : Bool) (h0 : g226 a0 = some r) : FnOK C c226 ⟨[.agg [.str a0.name_, .lst 1 (a0.seed.map eU8), .int .i64 a0.serial, .int .i64 a0.number, .str a0.suffix, .int .i64 a0.most, .lst 4 (a0.list_.map eDIssued)]], []⟩ ⟨.bool r, [], []⟩ := by
  refine fn_ (Nat.le_of_ble_eq_true rfl) ?_
  refine seq_ ?_
  refine reg_ ?_
  refine st (box_ rfl trivial rfl ?_)
  refine st (mvc_ trivial ?_)
  refine oe_ ?_
  refine wk_ ⟨[(1, .ptr 64 0)], [(64, [.str a0.name_, .lst 1 (a0.seed.map eU8), .int .i64 a0.serial, .int .i64 a0.number, .str a0.suffix, .int .i64 a0.most, .lst 4 (a0.list_.map eDIssued)])], []⟩ (fgk (by kernel_rfl)) ?_
  refine seq_ ?_
  obtain ⟨r1, e2, h0⟩ := bnd h0
  obtain ⟨r3, e4, h0⟩ := bnd h0
  obtain ⟨r5, e6, h0⟩ := bnd h0
  obtain ⟨r7, e8, h0⟩ := bnd h0
  obtain ⟨r9, e10, h0⟩ := bnd h0
  obtain ⟨r11, e12, h0⟩ := bnd h0
  obtain ⟨r13, e14, h0⟩ := bnd h0
  obtain ⟨r15, e16, h0⟩ := bnd h0
  obtain ⟨r17, e18, h0⟩ := bnd h0
  refine draw_ ?_
  refine dtake trivial (c_ (cp_ ⟨trivial, trivial⟩ rfl trivial) ?_)
  refine ⟨trivial, ?_⟩
  refine dtake trivial (c_ (cp_ ⟨trivial, trivial⟩ rfl (Nat.le_of_ble_eq_true rfl)) ?_)
  refine ⟨trivial, ?_⟩
  refine dalt (call0_ (r := .bool r1) false (H281 a0.name_ r1 e2) ⟨trivial, trivial⟩ rfl rfl (fun _ => rfl) ?_) dstop
  refine dkw ⟨[(1, .ptr 64 0), (5, .bool r1)], [(64, [.str a0.name_, .lst 1 (a0.seed.map eU8), .int .i64 a0.serial, .int .i64 a0.number, .str a0.suffix, .int .i64 a0.most, .lst 4 (a0.list_.map eDIssued)])], []⟩ (fgk (by kernel_rfl)) ⟨[], trivial, trivial, ?_⟩
  refine dtake trivial (mv_ rfl trivial ?_)
  refine ⟨trivial, ?_⟩
  refine dtake trivial (pg_ (u := .ptr 64 1) rfl (fun hg => (cp_ ⟨trivial, trivial⟩ rfl trivial)) ?_)
  refine ⟨trivial, ?_⟩
  refine dtake trivial (pg_ (u := .lst 1 (a0.seed.map eU8)) rfl (fun hg => (cp_ ⟨(fun _ => hg), trivial⟩ rfl (Nat.le_of_ble_eq_true rfl))) ?_)
  refine ⟨trivial, ?_⟩
  refine dalt (callg_ (r := .bool r3) rfl false (fun hg => H282 a0.seed r3 (ip hg e4)) ⟨(fun hg => hg), trivial⟩ (fun _ => rfl) (fun _ => rfl) (fun _ => rfl) (fun h => nomatch h) ?_) dstop
  refine dkw ⟨[(1, .ptr 64 0), (6, .bool r1), (9, .may (r1 == true) (.bool r3))], [(64, [.str a0.name_, .lst 1 (a0.seed.map eU8), .int .i64 a0.serial, .int .i64 a0.number, .str a0.suffix, .int .i64 a0.most, .lst 4 (a0.list_.map eDIssued)])], []⟩ (fgk (by kernel_rfl)) ⟨[], trivial, trivial, ?_⟩
  refine dtake trivial (pick_ rfl rfl rfl (fun h => eqt h) trivial rfl ?_)
  refine ⟨trivial, ?_⟩
  refine dtake trivial (mv_ rfl trivial ?_)
  refine ⟨trivial, ?_⟩
  refine dtake trivial (pg_ (u := .ptr 64 2) rfl (fun hg => (cp_ ⟨trivial, trivial⟩ rfl trivial)) ?_)
  refine ⟨trivial, ?_⟩
  refine dtake trivial (pg_ (u := .int .i64 a0.serial) rfl (fun hg => (cp_ ⟨(fun _ => hg), trivial⟩ rfl (Nat.le_of_ble_eq_true rfl))) ?_)
  refine ⟨trivial, ?_⟩
  refine dalt (callg_ (r := .bool r5) rfl false (fun hg => H58 a0.serial r5 (ip hg e6)) ⟨(fun hg => hg), trivial⟩ (fun _ => rfl) (fun _ => rfl) (fun _ => rfl) (fun h => nomatch h) ?_) dstop
  refine dkw ⟨[(1, .ptr 64 0), (11, .bool (bif r1 then r3 else false)), (14, .may ((bif r1 then r3 else false) == true) (.bool r5))], [(64, [.str a0.name_, .lst 1 (a0.seed.map eU8), .int .i64 a0.serial, .int .i64 a0.number, .str a0.suffix, .int .i64 a0.most, .lst 4 (a0.list_.map eDIssued)])], []⟩ (fgk (by kernel_rfl)) ⟨[], trivial, trivial, ?_⟩
  refine dtake trivial (pick_ rfl rfl rfl (fun h => eqt h) trivial rfl ?_)
  refine ⟨trivial, ?_⟩
  refine dtake trivial (mv_ rfl trivial ?_)
  refine ⟨trivial, ?_⟩
  refine dtake trivial (pg_ (u := .ptr 64 3) rfl (fun hg => (cp_ ⟨trivial, trivial⟩ rfl trivial)) ?_)
  refine ⟨trivial, ?_⟩
  refine dtake trivial (pg_ (u := .int .i64 a0.number) rfl (fun hg => (cp_ ⟨(fun _ => hg), trivial⟩ rfl (Nat.le_of_ble_eq_true rfl))) ?_)
  refine ⟨trivial, ?_⟩
  refine dalt (callg_ (r := .bool r7) rfl false (fun hg => H58 a0.number r7 (ip hg e8)) ⟨(fun hg => hg), trivial⟩ (fun _ => rfl) (fun _ => rfl) (fun _ => rfl) (fun h => nomatch h) ?_) dstop
  refine dkw ⟨[(1, .ptr 64 0), (16, .bool (bif (bif r1 then r3 else false) then r5 else false)), (19, .may ((bif (bif r1 then r3 else false) then r5 else false) == true) (.bool r7))], [(64, [.str a0.name_, .lst 1 (a0.seed.map eU8), .int .i64 a0.serial, .int .i64 a0.number, .str a0.suffix, .int .i64 a0.most, .lst 4 (a0.list_.map eDIssued)])], []⟩ (fgk (by kernel_rfl)) ⟨[], trivial, trivial, ?_⟩
  refine dtake trivial (pick_ rfl rfl rfl (fun h => eqt h) trivial rfl ?_)
  refine ⟨trivial, ?_⟩
  refine dtake trivial (mv_ rfl trivial ?_)
  refine ⟨trivial, ?_⟩
  refine dtake trivial (pg_ (u := .ptr 64 4) rfl (fun hg => (cp_ ⟨trivial, trivial⟩ rfl trivial)) ?_)
  refine ⟨trivial, ?_⟩
  refine dtake trivial (pg_ (u := .str a0.suffix) rfl (fun hg => (cp_ ⟨(fun _ => hg), trivial⟩ rfl (Nat.le_of_ble_eq_true rfl))) ?_)
  refine ⟨trivial, ?_⟩
  refine dtake trivial (pg_ (u := .int .i64 (a0.suffix.length : Int)) rfl (fun hg => (cp_ ⟨(fun _ => hg), trivial⟩ rfl trivial)) ?_)
  refine ⟨trivial, ?_⟩
  refine dtake trivial (pg_ (u := .bool (decide ((a0.suffix.length : Int) ≤ 40))) rfl (fun hg => (cp_ ⟨(fun _ => hg), trivial, trivial⟩ rfl trivial)) ?_)
  refine ⟨trivial, ?_⟩
  refine dtake trivial (pick_ rfl rfl rfl (fun h => eqt h) trivial rfl ?_)
  refine ⟨trivial, ?_⟩
  refine dtake trivial (mv_ rfl trivial ?_)
  refine ⟨trivial, ?_⟩
  refine dtake trivial (pg_ (u := .ptr 64 4) rfl (fun hg => (cp_ ⟨trivial, trivial⟩ rfl trivial)) ?_)
  refine ⟨trivial, ?_⟩
  refine dtake trivial (pg_ (u := .str a0.suffix) rfl (fun hg => (cp_ ⟨(fun _ => hg), trivial⟩ rfl (Nat.le_of_ble_eq_true rfl))) ?_)
  refine ⟨trivial, ?_⟩
  refine dalt (callg_ (r := .bool r9) rfl false (fun hg => H283 a0.suffix r9 (ip hg e10)) ⟨(fun hg => hg), trivial⟩ (fun _ => rfl) (fun _ => rfl) (fun _ => rfl) (fun h => nomatch h) ?_) dstop
  refine dkw ⟨[(1, .ptr 64 0), (27, .bool (bif (bif (bif (bif r1 then r3 else false) then r5 else false) then r7 else false) then (decide ((a0.suffix.length : Int) ≤ 40)) else false)), (30, .may ((bif (bif (bif (bif r1 then r3 else false) then r5 else false) then r7 else false) then (decide ((a0.suffix.length : Int) ≤ 40)) else false) == true) (.bool r9))], [(64, [.str a0.name_, .lst 1 (a0.seed.map eU8), .int .i64 a0.serial, .int .i64 a0.number, .str a0.suffix, .int .i64 a0.most, .lst 4 (a0.list_.map eDIssued)])], []⟩ (fgk (by kernel_rfl)) ⟨[], trivial, trivial, ?_⟩
  refine dtake trivial (pick_ rfl rfl rfl (fun h => eqt h) trivial rfl ?_)
  refine ⟨trivial, ?_⟩
  refine dtake trivial (mv_ rfl trivial ?_)
  refine ⟨trivial, ?_⟩
  refine dtake trivial (pg_ (u := .ptr 64 5) rfl (fun hg => (cp_ ⟨trivial, trivial⟩ rfl trivial)) ?_)
  refine ⟨trivial, ?_⟩
  refine dtake trivial (pg_ (u := .int .i64 a0.most) rfl (fun hg => (cp_ ⟨(fun _ => hg), trivial⟩ rfl (Nat.le_of_ble_eq_true rfl))) ?_)
  refine ⟨trivial, ?_⟩
  refine dalt (callg_ (r := .bool r11) rfl false (fun hg => H63 a0.most 1 253402300799 r11 (ip hg e12)) ⟨(fun hg => hg), trivial, trivial, trivial⟩ (fun _ => rfl) (fun _ => rfl) (fun _ => rfl) (fun h => nomatch h) ?_) dstop
  refine dkw ⟨[(1, .ptr 64 0), (32, .bool (bif (bif (bif (bif (bif r1 then r3 else false) then r5 else false) then r7 else false) then (decide ((a0.suffix.length : Int) ≤ 40)) else false) then r9 else false)), (35, .may ((bif (bif (bif (bif (bif r1 then r3 else false) then r5 else false) then r7 else false) then (decide ((a0.suffix.length : Int) ≤ 40)) else false) then r9 else false) == true) (.bool r11))], [(64, [.str a0.name_, .lst 1 (a0.seed.map eU8), .int .i64 a0.serial, .int .i64 a0.number, .str a0.suffix, .int .i64 a0.most, .lst 4 (a0.list_.map eDIssued)])], []⟩ (fgk (by kernel_rfl)) ⟨[], trivial, trivial, ?_⟩
  refine dtake trivial (pick_ rfl rfl rfl (fun h => eqt h) trivial rfl ?_)
  refine ⟨trivial, ?_⟩
  refine dtake trivial (mv_ rfl trivial ?_)
  refine ⟨trivial, ?_⟩
  refine dtake trivial (pg_ (u := .ptr 64 6) rfl (fun hg => (cp_ ⟨trivial, trivial⟩ rfl trivial)) ?_)
  refine ⟨trivial, ?_⟩
  refine dtake trivial (pg_ (u := .lst 4 (a0.list_.map eDIssued)) rfl (fun hg => (cp_ ⟨(fun _ => hg), trivial⟩ rfl (Nat.le_of_ble_eq_true rfl))) ?_)
  refine ⟨trivial, ?_⟩
  refine dtake trivial (pg_ (u := .int .i64 (a0.list_.length : Int)) rfl (fun hg => (clenL (e := eDIssued) (l0 := a0.list_) rfl rfl (fun _ => hg))) ?_)
  refine ⟨trivial, ?_⟩
  refine dtake trivial (pg_ (u := .bool (decide ((a0.list_.length : Int) ≤ 40))) rfl (fun hg => (cp_ ⟨(fun _ => hg), trivial, trivial⟩ rfl trivial)) ?_)
  refine ⟨trivial, ?_⟩
  refine dtake trivial (pick_ rfl rfl rfl (fun h => eqt h) trivial rfl ?_)
  refine ⟨trivial, ?_⟩
  refine dtake trivial (mv_ rfl trivial ?_)
  refine ⟨trivial, ?_⟩
  refine dtake trivial (pg_ (u := .ptr 64 6) rfl (fun hg => (cp_ ⟨trivial, trivial⟩ rfl trivial)) ?_)
  refine ⟨trivial, ?_⟩
  refine dtake trivial (pg_ (u := .lst 4 (a0.list_.map eDIssued)) rfl (fun hg => (cp_ ⟨(fun _ => hg), trivial⟩ rfl (Nat.le_of_ble_eq_true rfl))) ?_)
  refine ⟨trivial, ?_⟩
  refine dtake trivial (pg_ (u := .ptr 64 2) rfl (fun hg => (cp_ ⟨trivial, trivial⟩ rfl trivial)) ?_)
  refine ⟨trivial, ?_⟩
  refine dtake trivial (pg_ (u := .int .i64 a0.serial) rfl (fun hg => (cp_ ⟨(fun _ => hg), trivial⟩ rfl (Nat.le_of_ble_eq_true rfl))) ?_)
  refine ⟨trivial, ?_⟩
  refine dtake trivial (pg_ (u := .int .i64 (IntKind.i64.wrap (a0.serial - 1))) rfl (fun hg => (cp_ ⟨(fun _ => hg), trivial, trivial⟩ rfl trivial)) ?_)
  refine ⟨trivial, ?_⟩
  refine dalt (callg_ (r := .own 0 0 1 (r13.map eI)) rfl false (fun hg => H284 a0.list_ r13 (ip hg e14)) ⟨(fun hg => hg), trivial⟩ (fun _ => rfl) (fun _ => rfl) (fun _ => (and_ (fl1 (fun _ => rfl)) rfl)) (fun h => nomatch h) ?_) dstop
  refine dkw ⟨[(1, .ptr 64 0), (43, .bool (bif (bif (bif (bif (bif (bif (bif r1 then r3 else false) then r5 else false) then r7 else false) then (decide ((a0.suffix.length : Int) ≤ 40)) else false) then r9 else false) then r11 else false) then (decide ((a0.list_.length : Int) ≤ 40)) else false)), (46, .may ((bif (bif (bif (bif (bif (bif (bif r1 then r3 else false) then r5 else false) then r7 else false) then (decide ((a0.suffix.length : Int) ≤ 40)) else false) then r9 else false) then r11 else false) then (decide ((a0.list_.length : Int) ≤ 40)) else false) == true) (.lst 1 (r13.map eI))), (47, .may ((bif (bif (bif (bif (bif (bif (bif r1 then r3 else false) then r5 else false) then r7 else false) then (decide ((a0.suffix.length : Int) ≤ 40)) else false) then r9 else false) then r11 else false) then (decide ((a0.list_.length : Int) ≤ 40)) else false) == true) (.ptr 64 2)), (48, .may ((bif (bif (bif (bif (bif (bif (bif r1 then r3 else false) then r5 else false) then r7 else false) then (decide ((a0.suffix.length : Int) ≤ 40)) else false) then r9 else false) then r11 else false) then (decide ((a0.list_.length : Int) ≤ 40)) else false) == true) (.int .i64 a0.serial)), (49, .may ((bif (bif (bif (bif (bif (bif (bif r1 then r3 else false) then r5 else false) then r7 else false) then (decide ((a0.suffix.length : Int) ≤ 40)) else false) then r9 else false) then r11 else false) then (decide ((a0.list_.length : Int) ≤ 40)) else false) == true) (.int .i64 (IntKind.i64.wrap (a0.serial - 1))))], [(64, [.str a0.name_, .lst 1 (a0.seed.map eU8), .int .i64 a0.serial, .int .i64 a0.number, .str a0.suffix, .int .i64 a0.most, .lst 4 (a0.list_.map eDIssued)])], []⟩ (fgk (by kernel_rfl)) ⟨[], ⟨⟨.inl trivial, (againg (v := .int .i64 (IntKind.i64.wrap (a0.serial - 1))) rfl (fun hg => (cp_ ⟨(fun _ => hg), trivial, trivial⟩ rfl trivial)) rfl)⟩, ⟨.inl trivial, (againg (v := .int .i64 a0.serial) rfl (fun hg => (cp_ ⟨(fun _ => hg), trivial⟩ rfl (Nat.le_of_ble_eq_true rfl))) rfl)⟩, ⟨.inl trivial, (againg (v := .ptr 64 2) rfl (fun hg => (cp_ ⟨trivial, trivial⟩ rfl trivial)) rfl)⟩, trivial⟩, trivial, ?_⟩
  refine dalt (callg_ (r := .bool r15) rfl false (fun hg => H59 r13 1 (IntKind.i64.wrap (a0.serial - 1)) r15 (ip hg e16)) ⟨(fun hg => hg), trivial, (fun hg => hg), trivial⟩ (fun _ => rfl) (fun _ => rfl) (fun _ => rfl) (fun h => nomatch h) ?_) dstop
  refine dkw ⟨[(1, .ptr 64 0), (43, .bool (bif (bif (bif (bif (bif (bif (bif r1 then r3 else false) then r5 else false) then r7 else false) then (decide ((a0.suffix.length : Int) ≤ 40)) else false) then r9 else false) then r11 else false) then (decide ((a0.list_.length : Int) ≤ 40)) else false)), (50, .may ((bif (bif (bif (bif (bif (bif (bif r1 then r3 else false) then r5 else false) then r7 else false) then (decide ((a0.suffix.length : Int) ≤ 40)) else false) then r9 else false) then r11 else false) then (decide ((a0.list_.length : Int) ≤ 40)) else false) == true) (.bool r15))], [(64, [.str a0.name_, .lst 1 (a0.seed.map eU8), .int .i64 a0.serial, .int .i64 a0.number, .str a0.suffix, .int .i64 a0.most, .lst 4 (a0.list_.map eDIssued)])], []⟩ (fgk (by kernel_rfl)) ⟨[], trivial, trivial, ?_⟩
  refine dtake trivial (pick_ rfl rfl rfl (fun h => eqt h) trivial rfl ?_)
  refine ⟨trivial, ?_⟩
  refine dtake trivial (mv_ rfl trivial ?_)
  refine ⟨trivial, ?_⟩
  refine dtake trivial (pg_ (u := .ptr 64 6) rfl (fun hg => (cp_ ⟨trivial, trivial⟩ rfl trivial)) ?_)
  refine ⟨trivial, ?_⟩
  refine dtake trivial (pg_ (u := .lst 4 (a0.list_.map eDIssued)) rfl (fun hg => (cp_ ⟨(fun _ => hg), trivial⟩ rfl (Nat.le_of_ble_eq_true rfl))) ?_)
  refine ⟨trivial, ?_⟩
  refine dalt (callg_ (r := .bool r17) rfl false (fun hg => H285 a0.list_ 286 [] (fun z286_0 => g286 z286_0) (⟨fun _ _ _ _ _ => rfl, fun _ _ _ _ _ => rfl, rfl, fun _ _ _ n => by cases n <;> rfl, fun _ => rfl⟩) (fun z286_0 r h => H286 z286_0 r h) r17 (ip hg e18)) ⟨(fun hg => hg), trivial, trivial⟩ (fun _ => rfl) (fun _ => rfl) (fun _ => rfl) (fun h => nomatch h) ?_) dstop
  refine dkw ⟨[(52, .bool (bif (bif (bif (bif (bif (bif (bif (bif r1 then r3 else false) then r5 else false) then r7 else false) then (decide ((a0.suffix.length : Int) ≤ 40)) else false) then r9 else false) then r11 else false) then (decide ((a0.list_.length : Int) ≤ 40)) else false) then r15 else false)), (55, .may ((bif (bif (bif (bif (bif (bif (bif (bif r1 then r3 else false) then r5 else false) then r7 else false) then (decide ((a0.suffix.length : Int) ≤ 40)) else false) then r9 else false) then r11 else false) then (decide ((a0.list_.length : Int) ≤ 40)) else false) then r15 else false) == true) (.bool r17))], [], []⟩ (fgk (by kernel_rfl)) ⟨[], trivial, trivial, ?_⟩
  refine dtake trivial (pick_ rfl rfl rfl (fun h => eqt h) trivial rfl ?_)
  refine ⟨trivial, ?_⟩
  refine dtake trivial (mv_ rfl trivial ?_)
  refine ⟨trivial, ?_⟩
  refine dfin ?_
  obtain ⟨v19, e20, h0⟩ := bl h0
  refine wk_ ⟨[(2, .bool v19)], [], []⟩ (fgk (by subst e20; kernel_rfl)) ?_
  obtain rfl := Option.some.inj h0
  exact rt_ (ret_ rfl rfl rfl rfl rfl trivial)

/- slices.DeleteFunc[[]loop.example/g00149/impl.Issued,loop.example/g00149/impl.Issued] -/
def c348_r0 : List Ins := [⟨some 4, .nilS 4, none⟩]
def c348_r1 : List Ins := [⟨some 8, .p (.mv (.t 0)), none⟩,
 ⟨some 9, .p (.mv (.t 1)), none⟩,
 ⟨some 10, .call 371 [(.t 8), (.t 9)], none⟩,
 ⟨some 5, .p (.mv (.t 10)), none⟩]
def c348_r2 : List Ins := [⟨some 11, .p (.mv (.t 5)), none⟩,
 ⟨some 12, .p (.bin .eql (.t 11) (.c (.int .i64 (-1)))), none⟩]
def c348_r3 : List Ins := [⟨some 13, .p (.mv (.t 0)), none⟩,
 ⟨some 4, .p (.mv (.t 13)), none⟩]
def c348_r4 : List Ins := [⟨some 14, .p (.mv (.t 5)), none⟩,
 ⟨some 15, .p (.bin .add (.t 14) (.c (.int .i64 1))), none⟩,
 ⟨some 6, .p (.mv (.t 15)), none⟩]
def c348_r5 : List Ins := [⟨some 16, .p (.mv (.t 6)), none⟩,
 ⟨some 17, .p (.mv (.t 0)), none⟩,
 ⟨some 18, .p (.len (.t 17)), none⟩,
 ⟨some 19, .p (.bin .lss (.t 16) (.t 18)), none⟩]
def c348_r6 : List Ins := [⟨some 22, .p (.mv (.t 0)), none⟩,
 ⟨some 23, .p (.mv (.t 6)), none⟩,
 ⟨some 24, .p (.idxA (.t 22) (.t 23) 4), none⟩,
 ⟨some 25, .p (.load (.t 24) 4 true), none⟩,
 ⟨some 7, .alloc [(.int .i64 0), (.int .i64 0), (.str []), (.bool false)], none⟩,
 ⟨none, .store (.t 7) (.t 25) 4, none⟩]
def c348_r7 : List Ins := [⟨some 26, .p (.mv (.t 1)), none⟩,
 ⟨some 27, .p (.load (.t 7) 4 true), none⟩,
 ⟨some 28, .callv (.t 26) [(.t 27)], none⟩,
 ⟨some 29, .p (.un .not (.t 28)), none⟩]
def c348_r8 : List Ins := [⟨some 30, .p (.mv (.t 0)), none⟩,
 ⟨some 31, .p (.mv (.t 5)), none⟩,
 ⟨some 32, .p (.load (.t 7) 4 true), none⟩,
 ⟨some 33, .p (.idxA (.t 30) (.t 31) 4), none⟩,
 ⟨none, .store (.t 33) (.t 32) 4, none⟩]
def c348_r9 : List Ins := [⟨some 34, .p (.mv (.t 5)), none⟩,
 ⟨some 35, .p (.bin .add (.t 34) (.c (.int .i64 1))), none⟩,
 ⟨some 5, .p (.mv (.t 35)), none⟩]
def c348_r10 : List Ins := [⟨some 20, .p (.mv (.t 6)), none⟩,
 ⟨some 21, .p (.bin .add (.t 20) (.c (.int .i64 1))), none⟩,
 ⟨some 6, .p (.mv (.t 21)), none⟩]
def c348_l0 : IR := (.seq (.seq (.reg c348_r5) (.ite (.t 19) .skip (.exit 0))) (.seq (.block 1 (.seq (.reg c348_r6) (.seq (.reg c348_r7) (.ite (.t 29) (.seq (.reg c348_r8) (.reg c348_r9)) .skip)))) (.reg c348_r10)))
def c348_r11 : List Ins := [⟨some 36, .p (.mv (.t 0)), none⟩,
 ⟨some 37, .p (.mv (.t 5)), none⟩,
 ⟨some 38, .p (.slice (.t 36) (some (.t 37)) none 4), none⟩,
 ⟨none, .clear 4 [(.int .i64 0), (.int .i64 0), (.str []), (.bool false)] (.t 38), none⟩]
def c348_r12 : List Ins := [⟨some 39, .p (.mv (.t 0)), none⟩,
 ⟨some 40, .p (.mv (.t 5)), none⟩,
 ⟨some 41, .p (.slice (.t 39) none (some (.t 40)) 4), none⟩,
 ⟨some 4, .p (.mv (.t 41)), none⟩]
def c348 : XFn := { np := 2, nt := 42, res := [.t 4], body := (.seq (.reg c348_r0) (.seq (.reg c348_r1) (.seq (.seq (.reg c348_r2) (.ite (.t 12) (.seq (.reg c348_r3) .ret) .skip)) (.seq (.seq (.reg c348_r4) (.block 0 (.loop c348_l0))) (.seq (.reg c348_r11) (.seq (.reg c348_r12) .ret)))))) }
def K348 (C : CRel) : Prop := ∀ (a0 : List DIssued) (f1 : Nat) (k1 : List V) (is1 : DIssued → Option Bool) (hs1 : Shut k1) (hf1 : ∀ (x0 : DIssued) r, is1 x0 = some r → C f1 ⟨.agg [.int .i64 x0.serial, .int .i64 x0.to_, .str x0.subject, .bool x0.revoked] :: k1, []⟩ ⟨.bool r, [], []⟩) (r : (List DIssued)), g348 a0 is1 = some r → C 348 ⟨[.own 1024000 0 4 (a0.map eDIssued), .clo f1 k1], []⟩ ⟨.own 0 0 4 (r.map eDIssued), [], []⟩
theorem F348 {C : CRel} (H371 : K371 C) (a0 : List DIssued) (f1 : Nat) (k1 : List V) (is1 : DIssued → Option Bool) (hs1 : Shut k1) (hf1 : ∀ (x0 : DIssued) r, is1 x0 = some r → C f1 ⟨.agg [.int .i64 x0.serial, .int .i64 x0.to_, .str x0.subject, .bool x0.revoked] :: k1, []⟩ ⟨.bool r, [], []⟩) (r : (List DIssued)) (h0 : g348 a0 is1 = some r) : FnOK C c348 ⟨[.own 1024000 0 4 (a0.map eDIssued), .clo f1 k1], []⟩ ⟨.own 0 0 4 (r.map eDIssued), [], []⟩ := by
  refine fn_ (Nat.le_of_ble_eq_true rfl) ?_
  refine seq_ ?_
  refine reg_ ?_
  refine st (nilS_ ?_)
  refine oe_ ?_
  refine wk_ ⟨[(0, .own 1024000 0 4 (a0.map eDIssued)), (1, .clo f1 k1)], [], []⟩ (fg ⟨rfl, (congrArg (fun z => some z) (dr_sh hs1)), trivial⟩ trivial) ?_
  refine seq_ ?_
  refine reg_ ?_
  refine st (mv_ rfl trivial ?_)
  refine st (mv_ rfl trivial ?_)
  obtain ⟨r1, e2, h0⟩ := bnd h0
  refine st (call0_ (r := .int .i64 r1) false (H371 a0 f1 k1 is1 hs1 hf1 r1 e2) ⟨trivial, trivial, trivial⟩ rfl (mapc1 rfl (mapc1 (clo_sh hs1) rfl)) (fun _ => rfl) ?_)
  refine st (mv_ rfl trivial ?_)
  refine oe_ ?_
  refine wk_ ⟨[(0, .own 1024000 0 4 (a0.map eDIssued)), (1, .clo f1 k1), (5, .int .i64 r1)], [], []⟩ (fg ⟨rfl, rfl, rfl, trivial⟩ trivial) ?_
  refine seq_ ?_
  refine seq_ ?_
  refine reg_ ?_
  refine st (mv_ rfl trivial ?_)
  refine st (c_ (cp_ ⟨trivial, trivial, trivial⟩ rfl trivial) ?_)
  refine oe_ ?_
  refine wk_ ⟨[(0, .own 1024000 0 4 (a0.map eDIssued)), (1, .clo f1 k1), (5, .int .i64 r1), (12, .bool (r1 == (-1)))], [], []⟩ (fg ⟨rfl, rfl, rfl, rfl, trivial⟩ trivial) ?_
  refine ite_ (cb := (r1 == (-1))) rfl (fun c3 => ?_) (fun c3 => ?_)
  · replace h0 := ip c3 h0
    refine seq_ ?_
    refine reg_ ?_
    refine st (mv_ rfl trivial ?_)
    refine st (mv_ rfl trivial ?_)
    refine oe_ ?_
    refine wk_ ⟨[(4, .own 1024000 0 4 (a0.map eDIssued))], [], []⟩ (fgk (by kernel_rfl)) ?_
    obtain rfl := Option.some.inj h0
    exact rt_ (ret_ rfl rfl rfl rfl rfl trivial)
  · replace h0 := inb c3 h0
    refine sk_ ?_
    refine wk_ ⟨[(0, .own 1024000 0 4 (a0.map eDIssued)), (1, .clo f1 k1), (5, .int .i64 r1)], [], []⟩ (fg ⟨rfl, rfl, rfl, trivial⟩ trivial) ?_
    refine seq_ ?_
    refine seq_ ?_
    refine reg_ ?_
    refine st (mv_ rfl trivial ?_)
    refine st (c_ (cp_ ⟨trivial, trivial, trivial⟩ rfl trivial) ?_)
    refine st (mv_ rfl trivial ?_)
    refine oe_ ?_
    refine wk_ ⟨[(0, .own 1024000 0 4 (a0.map eDIssued)), (1, .clo f1 k1), (5, .int .i64 r1), (6, .int .i64 (IntKind.i64.wrap (r1 + 1)))], [], []⟩ (fg ⟨rfl, rfl, rfl, rfl, trivial⟩ trivial) ?_
    refine block_ ?_
    obtain ⟨r66, e67, h0⟩ := bnd h0
    refine loop_ (R := (fun S => ∃ p38 : List DIssued, ∃ p39 : Int, (p38, p39) = r66 ∧ S = ⟨[(0, .own 1024000 0 4 (p38.map eDIssued)), (5, .int .i64 p39)], [], []⟩)) (g348_l0 is1) (fun s S => match s with | (p18, p19, p20) => S = ⟨[(0, .own 1024000 0 4 (p18.map eDIssued)), (1, .clo f1 k1), (5, .int .i64 p19), (6, .int .i64 p20)], [], []⟩) e67 ⟨[(0, .own 1024000 0 4 (a0.map eDIssued)), (1, .clo f1 k1), (5, .int .i64 r1), (6, .int .i64 (IntKind.i64.wrap (r1 + 1)))], [], []⟩ (fg ⟨rfl, rfl, rfl, rfl, trivial⟩ trivial) rfl 0 (fun _ => rfl) ?_ ?_
    · rintro S _ hfg ⟨p38, p39, rfl, rfl⟩
      refine wk_ ⟨[(0, .own 1024000 0 4 (p38.map eDIssued)), (5, .int .i64 p39)], [], []⟩ (fglk hfg (by kernel_rfl)) ?_
      refine seq_ ?_
      refine reg_ ?_
      refine st (mv_ rfl trivial ?_)
      refine st (mv_ rfl trivial ?_)
      obtain ⟨s68, e69, h0⟩ := bnd h0
      refine st (c_ (csliceO (e := eDIssued) (y := s68) rfl rfl trivial ⟨trivial, trivial⟩ rfl rfl e69) ?_)
      refine st (clear_ (e := eDIssued) (z := (DIssued.mk 0 0 ([] : List UInt8) false)) rfl rfl ?_)
      refine oe_ ?_
      refine wk_ ⟨[(0, .own 1024000 0 4 ((ovl p38 p39.toNat (List.replicate s68.length (DIssued.mk 0 0 ([] : List UInt8) false))).map eDIssued)), (5, .int .i64 p39)], [], []⟩ (fg ⟨(congrArg (fun z => some ((.own 1024000 0 4 z : V))) overlay_ovl), rfl, trivial⟩ trivial) ?_
      refine seq_ ?_
      refine reg_ ?_
      refine st (mv_ rfl trivial ?_)
      refine st (mv_ rfl trivial ?_)
      obtain ⟨s70, e71, h0⟩ := bnd h0
      refine st (c_ (csliceO (e := eDIssued) (y := s70) rfl rfl trivial ⟨trivial, trivial⟩ rfl rfl e71) ?_)
      refine st (mv_ rfl trivial ?_)
      refine oe_ ?_
      refine wk_ ⟨[(4, .own 1024000 0 4 (s70.map eDIssued))], [], []⟩ (fgk (by kernel_rfl)) ?_
      obtain rfl := Option.some.inj h0
      exact rt_ (ret_ rfl rfl rfl rfl rfl trivial)
    · rintro ⟨p18, p19, p20⟩ o1 _ K1 rfl h1 hx1 hK1 hE1 hR1
      refine seq_ ?_
      refine seq_ ?_
      refine reg_ ?_
      refine st (mv_ rfl trivial ?_)
      refine st (mv_ rfl trivial ?_)
      refine st (c_ (clenO (e := eDIssued) (l0 := p18) rfl rfl trivial) ?_)
      refine st (c_ (cp_ ⟨trivial, trivial, trivial⟩ rfl trivial) ?_)
      refine oe_ ?_
      refine wk_ ⟨[(0, .own 1024000 0 4 (p18.map eDIssued)), (1, .clo f1 k1), (5, .int .i64 p19), (6, .int .i64 p20), (19, .bool (decide (p20 < (p18.length : Int))))], [], []⟩ (fg ⟨rfl, rfl, rfl, rfl, rfl, trivial⟩ trivial) ?_
      refine ite_ (cb := (decide (p20 < (p18.length : Int)))) rfl (fun c40 => ?_) (fun c40 => ?_)
      · replace h1 := ip c40 h1
        refine sk_ ?_
        refine wk_ ⟨[(0, .own 1024000 0 4 (p18.map eDIssued)), (1, .clo f1 k1), (5, .int .i64 p19), (6, .int .i64 p20)], [], []⟩ (fg ⟨rfl, rfl, rfl, rfl, trivial⟩ trivial) ?_
        refine seq_ ?_
        refine blockJ (fun S => ∃ p52 : List DIssued, ∃ p53 : Int, S = ⟨[(0, .own 1024000 0 4 (p52.map eDIssued)), (1, .clo f1 k1), (5, .int .i64 p53), (6, .int .i64 p20)], [], []⟩ ∧ g348_j0 p20 p52 p53 = some o1) ?_ (fun J54 => ?_)
        · rintro _ ⟨p52, p53, rfl, h1⟩
          refine wk_ ⟨[(0, .own 1024000 0 4 (p52.map eDIssued)), (1, .clo f1 k1), (5, .int .i64 p53), (6, .int .i64 p20)], [], []⟩ (fg ⟨rfl, rfl, rfl, rfl, trivial⟩ trivial) ?_
          refine reg_ ?_
          refine st (mv_ rfl trivial ?_)
          refine st (c_ (cp_ ⟨trivial, trivial, trivial⟩ rfl trivial) ?_)
          refine st (mv_ rfl trivial ?_)
          refine oe_ ?_
          obtain rfl := Option.some.inj h1
          exact hK1 _ rfl _ ⟨[(0, .own 1024000 0 4 (p52.map eDIssued)), (1, .clo f1 k1), (5, .int .i64 p53), (6, .int .i64 (IntKind.i64.wrap (p20 + 1)))], [], []⟩ (fg ⟨rfl, rfl, rfl, rfl, trivial⟩ trivial) rfl
        · refine seq_ ?_
          refine reg_ ?_
          refine st (mv_ rfl trivial ?_)
          refine st (mv_ rfl trivial ?_)
          obtain ⟨y55, e56, h1⟩ := bnd h1
          refine st (c_ (cidxO (e := eDIssued) (y := y55) rfl rfl trivial rfl rfl trivial e56) ?_)
          obtain ⟨y57, e58, h1⟩ := bnd h1
          refine st (c_ (v := .agg [.int .i64 y57.serial, .int .i64 y57.to_, .str y57.subject, .bool y57.revoked]) (cloadO (e := eDIssued) (y := y57) (v := .agg [.int .i64 y57.serial, .int .i64 y57.to_, .str y57.subject, .bool y57.revoked]) rfl rfl trivial rfl rfl e58 rfl (Nat.le_of_ble_eq_true rfl) rfl) ?_)
          refine st (alloc_ ?_)
          refine sw ⟨[(0, .own 1024000 0 4 (p18.map eDIssued)), (1, .clo f1 k1), (5, .int .i64 p19), (6, .int .i64 p20), (7, .ptr 448 0), (25, .agg [.int .i64 y57.serial, .int .i64 y57.to_, .str y57.subject, .bool y57.revoked])], [(448, [.int .i64 0, .int .i64 0, .str ([] : List UInt8), .bool false])], []⟩ (fg ⟨rfl, (congrArg (fun z => some z) (dr_sh hs1)), rfl, rfl, rfl, rfl, trivial⟩ ⟨rfl, trivial⟩) (stp_ rfl rfl trivial rfl rfl rfl (Nat.le_of_ble_eq_true rfl) ?_)
          refine oe_ ?_
          refine wk_ ⟨[(0, .own 1024000 0 4 (p18.map eDIssued)), (1, .clo f1 k1), (5, .int .i64 p19), (6, .int .i64 p20), (7, .ptr 448 0)], [(448, [.int .i64 y57.serial, .int .i64 y57.to_, .str y57.subject, .bool y57.revoked])], []⟩ (fg ⟨rfl, rfl, rfl, rfl, rfl, trivial⟩ ⟨rfl, trivial⟩) ?_
          refine seq_ ?_
          refine reg_ ?_
          refine st (mv_ rfl trivial ?_)
          refine st (c_ (v := .agg [.int .i64 y57.serial, .int .i64 y57.to_, .str y57.subject, .bool y57.revoked]) (cp_ ⟨trivial, trivial⟩ rfl (Nat.le_of_ble_eq_true rfl)) ?_)
          obtain ⟨r59, e60, h1⟩ := bnd h1
          refine st (callv0_ (r := .bool r59) rfl false (hf1 _ r59 e60) ⟨trivial, trivial⟩ (and_ rfl hs1.2.2.1) (mapc1 rfl (hs1.2.1 _ _ _ _ _)) (fun _ => rfl) ?_)
          refine st (c_ (cp_ ⟨trivial, trivial⟩ rfl trivial) ?_)
          refine oe_ ?_
          refine wk_ ⟨[(0, .own 1024000 0 4 (p18.map eDIssued)), (1, .clo f1 k1), (5, .int .i64 p19), (6, .int .i64 p20), (7, .ptr 448 0), (29, .bool (!r59))], [(448, [.int .i64 y57.serial, .int .i64 y57.to_, .str y57.subject, .bool y57.revoked])], []⟩ (fg ⟨rfl, rfl, rfl, rfl, rfl, rfl, trivial⟩ ⟨rfl, trivial⟩) ?_
          refine ite_ (cb := (!r59)) rfl (fun c61 => ?_) (fun c61 => ?_)
          · replace h1 := ip c61 h1
            refine seq_ ?_
            refine reg_ ?_
            refine st (mv_ rfl trivial ?_)
            refine st (mv_ rfl trivial ?_)
            refine st (c_ (v := .agg [.int .i64 y57.serial, .int .i64 y57.to_, .str y57.subject, .bool y57.revoked]) (cp_ ⟨trivial, trivial⟩ rfl (Nat.le_of_ble_eq_true rfl)) ?_)
            obtain ⟨y62, e63, h1⟩ := bnd h1
            refine st (c_ (cidxO (e := eDIssued) (y := y62) rfl rfl trivial rfl rfl trivial e63) ?_)
            obtain ⟨y64, e65, h1⟩ := bnd h1
            refine st (sto_ (y' := y57) rfl rfl trivial rfl rfl rfl rfl e65 (Nat.le_of_ble_eq_true rfl) rfl rfl rfl rfl ?_)
            refine oe_ ?_
            refine wk_ ⟨[(0, .own 1024000 0 4 ((p18.set p19.toNat y57).map eDIssued)), (1, .clo f1 k1), (5, .int .i64 p19), (6, .int .i64 p20)], [], []⟩ (fg ⟨(congrArg (fun z => some ((.own 1024000 0 4 z : V))) overlay_map), rfl, rfl, rfl, trivial⟩ trivial) ?_
            refine reg_ ?_
            refine st (mv_ rfl trivial ?_)
            refine st (c_ (cp_ ⟨trivial, trivial, trivial⟩ rfl trivial) ?_)
            refine st (mv_ rfl trivial ?_)
            refine oe_ ?_
            refine bn_ ?_
            exact J54 _ ⟨[(0, .own 1024000 0 4 ((p18.set p19.toNat y57).map eDIssued)), (1, .clo f1 k1), (5, .int .i64 (IntKind.i64.wrap (p19 + 1))), (6, .int .i64 p20)], [], []⟩ (fg ⟨rfl, rfl, rfl, rfl, trivial⟩ trivial) ⟨_, _, rfl, h1⟩
          · replace h1 := inb c61 h1
            refine sk_ ?_
            refine bn_ ?_
            exact J54 _ ⟨[(0, .own 1024000 0 4 (p18.map eDIssued)), (1, .clo f1 k1), (5, .int .i64 p19), (6, .int .i64 p20)], [], []⟩ (fg ⟨rfl, rfl, rfl, rfl, trivial⟩ trivial) ⟨_, _, rfl, h1⟩
      · replace h1 := inb c40 h1
        obtain rfl := Option.some.inj h1
        obtain rfl := hx1 _ rfl
        refine exQ rfl ?_
        exact hE1 _ ⟨[(0, .own 1024000 0 4 (p18.map eDIssued)), (5, .int .i64 p19)], [], []⟩ (fgk (by kernel_rfl)) ⟨_, _, rfl, rfl⟩

/- slices.Clone[[]loop.example/g00149/impl.Issued,loop.example/g00149/impl.Issued] -/
def c349_r0 : List Ins := [⟨some 2, .nilS 4, none⟩]
def c349_r1 : List Ins := [⟨some 3, .p (.mv (.t 0)), none⟩,
 ⟨some 4, .isnil (.t 3) false, none⟩]
def c349_r2 : List Ins := [⟨some 2, .nilS 4, none⟩]
def c349_r3 : List Ins := [⟨some 5, .mkS 4 [(.int .i64 0), (.int .i64 0), (.str []), (.bool false)] 0 [], none⟩,
 ⟨some 6, .p (.mv (.t 0)), none⟩,
 ⟨some 7, .app 4 40 (.t 5) (.t 6), none⟩,
 ⟨some 2, .p (.mv (.t 7)), none⟩]
def c349 : XFn := { np := 1, nt := 8, res := [.t 2], body := (.seq (.reg c349_r0) (.seq (.seq (.reg c349_r1) (.ite (.t 4) (.seq (.reg c349_r2) .ret) .skip)) (.seq (.reg c349_r3) .ret))) }
def K349 (C : CRel) : Prop := ∀ (a0 : List DIssued) (r : List DIssued), g349 a0 = some r → C 349 ⟨[.lst 4 (a0.map eDIssued)], []⟩ ⟨.own 0 0 4 (r.map eDIssued), [], []⟩
theorem F349 {C : CRel} (a0 : List DIssued) (r : List DIssued) (h0 : g349 a0 = some r) : FnOK C c349 ⟨[.lst 4 (a0.map eDIssued)], []⟩ ⟨.own 0 0 4 (r.map eDIssued), [], []⟩ := by
  refine fn_ (Nat.le_of_ble_eq_true rfl) ?_
  obtain ⟨hc, h0⟩ := grd h0
  obtain rfl := Option.some.inj h0
  refine seq_ ?_
  refine reg_ ?_
  refine st (nilS_ ?_)
  refine oe_ ?_
  refine wk_ ⟨[(0, .lst 4 (a0.map eDIssued))], [], []⟩ (fg ⟨rfl, trivial⟩ trivial) ?_
  refine seq_ ?_
  refine seq_ ?_
  refine reg_ ?_
  refine st (mv_ rfl trivial ?_)
  refine st (isnilL (e := eDIssued) (l0 := a0) rfl fun b hb => ?_)
  refine oe_ ?_
  refine w0_ ?_
  refine ite_ (cb := b) rfl (fun h => ?_) (fun h => ?_)
  · obtain rfl := hb h
    refine seq_ ?_
    refine reg_ ?_
    refine st (nilS_ ?_)
    refine oe_ ?_
    refine w0_ ?_
    refine rt_ (ret_ rfl rfl rfl rfl rfl trivial)
  · refine sk_ ?_
    refine wk_ ⟨[(0, .lst 4 (a0.map eDIssued))], [], []⟩ (fg ⟨rfl, trivial⟩ trivial) ?_
    refine seq_ ?_
    refine reg_ ?_
    refine st (mkS_ trivial trivial ?_)
    refine st (mv_ rfl trivial ?_)
    refine st (app_ (e := eDIssued) (l0 := ([] : List DIssued)) (l1 := a0) rfl rfl trivial rfl (by decide) ?_ ?_)
    rotate_left
    refine st (mv_ rfl trivial ?_)
    refine oe_ ?_
    refine w0_ ?_
    refine rt_ (ret_ rfl rfl rfl rfl rfl trivial)
    have := Nat.mul_le_mul_right 40 hc
    exact Nat.le_trans this (by decide)

/- (*loop.example/g00149/impl.Authority).revoked$1 -/
def c350_r0 : List Ins := [⟨some 2, .box (.t 0), none⟩,
 ⟨some 3, .p (.mv (.c (.bool false))), none⟩]
def c350_r1 : List Ins := [⟨some 4, .p (.fieldA (.t 2) 3), none⟩,
 ⟨some 5, .p (.load (.t 4) 1 false), none⟩,
 ⟨some 6, .p (.un .not (.t 5)), none⟩,
 ⟨some 7, .p (.mv (.t 6)), none⟩,
 ⟨some 8, .p (.fieldA (.t 2) 1), some (7, false)⟩,
 ⟨some 9, .p (.load (.t 8) 1 false), some (7, false)⟩,
 ⟨some 10, .p (.load (.t 1) 1 false), some (7, false)⟩,
 ⟨some 11, .p (.bin .lss (.t 9) (.t 10)), some (7, false)⟩,
 ⟨some 12, .pick (.t 7) (.c (.bool true)) (.t 11), none⟩,
 ⟨some 3, .p (.mv (.t 12)), none⟩]
def c350 : XFn := { np := 2, nt := 13, res := [.t 3], body := (.seq (.reg c350_r0) (.seq (.reg c350_r1) .ret)) }
def K350 (C : CRel) : Prop := ∀ (a0 : DIssued) (a1 : Int) (r : Bool), g350 a0 a1 = some r → C 350 ⟨[.agg [.int .i64 a0.serial, .int .i64 a0.to_, .str a0.subject, .bool a0.revoked], .iptr [.int .i64 a1]], []⟩ ⟨.bool r, [], []⟩
theorem F350 {C : CRel}  (a0 : DIssued) (a1 : Int) (r : Bool) (h0 : g350 a0 a1 = some r) : FnOK C c350 ⟨[.agg [.int .i64 a0.serial, .int .i64 a0.to_, .str a0.subject, .bool a0.revoked], .iptr [.int .i64 a1]], []⟩ ⟨.bool r, [], []⟩ := by
  refine fn_ (Nat.le_of_ble_eq_true rfl) ?_
  refine seq_ ?_
  refine reg_ ?_
  refine st (box_ rfl trivial rfl ?_)
  refine st (mvc_ trivial ?_)
  refine oe_ ?_
  refine wk_ ⟨[(1, .iptr [.int .i64 a1]), (2, .ptr 128 0)], [(128, [.int .i64 a0.serial, .int .i64 a0.to_, .str a0.subject, .bool a0.revoked])], []⟩ (fgk (by kernel_rfl)) ?_
  refine seq_ ?_
  refine reg_ ?_
  refine st (c_ (cp_ ⟨trivial, trivial⟩ rfl trivial) ?_)
  refine st (c_ (cp_ ⟨trivial, trivial⟩ rfl (Nat.le_of_ble_eq_true rfl)) ?_)
  refine st (c_ (cp_ ⟨trivial, trivial⟩ rfl trivial) ?_)
  refine st (mv_ rfl trivial ?_)
  refine st (pg_ (u := .ptr 128 1) rfl (fun hg => (cp_ ⟨trivial, trivial⟩ rfl trivial)) ?_)
  refine st (pg_ (u := .int .i64 a0.to_) rfl (fun hg => (cp_ ⟨(fun _ => hg), trivial⟩ rfl (Nat.le_of_ble_eq_true rfl))) ?_)
  refine st (pg_ (u := .int .i64 a1) rfl (fun hg => (cp_ ⟨trivial, trivial⟩ rfl (Nat.le_of_ble_eq_true rfl))) ?_)
  refine st (pg_ (u := .bool (decide (a0.to_ < a1))) rfl (fun hg => (cp_ ⟨(fun _ => hg), (fun _ => hg), trivial⟩ rfl trivial)) ?_)
  refine st (pick_ rfl rfl rfl trivial (fun h => eqf h) rfl ?_)
  refine st (mv_ rfl trivial ?_)
  refine oe_ ?_
  refine wk_ ⟨[(3, .bool (bif (!a0.revoked) then true else (decide (a0.to_ < a1))))], [], []⟩ (fgk (by kernel_rfl)) ?_
  obtain rfl := Option.some.inj h0
  exact rt_ (ret_ rfl rfl rfl rfl rfl trivial)

/- (*loop.example/g00149/impl.Authority).revoked -/
def c300_r0 : List Ins := [⟨some 3, .box (.t 1), none⟩,
 ⟨some 4, .nilS 1, none⟩]
def c300_r1 : List Ins := [⟨some 5, .p (.mv (.t 0)), none⟩,
 ⟨some 6, .p (.nilc (.t 5)), none⟩,
 ⟨some 7, .p (.fieldA (.t 6) 6), none⟩,
 ⟨some 8, .p (.load (.t 7) 1 false), none⟩,
 ⟨some 9, .call 349 [(.t 8)], none⟩,
 ⟨some 10, .p (.fn 350 [(.t 3)]), none⟩,
 ⟨some 11, .call 348 [(.t 9), (.t 10)], none⟩,
 ⟨some 12, .call 284 [(.t 11)], none⟩,
 ⟨some 4, .p (.mv (.t 12)), none⟩]
def c300 : XFn := { np := 2, nt := 13, res := [.t 4], body := (.seq (.reg c300_r0) (.seq (.reg c300_r1) .ret)) }
def K300 (C : CRel) : Prop := ∀ (a0 : DAuthority) (a1 : Int) (r : (List Int)), g300 a0 a1 = some r → C 300 ⟨[.iptr [.str a0.name_, .lst 1 (a0.seed.map eU8), .int .i64 a0.serial, .int .i64 a0.number, .str a0.suffix, .int .i64 a0.most, .lst 4 (a0.list_.map eDIssued)], .int .i64 a1], []⟩ ⟨.own 0 0 1 (r.map eI), [], []⟩
theorem F300 {C : CRel} (H284 : K284 C) (H348 : K348 C) (H349 : K349 C) (H350 : K350 C) (a0 : DAuthority) (a1 : Int) (r : (List Int)) (h0 : g300 a0 a1 = some r) : FnOK C c300 ⟨[.iptr [.str a0.name_, .lst 1 (a0.seed.map eU8), .int .i64 a0.serial, .int .i64 a0.number, .str a0.suffix, .int .i64 a0.most, .lst 4 (a0.list_.map eDIssued)], .int .i64 a1], []⟩ ⟨.own 0 0 1 (r.map eI), [], []⟩ := by
  refine fn_ (Nat.le_of_ble_eq_true rfl) ?_
  refine seq_ ?_
  refine reg_ ?_
  refine st (box_ rfl trivial rfl ?_)
  refine st (nilS_ ?_)
  refine oe_ ?_
  refine wk_ ⟨[(0, .iptr [.str a0.name_, .lst 1 (a0.seed.map eU8), .int .i64 a0.serial, .int .i64 a0.number, .str a0.suffix, .int .i64 a0.most, .lst 4 (a0.list_.map eDIssued)]), (3, .ptr 192 0)], [(192, [.int .i64 a1])], []⟩ (fgk (by kernel_rfl)) ?_
  refine seq_ ?_
  refine reg_ ?_
  refine st (mv_ rfl trivial ?_)
  refine st (c_ (cp_ ⟨trivial, trivial⟩ rfl trivial) ?_)
  refine st (c_ (cp_ ⟨trivial, trivial⟩ rfl (Nat.le_of_ble_eq_true rfl)) ?_)
  refine st (c_ (cp_ ⟨trivial, trivial⟩ rfl (Nat.le_of_ble_eq_true rfl)) ?_)
  obtain ⟨r1, e2, h0⟩ := bnd h0
  refine st (call0_ (r := .own 0 0 4 (r1.map eDIssued)) false (H349 a0.list_ r1 e2) ⟨trivial, trivial⟩ rfl rfl (fun _ => (and_ (fl1 (fun _ => rfl)) rfl)) ?_)
  refine st (c_ (cp_ ⟨trivial, trivial⟩ rfl rfl) ?_)
  obtain ⟨r3, e4, h0⟩ := bnd h0
  refine sw ⟨[(9, .own 576 0 4 (r1.map eDIssued)), (10, .clo 350 [.ptr 192 0])], [(192, [.int .i64 a1])], []⟩ (fgk (by kernel_rfl)) (call1_ [] [] [576] false (H348 r1 350 [.iptr [.int .i64 a1]] (fun z350_0 => g350 z350_0 a1) (⟨fun _ _ _ _ _ => rfl, fun _ _ _ _ _ => rfl, rfl, fun _ _ _ n => by cases n <;> rfl, fun _ => rfl⟩) (fun z350_0 r h => H350 z350_0 a1 r h) r3 e4) ⟨trivial, trivial, trivial⟩ (by kernel_rfl) (by kernel_rfl) (by kernel_rfl) (by kernel_rfl) (fun _ => and_ (and_ (fl1 (fun _ => rfl)) rfl) rfl) ?_)
  obtain ⟨r5, e6, h0⟩ := bnd h0
  refine sw ⟨[(11, .own 704 0 4 (r3.map eDIssued))], [], []⟩ (fgk (by kernel_rfl)) (call0_ (r := .own 0 0 1 (r5.map eI)) false (H284 r3 r5 e6) ⟨trivial, trivial⟩ rfl rfl (fun _ => (and_ (fl1 (fun _ => rfl)) rfl)) ?_)
  refine st (mv_ rfl trivial ?_)
  refine oe_ ?_
  refine wk_ ⟨[(4, .own 768 0 1 (r5.map eI))], [], []⟩ (fgk (by kernel_rfl)) ?_
  obtain rfl := Option.some.inj h0
  exact rt_ (ret_ rfl rfl rfl rfl rfl trivial)

/- loop.example/g00149/impl.RevokedOf -/
def c238_r0 : List Ins := [⟨some 2, .box (.t 0), none⟩,
 ⟨some 4, .nilS 1, none⟩,
 ⟨some 5, .p (.mv (.c (.int .i64 0))), none⟩]
def c238_r1 : List Ins := [⟨some 6, .p (.load (.t 2) 7 true), none⟩,
 ⟨some 7, .call 226 [(.t 6)], none⟩,
 ⟨some 8, .p (.un .not (.t 7)), none⟩]
def c238_r2 : List Ins := [⟨some 4, .nilS 1, none⟩,
 ⟨some 5, .p (.mv (.c (.int .i64 1))), none⟩]
def c238_r3 : List Ins := [⟨some 9, .p (.mv (.t 1)), none⟩,
 ⟨some 10, .call 300 [(.t 2), (.t 9)], none⟩,
 ⟨some 4, .p (.mv (.t 10)), none⟩,
 ⟨some 5, .p (.mv (.c (.int .i64 0))), none⟩]
def c238 : XFn := { np := 2, nt := 11, res := [.t 4, .t 5], body := (.seq (.reg c238_r0) (.seq (.seq (.reg c238_r1) (.ite (.t 8) (.seq (.reg c238_r2) .ret) .skip)) (.seq (.reg c238_r3) .ret))) }
def K238 (C : CRel) : Prop := ∀ (a0 : DAuthority) (a1 : Int) (r : (List Int) × Int), g238 a0 a1 = some r → C 238 ⟨[.agg [.str a0.name_, .lst 1 (a0.seed.map eU8), .int .i64 a0.serial, .int .i64 a0.number, .str a0.suffix, .int .i64 a0.most, .lst 4 (a0.list_.map eDIssued)], .int .i64 a1], []⟩ ⟨.tup [.own 0 0 1 (r.1.map eI), .int .i64 r.2], [], []⟩
theorem F238 {C : CRel} (H226 : K226 C) (H300 : K300 C) (a0 : DAuthority) (a1 : Int) (r : (List Int) × Int) (h0 : g238 a0 a1 = some r) : FnOK C c238 ⟨[.agg [.str a0.name_, .lst 1 (a0.seed.map eU8), .int .i64 a0.serial, .int .i64 a0.number, .str a0.suffix, .int .i64 a0.most, .lst 4 (a0.list_.map eDIssued)], .int .i64 a1], []⟩ ⟨.tup [.own 0 0 1 (r.1.map eI), .int .i64 r.2], [], []⟩ := by
  refine fn_ (Nat.le_of_ble_eq_true rfl) ?_
  refine seq_ ?_
  refine reg_ ?_
  refine st (box_ rfl trivial rfl ?_)
  refine st (nilS_ ?_)
  refine st (mvc_ trivial ?_)
  refine oe_ ?_
  refine wk_ ⟨[(1, .int .i64 a1), (2, .ptr 128 0)], [(128, [.str a0.name_, .lst 1 (a0.seed.map eU8), .int .i64 a0.serial, .int .i64 a0.number, .str a0.suffix, .int .i64 a0.most, .lst 4 (a0.list_.map eDIssued)])], []⟩ (fgk (by kernel_rfl)) ?_
  refine seq_ ?_
  refine seq_ ?_
  refine reg_ ?_
  refine st (c_ (v := .agg [.str a0.name_, .lst 1 (a0.seed.map eU8), .int .i64 a0.serial, .int .i64 a0.number, .str a0.suffix, .int .i64 a0.most, .lst 4 (a0.list_.map eDIssued)]) (cp_ ⟨trivial, trivial⟩ rfl (Nat.le_of_ble_eq_true rfl)) ?_)
  obtain ⟨r1, e2, h0⟩ := bnd h0
  refine st (call0_ (r := .bool r1) false (H226 a0 r1 e2) ⟨trivial, trivial⟩ rfl rfl (fun _ => rfl) ?_)
  refine st (c_ (cp_ ⟨trivial, trivial⟩ rfl trivial) ?_)
  refine oe_ ?_
  refine wk_ ⟨[(1, .int .i64 a1), (2, .ptr 128 0), (8, .bool (!r1))], [(128, [.str a0.name_, .lst 1 (a0.seed.map eU8), .int .i64 a0.serial, .int .i64 a0.number, .str a0.suffix, .int .i64 a0.most, .lst 4 (a0.list_.map eDIssued)])], []⟩ (fgk (by kernel_rfl)) ?_
  refine ite_ (cb := (!r1)) rfl (fun c3 => ?_) (fun c3 => ?_)
  · replace h0 := ip c3 h0
    refine seq_ ?_
    refine reg_ ?_
    refine st (nilS_ ?_)
    refine st (mvc_ trivial ?_)
    refine oe_ ?_
    refine wk_ ⟨[(4, .own 256 0 1 ([].map eI)), (5, .int .i64 1)], [], []⟩ (fgk (by kernel_rfl)) ?_
    obtain rfl := Option.some.inj h0
    exact rt_ (ret_ rfl rfl rfl rfl rfl trivial)
  · replace h0 := inb c3 h0
    refine sk_ ?_
    refine wk_ ⟨[(1, .int .i64 a1), (2, .ptr 128 0)], [(128, [.str a0.name_, .lst 1 (a0.seed.map eU8), .int .i64 a0.serial, .int .i64 a0.number, .str a0.suffix, .int .i64 a0.most, .lst 4 (a0.list_.map eDIssued)])], []⟩ (fgk (by kernel_rfl)) ?_
    refine seq_ ?_
    refine reg_ ?_
    refine st (mv_ rfl trivial ?_)
    obtain ⟨r4, e5, h0⟩ := bnd h0
    refine st (call0_ (r := .own 0 0 1 (r4.map eI)) false (H300 a0 a1 r4 e5) ⟨trivial, trivial, trivial⟩ rfl rfl (fun _ => (and_ (fl1 (fun _ => rfl)) rfl)) ?_)
    refine st (mv_ rfl trivial ?_)
    refine st (mvc_ trivial ?_)
    refine oe_ ?_
    refine wk_ ⟨[(4, .own 640 0 1 (r4.map eI)), (5, .int .i64 0)], [], []⟩ (fgk (by kernel_rfl)) ?_
    obtain rfl := Option.some.inj h0
    exact rt_ (ret_ rfl rfl rfl rfl rfl trivial)

/- loop.example/g00149/laws.markByteS -/
def c235_r0 : List Ins := [⟨some 4, .p (.mv (.c (.int .i64 0))), none⟩]
def c235_r1 : List Ins := [⟨some 5, .p (.mv (.c (.int .i64 0))), none⟩]
def c235_r2 : List Ins := [⟨some 6, .p (.mv (.t 5)), none⟩,
 ⟨some 7, .p (.mv (.t 0)), none⟩,
 ⟨some 8, .p (.len (.t 7)), none⟩,
 ⟨some 9, .p (.bin .lss (.t 6) (.t 8)), none⟩]
def c235_r3 : List Ins := [⟨some 12, .p (.mv (.t 0)), none⟩,
 ⟨some 13, .p (.mv (.t 5)), none⟩,
 ⟨some 14, .p (.mv (.t 1)), none⟩,
 ⟨some 15, .p (.conv .u8 (.t 14)), none⟩,
 ⟨some 16, .p (.idxA (.t 12) (.t 13) 1), none⟩,
 ⟨none, .store (.t 16) (.t 15) 1, none⟩]
def c235_r4 : List Ins := [⟨some 17, .p (.mv (.t 1)), none⟩,
 ⟨some 18, .p (.bin .add (.t 17) (.c (.int .i64 1))), none⟩,
 ⟨some 1, .p (.mv (.t 18)), none⟩]
def c235_r5 : List Ins := [⟨some 10, .p (.mv (.t 5)), none⟩,
 ⟨some 11, .p (.bin .add (.t 10) (.c (.int .i64 1))), none⟩,
 ⟨some 5, .p (.mv (.t 11)), none⟩]
def c235_l0 : IR := (.seq (.seq (.reg c235_r2) (.ite (.t 9) .skip (.exit 0))) (.seq (.block 1 (.seq (.reg c235_r3) (.reg c235_r4))) (.reg c235_r5)))
def c235_r6 : List Ins := [⟨some 19, .p (.mv (.t 1)), none⟩,
 ⟨some 4, .p (.mv (.t 19)), none⟩]
def c235 : XFn := { np := 2, nt := 20, res := [.t 4], body := (.seq (.reg c235_r0) (.seq (.seq (.reg c235_r1) (.block 0 (.loop c235_l0))) (.seq (.reg c235_r6) .ret))) }
def K235 (C : CRel) : Prop := ∀ (a0 : List UInt8) (a1 : Int) (r : Int × (List UInt8)), g235 a0 a1 = some r → C 235 ⟨[.own 2097152 0 1 (a0.map eU8), .int .i64 a1], []⟩ ⟨.int .i64 r.1, [], [(0, 1, r.2.map eU8)]⟩
theorem F235 {C : CRel}  (a0 : List UInt8) (a1 : Int) (r : Int × (List UInt8)) (h0 : g235 a0 a1 = some r) : FnOK C c235 ⟨[.own 2097152 0 1 (a0.map eU8), .int .i64 a1], []⟩ ⟨.int .i64 r.1, [], [(0, 1, r.2.map eU8)]⟩ := by
  refine fn_ (Nat.le_of_ble_eq_true rfl) ?_
  refine seq_ ?_
  refine reg_ ?_
  refine st (mvc_ trivial ?_)
  refine oe_ ?_
  refine wk_ ⟨[(0, .own 2097152 0 1 (a0.map eU8)), (1, .int .i64 a1)], [], []⟩ (fgk (by kernel_rfl)) ?_
  refine seq_ ?_
  refine seq_ ?_
  refine reg_ ?_
  refine st (mvc_ trivial ?_)
  refine oe_ ?_
  refine wk_ ⟨[(0, .own 2097152 0 1 (a0.map eU8)), (1, .int .i64 a1), (5, .int .i64 0)], [], []⟩ (fgk (by kernel_rfl)) ?_
  refine block_ ?_
  obtain ⟨r24, e25, h0⟩ := bnd h0
  refine loop_ (R := (fun S => ∃ p17 : List UInt8, ∃ p18 : Int, (p17, p18) = r24 ∧ S = ⟨[(0, .own 2097152 0 1 (p17.map eU8)), (1, .int .i64 p18)], [], []⟩)) (g235_l0) (fun s S => match s with | (p6, p7, p8) => S = ⟨[(0, .own 2097152 0 1 (p6.map eU8)), (1, .int .i64 p7), (5, .int .i64 p8)], [], []⟩) e25 ⟨[(0, .own 2097152 0 1 (a0.map eU8)), (1, .int .i64 a1), (5, .int .i64 0)], [], []⟩ (fgk (by kernel_rfl)) rfl 0 (fun _ => rfl) ?_ ?_
  · rintro S _ hfg ⟨p17, p18, rfl, rfl⟩
    refine wk_ ⟨[(0, .own 2097152 0 1 (p17.map eU8)), (1, .int .i64 p18)], [], []⟩ (fglk hfg (by kernel_rfl)) ?_
    refine seq_ ?_
    refine reg_ ?_
    refine st (mv_ rfl trivial ?_)
    refine st (mv_ rfl trivial ?_)
    refine oe_ ?_
    refine wk_ ⟨[(0, .own 2097152 0 1 (p17.map eU8)), (4, .int .i64 p18)], [], []⟩ (fgk (by kernel_rfl)) ?_
    obtain rfl := Option.some.inj h0
    exact rt_ (ret_ rfl rfl rfl rfl rfl ⟨⟨rfl, mlen (fun _ => rfl)⟩, trivial⟩)
  · rintro ⟨p6, p7, p8⟩ o1 _ K1 rfl h1 hx1 hK1 hE1 hR1
    refine seq_ ?_
    refine seq_ ?_
    refine reg_ ?_
    refine st (mv_ rfl trivial ?_)
    refine st (mv_ rfl trivial ?_)
    refine st (c_ (clenO (e := eU8) (l0 := p6) rfl rfl trivial) ?_)
    refine st (c_ (cp_ ⟨trivial, trivial, trivial⟩ rfl trivial) ?_)
    refine oe_ ?_
    refine wk_ ⟨[(0, .own 2097152 0 1 (p6.map eU8)), (1, .int .i64 p7), (5, .int .i64 p8), (9, .bool (decide (p8 < (p6.length : Int))))], [], []⟩ (fgk (by kernel_rfl)) ?_
    refine ite_ (cb := (decide (p8 < (p6.length : Int)))) rfl (fun c19 => ?_) (fun c19 => ?_)
    · replace h1 := ip c19 h1
      refine sk_ ?_
      refine wk_ ⟨[(0, .own 2097152 0 1 (p6.map eU8)), (1, .int .i64 p7), (5, .int .i64 p8)], [], []⟩ (fgk (by kernel_rfl)) ?_
      refine seq_ ?_
      refine block_ ?_
      refine seq_ ?_
      refine reg_ ?_
      refine st (mv_ rfl trivial ?_)
      refine st (mv_ rfl trivial ?_)
      refine st (mv_ rfl trivial ?_)
      refine st (c_ (cb8 (cp_ ⟨trivial, trivial⟩ rfl trivial)) ?_)
      obtain ⟨y20, e21, h1⟩ := bnd h1
      refine st (c_ (cidxO (e := eU8) (y := y20) rfl rfl trivial rfl rfl trivial e21) ?_)
      obtain ⟨y22, e23, h1⟩ := bnd h1
      refine st (sto_ (y' := b8 p7) rfl rfl trivial rfl rfl rfl rfl e23 (Nat.le_of_ble_eq_true rfl) rfl rfl rfl rfl ?_)
      refine oe_ ?_
      refine wk_ ⟨[(0, .own 2097152 0 1 ((p6.set p8.toNat (b8 p7)).map eU8)), (1, .int .i64 p7), (5, .int .i64 p8)], [], []⟩ (fg ⟨(congrArg (fun z => some ((.own 2097152 0 1 z : V))) overlay_map), rfl, rfl, trivial⟩ trivial) ?_
      refine reg_ ?_
      refine st (mv_ rfl trivial ?_)
      refine st (c_ (cp_ ⟨trivial, trivial, trivial⟩ rfl trivial) ?_)
      refine st (mv_ rfl trivial ?_)
      refine oe_ ?_
      refine bn_ ?_
      refine wk_ ⟨[(0, .own 2097152 0 1 ((p6.set p8.toNat (b8 p7)).map eU8)), (1, .int .i64 (IntKind.i64.wrap (p7 + 1))), (5, .int .i64 p8)], [], []⟩ (fgk (by kernel_rfl)) ?_
      refine reg_ ?_
      refine st (mv_ rfl trivial ?_)
      refine st (c_ (cp_ ⟨trivial, trivial, trivial⟩ rfl trivial) ?_)
      refine st (mv_ rfl trivial ?_)
      refine oe_ ?_
      obtain rfl := Option.some.inj h1
      exact hK1 _ rfl _ ⟨[(0, .own 2097152 0 1 ((p6.set p8.toNat (b8 p7)).map eU8)), (1, .int .i64 (IntKind.i64.wrap (p7 + 1))), (5, .int .i64 (IntKind.i64.wrap (p8 + 1)))], [], []⟩ (fgk (by kernel_rfl)) rfl
    · replace h1 := inb c19 h1
      obtain rfl := Option.some.inj h1
      obtain rfl := hx1 _ rfl
      refine exQ rfl ?_
      exact hE1 _ ⟨[(0, .own 2097152 0 1 (p6.map eU8)), (1, .int .i64 p7)], [], []⟩ (fgk (by kernel_rfl)) ⟨_, _, rfl, rfl⟩

/- loop.example/g00149/laws.markText -/
def c316_r0 : List Ins := [⟨some 2, .p (.mv (.c (.str []))), none⟩]
def c316_r1 : List Ins := [⟨some 4, .p (.mv (.t 0)), none⟩,
 ⟨some 5, .p (.bin .leq (.t 4) (.c (.int .i64 0))), none⟩]
def c316_r2 : List Ins := [⟨some 2, .p (.mv (.c (.str [109, 48]))), none⟩]
def c316_r3 : List Ins := [⟨some 3, .p (.mv (.c (.str []))), none⟩]
def c316_r4 : List Ins := [⟨some 6, .p (.mv (.t 0)), none⟩,
 ⟨some 7, .p (.bin .gtr (.t 6) (.c (.int .i64 0))), none⟩]
def c316_r5 : List Ins := [⟨some 8, .p (.mv (.t 0)), none⟩,
 ⟨some 9, .p (.bin .rem (.t 8) (.c (.int .i64 10))), none⟩,
 ⟨some 10, .p (.bin .add (.c (.int .i64 48)) (.t 9)), none⟩,
 ⟨some 11, .p (.conv .u8 (.t 10)), none⟩,
 ⟨some 12, .mkS 1 [(.int .u8 0)] 1 [(0, (.t 11))], none⟩,
 ⟨some 13, .p (.toStr (.t 12)), none⟩,
 ⟨some 14, .p (.mv (.t 3)), none⟩,
 ⟨some 15, .p (.bin .add (.t 13) (.t 14)), none⟩,
 ⟨some 3, .p (.mv (.t 15)), none⟩]
def c316_r6 : List Ins := [⟨some 16, .p (.mv (.t 0)), none⟩,
 ⟨some 17, .p (.bin .quo (.t 16) (.c (.int .i64 10))), none⟩,
 ⟨some 0, .p (.mv (.t 17)), none⟩]
def c316_l0 : IR := (.seq (.seq (.reg c316_r4) (.ite (.t 7) .skip (.exit 0))) (.block 1 (.seq (.reg c316_r5) (.reg c316_r6))))
def c316_r7 : List Ins := [⟨some 18, .p (.mv (.t 3)), none⟩,
 ⟨some 19, .p (.bin .add (.c (.str [109])) (.t 18)), none⟩,
 ⟨some 2, .p (.mv (.t 19)), none⟩]
def c316 : XFn := { np := 1, nt := 20, res := [.t 2], body := (.seq (.reg c316_r0) (.seq (.seq (.reg c316_r1) (.ite (.t 5) (.seq (.reg c316_r2) .ret) .skip)) (.seq (.reg c316_r3) (.seq (.block 0 (.loop c316_l0)) (.seq (.reg c316_r7) .ret))))) }
def K316 (C : CRel) : Prop := ∀ (a0 : Int) (r : (List UInt8)), g316 a0 = some r → C 316 ⟨[.int .i64 a0], []⟩ ⟨.str r, [], []⟩
theorem F316 {C : CRel}  (a0 : Int) (r : (List UInt8)) (h0 : g316 a0 = some r) : FnOK C c316 ⟨[.int .i64 a0], []⟩ ⟨.str r, [], []⟩ := by
  refine fn_ (Nat.le_of_ble_eq_true rfl) ?_
  refine seq_ ?_
  refine reg_ ?_
  refine st (mvc_ trivial ?_)
  refine oe_ ?_
  refine wk_ ⟨[(0, .int .i64 a0)], [], []⟩ (fgk (by kernel_rfl)) ?_
  refine seq_ ?_
  refine seq_ ?_
  refine reg_ ?_
  refine st (mv_ rfl trivial ?_)
  refine st (c_ (cp_ ⟨trivial, trivial, trivial⟩ rfl trivial) ?_)
  refine oe_ ?_
  refine wk_ ⟨[(0, .int .i64 a0), (5, .bool (decide (a0 ≤ 0)))], [], []⟩ (fgk (by kernel_rfl)) ?_
  refine ite_ (cb := (decide (a0 ≤ 0))) rfl (fun c1 => ?_) (fun c1 => ?_)
  · replace h0 := ip c1 h0
    refine seq_ ?_
    refine reg_ ?_
    refine st (mvc_ trivial ?_)
    refine oe_ ?_
    refine wk_ ⟨[(2, .str ([109, 48] : List UInt8))], [], []⟩ (fgk (by kernel_rfl)) ?_
    obtain rfl := Option.some.inj h0
    exact rt_ (ret_ rfl rfl rfl rfl rfl trivial)
  · replace h0 := inb c1 h0
    refine sk_ ?_
    refine wk_ ⟨[(0, .int .i64 a0)], [], []⟩ (fgk (by kernel_rfl)) ?_
    refine seq_ ?_
    refine reg_ ?_
    refine st (mvc_ trivial ?_)
    refine oe_ ?_
    refine wk_ ⟨[(0, .int .i64 a0), (3, .str ([] : List UInt8))], [], []⟩ (fgk (by kernel_rfl)) ?_
    refine seq_ ?_
    refine block_ ?_
    obtain ⟨r15, e16, h0⟩ := bnd h0
    refine loop_ (R := (fun S => ∃ p12 : List UInt8, p12 = r15 ∧ S = ⟨[(3, .str p12)], [], []⟩)) (g316_l0) (fun s S => match s with | (p6, p7) => S = ⟨[(0, .int .i64 p6), (3, .str p7)], [], []⟩) e16 ⟨[(0, .int .i64 a0), (3, .str ([] : List UInt8))], [], []⟩ (fgk (by kernel_rfl)) rfl 0 (fun _ => rfl) ?_ ?_
    · rintro S _ hfg ⟨p12, rfl, rfl⟩
      refine wk_ ⟨[(3, .str p12)], [], []⟩ (fglk hfg (by kernel_rfl)) ?_
      refine seq_ ?_
      refine reg_ ?_
      refine st (mv_ rfl trivial ?_)
      obtain ⟨c17, h0⟩ := grd h0
      refine st (c_ (cp_ ⟨trivial, trivial, trivial⟩ rfl c17) ?_)
      refine st (mv_ rfl trivial ?_)
      refine oe_ ?_
      refine wk_ ⟨[(2, .str (([109] : List UInt8) ++ p12))], [], []⟩ (fgk (by kernel_rfl)) ?_
      obtain rfl := Option.some.inj h0
      exact rt_ (ret_ rfl rfl rfl rfl rfl trivial)
    · rintro ⟨p6, p7⟩ o1 _ K1 rfl h1 hx1 hK1 hE1 hR1
      refine seq_ ?_
      refine seq_ ?_
      refine reg_ ?_
      refine st (mv_ rfl trivial ?_)
      refine st (c_ (cp_ ⟨trivial, trivial, trivial⟩ rfl trivial) ?_)
      refine oe_ ?_
      refine wk_ ⟨[(0, .int .i64 p6), (3, .str p7), (7, .bool (decide (p6 > 0)))], [], []⟩ (fgk (by kernel_rfl)) ?_
      refine ite_ (cb := (decide (p6 > 0))) rfl (fun c13 => ?_) (fun c13 => ?_)
      · replace h1 := ip c13 h1
        refine sk_ ?_
        refine wk_ ⟨[(0, .int .i64 p6), (3, .str p7)], [], []⟩ (fgk (by kernel_rfl)) ?_
        refine block_ ?_
        refine seq_ ?_
        refine reg_ ?_
        refine st (mv_ rfl trivial ?_)
        refine st (c_ (cp_ ⟨trivial, trivial, trivial⟩ rfl (by decide)) ?_)
        refine st (c_ (cp_ ⟨trivial, trivial, trivial⟩ rfl trivial) ?_)
        refine st (c_ (cb8 (cp_ ⟨trivial, trivial⟩ rfl trivial)) ?_)
        refine st (mkS_ ⟨trivial, trivial⟩ ⟨⟨Nat.le_of_ble_eq_true rfl, rfl, rfl⟩, trivial⟩ ?_)
        refine st (c_ (ctoStrO (s := ([b8 (IntKind.i64.wrap (48 + ((p6).tmod 10)))] : List UInt8)) rfl rfl trivial) ?_)
        refine st (mv_ rfl trivial ?_)
        obtain ⟨c14, h1⟩ := grd h1
        refine st (c_ (cp_ ⟨trivial, trivial, trivial⟩ rfl c14) ?_)
        refine st (mv_ rfl trivial ?_)
        refine oe_ ?_
        refine wk_ ⟨[(0, .int .i64 p6), (3, .str (([b8 (IntKind.i64.wrap (48 + ((p6).tmod 10)))] : List UInt8) ++ p7))], [], []⟩ (fgk (by kernel_rfl)) ?_
        refine reg_ ?_
        refine st (mv_ rfl trivial ?_)
        refine st (c_ (cp_ ⟨trivial, trivial, trivial⟩ rfl (by decide)) ?_)
        refine st (mv_ rfl trivial ?_)
        refine oe_ ?_
        refine bn_ ?_
        obtain rfl := Option.some.inj h1
        exact hK1 _ rfl _ ⟨[(0, .int .i64 (IntKind.i64.wrap ((p6).tdiv 10))), (3, .str (([b8 (IntKind.i64.wrap (48 + ((p6).tmod 10)))] : List UInt8) ++ p7))], [], []⟩ (fgk (by kernel_rfl)) rfl
      · replace h1 := inb c13 h1
        obtain rfl := Option.some.inj h1
        obtain rfl := hx1 _ rfl
        refine exQ rfl ?_
        exact hE1 _ ⟨[(3, .str p7)], [], []⟩ (fgk (by kernel_rfl)) ⟨_, rfl, rfl⟩

/- loop.example/g00149/laws.markIssuedS -/
def c301_r0 : List Ins := [⟨some 4, .p (.mv (.c (.int .i64 0))), none⟩]
def c301_r1 : List Ins := [⟨some 5, .p (.mv (.c (.int .i64 0))), none⟩]
def c301_r2 : List Ins := [⟨some 6, .p (.mv (.t 5)), none⟩,
 ⟨some 7, .p (.mv (.t 0)), none⟩,
 ⟨some 8, .p (.len (.t 7)), none⟩,
 ⟨some 9, .p (.bin .lss (.t 6) (.t 8)), none⟩]
def c301_r3 : List Ins := [⟨some 12, .p (.mv (.t 0)), none⟩,
 ⟨some 13, .p (.mv (.t 5)), none⟩,
 ⟨some 14, .p (.mv (.t 1)), none⟩,
 ⟨some 15, .p (.idxA (.t 12) (.t 13) 4), none⟩,
 ⟨some 16, .p (.fieldA (.t 15) 0), none⟩,
 ⟨none, .store (.t 16) (.t 14) 1, none⟩]
def c301_r4 : List Ins := [⟨some 17, .p (.mv (.t 1)), none⟩,
 ⟨some 18, .p (.bin .add (.t 17) (.c (.int .i64 1))), none⟩,
 ⟨some 1, .p (.mv (.t 18)), none⟩]
def c301_r5 : List Ins := [⟨some 19, .p (.mv (.t 0)), none⟩,
 ⟨some 20, .p (.mv (.t 5)), none⟩,
 ⟨some 21, .p (.mv (.t 1)), none⟩,
 ⟨some 22, .p (.idxA (.t 19) (.t 20) 4), none⟩,
 ⟨some 23, .p (.fieldA (.t 22) 1), none⟩,
 ⟨none, .store (.t 23) (.t 21) 1, none⟩]
def c301_r6 : List Ins := [⟨some 24, .p (.mv (.t 1)), none⟩,
 ⟨some 25, .p (.bin .add (.t 24) (.c (.int .i64 1))), none⟩,
 ⟨some 1, .p (.mv (.t 25)), none⟩]
def c301_r7 : List Ins := [⟨some 26, .p (.mv (.t 0)), none⟩,
 ⟨some 27, .p (.mv (.t 5)), none⟩,
 ⟨some 28, .p (.mv (.t 1)), none⟩,
 ⟨some 29, .call 316 [(.t 28)], none⟩,
 ⟨some 30, .p (.idxA (.t 26) (.t 27) 4), none⟩,
 ⟨some 31, .p (.fieldA (.t 30) 2), none⟩,
 ⟨none, .store (.t 31) (.t 29) 1, none⟩]
def c301_r8 : List Ins := [⟨some 32, .p (.mv (.t 1)), none⟩,
 ⟨some 33, .p (.bin .add (.t 32) (.c (.int .i64 1))), none⟩,
 ⟨some 1, .p (.mv (.t 33)), none⟩]
def c301_r9 : List Ins := [⟨some 34, .p (.mv (.t 0)), none⟩,
 ⟨some 35, .p (.mv (.t 5)), none⟩,
 ⟨some 36, .p (.mv (.t 1)), none⟩,
 ⟨some 37, .p (.bin .rem (.t 36) (.c (.int .i64 3))), none⟩,
 ⟨some 38, .p (.bin .eql (.t 37) (.c (.int .i64 0))), none⟩,
 ⟨some 39, .p (.idxA (.t 34) (.t 35) 4), none⟩,
 ⟨some 40, .p (.fieldA (.t 39) 3), none⟩,
 ⟨none, .store (.t 40) (.t 38) 1, none⟩]
def c301_r10 : List Ins := [⟨some 41, .p (.mv (.t 1)), none⟩,
 ⟨some 42, .p (.bin .add (.t 41) (.c (.int .i64 1))), none⟩,
 ⟨some 1, .p (.mv (.t 42)), none⟩]
def c301_r11 : List Ins := [⟨some 10, .p (.mv (.t 5)), none⟩,
 ⟨some 11, .p (.bin .add (.t 10) (.c (.int .i64 1))), none⟩,
 ⟨some 5, .p (.mv (.t 11)), none⟩]
def c301_l0 : IR := (.seq (.seq (.reg c301_r2) (.ite (.t 9) .skip (.exit 0))) (.seq (.block 1 (.seq (.reg c301_r3) (.seq (.reg c301_r4) (.seq (.reg c301_r5) (.seq (.reg c301_r6) (.seq (.reg c301_r7) (.seq (.reg c301_r8) (.seq (.reg c301_r9) (.reg c301_r10))))))))) (.reg c301_r11)))
def c301_r12 : List Ins := [⟨some 43, .p (.mv (.t 1)), none⟩,
 ⟨some 4, .p (.mv (.t 43)), none⟩]
def c301 : XFn := { np := 2, nt := 44, res := [.t 4], body := (.seq (.reg c301_r0) (.seq (.seq (.reg c301_r1) (.block 0 (.loop c301_l0))) (.seq (.reg c301_r12) .ret))) }
def K301 (C : CRel) : Prop := ∀ (a0 : List DIssued) (a1 : Int) (r : Int × (List DIssued)), g301 a0 a1 = some r → C 301 ⟨[.own 2097152 0 4 (a0.map eDIssued), .int .i64 a1], []⟩ ⟨.int .i64 r.1, [], [(0, 4, r.2.map eDIssued)]⟩
theorem F301 {C : CRel} (H316 : K316 C) (a0 : List DIssued) (a1 : Int) (r : Int × (List DIssued)) (h0 : g301 a0 a1 = some r) : FnOK C c301 ⟨[.own 2097152 0 4 (a0.map eDIssued), .int .i64 a1], []⟩ ⟨.int .i64 r.1, [], [(0, 4, r.2.map eDIssued)]⟩ := by
  refine fn_ (Nat.le_of_ble_eq_true rfl) ?_
  refine seq_ ?_
  refine reg_ ?_
  refine st (mvc_ trivial ?_)
  refine oe_ ?_
  refine wk_ ⟨[(0, .own 2097152 0 4 (a0.map eDIssued)), (1, .int .i64 a1)], [], []⟩ (fgk (by kernel_rfl)) ?_
  refine seq_ ?_
  refine seq_ ?_
  refine reg_ ?_
  refine st (mvc_ trivial ?_)
  refine oe_ ?_
  refine wk_ ⟨[(0, .own 2097152 0 4 (a0.map eDIssued)), (1, .int .i64 a1), (5, .int .i64 0)], [], []⟩ (fgk (by kernel_rfl)) ?_
  refine block_ ?_
  obtain ⟨r84, e85, h0⟩ := bnd h0
  refine loop_ (R := (fun S => ∃ p57 : List DIssued, ∃ p58 : Int, (p57, p58) = r84 ∧ S = ⟨[(0, .own 2097152 0 4 (p57.map eDIssued)), (1, .int .i64 p58)], [], []⟩)) (g301_l0) (fun s S => match s with | (p26, p27, p28) => S = ⟨[(0, .own 2097152 0 4 (p26.map eDIssued)), (1, .int .i64 p27), (5, .int .i64 p28)], [], []⟩) e85 ⟨[(0, .own 2097152 0 4 (a0.map eDIssued)), (1, .int .i64 a1), (5, .int .i64 0)], [], []⟩ (fgk (by kernel_rfl)) rfl 0 (fun _ => rfl) ?_ ?_
  · rintro S _ hfg ⟨p57, p58, rfl, rfl⟩
    refine wk_ ⟨[(0, .own 2097152 0 4 (p57.map eDIssued)), (1, .int .i64 p58)], [], []⟩ (fglk hfg (by kernel_rfl)) ?_
    refine seq_ ?_
    refine reg_ ?_
    refine st (mv_ rfl trivial ?_)
    refine st (mv_ rfl trivial ?_)
    refine oe_ ?_
    refine wk_ ⟨[(0, .own 2097152 0 4 (p57.map eDIssued)), (4, .int .i64 p58)], [], []⟩ (fgk (by kernel_rfl)) ?_
    obtain rfl := Option.some.inj h0
    exact rt_ (ret_ rfl rfl rfl rfl rfl ⟨⟨rfl, mlen (fun _ => rfl)⟩, trivial⟩)
  · rintro ⟨p26, p27, p28⟩ o1 _ K1 rfl h1 hx1 hK1 hE1 hR1
    refine seq_ ?_
    refine seq_ ?_
    refine reg_ ?_
    refine st (mv_ rfl trivial ?_)
    refine st (mv_ rfl trivial ?_)
    refine st (c_ (clenO (e := eDIssued) (l0 := p26) rfl rfl trivial) ?_)
    refine st (c_ (cp_ ⟨trivial, trivial, trivial⟩ rfl trivial) ?_)
    refine oe_ ?_
    refine wk_ ⟨[(0, .own 2097152 0 4 (p26.map eDIssued)), (1, .int .i64 p27), (5, .int .i64 p28), (9, .bool (decide (p28 < (p26.length : Int))))], [], []⟩ (fgk (by kernel_rfl)) ?_
    refine ite_ (cb := (decide (p28 < (p26.length : Int)))) rfl (fun c59 => ?_) (fun c59 => ?_)
    · replace h1 := ip c59 h1
      refine sk_ ?_
      refine wk_ ⟨[(0, .own 2097152 0 4 (p26.map eDIssued)), (1, .int .i64 p27), (5, .int .i64 p28)], [], []⟩ (fgk (by kernel_rfl)) ?_
      refine seq_ ?_
      refine block_ ?_
      refine seq_ ?_
      refine reg_ ?_
      refine st (mv_ rfl trivial ?_)
      refine st (mv_ rfl trivial ?_)
      refine st (mv_ rfl trivial ?_)
      obtain ⟨y60, e61, h1⟩ := bnd h1
      refine st (c_ (cidxO (e := eDIssued) (y := y60) rfl rfl trivial rfl rfl trivial e61) ?_)
      refine st (c_ (cp_ ⟨trivial, trivial⟩ rfl trivial) ?_)
      obtain ⟨y62, e63, h1⟩ := bnd h1
      refine st (sto_ (y' := (DIssued.mk p27 y62.to_ y62.subject y62.revoked)) rfl rfl trivial rfl rfl rfl rfl e63 (Nat.le_of_ble_eq_true rfl) rfl rfl rfl rfl ?_)
      refine oe_ ?_
      refine wk_ ⟨[(0, .own 2097152 0 4 ((p26.set p28.toNat (DIssued.mk p27 y62.to_ y62.subject y62.revoked)).map eDIssued)), (1, .int .i64 p27), (5, .int .i64 p28)], [], []⟩ (fg ⟨(congrArg (fun z => some ((.own 2097152 0 4 z : V))) overlay_map), rfl, rfl, trivial⟩ trivial) ?_
      refine seq_ ?_
      refine reg_ ?_
      refine st (mv_ rfl trivial ?_)
      refine st (c_ (cp_ ⟨trivial, trivial, trivial⟩ rfl trivial) ?_)
      refine st (mv_ rfl trivial ?_)
      refine oe_ ?_
      refine wk_ ⟨[(0, .own 2097152 0 4 ((p26.set p28.toNat (DIssued.mk p27 y62.to_ y62.subject y62.revoked)).map eDIssued)), (1, .int .i64 (IntKind.i64.wrap (p27 + 1))), (5, .int .i64 p28)], [], []⟩ (fgk (by kernel_rfl)) ?_
      refine seq_ ?_
      refine reg_ ?_
      refine st (mv_ rfl trivial ?_)
      refine st (mv_ rfl trivial ?_)
      refine st (mv_ rfl trivial ?_)
      obtain ⟨y64, e65, h1⟩ := bnd h1
      refine st (c_ (cidxO (e := eDIssued) (y := y64) rfl rfl trivial rfl rfl trivial e65) ?_)
      refine st (c_ (cp_ ⟨trivial, trivial⟩ rfl trivial) ?_)
      obtain ⟨y66, e67, h1⟩ := bnd h1
      refine st (sto_ (y' := (DIssued.mk y66.serial (IntKind.i64.wrap (p27 + 1)) y66.subject y66.revoked)) rfl rfl trivial rfl rfl rfl rfl e67 (Nat.le_of_ble_eq_true rfl) rfl rfl rfl rfl ?_)
      refine oe_ ?_
      refine wk_ ⟨[(0, .own 2097152 0 4 (((p26.set p28.toNat (DIssued.mk p27 y62.to_ y62.subject y62.revoked)).set p28.toNat (DIssued.mk y66.serial (IntKind.i64.wrap (p27 + 1)) y66.subject y66.revoked)).map eDIssued)), (1, .int .i64 (IntKind.i64.wrap (p27 + 1))), (5, .int .i64 p28)], [], []⟩ (fg ⟨(congrArg (fun z => some ((.own 2097152 0 4 z : V))) overlay_map), rfl, rfl, trivial⟩ trivial) ?_
      refine seq_ ?_
      refine reg_ ?_
      refine st (mv_ rfl trivial ?_)
      refine st (c_ (cp_ ⟨trivial, trivial, trivial⟩ rfl trivial) ?_)
      refine st (mv_ rfl trivial ?_)
      refine oe_ ?_
      obtain ⟨v68, e69, h1⟩ := bl h1
      refine wk_ ⟨[(0, .own 2097152 0 4 (v68.map eDIssued)), (1, .int .i64 (IntKind.i64.wrap ((IntKind.i64.wrap (p27 + 1)) + 1))), (5, .int .i64 p28)], [], []⟩ (fgk (by subst e69; kernel_rfl)) ?_
      refine seq_ ?_
      refine reg_ ?_
      refine st (mv_ rfl trivial ?_)
      refine st (mv_ rfl trivial ?_)
      refine st (mv_ rfl trivial ?_)
      obtain ⟨r70, e71, h1⟩ := bnd h1
      refine st (call0_ (r := .str r70) false (H316 (IntKind.i64.wrap ((IntKind.i64.wrap (p27 + 1)) + 1)) r70 e71) ⟨trivial, trivial⟩ rfl rfl (fun _ => rfl) ?_)
      obtain ⟨y72, e73, h1⟩ := bnd h1
      refine st (c_ (cidxO (e := eDIssued) (y := y72) rfl rfl trivial rfl rfl trivial e73) ?_)
      refine st (c_ (cp_ ⟨trivial, trivial⟩ rfl trivial) ?_)
      obtain ⟨y74, e75, h1⟩ := bnd h1
      refine st (sto_ (y' := (DIssued.mk y74.serial y74.to_ r70 y74.revoked)) rfl rfl trivial rfl rfl rfl rfl e75 (Nat.le_of_ble_eq_true rfl) rfl rfl rfl rfl ?_)
      refine oe_ ?_
      refine wk_ ⟨[(0, .own 2097152 0 4 ((v68.set p28.toNat (DIssued.mk y74.serial y74.to_ r70 y74.revoked)).map eDIssued)), (1, .int .i64 (IntKind.i64.wrap ((IntKind.i64.wrap (p27 + 1)) + 1))), (5, .int .i64 p28)], [], []⟩ (fg ⟨(congrArg (fun z => some ((.own 2097152 0 4 z : V))) overlay_map), rfl, rfl, trivial⟩ trivial) ?_
      refine seq_ ?_
      refine reg_ ?_
      refine st (mv_ rfl trivial ?_)
      refine st (c_ (cp_ ⟨trivial, trivial, trivial⟩ rfl trivial) ?_)
      refine st (mv_ rfl trivial ?_)
      refine oe_ ?_
      obtain ⟨v76, e77, h1⟩ := bl h1
      refine wk_ ⟨[(0, .own 2097152 0 4 ((v68.set p28.toNat (DIssued.mk y74.serial y74.to_ r70 y74.revoked)).map eDIssued)), (1, .int .i64 v76), (5, .int .i64 p28)], [], []⟩ (fgk (by subst e77; kernel_rfl)) ?_
      refine seq_ ?_
      refine reg_ ?_
      refine st (mv_ rfl trivial ?_)
      refine st (mv_ rfl trivial ?_)
      refine st (mv_ rfl trivial ?_)
      refine st (c_ (cp_ ⟨trivial, trivial, trivial⟩ rfl (by decide)) ?_)
      refine st (c_ (cp_ ⟨trivial, trivial, trivial⟩ rfl trivial) ?_)
      obtain ⟨y78, e79, h1⟩ := bnd h1
      refine st (c_ (cidxO (e := eDIssued) (y := y78) rfl rfl trivial rfl rfl trivial e79) ?_)
      refine st (c_ (cp_ ⟨trivial, trivial⟩ rfl trivial) ?_)
      obtain ⟨y80, e81, h1⟩ := bnd h1
      refine st (sto_ (y' := (DIssued.mk y80.serial y80.to_ y80.subject (((v76).tmod 3) == 0))) rfl rfl trivial rfl rfl rfl rfl e81 (Nat.le_of_ble_eq_true rfl) rfl rfl rfl rfl ?_)
      refine oe_ ?_
      refine wk_ ⟨[(0, .own 2097152 0 4 (((v68.set p28.toNat (DIssued.mk y74.serial y74.to_ r70 y74.revoked)).set p28.toNat (DIssued.mk y80.serial y80.to_ y80.subject (((v76).tmod 3) == 0))).map eDIssued)), (1, .int .i64 v76), (5, .int .i64 p28)], [], []⟩ (fg ⟨(congrArg (fun z => some ((.own 2097152 0 4 z : V))) overlay_map), rfl, rfl, trivial⟩ trivial) ?_
      refine reg_ ?_
      refine st (mv_ rfl trivial ?_)
      refine st (c_ (cp_ ⟨trivial, trivial, trivial⟩ rfl trivial) ?_)
      refine st (mv_ rfl trivial ?_)
      refine oe_ ?_
      refine bn_ ?_
      obtain ⟨v82, e83, h1⟩ := bl h1
      refine wk_ ⟨[(0, .own 2097152 0 4 (v82.map eDIssued)), (1, .int .i64 (IntKind.i64.wrap (v76 + 1))), (5, .int .i64 p28)], [], []⟩ (fgk (by subst e83; kernel_rfl)) ?_
      refine reg_ ?_
      refine st (mv_ rfl trivial ?_)
      refine st (c_ (cp_ ⟨trivial, trivial, trivial⟩ rfl trivial) ?_)
      refine st (mv_ rfl trivial ?_)
      refine oe_ ?_
      obtain rfl := Option.some.inj h1
      exact hK1 _ rfl _ ⟨[(0, .own 2097152 0 4 (v82.map eDIssued)), (1, .int .i64 (IntKind.i64.wrap (v76 + 1))), (5, .int .i64 (IntKind.i64.wrap (p28 + 1)))], [], []⟩ (fgk (by kernel_rfl)) rfl
    · replace h1 := inb c59 h1
      obtain rfl := Option.some.inj h1
      obtain rfl := hx1 _ rfl
      refine exQ rfl ?_
      exact hE1 _ ⟨[(0, .own 2097152 0 4 (p26.map eDIssued)), (1, .int .i64 p27)], [], []⟩ (fgk (by kernel_rfl)) ⟨_, _, rfl, rfl⟩

/- loop.example/g00149/laws.markAuthority -/
def c239_r0 : List Ins := [⟨some 2, .box (.t 0), none⟩,
 ⟨some 4, .p (.mv (.c (.int .i64 0))), none⟩]
def c239_r1 : List Ins := [⟨some 5, .p (.fieldA (.t 2) 1), none⟩,
 ⟨some 6, .p (.load (.t 5) 1 false), none⟩,
 ⟨some 7, .p (.mv (.t 1)), none⟩,
 ⟨some 8, .call 235 [(.t 6), (.t 7)], none⟩,
 ⟨some 1, .p (.mv (.t 8)), none⟩]
def c239_r2 : List Ins := [⟨some 9, .p (.fieldA (.t 2) 6), none⟩,
 ⟨some 10, .p (.load (.t 9) 1 false), none⟩,
 ⟨some 11, .p (.mv (.t 1)), none⟩,
 ⟨some 12, .call 301 [(.t 10), (.t 11)], none⟩,
 ⟨some 1, .p (.mv (.t 12)), none⟩]
def c239_r3 : List Ins := [⟨some 13, .p (.mv (.t 1)), none⟩,
 ⟨some 4, .p (.mv (.t 13)), none⟩]
def c239 : XFn := { np := 2, nt := 14, res := [.t 4], body := (.seq (.reg c239_r0) (.seq (.reg c239_r1) (.seq (.reg c239_r2) (.seq (.reg c239_r3) .ret)))) }
def K239 (C : CRel) : Prop := ∀ (a0 : DAuthority) (a1 : Int) (r : Int × (List UInt8) × (List DIssued)), g239 a0 a1 = some r → C 239 ⟨[.agg [.str a0.name_, .own 2097152 0 1 (a0.seed.map eU8), .int .i64 a0.serial, .int .i64 a0.number, .str a0.suffix, .int .i64 a0.most, .own 2097153 0 4 (a0.list_.map eDIssued)], .int .i64 a1], []⟩ ⟨.int .i64 r.1, [], [(0, 1, r.2.1.map eU8), (0, 4, r.2.2.map eDIssued)]⟩
theorem F239 {C : CRel} (H235 : K235 C) (H301 : K301 C) (a0 : DAuthority) (a1 : Int) (r : Int × (List UInt8) × (List DIssued)) (h0 : g239 a0 a1 = some r) : FnOK C c239 ⟨[.agg [.str a0.name_, .own 2097152 0 1 (a0.seed.map eU8), .int .i64 a0.serial, .int .i64 a0.number, .str a0.suffix, .int .i64 a0.most, .own 2097153 0 4 (a0.list_.map eDIssued)], .int .i64 a1], []⟩ ⟨.int .i64 r.1, [], [(0, 1, r.2.1.map eU8), (0, 4, r.2.2.map eDIssued)]⟩ := by
  refine fn_ (Nat.le_of_ble_eq_true rfl) ?_
  refine seq_ ?_
  refine reg_ ?_
  refine st (box_ rfl trivial rfl ?_)
  refine st (mvc_ trivial ?_)
  refine oe_ ?_
  refine wk_ ⟨[(0, .agg [.str a0.name_, .own 2097152 0 1 (a0.seed.map eU8), .int .i64 a0.serial, .int .i64 a0.number, .str a0.suffix, .int .i64 a0.most, .own 2097153 0 4 (a0.list_.map eDIssued)]), (1, .int .i64 a1), (2, .ptr 128 0)], [(128, [.str a0.name_, .own 2097152 0 1 (a0.seed.map eU8), .int .i64 a0.serial, .int .i64 a0.number, .str a0.suffix, .int .i64 a0.most, .own 2097153 0 4 (a0.list_.map eDIssued)])], []⟩ (fgk (by kernel_rfl)) ?_
  refine seq_ ?_
  refine reg_ ?_
  refine st (c_ (cp_ ⟨trivial, trivial⟩ rfl trivial) ?_)
  refine st (c_ (cp_ ⟨trivial, trivial⟩ rfl (Nat.le_of_ble_eq_true rfl)) ?_)
  refine st (mv_ rfl trivial ?_)
  obtain ⟨r1, e2, h0⟩ := bnd h0
  obtain ⟨c3, h0⟩ := grd h0
  refine st (call1_ [] [2097152] [] false (H235 a0.seed a1 r1 e2) ⟨trivial, trivial, trivial⟩ (by kernel_rfl) (by kernel_rfl) (by kernel_rfl) (by kernel_rfl) (fun _ => and_ rfl (and_ (fl2 (fun _ => rfl)) rfl)) ?_)
  refine sw ⟨[(0, .agg [.str a0.name_, .own 2097152 0 1 (r1.2.map eU8), .int .i64 a0.serial, .int .i64 a0.number, .str a0.suffix, .int .i64 a0.most, .own 2097153 0 4 (a0.list_.map eDIssued)]), (2, .ptr 128 0), (8, .int .i64 r1.1)], [(128, [.str a0.name_, .own 2097152 0 1 (r1.2.map eU8), .int .i64 a0.serial, .int .i64 a0.number, .str a0.suffix, .int .i64 a0.most, .own 2097153 0 4 (a0.list_.map eDIssued)])], []⟩ (fg ⟨(congrArg (fun z => some ((.agg [.str a0.name_, z, .int .i64 a0.serial, .int .i64 a0.number, .str a0.suffix, .int .i64 a0.most, .own 2097153 0 4 (a0.list_.map eDIssued)] : V))) (row_eq c3)), rfl, rfl, trivial⟩ ⟨(congrArg (fun z => some (([.str a0.name_, z, .int .i64 a0.serial, .int .i64 a0.number, .str a0.suffix, .int .i64 a0.most, .own 2097153 0 4 (a0.list_.map eDIssued)] : List V))) (row_eq c3)), trivial⟩) (mv_ rfl trivial ?_)
  refine oe_ ?_
  refine wk_ ⟨[(0, .agg [.str a0.name_, .own 2097152 0 1 (r1.2.map eU8), .int .i64 a0.serial, .int .i64 a0.number, .str a0.suffix, .int .i64 a0.most, .own 2097153 0 4 (a0.list_.map eDIssued)]), (1, .int .i64 r1.1), (2, .ptr 128 0)], [(128, [.str a0.name_, .own 2097152 0 1 (r1.2.map eU8), .int .i64 a0.serial, .int .i64 a0.number, .str a0.suffix, .int .i64 a0.most, .own 2097153 0 4 (a0.list_.map eDIssued)])], []⟩ (fgk (by kernel_rfl)) ?_
  refine seq_ ?_
  refine reg_ ?_
  refine st (c_ (cp_ ⟨trivial, trivial⟩ rfl trivial) ?_)
  refine st (c_ (cp_ ⟨trivial, trivial⟩ rfl (Nat.le_of_ble_eq_true rfl)) ?_)
  refine st (mv_ rfl trivial ?_)
  obtain ⟨r4, e5, h0⟩ := bnd h0
  obtain ⟨c6, h0⟩ := grd h0
  refine st (call1_ [] [2097153] [] false (H301 a0.list_ r1.1 r4 e5) ⟨trivial, trivial, trivial⟩ (by kernel_rfl) (by kernel_rfl) (by kernel_rfl) (by kernel_rfl) (fun _ => and_ rfl (and_ (fl2 (fun _ => rfl)) rfl)) ?_)
  refine sw ⟨[(0, .agg [.str a0.name_, .own 2097152 0 1 (r1.2.map eU8), .int .i64 a0.serial, .int .i64 a0.number, .str a0.suffix, .int .i64 a0.most, .own 2097153 0 4 (r4.2.map eDIssued)]), (12, .int .i64 r4.1)], [], []⟩ (fg ⟨(congrArg (fun z => some ((.agg [.str a0.name_, .own 2097152 0 1 (r1.2.map eU8), .int .i64 a0.serial, .int .i64 a0.number, .str a0.suffix, .int .i64 a0.most, z] : V))) (row_eq c6)), rfl, trivial⟩ trivial) (mv_ rfl trivial ?_)
  refine oe_ ?_
  refine wk_ ⟨[(0, .agg [.str a0.name_, .own 2097152 0 1 (r1.2.map eU8), .int .i64 a0.serial, .int .i64 a0.number, .str a0.suffix, .int .i64 a0.most, .own 2097153 0 4 (r4.2.map eDIssued)]), (1, .int .i64 r4.1)], [], []⟩ (fgk (by kernel_rfl)) ?_
  refine seq_ ?_
  refine reg_ ?_
  refine st (mv_ rfl trivial ?_)
  refine st (mv_ rfl trivial ?_)
  refine oe_ ?_
  refine wk_ ⟨[(0, .agg [.str a0.name_, .own 2097152 0 1 (r1.2.map eU8), .int .i64 a0.serial, .int .i64 a0.number, .str a0.suffix, .int .i64 a0.most, .own 2097153 0 4 (r4.2.map eDIssued)]), (4, .int .i64 r4.1)], [], []⟩ (fgk (by kernel_rfl)) ?_
  obtain rfl := Option.some.inj h0
  exact rt_ (ret_ rfl rfl rfl rfl rfl ⟨⟨rfl, mlen (fun _ => rfl)⟩, ⟨⟨rfl, mlen (fun _ => rfl)⟩, trivial⟩⟩)

/- loop.example/g00149/laws.FnExactRevokedOf -/
def c205_r0 : List Ins := [⟨some 2, .box (.t 0), none⟩,
 ⟨some 4, .p (.mv (.c (.bool false))), none⟩]
def c205_r1 : List Ins := [⟨some 5, .p (.mv (.c (.int .i64 1048576))), none⟩]
def c205_r2 : List Ins := [⟨some 16, .p (.load (.t 2) 7 true), none⟩,
 ⟨some 17, .p (.mv (.t 5)), none⟩,
 ⟨some 18, .call 223 [(.t 16), (.t 17)], none⟩,
 ⟨some 5, .p (.mv (.t 18)), none⟩]
def c205_r3 : List Ins := [⟨some 19, .p (.mv (.t 5)), none⟩,
 ⟨some 20, .p (.bin .lss (.t 19) (.c (.int .i64 0))), none⟩]
def c205_r4 : List Ins := [⟨some 4, .p (.mv (.c (.bool true))), none⟩]
def c205_r5 : List Ins := [⟨some 22, .p (.load (.t 2) 7 true), none⟩,
 ⟨some 23, .call 225 [(.t 22)], none⟩,
 ⟨some 24, .p (.mv (.t 1)), none⟩,
 ⟨some 25, .call 237 [(.t 23), (.t 24)], none⟩,
 ⟨some 21, .p (.mv (.t 25)), none⟩,
 ⟨some 26, .p (.ext (.t 21) 0), none⟩,
 ⟨some 27, .p (.ext (.t 21) 1), none⟩,
 ⟨some 6, .p (.mv (.t 26)), none⟩,
 ⟨some 7, .p (.mv (.t 27)), none⟩]
def c205_r6 : List Ins := [⟨some 28, .p (.load (.t 2) 7 true), none⟩,
 ⟨some 29, .call 225 [(.t 28)], none⟩,
 ⟨some 8, .alloc [(.str []), (.own 514 0 1 []), (.int .i64 0), (.int .i64 0), (.str []), (.int .i64 0), (.own 519 0 4 [])], none⟩,
 ⟨none, .store (.t 8) (.t 29) 7, none⟩]
def c205_r7 : List Ins := [⟨some 31, .p (.load (.t 8) 7 true), none⟩,
 ⟨some 32, .p (.mv (.t 1)), none⟩,
 ⟨some 33, .call 238 [(.t 31), (.t 32)], none⟩,
 ⟨some 30, .p (.mv (.t 33)), none⟩,
 ⟨some 34, .p (.ext (.t 30) 0), none⟩,
 ⟨some 35, .p (.ext (.t 30) 1), none⟩,
 ⟨some 9, .p (.mv (.t 34)), none⟩,
 ⟨some 10, .p (.mv (.t 35)), none⟩]
def c205_r8 : List Ins := [⟨some 36, .p (.mv (.t 9)), none⟩,
 ⟨some 37, .p (.mv (.t 6)), none⟩,
 ⟨some 38, .call 36 [(.t 36), (.t 37)], none⟩,
 ⟨some 39, .p (.un .not (.t 38)), none⟩,
 ⟨some 40, .p (.mv (.t 39)), none⟩,
 ⟨some 41, .p (.mv (.t 10)), some (40, false)⟩,
 ⟨some 42, .p (.mv (.t 7)), some (40, false)⟩,
 ⟨some 43, .p (.bin .neq (.t 41) (.t 42)), some (40, false)⟩,
 ⟨some 44, .pick (.t 40) (.c (.bool true)) (.t 43), none⟩]
def c205_r9 : List Ins := [⟨some 4, .p (.mv (.c (.bool false))), none⟩]
def c205_r10 : DP := (.take ⟨some 45, .p (.load (.t 8) 7 true), none⟩
 (.take ⟨some 46, .p (.load (.t 2) 7 true), none⟩
 (.alt [⟨some 45, .p (.load (.t 8) 7 true), none⟩] ⟨some 47, .call 225 [(.t 46)], none⟩
 (.alt [] ⟨some 48, .call 227 [(.t 45), (.t 47)], none⟩
 (.take ⟨some 49, .p (.un .not (.t 48)), none⟩
 .fin)
 .stop)
 .stop)))
def c205_r11 : List Ins := [⟨some 4, .p (.mv (.c (.bool false))), none⟩]
def c205_r12 : List Ins := [⟨some 11, .p (.mv (.c (.int .i64 1))), none⟩]
def c205_r13 : List Ins := [⟨some 50, .p (.load (.t 8) 7 true), none⟩,
 ⟨some 51, .p (.mv (.t 11)), none⟩,
 ⟨some 52, .call 239 [(.t 50), (.t 51)], none⟩,
 ⟨some 11, .p (.mv (.t 52)), none⟩]
def c205_r14 : List Ins := [⟨some 53, .p (.mv (.t 11)), none⟩,
 ⟨some 54, .p (.bin .lss (.t 53) (.c (.int .i64 0))), none⟩,
 ⟨some 55, .p (.mv (.t 54)), none⟩,
 ⟨some 56, .p (.mv (.t 9)), some (55, false)⟩,
 ⟨some 57, .p (.mv (.t 6)), some (55, false)⟩,
 ⟨some 58, .call 36 [(.t 56), (.t 57)], some (55, false)⟩,
 ⟨some 59, .p (.un .not (.t 58)), some (55, false)⟩,
 ⟨some 60, .pick (.t 55) (.c (.bool true)) (.t 59), none⟩,
 ⟨some 61, .p (.mv (.t 60)), none⟩,
 ⟨some 62, .p (.mv (.t 10)), some (61, false)⟩,
 ⟨some 63, .p (.mv (.t 7)), some (61, false)⟩,
 ⟨some 64, .p (.bin .neq (.t 62) (.t 63)), some (61, false)⟩,
 ⟨some 65, .pick (.t 61) (.c (.bool true)) (.t 64), none⟩]
def c205_r15 : List Ins := [⟨some 4, .p (.mv (.c (.bool false))), none⟩]
def c205_r16 : List Ins := [⟨some 12, .p (.mv (.c (.int .i64 1))), none⟩]
def c205_r17 : List Ins := [⟨some 66, .p (.mv (.t 9)), none⟩,
 ⟨some 67, .p (.mv (.t 12)), none⟩,
 ⟨some 68, .call 37 [(.t 66), (.t 67)], none⟩,
 ⟨some 12, .p (.mv (.t 68)), none⟩]
def c205_r18 : List Ins := [⟨some 13, .p (.mv (.c (.int .i64 1))), none⟩]
def c205_r19 : List Ins := [⟨some 69, .p (.mv (.t 9)), none⟩,
 ⟨some 70, .p (.mv (.t 13)), none⟩,
 ⟨some 71, .call 38 [(.t 69), (.t 70)], none⟩,
 ⟨some 13, .p (.mv (.t 71)), none⟩]
def c205_r20 : List Ins := [⟨some 72, .p (.mv (.t 13)), none⟩,
 ⟨some 73, .p (.bin .lss (.t 72) (.c (.int .i64 0))), none⟩]
def c205_r21 : List Ins := [⟨some 4, .p (.mv (.c (.bool false))), none⟩]
def c205_r22 : List Ins := [⟨some 74, .p (.mv (.t 13)), none⟩,
 ⟨some 75, .p (.mv (.t 12)), none⟩,
 ⟨some 76, .p (.bin .neq (.t 74) (.t 75)), none⟩]
def c205_r23 : List Ins := [⟨some 4, .p (.mv (.c (.bool false))), none⟩]
def c205_r24 : List Ins := [⟨some 78, .p (.load (.t 2) 7 true), none⟩,
 ⟨some 79, .call 225 [(.t 78)], none⟩,
 ⟨some 80, .p (.mv (.t 1)), none⟩,
 ⟨some 81, .call 238 [(.t 79), (.t 80)], none⟩,
 ⟨some 77, .p (.mv (.t 81)), none⟩,
 ⟨some 82, .p (.ext (.t 77) 0), none⟩,
 ⟨some 83, .p (.ext (.t 77) 1), none⟩,
 ⟨some 14, .p (.mv (.t 82)), none⟩,
 ⟨some 15, .p (.mv (.t 83)), none⟩]
def c205_r25 : List Ins := [⟨some 84, .p (.mv (.t 14)), none⟩,
 ⟨some 85, .p (.mv (.t 6)), none⟩,
 ⟨some 86, .call 36 [(.t 84), (.t 85)], none⟩,
 ⟨some 87, .p (.un .not (.t 86)), none⟩,
 ⟨some 88, .p (.mv (.t 87)), none⟩,
 ⟨some 89, .p (.mv (.t 15)), some (88, false)⟩,
 ⟨some 90, .p (.mv (.t 7)), some (88, false)⟩,
 ⟨some 91, .p (.bin .neq (.t 89) (.t 90)), some (88, false)⟩,
 ⟨some 92, .pick (.t 88) (.c (.bool true)) (.t 91), none⟩]
def c205_r26 : List Ins := [⟨some 4, .p (.mv (.c (.bool false))), none⟩]
def c205_r27 : List Ins := [⟨some 13, .p (.mv (.c (.int .i64 1))), none⟩]
def c205_r28 : List Ins := [⟨some 93, .p (.mv (.t 9)), none⟩,
 ⟨some 94, .p (.mv (.t 13)), none⟩,
 ⟨some 95, .call 38 [(.t 93), (.t 94)], none⟩,
 ⟨some 13, .p (.mv (.t 95)), none⟩]
def c205_r29 : List Ins := [⟨some 96, .p (.mv (.t 13)), none⟩,
 ⟨some 97, .p (.bin .lss (.t 96) (.c (.int .i64 0))), none⟩]
def c205_r30 : List Ins := [⟨some 4, .p (.mv (.c (.bool false))), none⟩]
def c205_r31 : List Ins := [⟨some 98, .p (.mv (.t 13)), none⟩,
 ⟨some 99, .p (.mv (.t 12)), none⟩,
 ⟨some 100, .p (.bin .neq (.t 98) (.t 99)), none⟩]
def c205_r32 : List Ins := [⟨some 4, .p (.mv (.c (.bool false))), none⟩]
def c205_r33 : List Ins := [⟨some 4, .p (.mv (.c (.bool true))), none⟩]
def c205 : XFn := { np := 2, nt := 101, res := [.t 4], body := (.seq (.reg c205_r0) (.seq (.reg c205_r1) (.seq (.reg c205_r2) (.seq (.seq (.reg c205_r3) (.ite (.t 20) (.seq (.reg c205_r4) .ret) .skip)) (.seq (.reg c205_r5) (.seq (.reg c205_r6) (.seq (.reg c205_r7) (.seq (.seq (.reg c205_r8) (.ite (.t 44) (.seq (.reg c205_r9) .ret) .skip)) (.seq (.seq (.draw c205_r10) (.ite (.t 49) (.seq (.reg c205_r11) .ret) .skip)) (.seq (.reg c205_r12) (.seq (.reg c205_r13) (.seq (.seq (.reg c205_r14) (.ite (.t 65) (.seq (.reg c205_r15) .ret) .skip)) (.seq (.reg c205_r16) (.seq (.reg c205_r17) (.seq (.reg c205_r18) (.seq (.reg c205_r19) (.seq (.seq (.reg c205_r20) (.ite (.t 73) (.seq (.reg c205_r21) .ret) .skip)) (.seq (.seq (.reg c205_r22) (.ite (.t 76) (.seq (.reg c205_r23) .ret) .skip)) (.seq (.reg c205_r24) (.seq (.seq (.reg c205_r25) (.ite (.t 92) (.seq (.reg c205_r26) .ret) .skip)) (.seq (.reg c205_r27) (.seq (.reg c205_r28) (.seq (.seq (.reg c205_r29) (.ite (.t 97) (.seq (.reg c205_r30) .ret) .skip)) (.seq (.seq (.reg c205_r31) (.ite (.t 100) (.seq (.reg c205_r32) .ret) .skip)) (.seq (.reg c205_r33) .ret))))))))))))))))))))))))) }
def K205 (C : CRel) : Prop := ∀ (a0 : DAuthority) (a1 : Int) (r : Bool), g205 a0 a1 = some r → C 205 ⟨[.agg [.str a0.name_, .lst 1 (a0.seed.map eU8), .int .i64 a0.serial, .int .i64 a0.number, .str a0.suffix, .int .i64 a0.most, .lst 4 (a0.list_.map eDIssued)], .int .i64 a1], []⟩ ⟨.bool r, [], []⟩
theorem F205 {C : CRel} (H36 : K36 C) (H37 : K37 C) (H38 : K38 C) (H223 : K223 C) (H225 : K225 C) (H227 : K227 C) (H237 : K237 C) (H238 : K238 C) (H239 : K239 C) (a0 : DAuthority) (a1 : Int) (r : Bool) (h0 : g205 a0 a1 = some r) : FnOK C c205 ⟨[.agg [.str a0.name_, .lst 1 (a0.seed.map eU8), .int .i64 a0.serial, .int .i64 a0.number, .str a0.suffix, .int .i64 a0.most, .lst 4 (a0.list_.map eDIssued)], .int .i64 a1], []⟩ ⟨.bool r, [], []⟩ := by
  refine fn_ (Nat.le_of_ble_eq_true rfl) ?_
  refine seq_ ?_
  refine reg_ ?_
  refine st (box_ rfl trivial rfl ?_)
  refine st (mvc_ trivial ?_)
  refine oe_ ?_
  refine wk_ ⟨[(1, .int .i64 a1), (2, .ptr 128 0)], [(128, [.str a0.name_, .lst 1 (a0.seed.map eU8), .int .i64 a0.serial, .int .i64 a0.number, .str a0.suffix, .int .i64 a0.most, .lst 4 (a0.list_.map eDIssued)])], []⟩ (fgk (by kernel_rfl)) ?_
  refine seq_ ?_
  refine reg_ ?_
  refine st (mvc_ trivial ?_)
  refine oe_ ?_
  refine wk_ ⟨[(1, .int .i64 a1), (2, .ptr 128 0), (5, .int .i64 1048576)], [(128, [.str a0.name_, .lst 1 (a0.seed.map eU8), .int .i64 a0.serial, .int .i64 a0.number, .str a0.suffix, .int .i64 a0.most, .lst 4 (a0.list_.map eDIssued)])], []⟩ (fgk (by kernel_rfl)) ?_
  refine seq_ ?_
  refine reg_ ?_
  refine st (c_ (v := .agg [.str a0.name_, .lst 1 (a0.seed.map eU8), .int .i64 a0.serial, .int .i64 a0.number, .str a0.suffix, .int .i64 a0.most, .lst 4 (a0.list_.map eDIssued)]) (cp_ ⟨trivial, trivial⟩ rfl (Nat.le_of_ble_eq_true rfl)) ?_)
  refine st (mv_ rfl trivial ?_)
  obtain ⟨r1, e2, h0⟩ := bnd h0
  refine st (call0_ (r := .int .i64 r1) false (H223 a0 1048576 r1 e2) ⟨trivial, trivial, trivial⟩ rfl rfl (fun _ => rfl) ?_)
  refine st (mv_ rfl trivial ?_)
  refine oe_ ?_
  refine wk_ ⟨[(1, .int .i64 a1), (2, .ptr 128 0), (5, .int .i64 r1)], [(128, [.str a0.name_, .lst 1 (a0.seed.map eU8), .int .i64 a0.serial, .int .i64 a0.number, .str a0.suffix, .int .i64 a0.most, .lst 4 (a0.list_.map eDIssued)])], []⟩ (fgk (by kernel_rfl)) ?_
  refine seq_ ?_
  refine seq_ ?_
  refine reg_ ?_
  refine st (mv_ rfl trivial ?_)
  refine st (c_ (cp_ ⟨trivial, trivial, trivial⟩ rfl trivial) ?_)
  refine oe_ ?_
  refine wk_ ⟨[(1, .int .i64 a1), (2, .ptr 128 0), (20, .bool (decide (r1 < 0)))], [(128, [.str a0.name_, .lst 1 (a0.seed.map eU8), .int .i64 a0.serial, .int .i64 a0.number, .str a0.suffix, .int .i64 a0.most, .lst 4 (a0.list_.map eDIssued)])], []⟩ (fgk (by kernel_rfl)) ?_
  refine ite_ (cb := (decide (r1 < 0))) rfl (fun c3 => ?_) (fun c3 => ?_)
  · replace h0 := ip c3 h0
    refine seq_ ?_
    refine reg_ ?_
    refine st (mvc_ trivial ?_)
    refine oe_ ?_
    refine wk_ ⟨[(4, .bool true)], [], []⟩ (fgk (by kernel_rfl)) ?_
    obtain rfl := Option.some.inj h0
    exact rt_ (ret_ rfl rfl rfl rfl rfl trivial)
  · replace h0 := inb c3 h0
    refine sk_ ?_
    refine wk_ ⟨[(1, .int .i64 a1), (2, .ptr 128 0)], [(128, [.str a0.name_, .lst 1 (a0.seed.map eU8), .int .i64 a0.serial, .int .i64 a0.number, .str a0.suffix, .int .i64 a0.most, .lst 4 (a0.list_.map eDIssued)])], []⟩ (fgk (by kernel_rfl)) ?_
    refine seq_ ?_
    refine reg_ ?_
    refine st (c_ (v := .agg [.str a0.name_, .lst 1 (a0.seed.map eU8), .int .i64 a0.serial, .int .i64 a0.number, .str a0.suffix, .int .i64 a0.most, .lst 4 (a0.list_.map eDIssued)]) (cp_ ⟨trivial, trivial⟩ rfl (Nat.le_of_ble_eq_true rfl)) ?_)
    obtain ⟨r4, e5, h0⟩ := bnd h0
    refine st (call0_ (r := .agg [.str r4.name_, .own 0 0 1 (r4.seed.map eU8), .int .i64 r4.serial, .int .i64 r4.number, .str r4.suffix, .int .i64 r4.most, .own 1 0 4 (r4.list_.map eDIssued)]) false (H225 a0 r4 e5) ⟨trivial, trivial⟩ rfl rfl (fun _ => (and_ rfl (and_ (fl1 (fun _ => rfl)) (and_ rfl (and_ rfl (and_ rfl (and_ rfl (and_ (fl1 (fun _ => rfl)) rfl)))))))) ?_)
    refine st (mv_ rfl trivial ?_)
    obtain ⟨r6, e7, h0⟩ := bnd h0
    refine st (call0_ (r := .tup [.own 0 0 1 (r6.1.map eI), .int .i64 r6.2]) false (H237 r4 a1 r6 e7) ⟨trivial, trivial, trivial⟩ rfl rfl (fun _ => (and_ (fl1 (fun _ => rfl)) (and_ rfl rfl))) ?_)
    refine st (mv_ rfl trivial ?_)
    refine st (c_ (cp_ ⟨trivial, trivial⟩ rfl trivial) ?_)
    refine st (c_ (cp_ ⟨trivial, trivial⟩ rfl trivial) ?_)
    refine st (mv_ rfl trivial ?_)
    refine st (mv_ rfl trivial ?_)
    refine oe_ ?_
    refine wk_ ⟨[(1, .int .i64 a1), (2, .ptr 128 0), (6, .own 1600 0 1 (r6.1.map eI)), (7, .int .i64 r6.2)], [(128, [.str a0.name_, .lst 1 (a0.seed.map eU8), .int .i64 a0.serial, .int .i64 a0.number, .str a0.suffix, .int .i64 a0.most, .lst 4 (a0.list_.map eDIssued)])], []⟩ (fgk (by kernel_rfl)) ?_
    refine seq_ ?_
    refine reg_ ?_
    refine st (c_ (v := .agg [.str a0.name_, .lst 1 (a0.seed.map eU8), .int .i64 a0.serial, .int .i64 a0.number, .str a0.suffix, .int .i64 a0.most, .lst 4 (a0.list_.map eDIssued)]) (cp_ ⟨trivial, trivial⟩ rfl (Nat.le_of_ble_eq_true rfl)) ?_)
    obtain ⟨r8, e9, h0⟩ := bnd h0
    refine st (call0_ (r := .agg [.str r8.name_, .own 0 0 1 (r8.seed.map eU8), .int .i64 r8.serial, .int .i64 r8.number, .str r8.suffix, .int .i64 r8.most, .own 1 0 4 (r8.list_.map eDIssued)]) false (H225 a0 r8 e9) ⟨trivial, trivial⟩ rfl rfl (fun _ => (and_ rfl (and_ (fl1 (fun _ => rfl)) (and_ rfl (and_ rfl (and_ rfl (and_ rfl (and_ (fl1 (fun _ => rfl)) rfl)))))))) ?_)
    refine st (alloc_ ?_)
    refine st (stp_ rfl rfl trivial rfl rfl rfl (Nat.le_of_ble_eq_true rfl) ?_)
    refine oe_ ?_
    refine wk_ ⟨[(1, .int .i64 a1), (2, .ptr 128 0), (6, .own 1600 0 1 (r6.1.map eI)), (7, .int .i64 r6.2), (8, .ptr 512 0)], [(128, [.str a0.name_, .lst 1 (a0.seed.map eU8), .int .i64 a0.serial, .int .i64 a0.number, .str a0.suffix, .int .i64 a0.most, .lst 4 (a0.list_.map eDIssued)]), (512, [.str r8.name_, .own 1856 0 1 (r8.seed.map eU8), .int .i64 r8.serial, .int .i64 r8.number, .str r8.suffix, .int .i64 r8.most, .own 1857 0 4 (r8.list_.map eDIssued)])], []⟩ (fgk (by kernel_rfl)) ?_
    refine seq_ ?_
    refine reg_ ?_
    refine st (c_ (v := .agg [.str r8.name_, .own 1856 0 1 (r8.seed.map eU8), .int .i64 r8.serial, .int .i64 r8.number, .str r8.suffix, .int .i64 r8.most, .own 1857 0 4 (r8.list_.map eDIssued)]) (cp_ ⟨trivial, trivial⟩ rfl (Nat.le_of_ble_eq_true rfl)) ?_)
    refine st (mv_ rfl trivial ?_)
    obtain ⟨r10, e11, h0⟩ := bnd h0
    refine st (call0_ (r := .tup [.own 0 0 1 (r10.1.map eI), .int .i64 r10.2]) false (H238 r8 a1 r10 e11) ⟨trivial, trivial, trivial⟩ rfl rfl (fun _ => (and_ (fl1 (fun _ => rfl)) (and_ rfl rfl))) ?_)
    refine st (mv_ rfl trivial ?_)
    refine st (c_ (cp_ ⟨trivial, trivial⟩ rfl trivial) ?_)
    refine st (c_ (cp_ ⟨trivial, trivial⟩ rfl trivial) ?_)
    refine st (mv_ rfl trivial ?_)
    refine st (mv_ rfl trivial ?_)
    refine oe_ ?_
    refine wk_ ⟨[(1, .int .i64 a1), (2, .ptr 128 0), (6, .own 1600 0 1 (r6.1.map eI)), (7, .int .i64 r6.2), (8, .ptr 512 0), (9, .own 2112 0 1 (r10.1.map eI)), (10, .int .i64 r10.2)], [(128, [.str a0.name_, .lst 1 (a0.seed.map eU8), .int .i64 a0.serial, .int .i64 a0.number, .str a0.suffix, .int .i64 a0.most, .lst 4 (a0.list_.map eDIssued)]), (512, [.str r8.name_, .own 1856 0 1 (r8.seed.map eU8), .int .i64 r8.serial, .int .i64 r8.number, .str r8.suffix, .int .i64 r8.most, .own 1857 0 4 (r8.list_.map eDIssued)])], []⟩ (fgk (by kernel_rfl)) ?_
    refine seq_ ?_
    refine seq_ ?_
    refine reg_ ?_
    refine st (mv_ rfl trivial ?_)
    refine st (mv_ rfl trivial ?_)
    obtain ⟨r12, e13, h0⟩ := bnd h0
    refine st (call0_ (r := .bool r12) false (H36 r10.1 r6.1 r12 e13) ⟨trivial, trivial, trivial⟩ rfl rfl (fun _ => rfl) ?_)
    refine st (c_ (cp_ ⟨trivial, trivial⟩ rfl trivial) ?_)
    refine st (mv_ rfl trivial ?_)
    refine st (pg_ (u := .int .i64 r10.2) rfl (fun hg => (cmv (v := .int .i64 r10.2) rfl trivial)) ?_)
    refine st (pg_ (u := .int .i64 r6.2) rfl (fun hg => (cmv (v := .int .i64 r6.2) rfl trivial)) ?_)
    refine st (pg_ (u := .bool (r10.2 != r6.2)) rfl (fun hg => (cp_ ⟨(fun _ => hg), (fun _ => hg), trivial⟩ rfl trivial)) ?_)
    refine st (pick_ rfl rfl rfl trivial (fun h => eqf h) rfl ?_)
    refine oe_ ?_
    refine wk_ ⟨[(1, .int .i64 a1), (2, .ptr 128 0), (6, .own 1600 0 1 (r6.1.map eI)), (7, .int .i64 r6.2), (8, .ptr 512 0), (9, .own 2112 0 1 (r10.1.map eI)), (10, .int .i64 r10.2), (44, .bool (bif (!r12) then true else (r10.2 != r6.2)))], [(128, [.str a0.name_, .lst 1 (a0.seed.map eU8), .int .i64 a0.serial, .int .i64 a0.number, .str a0.suffix, .int .i64 a0.most, .lst 4 (a0.list_.map eDIssued)]), (512, [.str r8.name_, .own 1856 0 1 (r8.seed.map eU8), .int .i64 r8.serial, .int .i64 r8.number, .str r8.suffix, .int .i64 r8.most, .own 1857 0 4 (r8.list_.map eDIssued)])], []⟩ (fgk (by kernel_rfl)) ?_
    refine ite_ (cb := (bif (!r12) then true else (r10.2 != r6.2))) rfl (fun c14 => ?_) (fun c14 => ?_)
    · replace h0 := ip c14 h0
      refine seq_ ?_
      refine reg_ ?_
      refine st (mvc_ trivial ?_)
      refine oe_ ?_
      refine wk_ ⟨[(4, .bool false)], [], []⟩ (fgk (by kernel_rfl)) ?_
      obtain rfl := Option.some.inj h0
      exact rt_ (ret_ rfl rfl rfl rfl rfl trivial)
    · replace h0 := inb c14 h0
      refine sk_ ?_
      refine wk_ ⟨[(1, .int .i64 a1), (2, .ptr 128 0), (6, .own 1600 0 1 (r6.1.map eI)), (7, .int .i64 r6.2), (8, .ptr 512 0), (9, .own 2112 0 1 (r10.1.map eI)), (10, .int .i64 r10.2)], [(128, [.str a0.name_, .lst 1 (a0.seed.map eU8), .int .i64 a0.serial, .int .i64 a0.number, .str a0.suffix, .int .i64 a0.most, .lst 4 (a0.list_.map eDIssued)]), (512, [.str r8.name_, .own 1856 0 1 (r8.seed.map eU8), .int .i64 r8.serial, .int .i64 r8.number, .str r8.suffix, .int .i64 r8.most, .own 1857 0 4 (r8.list_.map eDIssued)])], []⟩ (fgk (by kernel_rfl)) ?_
      refine seq_ ?_
      refine seq_ ?_
      obtain ⟨r15, e16, h0⟩ := bnd h0
      obtain ⟨r17, e18, h0⟩ := bnd h0
      refine draw_ ?_
      refine dtake trivial (c_ (v := .agg [.str r8.name_, .own 1856 0 1 (r8.seed.map eU8), .int .i64 r8.serial, .int .i64 r8.number, .str r8.suffix, .int .i64 r8.most, .own 1857 0 4 (r8.list_.map eDIssued)]) (cp_ ⟨trivial, trivial⟩ rfl (Nat.le_of_ble_eq_true rfl)) ?_)
      refine ⟨trivial, ?_⟩
      refine dtake trivial (c_ (v := .agg [.str a0.name_, .lst 1 (a0.seed.map eU8), .int .i64 a0.serial, .int .i64 a0.number, .str a0.suffix, .int .i64 a0.most, .lst 4 (a0.list_.map eDIssued)]) (cp_ ⟨trivial, trivial⟩ rfl (Nat.le_of_ble_eq_true rfl)) ?_)
      refine ⟨trivial, ?_⟩
      refine dalt (call0_ (r := .agg [.str r15.name_, .own 0 0 1 (r15.seed.map eU8), .int .i64 r15.serial, .int .i64 r15.number, .str r15.suffix, .int .i64 r15.most, .own 1 0 4 (r15.list_.map eDIssued)]) false (H225 a0 r15 e16) ⟨trivial, trivial⟩ rfl rfl (fun _ => (and_ rfl (and_ (fl1 (fun _ => rfl)) (and_ rfl (and_ rfl (and_ rfl (and_ rfl (and_ (fl1 (fun _ => rfl)) rfl)))))))) ?_) dstop
      refine dkw ⟨[(1, .int .i64 a1), (2, .ptr 128 0), (6, .own 1600 0 1 (r6.1.map eI)), (7, .int .i64 r6.2), (8, .ptr 512 0), (9, .own 2112 0 1 (r10.1.map eI)), (10, .int .i64 r10.2), (45, .agg [.str r8.name_, .own 1856 0 1 (r8.seed.map eU8), .int .i64 r8.serial, .int .i64 r8.number, .str r8.suffix, .int .i64 r8.most, .own 1857 0 4 (r8.list_.map eDIssued)]), (47, .agg [.str r15.name_, .own 3008 0 1 (r15.seed.map eU8), .int .i64 r15.serial, .int .i64 r15.number, .str r15.suffix, .int .i64 r15.most, .own 3009 0 4 (r15.list_.map eDIssued)])], [(128, [.str a0.name_, .lst 1 (a0.seed.map eU8), .int .i64 a0.serial, .int .i64 a0.number, .str a0.suffix, .int .i64 a0.most, .lst 4 (a0.list_.map eDIssued)]), (512, [.str r8.name_, .own 1856 0 1 (r8.seed.map eU8), .int .i64 r8.serial, .int .i64 r8.number, .str r8.suffix, .int .i64 r8.most, .own 1857 0 4 (r8.list_.map eDIssued)])], []⟩ (fgk (by kernel_rfl)) ⟨[], ⟨⟨.inl trivial, (again1 (cp_ ⟨trivial, trivial⟩ rfl (Nat.le_of_ble_eq_true rfl)) rfl)⟩, trivial⟩, trivial, ?_⟩
      refine dalt (call0_ (r := .bool r17) false (H227 r8 r15 r17 e18) ⟨trivial, trivial, trivial⟩ rfl rfl (fun _ => rfl) ?_) dstop
      refine dkw ⟨[(1, .int .i64 a1), (2, .ptr 128 0), (6, .own 1600 0 1 (r6.1.map eI)), (7, .int .i64 r6.2), (8, .ptr 512 0), (9, .own 2112 0 1 (r10.1.map eI)), (10, .int .i64 r10.2), (48, .bool r17)], [(128, [.str a0.name_, .lst 1 (a0.seed.map eU8), .int .i64 a0.serial, .int .i64 a0.number, .str a0.suffix, .int .i64 a0.most, .lst 4 (a0.list_.map eDIssued)]), (512, [.str r8.name_, .own 1856 0 1 (r8.seed.map eU8), .int .i64 r8.serial, .int .i64 r8.number, .str r8.suffix, .int .i64 r8.most, .own 1857 0 4 (r8.list_.map eDIssued)])], []⟩ (fgk (by kernel_rfl)) ⟨[], trivial, trivial, ?_⟩
      refine dtake trivial (c_ (cp_ ⟨trivial, trivial⟩ rfl trivial) ?_)
      refine ⟨trivial, ?_⟩
      refine dfin ?_
      refine wk_ ⟨[(1, .int .i64 a1), (2, .ptr 128 0), (6, .own 1600 0 1 (r6.1.map eI)), (7, .int .i64 r6.2), (8, .ptr 512 0), (9, .own 2112 0 1 (r10.1.map eI)), (10, .int .i64 r10.2), (49, .bool (!r17))], [(128, [.str a0.name_, .lst 1 (a0.seed.map eU8), .int .i64 a0.serial, .int .i64 a0.number, .str a0.suffix, .int .i64 a0.most, .lst 4 (a0.list_.map eDIssued)]), (512, [.str r8.name_, .own 1856 0 1 (r8.seed.map eU8), .int .i64 r8.serial, .int .i64 r8.number, .str r8.suffix, .int .i64 r8.most, .own 1857 0 4 (r8.list_.map eDIssued)])], []⟩ (fgk (by kernel_rfl)) ?_
      refine ite_ (cb := (!r17)) rfl (fun c19 => ?_) (fun c19 => ?_)
      · replace h0 := ip c19 h0
        refine seq_ ?_
        refine reg_ ?_
        refine st (mvc_ trivial ?_)
        refine oe_ ?_
        refine wk_ ⟨[(4, .bool false)], [], []⟩ (fgk (by kernel_rfl)) ?_
        obtain rfl := Option.some.inj h0
        exact rt_ (ret_ rfl rfl rfl rfl rfl trivial)
      · replace h0 := inb c19 h0
        refine sk_ ?_
        refine wk_ ⟨[(1, .int .i64 a1), (2, .ptr 128 0), (6, .own 1600 0 1 (r6.1.map eI)), (7, .int .i64 r6.2), (8, .ptr 512 0), (9, .own 2112 0 1 (r10.1.map eI)), (10, .int .i64 r10.2)], [(128, [.str a0.name_, .lst 1 (a0.seed.map eU8), .int .i64 a0.serial, .int .i64 a0.number, .str a0.suffix, .int .i64 a0.most, .lst 4 (a0.list_.map eDIssued)]), (512, [.str r8.name_, .own 1856 0 1 (r8.seed.map eU8), .int .i64 r8.serial, .int .i64 r8.number, .str r8.suffix, .int .i64 r8.most, .own 1857 0 4 (r8.list_.map eDIssued)])], []⟩ (fgk (by kernel_rfl)) ?_
        refine seq_ ?_
        refine reg_ ?_
        refine st (mvc_ trivial ?_)
        refine oe_ ?_
        refine wk_ ⟨[(1, .int .i64 a1), (2, .ptr 128 0), (6, .own 1600 0 1 (r6.1.map eI)), (7, .int .i64 r6.2), (8, .ptr 512 0), (9, .own 2112 0 1 (r10.1.map eI)), (10, .int .i64 r10.2), (11, .int .i64 1)], [(128, [.str a0.name_, .lst 1 (a0.seed.map eU8), .int .i64 a0.serial, .int .i64 a0.number, .str a0.suffix, .int .i64 a0.most, .lst 4 (a0.list_.map eDIssued)]), (512, [.str r8.name_, .own 1856 0 1 (r8.seed.map eU8), .int .i64 r8.serial, .int .i64 r8.number, .str r8.suffix, .int .i64 r8.most, .own 1857 0 4 (r8.list_.map eDIssued)])], []⟩ (fgk (by kernel_rfl)) ?_
        refine seq_ ?_
        refine reg_ ?_
        refine st (c_ (v := .agg [.str r8.name_, .own 1856 0 1 (r8.seed.map eU8), .int .i64 r8.serial, .int .i64 r8.number, .str r8.suffix, .int .i64 r8.most, .own 1857 0 4 (r8.list_.map eDIssued)]) (cp_ ⟨trivial, trivial⟩ rfl (Nat.le_of_ble_eq_true rfl)) ?_)
        refine st (mv_ rfl trivial ?_)
        obtain ⟨r20, e21, h0⟩ := bnd h0
        obtain ⟨c22, h0⟩ := grd h0
        obtain ⟨c23, h0⟩ := grd h0
        refine st (call1_ [] [1856, 1857] [] false (H239 r8 1 r20 e21) ⟨trivial, trivial, trivial⟩ (by kernel_rfl) (by kernel_rfl) (by kernel_rfl) (by kernel_rfl) (fun _ => and_ rfl (and_ (fl2 (fun _ => rfl)) (and_ (fl2 (fun _ => rfl)) rfl))) ?_)
        refine sw ⟨[(1, .int .i64 a1), (2, .ptr 128 0), (6, .own 1600 0 1 (r6.1.map eI)), (7, .int .i64 r6.2), (9, .own 2112 0 1 (r10.1.map eI)), (10, .int .i64 r10.2), (52, .int .i64 r20.1)], [(128, [.str a0.name_, .lst 1 (a0.seed.map eU8), .int .i64 a0.serial, .int .i64 a0.number, .str a0.suffix, .int .i64 a0.most, .lst 4 (a0.list_.map eDIssued)])], []⟩ (fgk (by kernel_rfl)) (mv_ rfl trivial ?_)
        refine oe_ ?_
        refine wk_ ⟨[(1, .int .i64 a1), (2, .ptr 128 0), (6, .own 1600 0 1 (r6.1.map eI)), (7, .int .i64 r6.2), (9, .own 2112 0 1 (r10.1.map eI)), (10, .int .i64 r10.2), (11, .int .i64 r20.1)], [(128, [.str a0.name_, .lst 1 (a0.seed.map eU8), .int .i64 a0.serial, .int .i64 a0.number, .str a0.suffix, .int .i64 a0.most, .lst 4 (a0.list_.map eDIssued)])], []⟩ (fgk (by kernel_rfl)) ?_
        refine seq_ ?_
        refine seq_ ?_
        refine reg_ ?_
        refine st (mv_ rfl trivial ?_)
        refine st (c_ (cp_ ⟨trivial, trivial, trivial⟩ rfl trivial) ?_)
        refine st (mv_ rfl trivial ?_)
        refine st (pg_ (u := .own 2112 0 1 (r10.1.map eI)) rfl (fun hg => (cmv (v := .own 2112 0 1 (r10.1.map eI)) rfl trivial)) ?_)
        refine st (pg_ (u := .own 1600 0 1 (r6.1.map eI)) rfl (fun hg => (cmv (v := .own 1600 0 1 (r6.1.map eI)) rfl trivial)) ?_)
        obtain ⟨r24, e25, h0⟩ := bnd h0
        refine st (callg_ (r := .bool r24) rfl false (fun hg => H36 r10.1 r6.1 r24 (ip hg e25)) ⟨(fun hg => hg), (fun hg => hg), trivial⟩ (fun _ => rfl) (fun _ => rfl) (fun _ => rfl) (fun h => nomatch h) ?_)
        refine st (pg_ (u := .bool (!r24)) rfl (fun hg => (cp_ ⟨(fun _ => hg), trivial⟩ rfl trivial)) ?_)
        refine st (pick_ rfl rfl rfl trivial (fun h => eqf h) rfl ?_)
        refine st (mv_ rfl trivial ?_)
        refine st (pg_ (u := .int .i64 r10.2) rfl (fun hg => (cmv (v := .int .i64 r10.2) rfl trivial)) ?_)
        refine st (pg_ (u := .int .i64 r6.2) rfl (fun hg => (cmv (v := .int .i64 r6.2) rfl trivial)) ?_)
        refine st (pg_ (u := .bool (r10.2 != r6.2)) rfl (fun hg => (cp_ ⟨(fun _ => hg), (fun _ => hg), trivial⟩ rfl trivial)) ?_)
        refine sw ⟨[(1, .int .i64 a1), (2, .ptr 128 0), (6, .own 1600 0 1 (r6.1.map eI)), (7, .int .i64 r6.2), (9, .own 2112 0 1 (r10.1.map eI)), (61, .bool (bif (decide (r20.1 < 0)) then true else (!r24))), (64, .may ((bif (decide (r20.1 < 0)) then true else (!r24)) == false) (.bool (r10.2 != r6.2)))], [(128, [.str a0.name_, .lst 1 (a0.seed.map eU8), .int .i64 a0.serial, .int .i64 a0.number, .str a0.suffix, .int .i64 a0.most, .lst 4 (a0.list_.map eDIssued)])], []⟩ (fgk (by kernel_rfl)) (pick_ rfl rfl rfl trivial (fun h => eqf h) rfl ?_)
        refine oe_ ?_
        obtain ⟨v26, e27, h0⟩ := bl h0
        refine wk_ ⟨[(1, .int .i64 a1), (2, .ptr 128 0), (6, .own 1600 0 1 (r6.1.map eI)), (7, .int .i64 r6.2), (9, .own 2112 0 1 (r10.1.map eI)), (65, .bool v26)], [(128, [.str a0.name_, .lst 1 (a0.seed.map eU8), .int .i64 a0.serial, .int .i64 a0.number, .str a0.suffix, .int .i64 a0.most, .lst 4 (a0.list_.map eDIssued)])], []⟩ (fgk (by subst e27; kernel_rfl)) ?_
        refine ite_ (cb := v26) rfl (fun c28 => ?_) (fun c28 => ?_)
        · replace h0 := ip c28 h0
          refine seq_ ?_
          refine reg_ ?_
          refine st (mvc_ trivial ?_)
          refine oe_ ?_
          refine wk_ ⟨[(4, .bool false)], [], []⟩ (fgk (by kernel_rfl)) ?_
          obtain rfl := Option.some.inj h0
          exact rt_ (ret_ rfl rfl rfl rfl rfl trivial)
        · replace h0 := inb c28 h0
          refine sk_ ?_
          refine wk_ ⟨[(1, .int .i64 a1), (2, .ptr 128 0), (6, .own 1600 0 1 (r6.1.map eI)), (7, .int .i64 r6.2), (9, .own 2112 0 1 (r10.1.map eI))], [(128, [.str a0.name_, .lst 1 (a0.seed.map eU8), .int .i64 a0.serial, .int .i64 a0.number, .str a0.suffix, .int .i64 a0.most, .lst 4 (a0.list_.map eDIssued)])], []⟩ (fgk (by kernel_rfl)) ?_
          refine seq_ ?_
          refine reg_ ?_
          refine st (mvc_ trivial ?_)
          refine oe_ ?_
          refine wk_ ⟨[(1, .int .i64 a1), (2, .ptr 128 0), (6, .own 1600 0 1 (r6.1.map eI)), (7, .int .i64 r6.2), (9, .own 2112 0 1 (r10.1.map eI)), (12, .int .i64 1)], [(128, [.str a0.name_, .lst 1 (a0.seed.map eU8), .int .i64 a0.serial, .int .i64 a0.number, .str a0.suffix, .int .i64 a0.most, .lst 4 (a0.list_.map eDIssued)])], []⟩ (fgk (by kernel_rfl)) ?_
          refine seq_ ?_
          refine reg_ ?_
          refine st (mv_ rfl trivial ?_)
          refine st (mv_ rfl trivial ?_)
          obtain ⟨r29, e30, h0⟩ := bnd h0
          obtain ⟨c31, h0⟩ := grd h0
          refine st (call1_ [] [2112] [] false (H37 r10.1 1 r29 e30) ⟨trivial, trivial, trivial⟩ (by kernel_rfl) (by kernel_rfl) (by kernel_rfl) (by kernel_rfl) (fun _ => and_ rfl (and_ (fl2 (fun _ => rfl)) rfl)) ?_)
          refine sw ⟨[(1, .int .i64 a1), (2, .ptr 128 0), (6, .own 1600 0 1 (r6.1.map eI)), (7, .int .i64 r6.2), (9, .own 2112 0 1 (r29.2.map eI)), (68, .int .i64 r29.1)], [(128, [.str a0.name_, .lst 1 (a0.seed.map eU8), .int .i64 a0.serial, .int .i64 a0.number, .str a0.suffix, .int .i64 a0.most, .lst 4 (a0.list_.map eDIssued)])], []⟩ (fg ⟨rfl, rfl, rfl, rfl, (congrArg (fun z => some ((z : V))) (row_eq c31)), rfl, trivial⟩ ⟨rfl, trivial⟩) (mv_ rfl trivial ?_)
          refine oe_ ?_
          refine wk_ ⟨[(1, .int .i64 a1), (2, .ptr 128 0), (6, .own 1600 0 1 (r6.1.map eI)), (7, .int .i64 r6.2), (9, .own 2112 0 1 (r29.2.map eI)), (12, .int .i64 r29.1)], [(128, [.str a0.name_, .lst 1 (a0.seed.map eU8), .int .i64 a0.serial, .int .i64 a0.number, .str a0.suffix, .int .i64 a0.most, .lst 4 (a0.list_.map eDIssued)])], []⟩ (fgk (by kernel_rfl)) ?_
          refine seq_ ?_
          refine reg_ ?_
          refine st (mvc_ trivial ?_)
          refine oe_ ?_
          refine wk_ ⟨[(1, .int .i64 a1), (2, .ptr 128 0), (6, .own 1600 0 1 (r6.1.map eI)), (7, .int .i64 r6.2), (9, .own 2112 0 1 (r29.2.map eI)), (12, .int .i64 r29.1), (13, .int .i64 1)], [(128, [.str a0.name_, .lst 1 (a0.seed.map eU8), .int .i64 a0.serial, .int .i64 a0.number, .str a0.suffix, .int .i64 a0.most, .lst 4 (a0.list_.map eDIssued)])], []⟩ (fgk (by kernel_rfl)) ?_
          refine seq_ ?_
          refine reg_ ?_
          refine st (mv_ rfl trivial ?_)
          refine st (mv_ rfl trivial ?_)
          obtain ⟨r32, e33, h0⟩ := bnd h0
          refine st (call0_ (r := .int .i64 r32) false (H38 r29.2 1 r32 e33) ⟨trivial, trivial, trivial⟩ rfl rfl (fun _ => rfl) ?_)
          refine st (mv_ rfl trivial ?_)
          refine oe_ ?_
          refine wk_ ⟨[(1, .int .i64 a1), (2, .ptr 128 0), (6, .own 1600 0 1 (r6.1.map eI)), (7, .int .i64 r6.2), (9, .own 2112 0 1 (r29.2.map eI)), (12, .int .i64 r29.1), (13, .int .i64 r32)], [(128, [.str a0.name_, .lst 1 (a0.seed.map eU8), .int .i64 a0.serial, .int .i64 a0.number, .str a0.suffix, .int .i64 a0.most, .lst 4 (a0.list_.map eDIssued)])], []⟩ (fgk (by kernel_rfl)) ?_
          refine seq_ ?_
          refine seq_ ?_
          refine reg_ ?_
          refine st (mv_ rfl trivial ?_)
          refine st (c_ (cp_ ⟨trivial, trivial, trivial⟩ rfl trivial) ?_)
          refine oe_ ?_
          refine wk_ ⟨[(1, .int .i64 a1), (2, .ptr 128 0), (6, .own 1600 0 1 (r6.1.map eI)), (7, .int .i64 r6.2), (9, .own 2112 0 1 (r29.2.map eI)), (12, .int .i64 r29.1), (13, .int .i64 r32), (73, .bool (decide (r32 < 0)))], [(128, [.str a0.name_, .lst 1 (a0.seed.map eU8), .int .i64 a0.serial, .int .i64 a0.number, .str a0.suffix, .int .i64 a0.most, .lst 4 (a0.list_.map eDIssued)])], []⟩ (fgk (by kernel_rfl)) ?_
          refine ite_ (cb := (decide (r32 < 0))) rfl (fun c34 => ?_) (fun c34 => ?_)
          · replace h0 := ip c34 h0
            refine seq_ ?_
            refine reg_ ?_
            refine st (mvc_ trivial ?_)
            refine oe_ ?_
            refine wk_ ⟨[(4, .bool false)], [], []⟩ (fgk (by kernel_rfl)) ?_
            obtain rfl := Option.some.inj h0
            exact rt_ (ret_ rfl rfl rfl rfl rfl trivial)
          · replace h0 := inb c34 h0
            refine sk_ ?_
            refine wk_ ⟨[(1, .int .i64 a1), (2, .ptr 128 0), (6, .own 1600 0 1 (r6.1.map eI)), (7, .int .i64 r6.2), (9, .own 2112 0 1 (r29.2.map eI)), (12, .int .i64 r29.1), (13, .int .i64 r32)], [(128, [.str a0.name_, .lst 1 (a0.seed.map eU8), .int .i64 a0.serial, .int .i64 a0.number, .str a0.suffix, .int .i64 a0.most, .lst 4 (a0.list_.map eDIssued)])], []⟩ (fgk (by kernel_rfl)) ?_
            refine seq_ ?_
            refine seq_ ?_
            refine reg_ ?_
            refine st (mv_ rfl trivial ?_)
            refine st (mv_ rfl trivial ?_)
            refine st (c_ (cp_ ⟨trivial, trivial, trivial⟩ rfl trivial) ?_)
            refine oe_ ?_
            refine wk_ ⟨[(1, .int .i64 a1), (2, .ptr 128 0), (6, .own 1600 0 1 (r6.1.map eI)), (7, .int .i64 r6.2), (9, .own 2112 0 1 (r29.2.map eI)), (12, .int .i64 r29.1), (76, .bool (r32 != r29.1))], [(128, [.str a0.name_, .lst 1 (a0.seed.map eU8), .int .i64 a0.serial, .int .i64 a0.number, .str a0.suffix, .int .i64 a0.most, .lst 4 (a0.list_.map eDIssued)])], []⟩ (fgk (by kernel_rfl)) ?_
            refine ite_ (cb := (r32 != r29.1)) rfl (fun c35 => ?_) (fun c35 => ?_)
            · replace h0 := ip c35 h0
              refine seq_ ?_
              refine reg_ ?_
              refine st (mvc_ trivial ?_)
              refine oe_ ?_
              refine wk_ ⟨[(4, .bool false)], [], []⟩ (fgk (by kernel_rfl)) ?_
              obtain rfl := Option.some.inj h0
              exact rt_ (ret_ rfl rfl rfl rfl rfl trivial)
            · replace h0 := inb c35 h0
              refine sk_ ?_
              refine wk_ ⟨[(1, .int .i64 a1), (2, .ptr 128 0), (6, .own 1600 0 1 (r6.1.map eI)), (7, .int .i64 r6.2), (9, .own 2112 0 1 (r29.2.map eI)), (12, .int .i64 r29.1)], [(128, [.str a0.name_, .lst 1 (a0.seed.map eU8), .int .i64 a0.serial, .int .i64 a0.number, .str a0.suffix, .int .i64 a0.most, .lst 4 (a0.list_.map eDIssued)])], []⟩ (fgk (by kernel_rfl)) ?_
              refine seq_ ?_
              refine reg_ ?_
              refine st (c_ (v := .agg [.str a0.name_, .lst 1 (a0.seed.map eU8), .int .i64 a0.serial, .int .i64 a0.number, .str a0.suffix, .int .i64 a0.most, .lst 4 (a0.list_.map eDIssued)]) (cp_ ⟨trivial, trivial⟩ rfl (Nat.le_of_ble_eq_true rfl)) ?_)
              obtain ⟨r36, e37, h0⟩ := bnd h0
              refine st (call0_ (r := .agg [.str r36.name_, .own 0 0 1 (r36.seed.map eU8), .int .i64 r36.serial, .int .i64 r36.number, .str r36.suffix, .int .i64 r36.most, .own 1 0 4 (r36.list_.map eDIssued)]) false (H225 a0 r36 e37) ⟨trivial, trivial⟩ rfl rfl (fun _ => (and_ rfl (and_ (fl1 (fun _ => rfl)) (and_ rfl (and_ rfl (and_ rfl (and_ rfl (and_ (fl1 (fun _ => rfl)) rfl)))))))) ?_)
              refine st (mv_ rfl trivial ?_)
              obtain ⟨r38, e39, h0⟩ := bnd h0
              refine st (call0_ (r := .tup [.own 0 0 1 (r38.1.map eI), .int .i64 r38.2]) false (H238 r36 a1 r38 e39) ⟨trivial, trivial, trivial⟩ rfl rfl (fun _ => (and_ (fl1 (fun _ => rfl)) (and_ rfl rfl))) ?_)
              refine st (mv_ rfl trivial ?_)
              refine st (c_ (cp_ ⟨trivial, trivial⟩ rfl trivial) ?_)
              refine st (c_ (cp_ ⟨trivial, trivial⟩ rfl trivial) ?_)
              refine st (mv_ rfl trivial ?_)
              refine st (mv_ rfl trivial ?_)
              refine oe_ ?_
              refine wk_ ⟨[(6, .own 1600 0 1 (r6.1.map eI)), (7, .int .i64 r6.2), (9, .own 2112 0 1 (r29.2.map eI)), (12, .int .i64 r29.1), (14, .own 5184 0 1 (r38.1.map eI)), (15, .int .i64 r38.2)], [], []⟩ (fgk (by kernel_rfl)) ?_
              refine seq_ ?_
              refine seq_ ?_
              refine reg_ ?_
              refine st (mv_ rfl trivial ?_)
              refine st (mv_ rfl trivial ?_)
              obtain ⟨r40, e41, h0⟩ := bnd h0
              refine st (call0_ (r := .bool r40) false (H36 r38.1 r6.1 r40 e41) ⟨trivial, trivial, trivial⟩ rfl rfl (fun _ => rfl) ?_)
              refine st (c_ (cp_ ⟨trivial, trivial⟩ rfl trivial) ?_)
              refine st (mv_ rfl trivial ?_)
              refine st (pg_ (u := .int .i64 r38.2) rfl (fun hg => (cmv (v := .int .i64 r38.2) rfl trivial)) ?_)
              refine st (pg_ (u := .int .i64 r6.2) rfl (fun hg => (cmv (v := .int .i64 r6.2) rfl trivial)) ?_)
              refine st (pg_ (u := .bool (r38.2 != r6.2)) rfl (fun hg => (cp_ ⟨(fun _ => hg), (fun _ => hg), trivial⟩ rfl trivial)) ?_)
              refine st (pick_ rfl rfl rfl trivial (fun h => eqf h) rfl ?_)
              refine oe_ ?_
              refine wk_ ⟨[(9, .own 2112 0 1 (r29.2.map eI)), (12, .int .i64 r29.1), (92, .bool (bif (!r40) then true else (r38.2 != r6.2)))], [], []⟩ (fgk (by kernel_rfl)) ?_
              refine ite_ (cb := (bif (!r40) then true else (r38.2 != r6.2))) rfl (fun c42 => ?_) (fun c42 => ?_)
              · replace h0 := ip c42 h0
                refine seq_ ?_
                refine reg_ ?_
                refine st (mvc_ trivial ?_)
                refine oe_ ?_
                refine wk_ ⟨[(4, .bool false)], [], []⟩ (fgk (by kernel_rfl)) ?_
                obtain rfl := Option.some.inj h0
                exact rt_ (ret_ rfl rfl rfl rfl rfl trivial)
              · replace h0 := inb c42 h0
                refine sk_ ?_
                refine wk_ ⟨[(9, .own 2112 0 1 (r29.2.map eI)), (12, .int .i64 r29.1)], [], []⟩ (fgk (by kernel_rfl)) ?_
                refine seq_ ?_
                refine reg_ ?_
                refine st (mvc_ trivial ?_)
                refine oe_ ?_
                refine wk_ ⟨[(9, .own 2112 0 1 (r29.2.map eI)), (12, .int .i64 r29.1), (13, .int .i64 1)], [], []⟩ (fgk (by kernel_rfl)) ?_
                refine seq_ ?_
                refine reg_ ?_
                refine st (mv_ rfl trivial ?_)
                refine st (mv_ rfl trivial ?_)
                obtain ⟨r43, e44, h0⟩ := bnd h0
                refine st (call0_ (r := .int .i64 r43) false (H38 r29.2 1 r43 e44) ⟨trivial, trivial, trivial⟩ rfl rfl (fun _ => rfl) ?_)
                refine st (mv_ rfl trivial ?_)
                refine oe_ ?_
                refine wk_ ⟨[(12, .int .i64 r29.1), (13, .int .i64 r43)], [], []⟩ (fgk (by kernel_rfl)) ?_
                refine seq_ ?_
                refine seq_ ?_
                refine reg_ ?_
                refine st (mv_ rfl trivial ?_)
                refine st (c_ (cp_ ⟨trivial, trivial, trivial⟩ rfl trivial) ?_)
                refine oe_ ?_
                refine wk_ ⟨[(12, .int .i64 r29.1), (13, .int .i64 r43), (97, .bool (decide (r43 < 0)))], [], []⟩ (fgk (by kernel_rfl)) ?_
                refine ite_ (cb := (decide (r43 < 0))) rfl (fun c45 => ?_) (fun c45 => ?_)
                · replace h0 := ip c45 h0
                  refine seq_ ?_
                  refine reg_ ?_
                  refine st (mvc_ trivial ?_)
                  refine oe_ ?_
                  refine wk_ ⟨[(4, .bool false)], [], []⟩ (fgk (by kernel_rfl)) ?_
                  obtain rfl := Option.some.inj h0
                  exact rt_ (ret_ rfl rfl rfl rfl rfl trivial)
                · replace h0 := inb c45 h0
                  refine sk_ ?_
                  refine wk_ ⟨[(12, .int .i64 r29.1), (13, .int .i64 r43)], [], []⟩ (fgk (by kernel_rfl)) ?_
                  refine seq_ ?_
                  refine seq_ ?_
                  refine reg_ ?_
                  refine st (mv_ rfl trivial ?_)
                  refine st (mv_ rfl trivial ?_)
                  refine st (c_ (cp_ ⟨trivial, trivial, trivial⟩ rfl trivial) ?_)
                  refine oe_ ?_
                  refine wk_ ⟨[(100, .bool (r43 != r29.1))], [], []⟩ (fgk (by kernel_rfl)) ?_
                  refine ite_ (cb := (r43 != r29.1)) rfl (fun c46 => ?_) (fun c46 => ?_)
                  · replace h0 := ip c46 h0
                    refine seq_ ?_
                    refine reg_ ?_
                    refine st (mvc_ trivial ?_)
                    refine oe_ ?_
                    refine wk_ ⟨[(4, .bool false)], [], []⟩ (fgk (by kernel_rfl)) ?_
                    obtain rfl := Option.some.inj h0
                    exact rt_ (ret_ rfl rfl rfl rfl rfl trivial)
                  · replace h0 := inb c46 h0
                    refine sk_ ?_
                    refine wk_ ⟨[], [], []⟩ (fgk (by kernel_rfl)) ?_
                    refine seq_ ?_
                    refine reg_ ?_
                    refine st (mvc_ trivial ?_)
                    refine oe_ ?_
                    refine wk_ ⟨[(4, .bool true)], [], []⟩ (fgk (by kernel_rfl)) ?_
                    obtain rfl := Option.some.inj h0
                    exact rt_ (ret_ rfl rfl rfl rfl rfl trivial)
end Go.Ev
