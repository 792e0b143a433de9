/- The walks of functions: the code comes to the answers that QgD tells. Written by a program of ours. -/
import Derived.Test.YtdmclbbhhcpjfaaQgD
set_option linter.all false
set_option maxHeartbeats 4000000
set_option linter.unusedVariables false
set_option maxRecDepth 100000
namespace Go.Ev

/- loop.example/g00149/laws.szByteS -/
def c276_r0 : List Ins := [⟨some 4, .p (.mv (.c (.int .i64 0))), none⟩]
def c276_r1 : List Ins := [⟨some 5, .p (.mv (.t 1)), none⟩,
 ⟨some 6, .p (.mv (.t 0)), none⟩,
 ⟨some 7, .p (.len (.t 6)), none⟩,
 ⟨some 8, .p (.bin .sub (.t 5) (.t 7)), none⟩,
 ⟨some 1, .p (.mv (.t 8)), none⟩]
def c276_r2 : List Ins := [⟨some 9, .p (.mv (.t 1)), none⟩,
 ⟨some 10, .p (.bin .lss (.t 9) (.c (.int .i64 0))), none⟩]
def c276_r3 : List Ins := [⟨some 4, .p (.mv (.c (.int .i64 (-1)))), none⟩]
def c276_r4 : List Ins := [⟨some 11, .p (.mv (.t 1)), none⟩,
 ⟨some 4, .p (.mv (.t 11)), none⟩]
def c276 : XFn := { np := 2, nt := 12, res := [.t 4], body := (.seq (.reg c276_r0) (.seq (.reg c276_r1) (.seq (.seq (.reg c276_r2) (.ite (.t 10) (.seq (.reg c276_r3) .ret) .skip)) (.seq (.reg c276_r4) .ret)))) }
def K276 (C : CRel) : Prop := ∀ (a0 : List UInt8) (a1 : Int) (r : Int), g276 a0 a1 = some r → C 276 ⟨[.lst 1 (a0.map eU8), .int .i64 a1], []⟩ ⟨.int .i64 r, [], []⟩
theorem F276 {C : CRel}  (a0 : List UInt8) (a1 : Int) (r : Int) (h0 : g276 a0 a1 = some r) : FnOK C c276 ⟨[.lst 1 (a0.map eU8), .int .i64 a1], []⟩ ⟨.int .i64 r, [], []⟩ := by
  refine fn_ (Nat.le_of_ble_eq_true rfl) ?_
  refine seq_ ?_
  refine reg_ ?_
  refine st (mvc_ trivial ?_)
  refine oe_ ?_
  refine wk_ ⟨[(0, .lst 1 (a0.map eU8)), (1, .int .i64 a1)], [], []⟩ (fgk (by kernel_rfl)) ?_
  refine seq_ ?_
  refine reg_ ?_
  refine st (mv_ rfl trivial ?_)
  refine st (mv_ rfl trivial ?_)
  refine st (c_ (clenL (e := eU8) (l0 := a0) rfl rfl trivial) ?_)
  refine st (c_ (cp_ ⟨trivial, trivial, trivial⟩ rfl trivial) ?_)
  refine st (mv_ rfl trivial ?_)
  refine oe_ ?_
  refine wk_ ⟨[(1, .int .i64 (IntKind.i64.wrap (a1 - (a0.length : Int))))], [], []⟩ (fgk (by kernel_rfl)) ?_
  refine seq_ ?_
  refine seq_ ?_
  refine reg_ ?_
  refine st (mv_ rfl trivial ?_)
  refine st (c_ (cp_ ⟨trivial, trivial, trivial⟩ rfl trivial) ?_)
  refine oe_ ?_
  refine wk_ ⟨[(1, .int .i64 (IntKind.i64.wrap (a1 - (a0.length : Int)))), (10, .bool (decide ((IntKind.i64.wrap (a1 - (a0.length : Int))) < 0)))], [], []⟩ (fgk (by kernel_rfl)) ?_
  refine ite_ (cb := (decide ((IntKind.i64.wrap (a1 - (a0.length : Int))) < 0))) rfl (fun c1 => ?_) (fun c1 => ?_)
  · replace h0 := ip c1 h0
    refine seq_ ?_
    refine reg_ ?_
    refine st (mvc_ trivial ?_)
    refine oe_ ?_
    refine wk_ ⟨[(4, .int .i64 (-1))], [], []⟩ (fgk (by kernel_rfl)) ?_
    obtain rfl := Option.some.inj h0
    exact rt_ (ret_ rfl rfl rfl rfl rfl trivial)
  · replace h0 := inb c1 h0
    refine sk_ ?_
    refine wk_ ⟨[(1, .int .i64 (IntKind.i64.wrap (a1 - (a0.length : Int))))], [], []⟩ (fgk (by kernel_rfl)) ?_
    refine seq_ ?_
    refine reg_ ?_
    refine st (mv_ rfl trivial ?_)
    refine st (mv_ rfl trivial ?_)
    refine oe_ ?_
    refine wk_ ⟨[(4, .int .i64 (IntKind.i64.wrap (a1 - (a0.length : Int))))], [], []⟩ (fgk (by kernel_rfl)) ?_
    obtain rfl := Option.some.inj h0
    exact rt_ (ret_ rfl rfl rfl rfl rfl trivial)

/- loop.example/g00149/laws.szIssued -/
def c334_r0 : List Ins := [⟨some 2, .box (.t 0), none⟩,
 ⟨some 4, .p (.mv (.c (.int .i64 0))), none⟩]
def c334_r1 : List Ins := [⟨some 5, .p (.mv (.t 1)), none⟩,
 ⟨some 6, .p (.fieldA (.t 2) 2), none⟩,
 ⟨some 7, .p (.load (.t 6) 1 false), none⟩,
 ⟨some 8, .p (.lenS (.t 7)), none⟩,
 ⟨some 9, .p (.bin .sub (.t 5) (.t 8)), none⟩,
 ⟨some 1, .p (.mv (.t 9)), none⟩]
def c334_r2 : List Ins := [⟨some 10, .p (.mv (.t 1)), none⟩,
 ⟨some 11, .p (.bin .lss (.t 10) (.c (.int .i64 0))), none⟩]
def c334_r3 : List Ins := [⟨some 4, .p (.mv (.c (.int .i64 (-1)))), none⟩]
def c334_r4 : List Ins := [⟨some 12, .p (.mv (.t 1)), none⟩,
 ⟨some 4, .p (.mv (.t 12)), none⟩]
def c334 : XFn := { np := 2, nt := 13, res := [.t 4], body := (.seq (.reg c334_r0) (.seq (.reg c334_r1) (.seq (.seq (.reg c334_r2) (.ite (.t 11) (.seq (.reg c334_r3) .ret) .skip)) (.seq (.reg c334_r4) .ret)))) }
def K334 (C : CRel) : Prop := ∀ (a0 : DIssued) (a1 : Int) (r : Int), g334 a0 a1 = some r → C 334 ⟨[.agg [.int .i64 a0.serial, .int .i64 a0.to_, .str a0.subject, .bool a0.revoked], .int .i64 a1], []⟩ ⟨.int .i64 r, [], []⟩
theorem F334 {C : CRel}  (a0 : DIssued) (a1 : Int) (r : Int) (h0 : g334 a0 a1 = some r) : FnOK C c334 ⟨[.agg [.int .i64 a0.serial, .int .i64 a0.to_, .str a0.subject, .bool a0.revoked], .int .i64 a1], []⟩ ⟨.int .i64 r, [], []⟩ := by
  refine fn_ (Nat.le_of_ble_eq_true rfl) ?_
  refine seq_ ?_
  refine reg_ ?_
  refine st (box_ rfl trivial rfl ?_)
  refine st (mvc_ trivial ?_)
  refine oe_ ?_
  refine wk_ ⟨[(1, .int .i64 a1), (2, .ptr 128 0)], [(128, [.int .i64 a0.serial, .int .i64 a0.to_, .str a0.subject, .bool a0.revoked])], []⟩ (fgk (by kernel_rfl)) ?_
  refine seq_ ?_
  refine reg_ ?_
  refine st (mv_ rfl trivial ?_)
  refine st (c_ (cp_ ⟨trivial, trivial⟩ rfl trivial) ?_)
  refine st (c_ (cp_ ⟨trivial, trivial⟩ rfl (Nat.le_of_ble_eq_true rfl)) ?_)
  refine st (c_ (cp_ ⟨trivial, trivial⟩ rfl trivial) ?_)
  refine st (c_ (cp_ ⟨trivial, trivial, trivial⟩ rfl trivial) ?_)
  refine st (mv_ rfl trivial ?_)
  refine oe_ ?_
  refine wk_ ⟨[(1, .int .i64 (IntKind.i64.wrap (a1 - (a0.subject.length : Int))))], [], []⟩ (fgk (by kernel_rfl)) ?_
  refine seq_ ?_
  refine seq_ ?_
  refine reg_ ?_
  refine st (mv_ rfl trivial ?_)
  refine st (c_ (cp_ ⟨trivial, trivial, trivial⟩ rfl trivial) ?_)
  refine oe_ ?_
  refine wk_ ⟨[(1, .int .i64 (IntKind.i64.wrap (a1 - (a0.subject.length : Int)))), (11, .bool (decide ((IntKind.i64.wrap (a1 - (a0.subject.length : Int))) < 0)))], [], []⟩ (fgk (by kernel_rfl)) ?_
  refine ite_ (cb := (decide ((IntKind.i64.wrap (a1 - (a0.subject.length : Int))) < 0))) rfl (fun c1 => ?_) (fun c1 => ?_)
  · replace h0 := ip c1 h0
    refine seq_ ?_
    refine reg_ ?_
    refine st (mvc_ trivial ?_)
    refine oe_ ?_
    refine wk_ ⟨[(4, .int .i64 (-1))], [], []⟩ (fgk (by kernel_rfl)) ?_
    obtain rfl := Option.some.inj h0
    exact rt_ (ret_ rfl rfl rfl rfl rfl trivial)
  · replace h0 := inb c1 h0
    refine sk_ ?_
    refine wk_ ⟨[(1, .int .i64 (IntKind.i64.wrap (a1 - (a0.subject.length : Int))))], [], []⟩ (fgk (by kernel_rfl)) ?_
    refine seq_ ?_
    refine reg_ ?_
    refine st (mv_ rfl trivial ?_)
    refine st (mv_ rfl trivial ?_)
    refine oe_ ?_
    refine wk_ ⟨[(4, .int .i64 (IntKind.i64.wrap (a1 - (a0.subject.length : Int))))], [], []⟩ (fgk (by kernel_rfl)) ?_
    obtain rfl := Option.some.inj h0
    exact rt_ (ret_ rfl rfl rfl rfl rfl trivial)

/- loop.example/g00149/laws.szIssuedS -/
def c277_r0 : List Ins := [⟨some 4, .p (.mv (.c (.int .i64 0))), none⟩]
def c277_r1 : List Ins := [⟨some 6, .p (.mv (.t 1)), none⟩,
 ⟨some 7, .p (.mv (.t 0)), none⟩,
 ⟨some 8, .p (.len (.t 7)), none⟩,
 ⟨some 9, .p (.bin .sub (.t 6) (.t 8)), none⟩,
 ⟨some 1, .p (.mv (.t 9)), none⟩]
def c277_r2 : List Ins := [⟨some 10, .p (.mv (.t 1)), none⟩,
 ⟨some 11, .p (.bin .lss (.t 10) (.c (.int .i64 0))), none⟩]
def c277_r3 : List Ins := [⟨some 4, .p (.mv (.c (.int .i64 (-1)))), none⟩]
def c277_r4 : List Ins := [⟨some 5, .p (.mv (.c (.int .i64 0))), none⟩]
def c277_r5 : List Ins := [⟨some 12, .p (.mv (.t 5)), none⟩,
 ⟨some 13, .p (.mv (.t 0)), none⟩,
 ⟨some 14, .p (.len (.t 13)), none⟩,
 ⟨some 15, .p (.bin .lss (.t 12) (.t 14)), none⟩]
def c277_r6 : List Ins := [⟨some 18, .p (.mv (.t 0)), none⟩,
 ⟨some 19, .p (.mv (.t 5)), none⟩,
 ⟨some 20, .p (.idxA (.t 18) (.t 19) 4), none⟩,
 ⟨some 21, .p (.load (.t 20) 4 true), none⟩,
 ⟨some 22, .p (.mv (.t 1)), none⟩,
 ⟨some 23, .call 334 [(.t 21), (.t 22)], none⟩,
 ⟨some 1, .p (.mv (.t 23)), none⟩]
def c277_r7 : List Ins := [⟨some 24, .p (.mv (.t 1)), none⟩,
 ⟨some 25, .p (.bin .lss (.t 24) (.c (.int .i64 0))), none⟩]
def c277_r8 : List Ins := [⟨some 4, .p (.mv (.c (.int .i64 (-1)))), none⟩]
def c277_r9 : List Ins := [⟨some 16, .p (.mv (.t 5)), none⟩,
 ⟨some 17, .p (.bin .add (.t 16) (.c (.int .i64 1))), none⟩,
 ⟨some 5, .p (.mv (.t 17)), none⟩]
def c277_l0 : IR := (.seq (.seq (.reg c277_r5) (.ite (.t 15) .skip (.exit 0))) (.seq (.block 1 (.seq (.reg c277_r6) (.seq (.reg c277_r7) (.ite (.t 25) (.seq (.reg c277_r8) .ret) .skip)))) (.reg c277_r9)))
def c277_r10 : List Ins := [⟨some 26, .p (.mv (.t 1)), none⟩,
 ⟨some 4, .p (.mv (.t 26)), none⟩]
def c277 : XFn := { np := 2, nt := 27, res := [.t 4], body := (.seq (.reg c277_r0) (.seq (.reg c277_r1) (.seq (.seq (.reg c277_r2) (.ite (.t 11) (.seq (.reg c277_r3) .ret) .skip)) (.seq (.seq (.reg c277_r4) (.block 0 (.loop c277_l0))) (.seq (.reg c277_r10) .ret))))) }
def K277 (C : CRel) : Prop := ∀ (a0 : List DIssued) (a1 : Int) (r : Int), g277 a0 a1 = some r → C 277 ⟨[.lst 4 (a0.map eDIssued), .int .i64 a1], []⟩ ⟨.int .i64 r, [], []⟩
theorem F277 {C : CRel} (H334 : K334 C) (a0 : List DIssued) (a1 : Int) (r : Int) (h0 : g277 a0 a1 = some r) : FnOK C c277 ⟨[.lst 4 (a0.map eDIssued), .int .i64 a1], []⟩ ⟨.int .i64 r, [], []⟩ := by
  refine fn_ (Nat.le_of_ble_eq_true rfl) ?_
  refine seq_ ?_
  refine reg_ ?_
  refine st (mvc_ trivial ?_)
  refine oe_ ?_
  refine wk_ ⟨[(0, .lst 4 (a0.map eDIssued)), (1, .int .i64 a1)], [], []⟩ (fgk (by kernel_rfl)) ?_
  refine seq_ ?_
  refine reg_ ?_
  refine st (mv_ rfl trivial ?_)
  refine st (mv_ rfl trivial ?_)
  refine st (c_ (clenL (e := eDIssued) (l0 := a0) rfl rfl trivial) ?_)
  refine st (c_ (cp_ ⟨trivial, trivial, trivial⟩ rfl trivial) ?_)
  refine st (mv_ rfl trivial ?_)
  refine oe_ ?_
  refine wk_ ⟨[(0, .lst 4 (a0.map eDIssued)), (1, .int .i64 (IntKind.i64.wrap (a1 - (a0.length : Int))))], [], []⟩ (fgk (by kernel_rfl)) ?_
  refine seq_ ?_
  refine seq_ ?_
  refine reg_ ?_
  refine st (mv_ rfl trivial ?_)
  refine st (c_ (cp_ ⟨trivial, trivial, trivial⟩ rfl trivial) ?_)
  refine oe_ ?_
  refine wk_ ⟨[(0, .lst 4 (a0.map eDIssued)), (1, .int .i64 (IntKind.i64.wrap (a1 - (a0.length : Int)))), (11, .bool (decide ((IntKind.i64.wrap (a1 - (a0.length : Int))) < 0)))], [], []⟩ (fgk (by kernel_rfl)) ?_
  refine ite_ (cb := (decide ((IntKind.i64.wrap (a1 - (a0.length : Int))) < 0))) rfl (fun c1 => ?_) (fun c1 => ?_)
  · replace h0 := ip c1 h0
    refine seq_ ?_
    refine reg_ ?_
    refine st (mvc_ trivial ?_)
    refine oe_ ?_
    refine wk_ ⟨[(4, .int .i64 (-1))], [], []⟩ (fgk (by kernel_rfl)) ?_
    obtain rfl := Option.some.inj h0
    exact rt_ (ret_ rfl rfl rfl rfl rfl trivial)
  · replace h0 := inb c1 h0
    refine sk_ ?_
    refine wk_ ⟨[(0, .lst 4 (a0.map eDIssued)), (1, .int .i64 (IntKind.i64.wrap (a1 - (a0.length : Int))))], [], []⟩ (fgk (by kernel_rfl)) ?_
    refine seq_ ?_
    refine seq_ ?_
    refine reg_ ?_
    refine st (mvc_ trivial ?_)
    refine oe_ ?_
    refine wk_ ⟨[(0, .lst 4 (a0.map eDIssued)), (1, .int .i64 (IntKind.i64.wrap (a1 - (a0.length : Int)))), (5, .int .i64 0)], [], []⟩ (fgk (by kernel_rfl)) ?_
    refine block_ ?_
    obtain ⟨r25, e26, h0⟩ := bnd h0
    refine loop_ (R := (fun S => ∃ p18 : Int, .inl p18 = r25 ∧ S = ⟨[(1, .int .i64 p18)], [], []⟩)) (g277_l0 a0) (fun s S => match s with | (p8, p9) => S = ⟨[(0, .lst 4 (a0.map eDIssued)), (1, .int .i64 p8), (5, .int .i64 p9)], [], []⟩) e26 ⟨[(0, .lst 4 (a0.map eDIssued)), (1, .int .i64 (IntKind.i64.wrap (a1 - (a0.length : Int)))), (5, .int .i64 0)], [], []⟩ (fgk (by kernel_rfl)) rfl 0 (fun _ => rfl) ?_ ?_
    · rintro S _ hfg ⟨p18, rfl, rfl⟩
      refine wk_ ⟨[(1, .int .i64 p18)], [], []⟩ (fglk hfg (by kernel_rfl)) ?_
      refine seq_ ?_
      refine reg_ ?_
      refine st (mv_ rfl trivial ?_)
      refine st (mv_ rfl trivial ?_)
      refine oe_ ?_
      refine wk_ ⟨[(4, .int .i64 p18)], [], []⟩ (fgk (by kernel_rfl)) ?_
      obtain rfl := Option.some.inj h0
      exact rt_ (ret_ rfl rfl rfl rfl rfl trivial)
    · rintro ⟨p8, p9⟩ o1 _ K1 rfl h1 hx1 hK1 hE1 hR1
      refine seq_ ?_
      refine seq_ ?_
      refine reg_ ?_
      refine st (mv_ rfl trivial ?_)
      refine st (mv_ rfl trivial ?_)
      refine st (c_ (clenL (e := eDIssued) (l0 := a0) rfl rfl trivial) ?_)
      refine st (c_ (cp_ ⟨trivial, trivial, trivial⟩ rfl trivial) ?_)
      refine oe_ ?_
      refine wk_ ⟨[(0, .lst 4 (a0.map eDIssued)), (1, .int .i64 p8), (5, .int .i64 p9), (15, .bool (decide (p9 < (a0.length : Int))))], [], []⟩ (fgk (by kernel_rfl)) ?_
      refine ite_ (cb := (decide (p9 < (a0.length : Int)))) rfl (fun c19 => ?_) (fun c19 => ?_)
      · replace h1 := ip c19 h1
        refine sk_ ?_
        refine wk_ ⟨[(0, .lst 4 (a0.map eDIssued)), (1, .int .i64 p8), (5, .int .i64 p9)], [], []⟩ (fgk (by kernel_rfl)) ?_
        refine seq_ ?_
        refine block_ ?_
        refine seq_ ?_
        refine reg_ ?_
        refine st (mv_ rfl trivial ?_)
        refine st (mv_ rfl trivial ?_)
        obtain ⟨y20, e21, h1⟩ := bnd h1
        refine st (c_ (cidxL (e := eDIssued) (y := y20) rfl rfl trivial rfl rfl trivial e21) ?_)
        refine st (c_ (v := .agg [.int .i64 y20.serial, .int .i64 y20.to_, .str y20.subject, .bool y20.revoked]) (cp_ ⟨trivial, trivial⟩ rfl (Nat.le_of_ble_eq_true rfl)) ?_)
        refine st (mv_ rfl trivial ?_)
        obtain ⟨r22, e23, h1⟩ := bnd h1
        refine st (call0_ (r := .int .i64 r22) false (H334 y20 p8 r22 e23) ⟨trivial, trivial, trivial⟩ rfl rfl (fun _ => rfl) ?_)
        refine st (mv_ rfl trivial ?_)
        refine oe_ ?_
        refine wk_ ⟨[(0, .lst 4 (a0.map eDIssued)), (1, .int .i64 r22), (5, .int .i64 p9)], [], []⟩ (fgk (by kernel_rfl)) ?_
        refine seq_ ?_
        refine reg_ ?_
        refine st (mv_ rfl trivial ?_)
        refine st (c_ (cp_ ⟨trivial, trivial, trivial⟩ rfl trivial) ?_)
        refine oe_ ?_
        refine wk_ ⟨[(0, .lst 4 (a0.map eDIssued)), (1, .int .i64 r22), (5, .int .i64 p9), (25, .bool (decide (r22 < 0)))], [], []⟩ (fgk (by kernel_rfl)) ?_
        refine ite_ (cb := (decide (r22 < 0))) rfl (fun c24 => ?_) (fun c24 => ?_)
        · replace h1 := ip c24 h1
          refine seq_ ?_
          refine reg_ ?_
          refine st (mvc_ trivial ?_)
          refine oe_ ?_
          refine wk_ ⟨[(4, .int .i64 (-1))], [], []⟩ (fgk (by kernel_rfl)) ?_
          obtain rfl := Option.some.inj h1
          obtain rfl := hx1 _ rfl
          obtain rfl := Option.some.inj h0
          exact rt_ (hR1 _ (ret_ rfl rfl rfl rfl rfl trivial))
        · replace h1 := inb c24 h1
          refine sk_ ?_
          refine bn_ ?_
          refine wk_ ⟨[(0, .lst 4 (a0.map eDIssued)), (1, .int .i64 r22), (5, .int .i64 p9)], [], []⟩ (fgk (by kernel_rfl)) ?_
          refine reg_ ?_
          refine st (mv_ rfl trivial ?_)
          refine st (c_ (cp_ ⟨trivial, trivial, trivial⟩ rfl trivial) ?_)
          refine st (mv_ rfl trivial ?_)
          refine oe_ ?_
          obtain rfl := Option.some.inj h1
          exact hK1 _ rfl _ ⟨[(0, .lst 4 (a0.map eDIssued)), (1, .int .i64 r22), (5, .int .i64 (IntKind.i64.wrap (p9 + 1)))], [], []⟩ (fgk (by kernel_rfl)) rfl
      · replace h1 := inb c19 h1
        obtain rfl := Option.some.inj h1
        obtain rfl := hx1 _ rfl
        refine exQ rfl ?_
        exact hE1 _ ⟨[(1, .int .i64 p8)], [], []⟩ (fgk (by kernel_rfl)) ⟨_, rfl, rfl⟩

/- loop.example/g00149/laws.szAuthority -/
def c223_r0 : List Ins := [⟨some 2, .box (.t 0), none⟩,
 ⟨some 4, .p (.mv (.c (.int .i64 0))), none⟩]
def c223_r1 : List Ins := [⟨some 5, .p (.mv (.t 1)), none⟩,
 ⟨some 6, .p (.fieldA (.t 2) 0), none⟩,
 ⟨some 7, .p (.load (.t 6) 1 false), none⟩,
 ⟨some 8, .p (.lenS (.t 7)), none⟩,
 ⟨some 9, .p (.bin .sub (.t 5) (.t 8)), none⟩,
 ⟨some 1, .p (.mv (.t 9)), none⟩]
def c223_r2 : List Ins := [⟨some 10, .p (.mv (.t 1)), none⟩,
 ⟨some 11, .p (.bin .lss (.t 10) (.c (.int .i64 0))), none⟩]
def c223_r3 : List Ins := [⟨some 4, .p (.mv (.c (.int .i64 (-1)))), none⟩]
def c223_r4 : List Ins := [⟨some 12, .p (.fieldA (.t 2) 1), none⟩,
 ⟨some 13, .p (.load (.t 12) 1 false), none⟩,
 ⟨some 14, .p (.mv (.t 1)), none⟩,
 ⟨some 15, .call 276 [(.t 13), (.t 14)], none⟩,
 ⟨some 1, .p (.mv (.t 15)), none⟩]
def c223_r5 : List Ins := [⟨some 16, .p (.mv (.t 1)), none⟩,
 ⟨some 17, .p (.bin .lss (.t 16) (.c (.int .i64 0))), none⟩]
def c223_r6 : List Ins := [⟨some 4, .p (.mv (.c (.int .i64 (-1)))), none⟩]
def c223_r7 : List Ins := [⟨some 18, .p (.mv (.t 1)), none⟩,
 ⟨some 19, .p (.fieldA (.t 2) 4), none⟩,
 ⟨some 20, .p (.load (.t 19) 1 false), none⟩,
 ⟨some 21, .p (.lenS (.t 20)), none⟩,
 ⟨some 22, .p (.bin .sub (.t 18) (.t 21)), none⟩,
 ⟨some 1, .p (.mv (.t 22)), none⟩]
def c223_r8 : List Ins := [⟨some 23, .p (.mv (.t 1)), none⟩,
 ⟨some 24, .p (.bin .lss (.t 23) (.c (.int .i64 0))), none⟩]
def c223_r9 : List Ins := [⟨some 4, .p (.mv (.c (.int .i64 (-1)))), none⟩]
def c223_r10 : List Ins := [⟨some 25, .p (.fieldA (.t 2) 6), none⟩,
 ⟨some 26, .p (.load (.t 25) 1 false), none⟩,
 ⟨some 27, .p (.mv (.t 1)), none⟩,
 ⟨some 28, .call 277 [(.t 26), (.t 27)], none⟩,
 ⟨some 1, .p (.mv (.t 28)), none⟩]
def c223_r11 : List Ins := [⟨some 29, .p (.mv (.t 1)), none⟩,
 ⟨some 30, .p (.bin .lss (.t 29) (.c (.int .i64 0))), none⟩]
def c223_r12 : List Ins := [⟨some 4, .p (.mv (.c (.int .i64 (-1)))), none⟩]
def c223_r13 : List Ins := [⟨some 31, .p (.mv (.t 1)), none⟩,
 ⟨some 4, .p (.mv (.t 31)), none⟩]
def c223 : XFn := { np := 2, nt := 32, res := [.t 4], body := (.seq (.reg c223_r0) (.seq (.reg c223_r1) (.seq (.seq (.reg c223_r2) (.ite (.t 11) (.seq (.reg c223_r3) .ret) .skip)) (.seq (.reg c223_r4) (.seq (.seq (.reg c223_r5) (.ite (.t 17) (.seq (.reg c223_r6) .ret) .skip)) (.seq (.reg c223_r7) (.seq (.seq (.reg c223_r8) (.ite (.t 24) (.seq (.reg c223_r9) .ret) .skip)) (.seq (.reg c223_r10) (.seq (.seq (.reg c223_r11) (.ite (.t 30) (.seq (.reg c223_r12) .ret) .skip)) (.seq (.reg c223_r13) .ret)))))))))) }
def K223 (C : CRel) : Prop := ∀ (a0 : DAuthority) (a1 : Int) (r : Int), g223 a0 a1 = some r → C 223 ⟨[.agg [.str a0.name_, .lst 1 (a0.seed.map eU8), .int .i64 a0.serial, .int .i64 a0.number, .str a0.suffix, .int .i64 a0.most, .lst 4 (a0.list_.map eDIssued)], .int .i64 a1], []⟩ ⟨.int .i64 r, [], []⟩
theorem F223 {C : CRel} (H276 : K276 C) (H277 : K277 C) (a0 : DAuthority) (a1 : Int) (r : Int) (h0 : g223 a0 a1 = some r) : FnOK C c223 ⟨[.agg [.str a0.name_, .lst 1 (a0.seed.map eU8), .int .i64 a0.serial, .int .i64 a0.number, .str a0.suffix, .int .i64 a0.most, .lst 4 (a0.list_.map eDIssued)], .int .i64 a1], []⟩ ⟨.int .i64 r, [], []⟩ := by
  refine fn_ (Nat.le_of_ble_eq_true rfl) ?_
  refine seq_ ?_
  refine reg_ ?_
  refine st (box_ rfl trivial rfl ?_)
  refine st (mvc_ trivial ?_)
  refine oe_ ?_
  refine wk_ ⟨[(1, .int .i64 a1), (2, .ptr 128 0)], [(128, [.str a0.name_, .lst 1 (a0.seed.map eU8), .int .i64 a0.serial, .int .i64 a0.number, .str a0.suffix, .int .i64 a0.most, .lst 4 (a0.list_.map eDIssued)])], []⟩ (fgk (by kernel_rfl)) ?_
  refine seq_ ?_
  refine reg_ ?_
  refine st (mv_ rfl trivial ?_)
  refine st (c_ (cp_ ⟨trivial, trivial⟩ rfl trivial) ?_)
  refine st (c_ (cp_ ⟨trivial, trivial⟩ rfl (Nat.le_of_ble_eq_true rfl)) ?_)
  refine st (c_ (cp_ ⟨trivial, trivial⟩ rfl trivial) ?_)
  refine st (c_ (cp_ ⟨trivial, trivial, trivial⟩ rfl trivial) ?_)
  refine st (mv_ rfl trivial ?_)
  refine oe_ ?_
  refine wk_ ⟨[(1, .int .i64 (IntKind.i64.wrap (a1 - (a0.name_.length : Int)))), (2, .ptr 128 0)], [(128, [.str a0.name_, .lst 1 (a0.seed.map eU8), .int .i64 a0.serial, .int .i64 a0.number, .str a0.suffix, .int .i64 a0.most, .lst 4 (a0.list_.map eDIssued)])], []⟩ (fgk (by kernel_rfl)) ?_
  refine seq_ ?_
  refine seq_ ?_
  refine reg_ ?_
  refine st (mv_ rfl trivial ?_)
  refine st (c_ (cp_ ⟨trivial, trivial, trivial⟩ rfl trivial) ?_)
  refine oe_ ?_
  refine wk_ ⟨[(1, .int .i64 (IntKind.i64.wrap (a1 - (a0.name_.length : Int)))), (2, .ptr 128 0), (11, .bool (decide ((IntKind.i64.wrap (a1 - (a0.name_.length : Int))) < 0)))], [(128, [.str a0.name_, .lst 1 (a0.seed.map eU8), .int .i64 a0.serial, .int .i64 a0.number, .str a0.suffix, .int .i64 a0.most, .lst 4 (a0.list_.map eDIssued)])], []⟩ (fgk (by kernel_rfl)) ?_
  refine ite_ (cb := (decide ((IntKind.i64.wrap (a1 - (a0.name_.length : Int))) < 0))) rfl (fun c1 => ?_) (fun c1 => ?_)
  · replace h0 := ip c1 h0
    refine seq_ ?_
    refine reg_ ?_
    refine st (mvc_ trivial ?_)
    refine oe_ ?_
    refine wk_ ⟨[(4, .int .i64 (-1))], [], []⟩ (fgk (by kernel_rfl)) ?_
    obtain rfl := Option.some.inj h0
    exact rt_ (ret_ rfl rfl rfl rfl rfl trivial)
  · replace h0 := inb c1 h0
    refine sk_ ?_
    refine wk_ ⟨[(1, .int .i64 (IntKind.i64.wrap (a1 - (a0.name_.length : Int)))), (2, .ptr 128 0)], [(128, [.str a0.name_, .lst 1 (a0.seed.map eU8), .int .i64 a0.serial, .int .i64 a0.number, .str a0.suffix, .int .i64 a0.most, .lst 4 (a0.list_.map eDIssued)])], []⟩ (fgk (by kernel_rfl)) ?_
    refine seq_ ?_
    refine reg_ ?_
    refine st (c_ (cp_ ⟨trivial, trivial⟩ rfl trivial) ?_)
    refine st (c_ (cp_ ⟨trivial, trivial⟩ rfl (Nat.le_of_ble_eq_true rfl)) ?_)
    refine st (mv_ rfl trivial ?_)
    obtain ⟨r2, e3, h0⟩ := bnd h0
    refine st (call0_ (r := .int .i64 r2) false (H276 a0.seed (IntKind.i64.wrap (a1 - (a0.name_.length : Int))) r2 e3) ⟨trivial, trivial, trivial⟩ rfl rfl (fun _ => rfl) ?_)
    refine st (mv_ rfl trivial ?_)
    refine oe_ ?_
    refine wk_ ⟨[(1, .int .i64 r2), (2, .ptr 128 0)], [(128, [.str a0.name_, .lst 1 (a0.seed.map eU8), .int .i64 a0.serial, .int .i64 a0.number, .str a0.suffix, .int .i64 a0.most, .lst 4 (a0.list_.map eDIssued)])], []⟩ (fgk (by kernel_rfl)) ?_
    refine seq_ ?_
    refine seq_ ?_
    refine reg_ ?_
    refine st (mv_ rfl trivial ?_)
    refine st (c_ (cp_ ⟨trivial, trivial, trivial⟩ rfl trivial) ?_)
    refine oe_ ?_
    refine wk_ ⟨[(1, .int .i64 r2), (2, .ptr 128 0), (17, .bool (decide (r2 < 0)))], [(128, [.str a0.name_, .lst 1 (a0.seed.map eU8), .int .i64 a0.serial, .int .i64 a0.number, .str a0.suffix, .int .i64 a0.most, .lst 4 (a0.list_.map eDIssued)])], []⟩ (fgk (by kernel_rfl)) ?_
    refine ite_ (cb := (decide (r2 < 0))) rfl (fun c4 => ?_) (fun c4 => ?_)
    · replace h0 := ip c4 h0
      refine seq_ ?_
      refine reg_ ?_
      refine st (mvc_ trivial ?_)
      refine oe_ ?_
      refine wk_ ⟨[(4, .int .i64 (-1))], [], []⟩ (fgk (by kernel_rfl)) ?_
      obtain rfl := Option.some.inj h0
      exact rt_ (ret_ rfl rfl rfl rfl rfl trivial)
    · replace h0 := inb c4 h0
      refine sk_ ?_
      refine wk_ ⟨[(1, .int .i64 r2), (2, .ptr 128 0)], [(128, [.str a0.name_, .lst 1 (a0.seed.map eU8), .int .i64 a0.serial, .int .i64 a0.number, .str a0.suffix, .int .i64 a0.most, .lst 4 (a0.list_.map eDIssued)])], []⟩ (fgk (by kernel_rfl)) ?_
      refine seq_ ?_
      refine reg_ ?_
      refine st (mv_ rfl trivial ?_)
      refine st (c_ (cp_ ⟨trivial, trivial⟩ rfl trivial) ?_)
      refine st (c_ (cp_ ⟨trivial, trivial⟩ rfl (Nat.le_of_ble_eq_true rfl)) ?_)
      refine st (c_ (cp_ ⟨trivial, trivial⟩ rfl trivial) ?_)
      refine st (c_ (cp_ ⟨trivial, trivial, trivial⟩ rfl trivial) ?_)
      refine st (mv_ rfl trivial ?_)
      refine oe_ ?_
      refine wk_ ⟨[(1, .int .i64 (IntKind.i64.wrap (r2 - (a0.suffix.length : Int)))), (2, .ptr 128 0)], [(128, [.str a0.name_, .lst 1 (a0.seed.map eU8), .int .i64 a0.serial, .int .i64 a0.number, .str a0.suffix, .int .i64 a0.most, .lst 4 (a0.list_.map eDIssued)])], []⟩ (fgk (by kernel_rfl)) ?_
      refine seq_ ?_
      refine seq_ ?_
      refine reg_ ?_
      refine st (mv_ rfl trivial ?_)
      refine st (c_ (cp_ ⟨trivial, trivial, trivial⟩ rfl trivial) ?_)
      refine oe_ ?_
      refine wk_ ⟨[(1, .int .i64 (IntKind.i64.wrap (r2 - (a0.suffix.length : Int)))), (2, .ptr 128 0), (24, .bool (decide ((IntKind.i64.wrap (r2 - (a0.suffix.length : Int))) < 0)))], [(128, [.str a0.name_, .lst 1 (a0.seed.map eU8), .int .i64 a0.serial, .int .i64 a0.number, .str a0.suffix, .int .i64 a0.most, .lst 4 (a0.list_.map eDIssued)])], []⟩ (fgk (by kernel_rfl)) ?_
      refine ite_ (cb := (decide ((IntKind.i64.wrap (r2 - (a0.suffix.length : Int))) < 0))) rfl (fun c5 => ?_) (fun c5 => ?_)
      · replace h0 := ip c5 h0
        refine seq_ ?_
        refine reg_ ?_
        refine st (mvc_ trivial ?_)
        refine oe_ ?_
        refine wk_ ⟨[(4, .int .i64 (-1))], [], []⟩ (fgk (by kernel_rfl)) ?_
        obtain rfl := Option.some.inj h0
        exact rt_ (ret_ rfl rfl rfl rfl rfl trivial)
      · replace h0 := inb c5 h0
        refine sk_ ?_
        refine wk_ ⟨[(1, .int .i64 (IntKind.i64.wrap (r2 - (a0.suffix.length : Int)))), (2, .ptr 128 0)], [(128, [.str a0.name_, .lst 1 (a0.seed.map eU8), .int .i64 a0.serial, .int .i64 a0.number, .str a0.suffix, .int .i64 a0.most, .lst 4 (a0.list_.map eDIssued)])], []⟩ (fgk (by kernel_rfl)) ?_
        refine seq_ ?_
        refine reg_ ?_
        refine st (c_ (cp_ ⟨trivial, trivial⟩ rfl trivial) ?_)
        refine st (c_ (cp_ ⟨trivial, trivial⟩ rfl (Nat.le_of_ble_eq_true rfl)) ?_)
        refine st (mv_ rfl trivial ?_)
        obtain ⟨r6, e7, h0⟩ := bnd h0
        refine st (call0_ (r := .int .i64 r6) false (H277 a0.list_ (IntKind.i64.wrap (r2 - (a0.suffix.length : Int))) r6 e7) ⟨trivial, trivial, trivial⟩ rfl rfl (fun _ => rfl) ?_)
        refine st (mv_ rfl trivial ?_)
        refine oe_ ?_
        refine wk_ ⟨[(1, .int .i64 r6)], [], []⟩ (fgk (by kernel_rfl)) ?_
        refine seq_ ?_
        refine seq_ ?_
        refine reg_ ?_
        refine st (mv_ rfl trivial ?_)
        refine st (c_ (cp_ ⟨trivial, trivial, trivial⟩ rfl trivial) ?_)
        refine oe_ ?_
        refine wk_ ⟨[(1, .int .i64 r6), (30, .bool (decide (r6 < 0)))], [], []⟩ (fgk (by kernel_rfl)) ?_
        refine ite_ (cb := (decide (r6 < 0))) rfl (fun c8 => ?_) (fun c8 => ?_)
        · replace h0 := ip c8 h0
          refine seq_ ?_
          refine reg_ ?_
          refine st (mvc_ trivial ?_)
          refine oe_ ?_
          refine wk_ ⟨[(4, .int .i64 (-1))], [], []⟩ (fgk (by kernel_rfl)) ?_
          obtain rfl := Option.some.inj h0
          exact rt_ (ret_ rfl rfl rfl rfl rfl trivial)
        · replace h0 := inb c8 h0
          refine sk_ ?_
          refine wk_ ⟨[(1, .int .i64 r6)], [], []⟩ (fgk (by kernel_rfl)) ?_
          refine seq_ ?_
          refine reg_ ?_
          refine st (mv_ rfl trivial ?_)
          refine st (mv_ rfl trivial ?_)
          refine oe_ ?_
          refine wk_ ⟨[(4, .int .i64 r6)], [], []⟩ (fgk (by kernel_rfl)) ?_
          obtain rfl := Option.some.inj h0
          exact rt_ (ret_ rfl rfl rfl rfl rfl trivial)

/- loop.example/g00149/spec.l01In -/
def c56_r0 : List Ins := [⟨some 6, .p (.mv (.c (.bool false))), none⟩]
def c56_r1 : List Ins := [⟨some 7, .p (.mv (.t 0)), none⟩,
 ⟨some 8, .p (.mv (.t 1)), none⟩,
 ⟨some 9, .p (.bin .geq (.t 7) (.t 8)), none⟩,
 ⟨some 10, .p (.mv (.t 9)), none⟩,
 ⟨some 11, .p (.mv (.t 0)), some (10, true)⟩,
 ⟨some 12, .p (.mv (.t 2)), some (10, true)⟩,
 ⟨some 13, .p (.bin .leq (.t 11) (.t 12)), some (10, true)⟩,
 ⟨some 14, .pick (.t 10) (.t 13) (.c (.bool false)), none⟩,
 ⟨some 6, .p (.mv (.t 14)), none⟩]
def c56 : XFn := { np := 3, nt := 15, res := [.t 6], body := (.seq (.reg c56_r0) (.seq (.reg c56_r1) .ret)) }
def K56 (C : CRel) : Prop := ∀ (a0 : Int) (a1 : Int) (a2 : Int) (r : Bool), g56 a0 a1 a2 = some r → C 56 ⟨[.int .i64 a0, .int .i64 a1, .int .i64 a2], []⟩ ⟨.bool r, [], []⟩
theorem F56 {C : CRel}  (a0 : Int) (a1 : Int) (a2 : Int) (r : Bool) (h0 : g56 a0 a1 a2 = some r) : FnOK C c56 ⟨[.int .i64 a0, .int .i64 a1, .int .i64 a2], []⟩ ⟨.bool r, [], []⟩ := by
  refine fn_ (Nat.le_of_ble_eq_true rfl) ?_
  refine seq_ ?_
  refine reg_ ?_
  refine st (mvc_ trivial ?_)
  refine oe_ ?_
  refine wk_ ⟨[(0, .int .i64 a0), (1, .int .i64 a1), (2, .int .i64 a2)], [], []⟩ (fgk (by kernel_rfl)) ?_
  refine seq_ ?_
  refine reg_ ?_
  refine st (mv_ rfl trivial ?_)
  refine st (mv_ rfl trivial ?_)
  refine st (c_ (cp_ ⟨trivial, trivial, trivial⟩ rfl trivial) ?_)
  refine st (mv_ rfl trivial ?_)
  refine st (pg_ (u := .int .i64 a0) rfl (fun hg => (cmv (v := .int .i64 a0) rfl trivial)) ?_)
  refine st (pg_ (u := .int .i64 a2) rfl (fun hg => (cmv (v := .int .i64 a2) rfl trivial)) ?_)
  refine st (pg_ (u := .bool (decide (a0 ≤ a2))) rfl (fun hg => (cp_ ⟨(fun _ => hg), (fun _ => hg), trivial⟩ rfl trivial)) ?_)
  refine st (pick_ rfl rfl rfl (fun h => eqt h) trivial rfl ?_)
  refine st (mv_ rfl trivial ?_)
  refine oe_ ?_
  refine wk_ ⟨[(6, .bool (bif (decide (a0 ≥ a1)) then (decide (a0 ≤ a2)) else false))], [], []⟩ (fgk (by kernel_rfl)) ?_
  obtain rfl := Option.some.inj h0
  exact rt_ (ret_ rfl rfl rfl rfl rfl trivial)

/- loop.example/g00149/spec.l00Digit -/
def c335_r0 : List Ins := [⟨some 2, .p (.mv (.c (.bool false))), none⟩]
def c335_r1 : List Ins := [⟨some 3, .p (.mv (.t 0)), none⟩,
 ⟨some 4, .p (.bin .geq (.t 3) (.c (.int .u8 48))), none⟩,
 ⟨some 5, .p (.mv (.t 4)), none⟩,
 ⟨some 6, .p (.mv (.t 0)), some (5, true)⟩,
 ⟨some 7, .p (.bin .leq (.t 6) (.c (.int .u8 57))), some (5, true)⟩,
 ⟨some 8, .pick (.t 5) (.t 7) (.c (.bool false)), none⟩,
 ⟨some 2, .p (.mv (.t 8)), none⟩]
def c335 : XFn := { np := 1, nt := 9, res := [.t 2], body := (.seq (.reg c335_r0) (.seq (.reg c335_r1) .ret)) }
def K335 (C : CRel) : Prop := ∀ (a0 : UInt8) (r : Bool), g335 a0 = some r → C 335 ⟨[.int .u8 ((a0).toNat : Int)], []⟩ ⟨.bool r, [], []⟩
theorem F335 {C : CRel}  (a0 : UInt8) (r : Bool) (h0 : g335 a0 = some r) : FnOK C c335 ⟨[.int .u8 ((a0).toNat : Int)], []⟩ ⟨.bool r, [], []⟩ := by
  refine fn_ (Nat.le_of_ble_eq_true rfl) ?_
  refine seq_ ?_
  refine reg_ ?_
  refine st (mvc_ trivial ?_)
  refine oe_ ?_
  refine wk_ ⟨[(0, .int .u8 ((a0).toNat : Int))], [], []⟩ (fgk (by kernel_rfl)) ?_
  refine seq_ ?_
  refine reg_ ?_
  refine st (mv_ rfl trivial ?_)
  refine st (c_ (cp_ ⟨trivial, trivial, trivial⟩ rfl trivial) ?_)
  refine st (mv_ rfl trivial ?_)
  refine st (pg_ (u := .int .u8 ((a0).toNat : Int)) rfl (fun hg => (cmv (v := .int .u8 ((a0).toNat : Int)) rfl trivial)) ?_)
  refine st (pg_ (u := .bool (decide (((a0).toNat : Int) ≤ 57))) rfl (fun hg => (cp_ ⟨(fun _ => hg), trivial, trivial⟩ rfl trivial)) ?_)
  refine st (pick_ rfl rfl rfl (fun h => eqt h) trivial rfl ?_)
  refine st (mv_ rfl trivial ?_)
  refine oe_ ?_
  obtain ⟨v1, e2, h0⟩ := bl h0
  refine wk_ ⟨[(2, .bool v1)], [], []⟩ (fgk (by subst e2; kernel_rfl)) ?_
  obtain rfl := Option.some.inj h0
  exact rt_ (ret_ rfl rfl rfl rfl rfl trivial)

/- loop.example/g00149/spec.l04Printable -/
def c279_r0 : List Ins := [⟨some 2, .p (.mv (.c (.bool false))), none⟩]
def c279_r1 : List Ins := [⟨some 3, .p (.mv (.c (.int .i64 0))), none⟩]
def c279_r2 : List Ins := [⟨some 8, .p (.mv (.t 3)), none⟩,
 ⟨some 9, .p (.mv (.t 0)), none⟩,
 ⟨some 10, .p (.lenS (.t 9)), none⟩,
 ⟨some 11, .p (.bin .lss (.t 8) (.t 10)), none⟩]
def c279_r3 : List Ins := [⟨some 14, .p (.mv (.t 0)), none⟩,
 ⟨some 15, .p (.mv (.t 3)), none⟩,
 ⟨some 16, .p (.idxStr (.t 14) (.t 15)), none⟩,
 ⟨some 4, .p (.mv (.t 16)), none⟩]
def c279_r4 : List Ins := [⟨some 17, .p (.mv (.t 4)), none⟩,
 ⟨some 18, .call 335 [(.t 17)], none⟩,
 ⟨some 19, .p (.mv (.t 18)), none⟩,
 ⟨some 20, .p (.mv (.t 4)), some (19, false)⟩,
 ⟨some 21, .p (.bin .geq (.t 20) (.c (.int .u8 65))), some (19, false)⟩,
 ⟨some 22, .p (.mv (.t 21)), some (19, false)⟩,
 ⟨some 23, .p (.mv (.t 4)), some (22, true)⟩,
 ⟨some 24, .p (.bin .leq (.t 23) (.c (.int .u8 90))), some (22, true)⟩,
 ⟨some 25, .pick (.t 22) (.t 24) (.c (.bool false)), some (19, false)⟩,
 ⟨some 26, .pick (.t 19) (.c (.bool true)) (.t 25), none⟩,
 ⟨some 27, .p (.mv (.t 26)), none⟩,
 ⟨some 28, .p (.mv (.t 4)), some (27, false)⟩,
 ⟨some 29, .p (.bin .geq (.t 28) (.c (.int .u8 97))), some (27, false)⟩,
 ⟨some 30, .p (.mv (.t 29)), some (27, false)⟩,
 ⟨some 31, .p (.mv (.t 4)), some (30, true)⟩,
 ⟨some 32, .p (.bin .leq (.t 31) (.c (.int .u8 122))), some (30, true)⟩,
 ⟨some 33, .pick (.t 30) (.t 32) (.c (.bool false)), some (27, false)⟩,
 ⟨some 34, .pick (.t 27) (.c (.bool true)) (.t 33), none⟩,
 ⟨some 5, .p (.mv (.t 34)), none⟩]
def c279_r5 : List Ins := [⟨some 6, .p (.mv (.c (.str [32, 39, 40, 41, 43, 44, 45, 46, 47, 58, 61, 63]))), none⟩]
def c279_r6 : List Ins := [⟨some 7, .p (.mv (.c (.int .i64 0))), none⟩]
def c279_r7 : List Ins := [⟨some 35, .p (.mv (.t 7)), none⟩,
 ⟨some 36, .p (.mv (.t 6)), none⟩,
 ⟨some 37, .p (.lenS (.t 36)), none⟩,
 ⟨some 38, .p (.bin .lss (.t 35) (.t 37)), none⟩]
def c279_r8 : List Ins := [⟨some 41, .p (.mv (.t 5)), none⟩,
 ⟨some 42, .p (.mv (.t 41)), none⟩,
 ⟨some 43, .p (.mv (.t 6)), some (42, false)⟩,
 ⟨some 44, .p (.mv (.t 7)), some (42, false)⟩,
 ⟨some 45, .p (.idxStr (.t 43) (.t 44)), some (42, false)⟩,
 ⟨some 46, .p (.mv (.t 4)), some (42, false)⟩,
 ⟨some 47, .p (.bin .eql (.t 45) (.t 46)), some (42, false)⟩,
 ⟨some 48, .pick (.t 42) (.c (.bool true)) (.t 47), none⟩,
 ⟨some 5, .p (.mv (.t 48)), none⟩]
def c279_r9 : List Ins := [⟨some 39, .p (.mv (.t 7)), none⟩,
 ⟨some 40, .p (.bin .add (.t 39) (.c (.int .i64 1))), none⟩,
 ⟨some 7, .p (.mv (.t 40)), none⟩]
def c279_l0 : IR := (.seq (.seq (.reg c279_r7) (.ite (.t 38) .skip (.exit 2))) (.seq (.block 3 (.reg c279_r8)) (.reg c279_r9)))
def c279_r10 : List Ins := [⟨some 49, .p (.mv (.t 5)), none⟩,
 ⟨some 50, .p (.un .not (.t 49)), none⟩]
def c279_r11 : List Ins := [⟨some 2, .p (.mv (.c (.bool false))), none⟩]
def c279_r12 : List Ins := [⟨some 12, .p (.mv (.t 3)), none⟩,
 ⟨some 13, .p (.bin .add (.t 12) (.c (.int .i64 1))), none⟩,
 ⟨some 3, .p (.mv (.t 13)), none⟩]
def c279_l1 : IR := (.seq (.seq (.reg c279_r2) (.ite (.t 11) .skip (.exit 0))) (.seq (.block 1 (.seq (.reg c279_r3) (.seq (.reg c279_r4) (.seq (.reg c279_r5) (.seq (.seq (.reg c279_r6) (.block 2 (.loop c279_l0))) (.seq (.reg c279_r10) (.ite (.t 50) (.seq (.reg c279_r11) .ret) .skip))))))) (.reg c279_r12)))
def c279_r13 : List Ins := [⟨some 2, .p (.mv (.c (.bool true))), none⟩]
def c279 : XFn := { np := 1, nt := 51, res := [.t 2], body := (.seq (.reg c279_r0) (.seq (.seq (.reg c279_r1) (.block 0 (.loop c279_l1))) (.seq (.reg c279_r13) .ret))) }
def K279 (C : CRel) : Prop := ∀ (a0 : List UInt8) (r : Bool), g279 a0 = some r → C 279 ⟨[.str a0], []⟩ ⟨.bool r, [], []⟩
theorem F279 {C : CRel} (H335 : K335 C) (a0 : List UInt8) (r : Bool) (h0 : g279 a0 = some r) : FnOK C c279 ⟨[.str a0], []⟩ ⟨.bool r, [], []⟩ := by
  refine fn_ (Nat.le_of_ble_eq_true rfl) ?_
  refine seq_ ?_
  refine reg_ ?_
  refine st (mvc_ trivial ?_)
  refine oe_ ?_
  refine wk_ ⟨[(0, .str a0)], [], []⟩ (fgk (by kernel_rfl)) ?_
  refine seq_ ?_
  refine seq_ ?_
  refine reg_ ?_
  refine st (mvc_ trivial ?_)
  refine oe_ ?_
  refine wk_ ⟨[(0, .str a0), (3, .int .i64 0)], [], []⟩ (fgk (by kernel_rfl)) ?_
  refine block_ ?_
  obtain ⟨r79, e80, h0⟩ := bnd h0
  refine loop_ (R := (fun S => .inl () = r79 ∧ S = ⟨[], [], []⟩)) (g279_l0 a0) (fun s S => match s with | p24 => S = ⟨[(0, .str a0), (3, .int .i64 p24)], [], []⟩) e80 ⟨[(0, .str a0), (3, .int .i64 0)], [], []⟩ (fgk (by kernel_rfl)) rfl 0 (fun _ => rfl) ?_ ?_
  · rintro S _ hfg ⟨rfl, rfl⟩
    refine wk_ ⟨[], [], []⟩ (fglk hfg (by kernel_rfl)) ?_
    refine seq_ ?_
    refine reg_ ?_
    refine st (mvc_ trivial ?_)
    refine oe_ ?_
    refine wk_ ⟨[(2, .bool true)], [], []⟩ (fgk (by kernel_rfl)) ?_
    obtain rfl := Option.some.inj h0
    exact rt_ (ret_ rfl rfl rfl rfl rfl trivial)
  · rintro p24 o1 _ K1 rfl h1 hx1 hK1 hE1 hR1
    refine seq_ ?_
    refine seq_ ?_
    refine reg_ ?_
    refine st (mv_ rfl trivial ?_)
    refine st (mv_ rfl trivial ?_)
    refine st (c_ (cp_ ⟨trivial, trivial⟩ rfl trivial) ?_)
    refine st (c_ (cp_ ⟨trivial, trivial, trivial⟩ rfl trivial) ?_)
    refine oe_ ?_
    refine wk_ ⟨[(0, .str a0), (3, .int .i64 p24), (11, .bool (decide (p24 < (a0.length : Int))))], [], []⟩ (fgk (by kernel_rfl)) ?_
    refine ite_ (cb := (decide (p24 < (a0.length : Int)))) rfl (fun c49 => ?_) (fun c49 => ?_)
    · replace h1 := ip c49 h1
      refine sk_ ?_
      refine wk_ ⟨[(0, .str a0), (3, .int .i64 p24)], [], []⟩ (fgk (by kernel_rfl)) ?_
      refine seq_ ?_
      refine block_ ?_
      refine seq_ ?_
      refine reg_ ?_
      refine st (mv_ rfl trivial ?_)
      refine st (mv_ rfl trivial ?_)
      obtain ⟨y50, e51, h1⟩ := bnd h1
      refine st (c_ (cidxS (y := y50) rfl rfl trivial rfl rfl trivial e51) ?_)
      refine st (mv_ rfl trivial ?_)
      refine oe_ ?_
      refine wk_ ⟨[(0, .str a0), (3, .int .i64 p24), (4, .int .u8 ((y50).toNat : Int))], [], []⟩ (fgk (by kernel_rfl)) ?_
      refine seq_ ?_
      refine reg_ ?_
      refine st (mv_ rfl trivial ?_)
      obtain ⟨r52, e53, h1⟩ := bnd h1
      refine st (call0_ (r := .bool r52) false (H335 y50 r52 e53) ⟨trivial, trivial⟩ rfl rfl (fun _ => rfl) ?_)
      refine st (mv_ rfl trivial ?_)
      refine st (pg_ (u := .int .u8 ((y50).toNat : Int)) rfl (fun hg => (cmv (v := .int .u8 ((y50).toNat : Int)) rfl trivial)) ?_)
      refine st (pg_ (u := .bool (decide (((y50).toNat : Int) ≥ 65))) rfl (fun hg => (cp_ ⟨(fun _ => hg), trivial, trivial⟩ rfl trivial)) ?_)
      refine st (pg_ (u := .bool (decide (((y50).toNat : Int) ≥ 65))) rfl (fun hg => (cmv (v := .may (r52 == false) (.bool (decide (((y50).toNat : Int) ≥ 65)))) rfl (fun _ => hg))) ?_)
      refine st (pg_ (u := .int .u8 ((y50).toNat : Int)) rfl (fun hg => (cmv (v := .int .u8 ((y50).toNat : Int)) rfl trivial)) ?_)
      refine st (pg_ (u := .bool (decide (((y50).toNat : Int) ≤ 90))) rfl (fun hg => (cp_ ⟨(fun _ => hg), trivial, trivial⟩ rfl trivial)) ?_)
      refine st (pickg_ (u := .bool (bif (decide (((y50).toNat : Int) ≥ 65)) then (decide (((y50).toNat : Int) ≤ 90)) else false)) rfl (fun hg => cpick rfl rfl (fun _ => hg) rfl rfl (fun h => and_ hg (eqt h)) trivial rfl) ?_)
      refine st (pick_ rfl rfl rfl trivial (fun h => eqf h) rfl ?_)
      refine st (mv_ rfl trivial ?_)
      refine st (pg_ (u := .int .u8 ((y50).toNat : Int)) rfl (fun hg => (cmv (v := .int .u8 ((y50).toNat : Int)) rfl trivial)) ?_)
      refine sw ⟨[(0, .str a0), (3, .int .i64 p24), (4, .int .u8 ((y50).toNat : Int)), (27, .bool (bif r52 then true else (bif (decide (((y50).toNat : Int) ≥ 65)) then (decide (((y50).toNat : Int) ≤ 90)) else false))), (28, .may ((bif r52 then true else (bif (decide (((y50).toNat : Int) ≥ 65)) then (decide (((y50).toNat : Int) ≤ 90)) else false)) == false) (.int .u8 ((y50).toNat : Int)))], [], []⟩ (fgk (by kernel_rfl)) (pg_ (u := .bool (decide (((y50).toNat : Int) ≥ 97))) rfl (fun hg => (cp_ ⟨(fun _ => hg), trivial, trivial⟩ rfl trivial)) ?_)
      refine st (pg_ (u := .bool (decide (((y50).toNat : Int) ≥ 97))) rfl (fun hg => (cmv (v := .may ((bif r52 then true else (bif (decide (((y50).toNat : Int) ≥ 65)) then (decide (((y50).toNat : Int) ≤ 90)) else false)) == false) (.bool (decide (((y50).toNat : Int) ≥ 97)))) rfl (fun _ => hg))) ?_)
      refine st (pg_ (u := .int .u8 ((y50).toNat : Int)) rfl (fun hg => (cmv (v := .int .u8 ((y50).toNat : Int)) rfl trivial)) ?_)
      refine st (pg_ (u := .bool (decide (((y50).toNat : Int) ≤ 122))) rfl (fun hg => (cp_ ⟨(fun _ => hg), trivial, trivial⟩ rfl trivial)) ?_)
      refine st (pickg_ (u := .bool (bif (decide (((y50).toNat : Int) ≥ 97)) then (decide (((y50).toNat : Int) ≤ 122)) else false)) rfl (fun hg => cpick rfl rfl (fun _ => hg) rfl rfl (fun h => and_ hg (eqt h)) trivial rfl) ?_)
      refine st (pick_ rfl rfl rfl trivial (fun h => eqf h) rfl ?_)
      refine st (mv_ rfl trivial ?_)
      refine oe_ ?_
      obtain ⟨v54, e55, h1⟩ := bl h1
      refine wk_ ⟨[(0, .str a0), (3, .int .i64 p24), (4, .int .u8 ((y50).toNat : Int)), (5, .bool v54)], [], []⟩ (fgk (by subst e55; kernel_rfl)) ?_
      refine seq_ ?_
      refine reg_ ?_
      refine st (mvc_ trivial ?_)
      refine oe_ ?_
      refine wk_ ⟨[(0, .str a0), (3, .int .i64 p24), (4, .int .u8 ((y50).toNat : Int)), (5, .bool v54), (6, .str ([32, 39, 40, 41, 43, 44, 45, 46, 47, 58, 61, 63] : List UInt8))], [], []⟩ (fgk (by kernel_rfl)) ?_
      refine seq_ ?_
      refine seq_ ?_
      refine reg_ ?_
      refine st (mvc_ trivial ?_)
      refine oe_ ?_
      refine wk_ ⟨[(0, .str a0), (3, .int .i64 p24), (4, .int .u8 ((y50).toNat : Int)), (5, .bool v54), (6, .str ([32, 39, 40, 41, 43, 44, 45, 46, 47, 58, 61, 63] : List UInt8)), (7, .int .i64 0)], [], []⟩ (fgk (by kernel_rfl)) ?_
      refine block_ ?_
      obtain ⟨r76, e77, h1⟩ := bnd h1
      refine loop_ (R := (fun S => ∃ p70 : Bool, p70 = r76 ∧ S = ⟨[(0, .str a0), (3, .int .i64 p24), (5, .bool p70)], [], []⟩)) (g279_l1 y50) (fun s S => match s with | (p61, p62) => S = ⟨[(0, .str a0), (3, .int .i64 p24), (4, .int .u8 ((y50).toNat : Int)), (5, .bool p61), (6, .str ([32, 39, 40, 41, 43, 44, 45, 46, 47, 58, 61, 63] : List UInt8)), (7, .int .i64 p62)], [], []⟩) e77 ⟨[(0, .str a0), (3, .int .i64 p24), (4, .int .u8 ((y50).toNat : Int)), (5, .bool v54), (6, .str ([32, 39, 40, 41, 43, 44, 45, 46, 47, 58, 61, 63] : List UInt8)), (7, .int .i64 0)], [], []⟩ (fgk (by kernel_rfl)) rfl 2 (fun _ => rfl) ?_ ?_
      · rintro S _ hfg ⟨p70, rfl, rfl⟩
        refine wk_ ⟨[(0, .str a0), (3, .int .i64 p24), (5, .bool p70)], [], []⟩ (fglk hfg (by kernel_rfl)) ?_
        refine seq_ ?_
        refine reg_ ?_
        refine st (mv_ rfl trivial ?_)
        refine st (c_ (cp_ ⟨trivial, trivial⟩ rfl trivial) ?_)
        refine oe_ ?_
        refine wk_ ⟨[(0, .str a0), (3, .int .i64 p24), (50, .bool (!p70))], [], []⟩ (fgk (by kernel_rfl)) ?_
        refine ite_ (cb := (!p70)) rfl (fun c78 => ?_) (fun c78 => ?_)
        · replace h1 := ip c78 h1
          refine seq_ ?_
          refine reg_ ?_
          refine st (mvc_ trivial ?_)
          refine oe_ ?_
          refine wk_ ⟨[(2, .bool false)], [], []⟩ (fgk (by kernel_rfl)) ?_
          obtain rfl := Option.some.inj h1
          obtain rfl := hx1 _ rfl
          obtain rfl := Option.some.inj h0
          exact rt_ (hR1 _ (ret_ rfl rfl rfl rfl rfl trivial))
        · replace h1 := inb c78 h1
          refine sk_ ?_
          refine bn_ ?_
          refine wk_ ⟨[(0, .str a0), (3, .int .i64 p24)], [], []⟩ (fgk (by kernel_rfl)) ?_
          refine reg_ ?_
          refine st (mv_ rfl trivial ?_)
          refine st (c_ (cp_ ⟨trivial, trivial, trivial⟩ rfl trivial) ?_)
          refine st (mv_ rfl trivial ?_)
          refine oe_ ?_
          obtain rfl := Option.some.inj h1
          exact hK1 _ rfl _ ⟨[(0, .str a0), (3, .int .i64 (IntKind.i64.wrap (p24 + 1)))], [], []⟩ (fgk (by kernel_rfl)) rfl
      · rintro ⟨p61, p62⟩ o2 _ K2 rfl h2 hx2 hK2 hE2 hR2
        unfold g279_l1 at h2
        refine seq_ ?_
        refine seq_ ?_
        refine reg_ ?_
        refine st (mv_ rfl trivial ?_)
        refine st (mv_ rfl trivial ?_)
        refine st (c_ (cp_ ⟨trivial, trivial⟩ rfl trivial) ?_)
        refine st (c_ (cp_ ⟨trivial, trivial, trivial⟩ rfl trivial) ?_)
        refine oe_ ?_
        obtain ⟨v71, e72, h2⟩ := bl h2
        refine wk_ ⟨[(0, .str a0), (3, .int .i64 p24), (4, .int .u8 ((y50).toNat : Int)), (5, .bool p61), (6, .str ([32, 39, 40, 41, 43, 44, 45, 46, 47, 58, 61, 63] : List UInt8)), (7, .int .i64 p62), (38, .bool v71)], [], []⟩ (fgk (by subst e72; kernel_rfl)) ?_
        refine ite_ (cb := v71) rfl (fun c73 => ?_) (fun c73 => ?_)
        · replace h2 := ip c73 h2
          refine sk_ ?_
          refine wk_ ⟨[(0, .str a0), (3, .int .i64 p24), (4, .int .u8 ((y50).toNat : Int)), (5, .bool p61), (6, .str ([32, 39, 40, 41, 43, 44, 45, 46, 47, 58, 61, 63] : List UInt8)), (7, .int .i64 p62)], [], []⟩ (fgk (by kernel_rfl)) ?_
          refine seq_ ?_
          refine block_ ?_
          refine reg_ ?_
          refine st (mv_ rfl trivial ?_)
          refine st (mv_ rfl trivial ?_)
          refine st (pg_ (u := .str ([32, 39, 40, 41, 43, 44, 45, 46, 47, 58, 61, 63] : List UInt8)) rfl (fun hg => (cmv (v := .str ([32, 39, 40, 41, 43, 44, 45, 46, 47, 58, 61, 63] : List UInt8)) rfl trivial)) ?_)
          refine st (pg_ (u := .int .i64 p62) rfl (fun hg => (cmv (v := .int .i64 p62) rfl trivial)) ?_)
          obtain ⟨y74, e75, h2⟩ := bnd h2
          refine st (pg_ (u := .int .u8 ((y74).toNat : Int)) rfl (fun hg => (cidxS (y := y74) rfl rfl (fun _ => hg) rfl rfl (fun _ => hg) (ip hg e75))) ?_)
          refine st (pg_ (u := .int .u8 ((y50).toNat : Int)) rfl (fun hg => (cmv (v := .int .u8 ((y50).toNat : Int)) rfl trivial)) ?_)
          refine st (pg_ (u := .bool (((y74).toNat : Int) == ((y50).toNat : Int))) rfl (fun hg => (cp_ ⟨(fun _ => hg), (fun _ => hg), trivial⟩ rfl trivial)) ?_)
          refine st (pick_ rfl rfl rfl trivial (fun h => eqf h) rfl ?_)
          refine st (mv_ rfl trivial ?_)
          refine oe_ ?_
          refine bn_ ?_
          refine wk_ ⟨[(0, .str a0), (3, .int .i64 p24), (4, .int .u8 ((y50).toNat : Int)), (5, .bool (bif p61 then true else (((y74).toNat : Int) == ((y50).toNat : Int)))), (6, .str ([32, 39, 40, 41, 43, 44, 45, 46, 47, 58, 61, 63] : List UInt8)), (7, .int .i64 p62)], [], []⟩ (fgk (by kernel_rfl)) ?_
          refine reg_ ?_
          refine st (mv_ rfl trivial ?_)
          refine st (c_ (cp_ ⟨trivial, trivial, trivial⟩ rfl trivial) ?_)
          refine st (mv_ rfl trivial ?_)
          refine oe_ ?_
          obtain rfl := Option.some.inj h2
          exact hK2 _ rfl _ ⟨[(0, .str a0), (3, .int .i64 p24), (4, .int .u8 ((y50).toNat : Int)), (5, .bool (bif p61 then true else (((y74).toNat : Int) == ((y50).toNat : Int)))), (6, .str ([32, 39, 40, 41, 43, 44, 45, 46, 47, 58, 61, 63] : List UInt8)), (7, .int .i64 (IntKind.i64.wrap (p62 + 1)))], [], []⟩ (fgk (by kernel_rfl)) rfl
        · replace h2 := inb c73 h2
          obtain rfl := Option.some.inj h2
          obtain rfl := hx2 _ rfl
          refine exQ rfl ?_
          exact hE2 _ ⟨[(0, .str a0), (3, .int .i64 p24), (5, .bool p61)], [], []⟩ (fgk (by kernel_rfl)) ⟨_, rfl, rfl⟩
    · replace h1 := inb c49 h1
      obtain rfl := Option.some.inj h1
      obtain rfl := hx1 _ rfl
      refine exQ rfl ?_
      exact hE1 _ ⟨[], [], []⟩ (fgk (by kernel_rfl)) ⟨rfl, rfl⟩

/- loop.example/g00149/spec.l07Name -/
def c278_r0 : List Ins := [⟨some 2, .p (.mv (.c (.bool false))), none⟩]
def c278_r1 : List Ins := [⟨some 3, .p (.mv (.t 0)), none⟩,
 ⟨some 4, .p (.lenS (.t 3)), none⟩,
 ⟨some 5, .p (.bin .gtr (.t 4) (.c (.int .i64 0))), none⟩,
 ⟨some 6, .p (.mv (.t 5)), none⟩,
 ⟨some 7, .p (.mv (.t 0)), some (6, true)⟩,
 ⟨some 8, .p (.lenS (.t 7)), some (6, true)⟩,
 ⟨some 9, .p (.bin .leq (.t 8) (.c (.int .i64 40))), some (6, true)⟩,
 ⟨some 10, .pick (.t 6) (.t 9) (.c (.bool false)), none⟩,
 ⟨some 11, .p (.mv (.t 10)), none⟩,
 ⟨some 12, .p (.mv (.t 0)), some (11, true)⟩,
 ⟨some 13, .call 279 [(.t 12)], some (11, true)⟩,
 ⟨some 14, .pick (.t 11) (.t 13) (.c (.bool false)), none⟩,
 ⟨some 2, .p (.mv (.t 14)), none⟩]
def c278 : XFn := { np := 1, nt := 15, res := [.t 2], body := (.seq (.reg c278_r0) (.seq (.reg c278_r1) .ret)) }
def K278 (C : CRel) : Prop := ∀ (a0 : List UInt8) (r : Bool), g278 a0 = some r → C 278 ⟨[.str a0], []⟩ ⟨.bool r, [], []⟩
theorem F278 {C : CRel} (H279 : K279 C) (a0 : List UInt8) (r : Bool) (h0 : g278 a0 = some r) : FnOK C c278 ⟨[.str a0], []⟩ ⟨.bool r, [], []⟩ := by
  refine fn_ (Nat.le_of_ble_eq_true rfl) ?_
  refine seq_ ?_
  refine reg_ ?_
  refine st (mvc_ trivial ?_)
  refine oe_ ?_
  refine wk_ ⟨[(0, .str a0)], [], []⟩ (fgk (by kernel_rfl)) ?_
  refine seq_ ?_
  refine reg_ ?_
  refine st (mv_ rfl trivial ?_)
  refine st (c_ (cp_ ⟨trivial, trivial⟩ rfl trivial) ?_)
  refine st (c_ (cp_ ⟨trivial, trivial, trivial⟩ rfl trivial) ?_)
  refine st (mv_ rfl trivial ?_)
  refine st (pg_ (u := .str a0) rfl (fun hg => (cmv (v := .str a0) rfl trivial)) ?_)
  refine st (pg_ (u := .int .i64 (a0.length : Int)) rfl (fun hg => (cp_ ⟨(fun _ => hg), trivial⟩ rfl trivial)) ?_)
  refine st (pg_ (u := .bool (decide ((a0.length : Int) ≤ 40))) rfl (fun hg => (cp_ ⟨(fun _ => hg), trivial, trivial⟩ rfl trivial)) ?_)
  refine st (pick_ rfl rfl rfl (fun h => eqt h) trivial rfl ?_)
  refine st (mv_ rfl trivial ?_)
  refine st (pg_ (u := .str a0) rfl (fun hg => (cmv (v := .str a0) rfl trivial)) ?_)
  obtain ⟨r1, e2, h0⟩ := bnd h0
  refine sw ⟨[(11, .bool (bif (decide ((a0.length : Int) > 0)) then (decide ((a0.length : Int) ≤ 40)) else false)), (12, .may ((bif (decide ((a0.length : Int) > 0)) then (decide ((a0.length : Int) ≤ 40)) else false) == true) (.str a0))], [], []⟩ (fgk (by kernel_rfl)) (callg_ (r := .bool r1) rfl false (fun hg => H279 a0 r1 (ip hg e2)) ⟨(fun hg => hg), trivial⟩ (fun _ => rfl) (fun _ => rfl) (fun _ => rfl) (fun h => nomatch h) ?_)
  refine st (pick_ rfl rfl rfl (fun h => eqt h) trivial rfl ?_)
  refine st (mv_ rfl trivial ?_)
  refine oe_ ?_
  obtain ⟨v3, e4, h0⟩ := bl h0
  refine wk_ ⟨[(2, .bool v3)], [], []⟩ (fgk (by subst e4; kernel_rfl)) ?_
  obtain rfl := Option.some.inj h0
  exact rt_ (ret_ rfl rfl rfl rfl rfl trivial)

/- loop.example/g00149/spec.AuthorityOK -/
def c224_r0 : List Ins := [⟨some 1, .box (.t 0), none⟩,
 ⟨some 2, .p (.mv (.c (.bool false))), none⟩]
def c224_r1 : List Ins := [⟨some 5, .p (.fieldA (.t 1) 0), none⟩,
 ⟨some 6, .p (.load (.t 5) 1 false), none⟩,
 ⟨some 7, .call 278 [(.t 6)], none⟩,
 ⟨some 8, .p (.un .not (.t 7)), none⟩,
 ⟨some 9, .p (.mv (.t 8)), none⟩,
 ⟨some 10, .p (.fieldA (.t 1) 1), some (9, false)⟩,
 ⟨some 11, .p (.load (.t 10) 1 false), some (9, false)⟩,
 ⟨some 12, .p (.len (.t 11)), some (9, false)⟩,
 ⟨some 13, .p (.bin .neq (.t 12) (.c (.int .i64 32))), some (9, false)⟩,
 ⟨some 14, .pick (.t 9) (.c (.bool true)) (.t 13), none⟩,
 ⟨some 15, .p (.mv (.t 14)), none⟩,
 ⟨some 16, .p (.fieldA (.t 1) 2), some (15, false)⟩,
 ⟨some 17, .p (.load (.t 16) 1 false), some (15, false)⟩,
 ⟨some 18, .call 56 [(.t 17), (.c (.int .i64 1)), (.c (.int .i64 1000000))], some (15, false)⟩,
 ⟨some 19, .p (.un .not (.t 18)), some (15, false)⟩,
 ⟨some 20, .pick (.t 15) (.c (.bool true)) (.t 19), none⟩,
 ⟨some 21, .p (.mv (.t 20)), none⟩,
 ⟨some 22, .p (.fieldA (.t 1) 3), some (21, false)⟩,
 ⟨some 23, .p (.load (.t 22) 1 false), some (21, false)⟩,
 ⟨some 24, .call 56 [(.t 23), (.c (.int .i64 1)), (.c (.int .i64 1000000))], some (21, false)⟩,
 ⟨some 25, .p (.un .not (.t 24)), some (21, false)⟩,
 ⟨some 26, .pick (.t 21) (.c (.bool true)) (.t 25), none⟩,
 ⟨some 27, .p (.mv (.t 26)), none⟩,
 ⟨some 28, .p (.fieldA (.t 1) 4), some (27, false)⟩,
 ⟨some 29, .p (.load (.t 28) 1 false), some (27, false)⟩,
 ⟨some 30, .p (.lenS (.t 29)), some (27, false)⟩,
 ⟨some 31, .p (.bin .gtr (.t 30) (.c (.int .i64 40))), some (27, false)⟩,
 ⟨some 32, .pick (.t 27) (.c (.bool true)) (.t 31), none⟩,
 ⟨some 33, .p (.mv (.t 32)), none⟩,
 ⟨some 34, .p (.fieldA (.t 1) 4), some (33, false)⟩,
 ⟨some 35, .p (.load (.t 34) 1 false), some (33, false)⟩,
 ⟨some 36, .call 279 [(.t 35)], some (33, false)⟩,
 ⟨some 37, .p (.un .not (.t 36)), some (33, false)⟩,
 ⟨some 38, .pick (.t 33) (.c (.bool true)) (.t 37), none⟩,
 ⟨some 39, .p (.mv (.t 38)), none⟩,
 ⟨some 40, .p (.fieldA (.t 1) 5), some (39, false)⟩,
 ⟨some 41, .p (.load (.t 40) 1 false), some (39, false)⟩,
 ⟨some 42, .call 56 [(.t 41), (.c (.int .i64 1)), (.c (.int .i64 253402300799))], some (39, false)⟩,
 ⟨some 43, .p (.un .not (.t 42)), some (39, false)⟩,
 ⟨some 44, .pick (.t 39) (.c (.bool true)) (.t 43), none⟩,
 ⟨some 45, .p (.mv (.t 44)), none⟩,
 ⟨some 46, .p (.fieldA (.t 1) 6), some (45, false)⟩,
 ⟨some 47, .p (.load (.t 46) 1 false), some (45, false)⟩,
 ⟨some 48, .p (.len (.t 47)), some (45, false)⟩,
 ⟨some 49, .p (.bin .gtr (.t 48) (.c (.int .i64 40))), some (45, false)⟩,
 ⟨some 50, .pick (.t 45) (.c (.bool true)) (.t 49), none⟩]
def c224_r2 : List Ins := [⟨some 2, .p (.mv (.c (.bool false))), none⟩]
def c224_r3 : List Ins := [⟨some 3, .p (.mv (.c (.int .i64 0))), none⟩]
def c224_r4 : List Ins := [⟨some 51, .p (.mv (.t 3)), none⟩,
 ⟨some 52, .p (.fieldA (.t 1) 6), none⟩,
 ⟨some 53, .p (.load (.t 52) 1 false), none⟩,
 ⟨some 54, .p (.len (.t 53)), none⟩,
 ⟨some 55, .p (.bin .lss (.t 51) (.t 54)), none⟩]
def c224_r5 : List Ins := [⟨some 58, .p (.fieldA (.t 1) 6), none⟩,
 ⟨some 59, .p (.load (.t 58) 1 false), none⟩,
 ⟨some 60, .p (.mv (.t 3)), none⟩,
 ⟨some 61, .p (.idxA (.t 59) (.t 60) 4), none⟩,
 ⟨some 62, .p (.load (.t 61) 4 true), none⟩,
 ⟨some 4, .alloc [(.int .i64 0), (.int .i64 0), (.str []), (.bool false)], none⟩,
 ⟨none, .store (.t 4) (.t 62) 4, none⟩]
def c224_r6 : DP := (.take ⟨some 63, .p (.fieldA (.t 4) 0), none⟩
 (.take ⟨some 64, .p (.load (.t 63) 1 false), none⟩
 (.take ⟨some 65, .p (.fieldA (.t 1) 2), none⟩
 (.take ⟨some 66, .p (.load (.t 65) 1 false), none⟩
 (.take ⟨some 67, .p (.bin .sub (.t 66) (.c (.int .i64 1))), none⟩
 (.alt [] ⟨some 68, .call 56 [(.t 64), (.c (.int .i64 1)), (.t 67)], none⟩
 (.take ⟨some 69, .p (.un .not (.t 68)), none⟩
 (.take ⟨some 70, .p (.mv (.t 69)), none⟩
 (.take ⟨some 71, .p (.mv (.t 3)), some (70, false)⟩
 (.take ⟨some 72, .p (.bin .gtr (.t 71) (.c (.int .i64 0))), some (70, false)⟩
 (.take ⟨some 73, .p (.mv (.t 72)), some (70, false)⟩
 (.take ⟨some 74, .p (.fieldA (.t 1) 6), some (73, true)⟩
 (.take ⟨some 75, .p (.load (.t 74) 1 false), some (73, true)⟩
 (.take ⟨some 76, .p (.mv (.t 3)), some (73, true)⟩
 (.take ⟨some 77, .p (.bin .sub (.t 76) (.c (.int .i64 1))), some (73, true)⟩
 (.take ⟨some 78, .p (.idxA (.t 75) (.t 77) 4), some (73, true)⟩
 (.take ⟨some 79, .p (.fieldA (.t 78) 0), some (73, true)⟩
 (.take ⟨some 80, .p (.load (.t 79) 1 false), some (73, true)⟩
 (.take ⟨some 81, .p (.fieldA (.t 4) 0), some (73, true)⟩
 (.take ⟨some 82, .p (.load (.t 81) 1 false), some (73, true)⟩
 (.take ⟨some 83, .p (.bin .geq (.t 80) (.t 82)), some (73, true)⟩
 (.take ⟨some 84, .pick (.t 73) (.t 83) (.c (.bool false)), some (70, false)⟩
 (.take ⟨some 85, .pick (.t 70) (.c (.bool true)) (.t 84), none⟩
 (.take ⟨some 86, .p (.mv (.t 85)), none⟩
 (.take ⟨some 87, .p (.fieldA (.t 4) 1), some (86, false)⟩
 (.take ⟨some 88, .p (.load (.t 87) 1 false), some (86, false)⟩
 (.alt [] ⟨some 89, .call 56 [(.t 88), (.c (.int .i64 0)), (.c (.int .i64 253402300799))], some (86, false)⟩
 (.take ⟨some 90, .p (.un .not (.t 89)), some (86, false)⟩
 (.take ⟨some 91, .pick (.t 86) (.c (.bool true)) (.t 90), none⟩
 (.take ⟨some 92, .p (.mv (.t 91)), none⟩
 (.take ⟨some 93, .p (.fieldA (.t 4) 2), some (92, false)⟩
 (.take ⟨some 94, .p (.load (.t 93) 1 false), some (92, false)⟩
 (.alt [] ⟨some 95, .call 278 [(.t 94)], some (92, false)⟩
 (.take ⟨some 96, .p (.un .not (.t 95)), some (92, false)⟩
 (.take ⟨some 97, .pick (.t 92) (.c (.bool true)) (.t 96), none⟩
 .fin))
 .stop))))))
 .stop)))))))))))))))))))))
 .stop))))))
def c224_r7 : List Ins := [⟨some 2, .p (.mv (.c (.bool false))), none⟩]
def c224_r8 : List Ins := [⟨some 56, .p (.mv (.t 3)), none⟩,
 ⟨some 57, .p (.bin .add (.t 56) (.c (.int .i64 1))), none⟩,
 ⟨some 3, .p (.mv (.t 57)), none⟩]
def c224_l0 : IR := (.seq (.seq (.reg c224_r4) (.ite (.t 55) .skip (.exit 0))) (.seq (.block 1 (.seq (.reg c224_r5) (.seq (.draw c224_r6) (.ite (.t 97) (.seq (.reg c224_r7) .ret) .skip)))) (.reg c224_r8)))
def c224_r9 : List Ins := [⟨some 2, .p (.mv (.c (.bool true))), none⟩]
def c224 : XFn := { np := 1, nt := 98, res := [.t 2], body := (.seq (.reg c224_r0) (.seq (.seq (.reg c224_r1) (.ite (.t 50) (.seq (.reg c224_r2) .ret) .skip)) (.seq (.seq (.reg c224_r3) (.block 0 (.loop c224_l0))) (.seq (.reg c224_r9) .ret)))) }
def K224 (C : CRel) : Prop := ∀ (a0 : DAuthority) (r : Bool), g224 a0 = some r → C 224 ⟨[.agg [.str a0.name_, .lst 1 (a0.seed.map eU8), .int .i64 a0.serial, .int .i64 a0.number, .str a0.suffix, .int .i64 a0.most, .lst 4 (a0.list_.map eDIssued)]], []⟩ ⟨.bool r, [], []⟩
theorem F224 {C : CRel} (H56 : K56 C) (H278 : K278 C) (H279 : K279 C) (a0 : DAuthority) (r : Bool) (h0 : g224 a0 = some r) : FnOK C c224 ⟨[.agg [.str a0.name_, .lst 1 (a0.seed.map eU8), .int .i64 a0.serial, .int .i64 a0.number, .str a0.suffix, .int .i64 a0.most, .lst 4 (a0.list_.map eDIssued)]], []⟩ ⟨.bool r, [], []⟩ := by
  refine fn_ (Nat.le_of_ble_eq_true rfl) ?_
  refine seq_ ?_
  refine reg_ ?_
  refine st (box_ rfl trivial rfl ?_)
  refine st (mvc_ trivial ?_)
  refine oe_ ?_
  refine wk_ ⟨[(1, .ptr 64 0)], [(64, [.str a0.name_, .lst 1 (a0.seed.map eU8), .int .i64 a0.serial, .int .i64 a0.number, .str a0.suffix, .int .i64 a0.most, .lst 4 (a0.list_.map eDIssued)])], []⟩ (fgk (by kernel_rfl)) ?_
  refine seq_ ?_
  refine seq_ ?_
  refine reg_ ?_
  refine st (c_ (cp_ ⟨trivial, trivial⟩ rfl trivial) ?_)
  refine st (c_ (cp_ ⟨trivial, trivial⟩ rfl (Nat.le_of_ble_eq_true rfl)) ?_)
  obtain ⟨r1, e2, h0⟩ := bnd h0
  refine st (call0_ (r := .bool r1) false (H278 a0.name_ r1 e2) ⟨trivial, trivial⟩ rfl rfl (fun _ => rfl) ?_)
  refine st (c_ (cp_ ⟨trivial, trivial⟩ rfl trivial) ?_)
  refine st (mv_ rfl trivial ?_)
  refine st (pg_ (u := .ptr 64 1) rfl (fun hg => (cp_ ⟨trivial, trivial⟩ rfl trivial)) ?_)
  refine st (pg_ (u := .lst 1 (a0.seed.map eU8)) rfl (fun hg => (cp_ ⟨(fun _ => hg), trivial⟩ rfl (Nat.le_of_ble_eq_true rfl))) ?_)
  refine st (pg_ (u := .int .i64 (a0.seed.length : Int)) rfl (fun hg => (clenL (e := eU8) (l0 := a0.seed) rfl rfl (fun _ => hg))) ?_)
  refine st (pg_ (u := .bool ((a0.seed.length : Int) != 32)) rfl (fun hg => (cp_ ⟨(fun _ => hg), trivial, trivial⟩ rfl trivial)) ?_)
  refine st (pick_ rfl rfl rfl trivial (fun h => eqf h) rfl ?_)
  refine st (mv_ rfl trivial ?_)
  refine st (pg_ (u := .ptr 64 2) rfl (fun hg => (cp_ ⟨trivial, trivial⟩ rfl trivial)) ?_)
  refine sw ⟨[(1, .ptr 64 0), (15, .bool (bif (!r1) then true else ((a0.seed.length : Int) != 32))), (16, .may ((bif (!r1) then true else ((a0.seed.length : Int) != 32)) == false) (.ptr 64 2))], [(64, [.str a0.name_, .lst 1 (a0.seed.map eU8), .int .i64 a0.serial, .int .i64 a0.number, .str a0.suffix, .int .i64 a0.most, .lst 4 (a0.list_.map eDIssued)])], []⟩ (fgk (by kernel_rfl)) (pg_ (u := .int .i64 a0.serial) rfl (fun hg => (cp_ ⟨(fun _ => hg), trivial⟩ rfl (Nat.le_of_ble_eq_true rfl))) ?_)
  obtain ⟨r3, e4, h0⟩ := bnd h0
  refine st (callg_ (r := .bool r3) rfl false (fun hg => H56 a0.serial 1 1000000 r3 (ip hg e4)) ⟨(fun hg => hg), trivial, trivial, trivial⟩ (fun _ => rfl) (fun _ => rfl) (fun _ => rfl) (fun h => nomatch h) ?_)
  refine st (pg_ (u := .bool (!r3)) rfl (fun hg => (cp_ ⟨(fun _ => hg), trivial⟩ rfl trivial)) ?_)
  refine st (pick_ rfl rfl rfl trivial (fun h => eqf h) rfl ?_)
  refine st (mv_ rfl trivial ?_)
  refine st (pg_ (u := .ptr 64 3) rfl (fun hg => (cp_ ⟨trivial, trivial⟩ rfl trivial)) ?_)
  refine st (pg_ (u := .int .i64 a0.number) rfl (fun hg => (cp_ ⟨(fun _ => hg), trivial⟩ rfl (Nat.le_of_ble_eq_true rfl))) ?_)
  obtain ⟨r5, e6, h0⟩ := bnd h0
  refine sw ⟨[(1, .ptr 64 0), (21, .bool (bif (bif (!r1) then true else ((a0.seed.length : Int) != 32)) then true else (!r3))), (23, .may ((bif (bif (!r1) then true else ((a0.seed.length : Int) != 32)) then true else (!r3)) == false) (.int .i64 a0.number))], [(64, [.str a0.name_, .lst 1 (a0.seed.map eU8), .int .i64 a0.serial, .int .i64 a0.number, .str a0.suffix, .int .i64 a0.most, .lst 4 (a0.list_.map eDIssued)])], []⟩ (fgk (by kernel_rfl)) (callg_ (r := .bool r5) rfl false (fun hg => H56 a0.number 1 1000000 r5 (ip hg e6)) ⟨(fun hg => hg), trivial, trivial, trivial⟩ (fun _ => rfl) (fun _ => rfl) (fun _ => rfl) (fun h => nomatch h) ?_)
  refine st (pg_ (u := .bool (!r5)) rfl (fun hg => (cp_ ⟨(fun _ => hg), trivial⟩ rfl trivial)) ?_)
  refine st (pick_ rfl rfl rfl trivial (fun h => eqf h) rfl ?_)
  refine st (mv_ rfl trivial ?_)
  refine st (pg_ (u := .ptr 64 4) rfl (fun hg => (cp_ ⟨trivial, trivial⟩ rfl trivial)) ?_)
  refine st (pg_ (u := .str a0.suffix) rfl (fun hg => (cp_ ⟨(fun _ => hg), trivial⟩ rfl (Nat.le_of_ble_eq_true rfl))) ?_)
  refine st (pg_ (u := .int .i64 (a0.suffix.length : Int)) rfl (fun hg => (cp_ ⟨(fun _ => hg), trivial⟩ rfl trivial)) ?_)
  refine st (pg_ (u := .bool (decide ((a0.suffix.length : Int) > 40))) rfl (fun hg => (cp_ ⟨(fun _ => hg), trivial, trivial⟩ rfl trivial)) ?_)
  refine st (pick_ rfl rfl rfl trivial (fun h => eqf h) rfl ?_)
  refine st (mv_ rfl trivial ?_)
  refine st (pg_ (u := .ptr 64 4) rfl (fun hg => (cp_ ⟨trivial, trivial⟩ rfl trivial)) ?_)
  refine st (pg_ (u := .str a0.suffix) rfl (fun hg => (cp_ ⟨(fun _ => hg), trivial⟩ rfl (Nat.le_of_ble_eq_true rfl))) ?_)
  obtain ⟨r7, e8, h0⟩ := bnd h0
  refine sw ⟨[(1, .ptr 64 0), (33, .bool (bif (bif (bif (bif (!r1) then true else ((a0.seed.length : Int) != 32)) then true else (!r3)) then true else (!r5)) then true else (decide ((a0.suffix.length : Int) > 40)))), (35, .may ((bif (bif (bif (bif (!r1) then true else ((a0.seed.length : Int) != 32)) then true else (!r3)) then true else (!r5)) then true else (decide ((a0.suffix.length : Int) > 40))) == false) (.str a0.suffix))], [(64, [.str a0.name_, .lst 1 (a0.seed.map eU8), .int .i64 a0.serial, .int .i64 a0.number, .str a0.suffix, .int .i64 a0.most, .lst 4 (a0.list_.map eDIssued)])], []⟩ (fgk (by kernel_rfl)) (callg_ (r := .bool r7) rfl false (fun hg => H279 a0.suffix r7 (ip hg e8)) ⟨(fun hg => hg), trivial⟩ (fun _ => rfl) (fun _ => rfl) (fun _ => rfl) (fun h => nomatch h) ?_)
  refine st (pg_ (u := .bool (!r7)) rfl (fun hg => (cp_ ⟨(fun _ => hg), trivial⟩ rfl trivial)) ?_)
  refine st (pick_ rfl rfl rfl trivial (fun h => eqf h) rfl ?_)
  refine st (mv_ rfl trivial ?_)
  refine st (pg_ (u := .ptr 64 5) rfl (fun hg => (cp_ ⟨trivial, trivial⟩ rfl trivial)) ?_)
  refine st (pg_ (u := .int .i64 a0.most) rfl (fun hg => (cp_ ⟨(fun _ => hg), trivial⟩ rfl (Nat.le_of_ble_eq_true rfl))) ?_)
  obtain ⟨r9, e10, h0⟩ := bnd h0
  refine sw ⟨[(1, .ptr 64 0), (39, .bool (bif (bif (bif (bif (bif (!r1) then true else ((a0.seed.length : Int) != 32)) then true else (!r3)) then true else (!r5)) then true else (decide ((a0.suffix.length : Int) > 40))) then true else (!r7))), (41, .may ((bif (bif (bif (bif (bif (!r1) then true else ((a0.seed.length : Int) != 32)) then true else (!r3)) then true else (!r5)) then true else (decide ((a0.suffix.length : Int) > 40))) then true else (!r7)) == false) (.int .i64 a0.most))], [(64, [.str a0.name_, .lst 1 (a0.seed.map eU8), .int .i64 a0.serial, .int .i64 a0.number, .str a0.suffix, .int .i64 a0.most, .lst 4 (a0.list_.map eDIssued)])], []⟩ (fgk (by kernel_rfl)) (callg_ (r := .bool r9) rfl false (fun hg => H56 a0.most 1 253402300799 r9 (ip hg e10)) ⟨(fun hg => hg), trivial, trivial, trivial⟩ (fun _ => rfl) (fun _ => rfl) (fun _ => rfl) (fun h => nomatch h) ?_)
  refine st (pg_ (u := .bool (!r9)) rfl (fun hg => (cp_ ⟨(fun _ => hg), trivial⟩ rfl trivial)) ?_)
  refine st (pick_ rfl rfl rfl trivial (fun h => eqf h) rfl ?_)
  refine st (mv_ rfl trivial ?_)
  refine st (pg_ (u := .ptr 64 6) rfl (fun hg => (cp_ ⟨trivial, trivial⟩ rfl trivial)) ?_)
  refine st (pg_ (u := .lst 4 (a0.list_.map eDIssued)) rfl (fun hg => (cp_ ⟨(fun _ => hg), trivial⟩ rfl (Nat.le_of_ble_eq_true rfl))) ?_)
  refine st (pg_ (u := .int .i64 (a0.list_.length : Int)) rfl (fun hg => (clenL (e := eDIssued) (l0 := a0.list_) rfl rfl (fun _ => hg))) ?_)
  refine st (pg_ (u := .bool (decide ((a0.list_.length : Int) > 40))) rfl (fun hg => (cp_ ⟨(fun _ => hg), trivial, trivial⟩ rfl trivial)) ?_)
  refine st (pick_ rfl rfl rfl trivial (fun h => eqf h) rfl ?_)
  refine oe_ ?_
  obtain ⟨v11, e12, h0⟩ := bl h0
  refine wk_ ⟨[(1, .ptr 64 0), (50, .bool v11)], [(64, [.str a0.name_, .lst 1 (a0.seed.map eU8), .int .i64 a0.serial, .int .i64 a0.number, .str a0.suffix, .int .i64 a0.most, .lst 4 (a0.list_.map eDIssued)])], []⟩ (fgk (by subst e12; kernel_rfl)) ?_
  refine ite_ (cb := v11) rfl (fun c13 => ?_) (fun c13 => ?_)
  · replace h0 := ip c13 h0
    refine seq_ ?_
    refine reg_ ?_
    refine st (mvc_ trivial ?_)
    refine oe_ ?_
    refine wk_ ⟨[(2, .bool false)], [], []⟩ (fgk (by kernel_rfl)) ?_
    obtain rfl := Option.some.inj h0
    exact rt_ (ret_ rfl rfl rfl rfl rfl trivial)
  · replace h0 := inb c13 h0
    refine sk_ ?_
    refine wk_ ⟨[(1, .ptr 64 0)], [(64, [.str a0.name_, .lst 1 (a0.seed.map eU8), .int .i64 a0.serial, .int .i64 a0.number, .str a0.suffix, .int .i64 a0.most, .lst 4 (a0.list_.map eDIssued)])], []⟩ (fgk (by kernel_rfl)) ?_
    refine seq_ ?_
    refine seq_ ?_
    refine reg_ ?_
    refine st (mvc_ trivial ?_)
    refine oe_ ?_
    refine wk_ ⟨[(1, .ptr 64 0), (3, .int .i64 0)], [(64, [.str a0.name_, .lst 1 (a0.seed.map eU8), .int .i64 a0.serial, .int .i64 a0.number, .str a0.suffix, .int .i64 a0.most, .lst 4 (a0.list_.map eDIssued)])], []⟩ (fgk (by kernel_rfl)) ?_
    refine block_ ?_
    obtain ⟨r58, e59, h0⟩ := bnd h0
    refine loop_ (R := (fun S => .inl () = r58 ∧ S = ⟨[], [], []⟩)) (g224_l0 a0) (fun s S => match s with | p28 => S = ⟨[(1, .ptr 64 0), (3, .int .i64 p28)], [(64, [.str a0.name_, .lst 1 (a0.seed.map eU8), .int .i64 a0.serial, .int .i64 a0.number, .str a0.suffix, .int .i64 a0.most, .lst 4 (a0.list_.map eDIssued)])], []⟩) e59 ⟨[(1, .ptr 64 0), (3, .int .i64 0)], [(64, [.str a0.name_, .lst 1 (a0.seed.map eU8), .int .i64 a0.serial, .int .i64 a0.number, .str a0.suffix, .int .i64 a0.most, .lst 4 (a0.list_.map eDIssued)])], []⟩ (fgk (by kernel_rfl)) rfl 0 (fun _ => rfl) ?_ ?_
    · rintro S _ hfg ⟨rfl, rfl⟩
      refine wk_ ⟨[], [], []⟩ (fglk hfg (by kernel_rfl)) ?_
      refine seq_ ?_
      refine reg_ ?_
      refine st (mvc_ trivial ?_)
      refine oe_ ?_
      refine wk_ ⟨[(2, .bool true)], [], []⟩ (fgk (by kernel_rfl)) ?_
      obtain rfl := Option.some.inj h0
      exact rt_ (ret_ rfl rfl rfl rfl rfl trivial)
    · rintro p28 o1 _ K1 rfl h1 hx1 hK1 hE1 hR1
      refine seq_ ?_
      refine seq_ ?_
      refine reg_ ?_
      refine st (mv_ rfl trivial ?_)
      refine st (c_ (cp_ ⟨trivial, trivial⟩ rfl trivial) ?_)
      refine st (c_ (cp_ ⟨trivial, trivial⟩ rfl (Nat.le_of_ble_eq_true rfl)) ?_)
      refine st (c_ (clenL (e := eDIssued) (l0 := a0.list_) rfl rfl trivial) ?_)
      refine st (c_ (cp_ ⟨trivial, trivial, trivial⟩ rfl trivial) ?_)
      refine oe_ ?_
      refine wk_ ⟨[(1, .ptr 64 0), (3, .int .i64 p28), (55, .bool (decide (p28 < (a0.list_.length : Int))))], [(64, [.str a0.name_, .lst 1 (a0.seed.map eU8), .int .i64 a0.serial, .int .i64 a0.number, .str a0.suffix, .int .i64 a0.most, .lst 4 (a0.list_.map eDIssued)])], []⟩ (fgk (by kernel_rfl)) ?_
      refine ite_ (cb := (decide (p28 < (a0.list_.length : Int)))) rfl (fun c44 => ?_) (fun c44 => ?_)
      · replace h1 := ip c44 h1
        refine sk_ ?_
        refine wk_ ⟨[(1, .ptr 64 0), (3, .int .i64 p28)], [(64, [.str a0.name_, .lst 1 (a0.seed.map eU8), .int .i64 a0.serial, .int .i64 a0.number, .str a0.suffix, .int .i64 a0.most, .lst 4 (a0.list_.map eDIssued)])], []⟩ (fgk (by kernel_rfl)) ?_
        refine seq_ ?_
        refine block_ ?_
        refine seq_ ?_
        refine reg_ ?_
        refine st (c_ (cp_ ⟨trivial, trivial⟩ rfl trivial) ?_)
        refine st (c_ (cp_ ⟨trivial, trivial⟩ rfl (Nat.le_of_ble_eq_true rfl)) ?_)
        refine st (mv_ rfl trivial ?_)
        obtain ⟨y45, e46, h1⟩ := bnd h1
        refine st (c_ (cidxL (e := eDIssued) (y := y45) rfl rfl trivial rfl rfl trivial e46) ?_)
        refine st (c_ (v := .agg [.int .i64 y45.serial, .int .i64 y45.to_, .str y45.subject, .bool y45.revoked]) (cp_ ⟨trivial, trivial⟩ rfl (Nat.le_of_ble_eq_true rfl)) ?_)
        refine st (alloc_ ?_)
        refine st (stp_ rfl rfl trivial rfl rfl rfl (Nat.le_of_ble_eq_true rfl) ?_)
        refine oe_ ?_
        refine wk_ ⟨[(1, .ptr 64 0), (3, .int .i64 p28), (4, .ptr 256 0)], [(64, [.str a0.name_, .lst 1 (a0.seed.map eU8), .int .i64 a0.serial, .int .i64 a0.number, .str a0.suffix, .int .i64 a0.most, .lst 4 (a0.list_.map eDIssued)]), (256, [.int .i64 y45.serial, .int .i64 y45.to_, .str y45.subject, .bool y45.revoked])], []⟩ (fgk (by kernel_rfl)) ?_
        refine seq_ ?_
        obtain ⟨r47, e48, h1⟩ := bnd h1
        obtain ⟨y49, e50, h1⟩ := bnd h1
        obtain ⟨r51, e52, h1⟩ := bnd h1
        obtain ⟨r53, e54, h1⟩ := bnd h1
        refine draw_ ?_
        refine dtake trivial (c_ (cp_ ⟨trivial, trivial⟩ rfl trivial) ?_)
        refine ⟨trivial, ?_⟩
        refine dtake trivial (c_ (cp_ ⟨trivial, trivial⟩ rfl (Nat.le_of_ble_eq_true rfl)) ?_)
        refine ⟨trivial, ?_⟩
        refine dtake trivial (c_ (cp_ ⟨trivial, trivial⟩ rfl trivial) ?_)
        refine ⟨trivial, ?_⟩
        refine dtake trivial (c_ (cp_ ⟨trivial, trivial⟩ rfl (Nat.le_of_ble_eq_true rfl)) ?_)
        refine ⟨trivial, ?_⟩
        refine dtake trivial (c_ (cp_ ⟨trivial, trivial, trivial⟩ rfl trivial) ?_)
        refine ⟨trivial, ?_⟩
        refine dalt (call0_ (r := .bool r47) false (H56 y45.serial 1 (IntKind.i64.wrap (a0.serial - 1)) r47 e48) ⟨trivial, trivial, trivial, trivial⟩ rfl rfl (fun _ => rfl) ?_) dstop
        refine dkw ⟨[(1, .ptr 64 0), (3, .int .i64 p28), (4, .ptr 256 0), (68, .bool r47)], [(64, [.str a0.name_, .lst 1 (a0.seed.map eU8), .int .i64 a0.serial, .int .i64 a0.number, .str a0.suffix, .int .i64 a0.most, .lst 4 (a0.list_.map eDIssued)]), (256, [.int .i64 y45.serial, .int .i64 y45.to_, .str y45.subject, .bool y45.revoked])], []⟩ (fgk (by kernel_rfl)) ⟨[], trivial, trivial, ?_⟩
        refine dtake trivial (c_ (cp_ ⟨trivial, trivial⟩ rfl trivial) ?_)
        refine ⟨trivial, ?_⟩
        refine dtake trivial (mv_ rfl trivial ?_)
        refine ⟨trivial, ?_⟩
        refine dtake trivial (pg_ (u := .int .i64 p28) rfl (fun hg => (cmv (v := .int .i64 p28) rfl trivial)) ?_)
        refine ⟨trivial, ?_⟩
        refine dtake trivial (pg_ (u := .bool (decide (p28 > 0))) rfl (fun hg => (cp_ ⟨(fun _ => hg), trivial, trivial⟩ rfl trivial)) ?_)
        refine ⟨trivial, ?_⟩
        refine dtake trivial (pg_ (u := .bool (decide (p28 > 0))) rfl (fun hg => (cmv (v := .may ((!r47) == false) (.bool (decide (p28 > 0)))) rfl (fun _ => hg))) ?_)
        refine ⟨trivial, ?_⟩
        refine dtake trivial (pg_ (u := .ptr 64 6) rfl (fun hg => (cp_ ⟨trivial, trivial⟩ rfl trivial)) ?_)
        refine ⟨trivial, ?_⟩
        refine dtake trivial (pg_ (u := .lst 4 (a0.list_.map eDIssued)) rfl (fun hg => (cp_ ⟨(fun _ => hg), trivial⟩ rfl (Nat.le_of_ble_eq_true rfl))) ?_)
        refine ⟨trivial, ?_⟩
        refine dtake trivial (pg_ (u := .int .i64 p28) rfl (fun hg => (cmv (v := .int .i64 p28) rfl trivial)) ?_)
        refine ⟨trivial, ?_⟩
        refine dtake trivial (pg_ (u := .int .i64 (IntKind.i64.wrap (p28 - 1))) rfl (fun hg => (cp_ ⟨(fun _ => hg), trivial, trivial⟩ rfl trivial)) ?_)
        refine ⟨trivial, ?_⟩
        refine dtake trivial (pg_ (u := .iptr [.int .i64 y49.serial, .int .i64 y49.to_, .str y49.subject, .bool y49.revoked]) rfl (fun hg => (cidxL (e := eDIssued) (y := y49) rfl rfl (fun _ => hg) rfl rfl (fun _ => hg) (ip hg e50))) ?_)
        refine ⟨trivial, ?_⟩
        refine dtake trivial (pg_ (u := .iptr [.int .i64 y49.serial, .int .i64 y49.to_, .str y49.subject, .bool y49.revoked]) rfl (fun hg => (cp_ ⟨(fun _ => hg), trivial⟩ rfl (Nat.le_of_ble_eq_true rfl))) ?_)
        refine ⟨trivial, ?_⟩
        refine dtake trivial (pg_ (u := .int .i64 y49.serial) rfl (fun hg => (cp_ ⟨(fun _ => hg), trivial⟩ rfl (Nat.le_of_ble_eq_true rfl))) ?_)
        refine ⟨trivial, ?_⟩
        refine dtake trivial (pg_ (u := .ptr 256 0) rfl (fun hg => (cp_ ⟨trivial, trivial⟩ rfl trivial)) ?_)
        refine ⟨trivial, ?_⟩
        refine dtake trivial (pg_ (u := .int .i64 y45.serial) rfl (fun hg => (cp_ ⟨(fun _ => hg), trivial⟩ rfl (Nat.le_of_ble_eq_true rfl))) ?_)
        refine ⟨trivial, ?_⟩
        refine dtake trivial (pg_ (u := .bool (decide (y49.serial ≥ y45.serial))) rfl (fun hg => (cp_ ⟨(fun _ => hg), (fun _ => hg), trivial⟩ rfl trivial)) ?_)
        refine ⟨trivial, ?_⟩
        refine dtake trivial (pickg_ (u := .bool (bif (decide (p28 > 0)) then (decide (y49.serial ≥ y45.serial)) else false)) rfl (fun hg => cpick rfl rfl (fun _ => hg) rfl rfl (fun h => and_ hg (eqt h)) trivial rfl) ?_)
        refine ⟨trivial, ?_⟩
        refine dtake trivial (pick_ rfl rfl rfl trivial (fun h => eqf h) rfl ?_)
        refine ⟨trivial, ?_⟩
        refine dtake trivial (mv_ rfl trivial ?_)
        refine ⟨trivial, ?_⟩
        refine dtake trivial (pg_ (u := .ptr 256 1) rfl (fun hg => (cp_ ⟨trivial, trivial⟩ rfl trivial)) ?_)
        refine ⟨trivial, ?_⟩
        refine dtake trivial (pg_ (u := .int .i64 y45.to_) rfl (fun hg => (cp_ ⟨(fun _ => hg), trivial⟩ rfl (Nat.le_of_ble_eq_true rfl))) ?_)
        refine ⟨trivial, ?_⟩
        refine dalt (callg_ (r := .bool r51) rfl false (fun hg => H56 y45.to_ 0 253402300799 r51 (ip hg e52)) ⟨(fun hg => hg), trivial, trivial, trivial⟩ (fun _ => rfl) (fun _ => rfl) (fun _ => rfl) (fun h => nomatch h) ?_) dstop
        refine dkw ⟨[(1, .ptr 64 0), (3, .int .i64 p28), (4, .ptr 256 0), (86, .bool (bif (!r47) then true else (bif (decide (p28 > 0)) then (decide (y49.serial ≥ y45.serial)) else false))), (89, .may ((bif (!r47) then true else (bif (decide (p28 > 0)) then (decide (y49.serial ≥ y45.serial)) else false)) == false) (.bool r51))], [(64, [.str a0.name_, .lst 1 (a0.seed.map eU8), .int .i64 a0.serial, .int .i64 a0.number, .str a0.suffix, .int .i64 a0.most, .lst 4 (a0.list_.map eDIssued)]), (256, [.int .i64 y45.serial, .int .i64 y45.to_, .str y45.subject, .bool y45.revoked])], []⟩ (fgk (by kernel_rfl)) ⟨[], trivial, trivial, ?_⟩
        refine dtake trivial (pg_ (u := .bool (!r51)) rfl (fun hg => (cp_ ⟨(fun _ => hg), trivial⟩ rfl trivial)) ?_)
        refine ⟨trivial, ?_⟩
        refine dtake trivial (pick_ rfl rfl rfl trivial (fun h => eqf h) rfl ?_)
        refine ⟨trivial, ?_⟩
        refine dtake trivial (mv_ rfl trivial ?_)
        refine ⟨trivial, ?_⟩
        refine dtake trivial (pg_ (u := .ptr 256 2) rfl (fun hg => (cp_ ⟨trivial, trivial⟩ rfl trivial)) ?_)
        refine ⟨trivial, ?_⟩
        refine dtake trivial (pg_ (u := .str y45.subject) rfl (fun hg => (cp_ ⟨(fun _ => hg), trivial⟩ rfl (Nat.le_of_ble_eq_true rfl))) ?_)
        refine ⟨trivial, ?_⟩
        refine dalt (callg_ (r := .bool r53) rfl false (fun hg => H278 y45.subject r53 (ip hg e54)) ⟨(fun hg => hg), trivial⟩ (fun _ => rfl) (fun _ => rfl) (fun _ => rfl) (fun h => nomatch h) ?_) dstop
        refine dkw ⟨[(1, .ptr 64 0), (3, .int .i64 p28), (92, .bool (bif (bif (!r47) then true else (bif (decide (p28 > 0)) then (decide (y49.serial ≥ y45.serial)) else false)) then true else (!r51))), (95, .may ((bif (bif (!r47) then true else (bif (decide (p28 > 0)) then (decide (y49.serial ≥ y45.serial)) else false)) then true else (!r51)) == false) (.bool r53))], [(64, [.str a0.name_, .lst 1 (a0.seed.map eU8), .int .i64 a0.serial, .int .i64 a0.number, .str a0.suffix, .int .i64 a0.most, .lst 4 (a0.list_.map eDIssued)])], []⟩ (fgk (by kernel_rfl)) ⟨[], trivial, trivial, ?_⟩
        refine dtake trivial (pg_ (u := .bool (!r53)) rfl (fun hg => (cp_ ⟨(fun _ => hg), trivial⟩ rfl trivial)) ?_)
        refine ⟨trivial, ?_⟩
        refine dtake trivial (pick_ rfl rfl rfl trivial (fun h => eqf h) rfl ?_)
        refine ⟨trivial, ?_⟩
        refine dfin ?_
        obtain ⟨v55, e56, h1⟩ := bl h1
        refine wk_ ⟨[(1, .ptr 64 0), (3, .int .i64 p28), (97, .bool v55)], [(64, [.str a0.name_, .lst 1 (a0.seed.map eU8), .int .i64 a0.serial, .int .i64 a0.number, .str a0.suffix, .int .i64 a0.most, .lst 4 (a0.list_.map eDIssued)])], []⟩ (fgk (by subst e56; kernel_rfl)) ?_
        refine ite_ (cb := v55) rfl (fun c57 => ?_) (fun c57 => ?_)
        · replace h1 := ip c57 h1
          refine seq_ ?_
          refine reg_ ?_
          refine st (mvc_ trivial ?_)
          refine oe_ ?_
          refine wk_ ⟨[(2, .bool false)], [], []⟩ (fgk (by kernel_rfl)) ?_
          obtain rfl := Option.some.inj h1
          obtain rfl := hx1 _ rfl
          obtain rfl := Option.some.inj h0
          exact rt_ (hR1 _ (ret_ rfl rfl rfl rfl rfl trivial))
        · replace h1 := inb c57 h1
          refine sk_ ?_
          refine bn_ ?_
          refine wk_ ⟨[(1, .ptr 64 0), (3, .int .i64 p28)], [(64, [.str a0.name_, .lst 1 (a0.seed.map eU8), .int .i64 a0.serial, .int .i64 a0.number, .str a0.suffix, .int .i64 a0.most, .lst 4 (a0.list_.map eDIssued)])], []⟩ (fgk (by kernel_rfl)) ?_
          refine reg_ ?_
          refine st (mv_ rfl trivial ?_)
          refine st (c_ (cp_ ⟨trivial, trivial, trivial⟩ rfl trivial) ?_)
          refine st (mv_ rfl trivial ?_)
          refine oe_ ?_
          obtain rfl := Option.some.inj h1
          exact hK1 _ rfl _ ⟨[(1, .ptr 64 0), (3, .int .i64 (IntKind.i64.wrap (p28 + 1)))], [(64, [.str a0.name_, .lst 1 (a0.seed.map eU8), .int .i64 a0.serial, .int .i64 a0.number, .str a0.suffix, .int .i64 a0.most, .lst 4 (a0.list_.map eDIssued)])], []⟩ (fgk (by kernel_rfl)) rfl
      · replace h1 := inb c44 h1
        obtain rfl := Option.some.inj h1
        obtain rfl := hx1 _ rfl
        refine exQ rfl ?_
        exact hE1 _ ⟨[], [], []⟩ (fgk (by kernel_rfl)) ⟨rfl, rfl⟩

/- loop.example/g00149/laws.toByteS -/
def c231_r0 : List Ins := [⟨some 2, .nilS 1, none⟩]
def c231_r1 : List Ins := [⟨some 5, .p (.mv (.t 0)), none⟩,
 ⟨some 6, .p (.len (.t 5)), none⟩,
 ⟨some 7, .make 1 1 [(.int .u8 0)] (.t 6) (.t 6), none⟩,
 ⟨some 3, .p (.mv (.t 7)), none⟩]
def c231_r2 : List Ins := [⟨some 4, .p (.mv (.c (.int .i64 0))), none⟩]
def c231_r3 : List Ins := [⟨some 8, .p (.mv (.t 4)), none⟩,
 ⟨some 9, .p (.mv (.t 0)), none⟩,
 ⟨some 10, .p (.len (.t 9)), none⟩,
 ⟨some 11, .p (.bin .lss (.t 8) (.t 10)), none⟩]
def c231_r4 : List Ins := [⟨some 14, .p (.mv (.t 3)), none⟩,
 ⟨some 15, .p (.mv (.t 4)), none⟩,
 ⟨some 16, .p (.mv (.t 0)), none⟩,
 ⟨some 17, .p (.mv (.t 4)), none⟩,
 ⟨some 18, .p (.idxA (.t 16) (.t 17) 1), none⟩,
 ⟨some 19, .p (.load (.t 18) 1 false), none⟩,
 ⟨some 20, .p (.idxA (.t 14) (.t 15) 1), none⟩,
 ⟨none, .store (.t 20) (.t 19) 1, none⟩]
def c231_r5 : List Ins := [⟨some 12, .p (.mv (.t 4)), none⟩,
 ⟨some 13, .p (.bin .add (.t 12) (.c (.int .i64 1))), none⟩,
 ⟨some 4, .p (.mv (.t 13)), none⟩]
def c231_l0 : IR := (.seq (.seq (.reg c231_r3) (.ite (.t 11) .skip (.exit 0))) (.seq (.block 1 (.reg c231_r4)) (.reg c231_r5)))
def c231_r6 : List Ins := [⟨some 21, .p (.mv (.t 3)), none⟩,
 ⟨some 2, .p (.mv (.t 21)), none⟩]
def c231 : XFn := { np := 1, nt := 22, res := [.t 2], body := (.seq (.reg c231_r0) (.seq (.reg c231_r1) (.seq (.seq (.reg c231_r2) (.block 0 (.loop c231_l0))) (.seq (.reg c231_r6) .ret)))) }
def K231 (C : CRel) : Prop := ∀ (a0 : List UInt8) (r : (List UInt8)), g231 a0 = some r → C 231 ⟨[.lst 1 (a0.map eU8)], []⟩ ⟨.own 0 0 1 (r.map eU8), [], []⟩
theorem F231 {C : CRel}  (a0 : List UInt8) (r : (List UInt8)) (h0 : g231 a0 = some r) : FnOK C c231 ⟨[.lst 1 (a0.map eU8)], []⟩ ⟨.own 0 0 1 (r.map eU8), [], []⟩ := by
  refine fn_ (Nat.le_of_ble_eq_true rfl) ?_
  refine seq_ ?_
  refine reg_ ?_
  refine st (nilS_ ?_)
  refine oe_ ?_
  refine wk_ ⟨[(0, .lst 1 (a0.map eU8))], [], []⟩ (fgk (by kernel_rfl)) ?_
  refine seq_ ?_
  refine reg_ ?_
  refine st (mv_ rfl trivial ?_)
  refine st (c_ (clenL (e := eU8) (l0 := a0) rfl rfl trivial) ?_)
  obtain ⟨c1, h0⟩ := grd h0
  obtain ⟨c2, h0⟩ := grd h0
  refine st (make_ (e := eU8) (0 : UInt8) rfl rfl c1 rfl c2 rfl ?_)
  refine st (mv_ rfl trivial ?_)
  refine oe_ ?_
  refine wk_ ⟨[(0, .lst 1 (a0.map eU8)), (3, .own 448 0 1 ((List.replicate (a0.length : Int).toNat (0 : UInt8)).map eU8))], [], []⟩ (fgk (by kernel_rfl)) ?_
  refine seq_ ?_
  refine seq_ ?_
  refine reg_ ?_
  refine st (mvc_ trivial ?_)
  refine oe_ ?_
  refine wk_ ⟨[(0, .lst 1 (a0.map eU8)), (3, .own 448 0 1 ((List.replicate (a0.length : Int).toNat (0 : UInt8)).map eU8)), (4, .int .i64 0)], [], []⟩ (fgk (by kernel_rfl)) ?_
  refine block_ ?_
  obtain ⟨r29, e30, h0⟩ := bnd h0
  refine loop_ (R := (fun S => ∃ p21 : List UInt8, p21 = r29 ∧ S = ⟨[(3, .own 448 0 1 (p21.map eU8))], [], []⟩)) (g231_l0 a0) (fun s S => match s with | (p10, p11) => S = ⟨[(0, .lst 1 (a0.map eU8)), (3, .own 448 0 1 (p10.map eU8)), (4, .int .i64 p11)], [], []⟩) e30 ⟨[(0, .lst 1 (a0.map eU8)), (3, .own 448 0 1 ((List.replicate (a0.length : Int).toNat (0 : UInt8)).map eU8)), (4, .int .i64 0)], [], []⟩ (fgk (by kernel_rfl)) rfl 0 (fun _ => rfl) ?_ ?_
  · rintro S _ hfg ⟨p21, rfl, rfl⟩
    refine wk_ ⟨[(3, .own 448 0 1 (p21.map eU8))], [], []⟩ (fglk hfg (by kernel_rfl)) ?_
    refine seq_ ?_
    refine reg_ ?_
    refine st (mv_ rfl trivial ?_)
    refine st (mv_ rfl trivial ?_)
    refine oe_ ?_
    refine wk_ ⟨[(2, .own 448 0 1 (p21.map eU8))], [], []⟩ (fgk (by kernel_rfl)) ?_
    obtain rfl := Option.some.inj h0
    exact rt_ (ret_ rfl rfl rfl rfl rfl trivial)
  · rintro ⟨p10, p11⟩ o1 _ K1 rfl h1 hx1 hK1 hE1 hR1
    refine seq_ ?_
    refine seq_ ?_
    refine reg_ ?_
    refine st (mv_ rfl trivial ?_)
    refine st (mv_ rfl trivial ?_)
    refine st (c_ (clenL (e := eU8) (l0 := a0) rfl rfl trivial) ?_)
    refine st (c_ (cp_ ⟨trivial, trivial, trivial⟩ rfl trivial) ?_)
    refine oe_ ?_
    refine wk_ ⟨[(0, .lst 1 (a0.map eU8)), (3, .own 448 0 1 (p10.map eU8)), (4, .int .i64 p11), (11, .bool (decide (p11 < (a0.length : Int))))], [], []⟩ (fgk (by kernel_rfl)) ?_
    refine ite_ (cb := (decide (p11 < (a0.length : Int)))) rfl (fun c22 => ?_) (fun c22 => ?_)
    · replace h1 := ip c22 h1
      refine sk_ ?_
      refine wk_ ⟨[(0, .lst 1 (a0.map eU8)), (3, .own 448 0 1 (p10.map eU8)), (4, .int .i64 p11)], [], []⟩ (fgk (by kernel_rfl)) ?_
      refine seq_ ?_
      refine block_ ?_
      refine reg_ ?_
      refine st (mv_ rfl trivial ?_)
      refine st (mv_ rfl trivial ?_)
      refine st (mv_ rfl trivial ?_)
      refine st (mv_ rfl trivial ?_)
      obtain ⟨y23, e24, h1⟩ := bnd h1
      refine st (c_ (cidxL (e := eU8) (y := y23) rfl rfl trivial rfl rfl trivial e24) ?_)
      refine st (c_ (cp_ ⟨trivial, trivial⟩ rfl (Nat.le_of_ble_eq_true rfl)) ?_)
      obtain ⟨y25, e26, h1⟩ := bnd h1
      refine st (c_ (cidxO (e := eU8) (y := y25) rfl rfl trivial rfl rfl trivial e26) ?_)
      obtain ⟨y27, e28, h1⟩ := bnd h1
      refine st (sto_ (y' := y23) rfl rfl trivial rfl rfl rfl rfl e28 (Nat.le_of_ble_eq_true rfl) rfl rfl rfl rfl ?_)
      refine oe_ ?_
      refine bn_ ?_
      refine wk_ ⟨[(0, .lst 1 (a0.map eU8)), (3, .own 448 0 1 ((p10.set p11.toNat y23).map eU8)), (4, .int .i64 p11)], [], []⟩ (fg ⟨rfl, (congrArg (fun z => some ((.own 448 0 1 z : V))) overlay_map), rfl, trivial⟩ trivial) ?_
      refine reg_ ?_
      refine st (mv_ rfl trivial ?_)
      refine st (c_ (cp_ ⟨trivial, trivial, trivial⟩ rfl trivial) ?_)
      refine st (mv_ rfl trivial ?_)
      refine oe_ ?_
      obtain rfl := Option.some.inj h1
      exact hK1 _ rfl _ ⟨[(0, .lst 1 (a0.map eU8)), (3, .own 448 0 1 ((p10.set p11.toNat y23).map eU8)), (4, .int .i64 (IntKind.i64.wrap (p11 + 1)))], [], []⟩ (fgk (by kernel_rfl)) rfl
    · replace h1 := inb c22 h1
      obtain rfl := Option.some.inj h1
      obtain rfl := hx1 _ rfl
      refine exQ rfl ?_
      exact hE1 _ ⟨[(3, .own 448 0 1 (p10.map eU8))], [], []⟩ (fgk (by kernel_rfl)) ⟨_, rfl, rfl⟩

/- loop.example/g00149/laws.toIssued -/
def c336_r0 : List Ins := [⟨some 1, .box (.t 0), none⟩,
 ⟨some 2, .alloc [(.int .i64 0), (.int .i64 0), (.str []), (.bool false)], none⟩]
def c336_r1 : List Ins := [⟨some 3, .alloc [(.int .i64 0), (.int .i64 0), (.str []), (.bool false)], none⟩]
def c336_r2 : List Ins := [⟨some 4, .p (.fieldA (.t 1) 0), none⟩,
 ⟨some 5, .p (.load (.t 4) 1 false), none⟩,
 ⟨some 6, .p (.fieldA (.t 3) 0), none⟩,
 ⟨none, .store (.t 6) (.t 5) 1, none⟩]
def c336_r3 : List Ins := [⟨some 7, .p (.fieldA (.t 1) 1), none⟩,
 ⟨some 8, .p (.load (.t 7) 1 false), none⟩,
 ⟨some 9, .p (.fieldA (.t 3) 1), none⟩,
 ⟨none, .store (.t 9) (.t 8) 1, none⟩]
def c336_r4 : List Ins := [⟨some 10, .p (.fieldA (.t 1) 2), none⟩,
 ⟨some 11, .p (.load (.t 10) 1 false), none⟩,
 ⟨some 12, .p (.fieldA (.t 3) 2), none⟩,
 ⟨none, .store (.t 12) (.t 11) 1, none⟩]
def c336_r5 : List Ins := [⟨some 13, .p (.fieldA (.t 1) 3), none⟩,
 ⟨some 14, .p (.load (.t 13) 1 false), none⟩,
 ⟨some 15, .p (.fieldA (.t 3) 3), none⟩,
 ⟨none, .store (.t 15) (.t 14) 1, none⟩]
def c336_r6 : List Ins := [⟨some 16, .p (.load (.t 3) 4 true), none⟩,
 ⟨none, .store (.t 2) (.t 16) 4, none⟩]
def c336 : XFn := { np := 1, nt := 17, res := [.cell 2 4 true], body := (.seq (.reg c336_r0) (.seq (.reg c336_r1) (.seq (.reg c336_r2) (.seq (.reg c336_r3) (.seq (.reg c336_r4) (.seq (.reg c336_r5) (.seq (.reg c336_r6) .ret))))))) }
def K336 (C : CRel) : Prop := ∀ (a0 : DIssued) (r : DIssued), g336 a0 = some r → C 336 ⟨[.agg [.int .i64 a0.serial, .int .i64 a0.to_, .str a0.subject, .bool a0.revoked]], []⟩ ⟨.agg [.int .i64 r.serial, .int .i64 r.to_, .str r.subject, .bool r.revoked], [], []⟩
theorem F336 {C : CRel}  (a0 : DIssued) (r : DIssued) (h0 : g336 a0 = some r) : FnOK C c336 ⟨[.agg [.int .i64 a0.serial, .int .i64 a0.to_, .str a0.subject, .bool a0.revoked]], []⟩ ⟨.agg [.int .i64 r.serial, .int .i64 r.to_, .str r.subject, .bool r.revoked], [], []⟩ := by
  refine fn_ (Nat.le_of_ble_eq_true rfl) ?_
  refine seq_ ?_
  refine reg_ ?_
  refine st (box_ rfl trivial rfl ?_)
  refine st (alloc_ ?_)
  refine oe_ ?_
  refine wk_ ⟨[(1, .ptr 64 0), (2, .ptr 128 0)], [(64, [.int .i64 a0.serial, .int .i64 a0.to_, .str a0.subject, .bool a0.revoked]), (128, [.int .i64 0, .int .i64 0, .str ([] : List UInt8), .bool false])], []⟩ (fgk (by kernel_rfl)) ?_
  refine seq_ ?_
  refine reg_ ?_
  refine st (alloc_ ?_)
  refine oe_ ?_
  refine wk_ ⟨[(1, .ptr 64 0), (2, .ptr 128 0), (3, .ptr 192 0)], [(64, [.int .i64 a0.serial, .int .i64 a0.to_, .str a0.subject, .bool a0.revoked]), (128, [.int .i64 0, .int .i64 0, .str ([] : List UInt8), .bool false]), (192, [.int .i64 0, .int .i64 0, .str ([] : List UInt8), .bool false])], []⟩ (fgk (by kernel_rfl)) ?_
  refine seq_ ?_
  refine reg_ ?_
  refine st (c_ (cp_ ⟨trivial, trivial⟩ rfl trivial) ?_)
  refine st (c_ (cp_ ⟨trivial, trivial⟩ rfl (Nat.le_of_ble_eq_true rfl)) ?_)
  refine st (c_ (cp_ ⟨trivial, trivial⟩ rfl trivial) ?_)
  refine st (stp_ rfl rfl trivial rfl rfl rfl (Nat.le_of_ble_eq_true rfl) ?_)
  refine oe_ ?_
  refine wk_ ⟨[(1, .ptr 64 0), (2, .ptr 128 0), (3, .ptr 192 0)], [(64, [.int .i64 a0.serial, .int .i64 a0.to_, .str a0.subject, .bool a0.revoked]), (128, [.int .i64 0, .int .i64 0, .str ([] : List UInt8), .bool false]), (192, [.int .i64 a0.serial, .int .i64 0, .str ([] : List UInt8), .bool false])], []⟩ (fgk (by kernel_rfl)) ?_
  refine seq_ ?_
  refine reg_ ?_
  refine st (c_ (cp_ ⟨trivial, trivial⟩ rfl trivial) ?_)
  refine st (c_ (cp_ ⟨trivial, trivial⟩ rfl (Nat.le_of_ble_eq_true rfl)) ?_)
  refine st (c_ (cp_ ⟨trivial, trivial⟩ rfl trivial) ?_)
  refine st (stp_ rfl rfl trivial rfl rfl rfl (Nat.le_of_ble_eq_true rfl) ?_)
  refine oe_ ?_
  refine wk_ ⟨[(1, .ptr 64 0), (2, .ptr 128 0), (3, .ptr 192 0)], [(64, [.int .i64 a0.serial, .int .i64 a0.to_, .str a0.subject, .bool a0.revoked]), (128, [.int .i64 0, .int .i64 0, .str ([] : List UInt8), .bool false]), (192, [.int .i64 a0.serial, .int .i64 a0.to_, .str ([] : List UInt8), .bool false])], []⟩ (fgk (by kernel_rfl)) ?_
  refine seq_ ?_
  refine reg_ ?_
  refine st (c_ (cp_ ⟨trivial, trivial⟩ rfl trivial) ?_)
  refine st (c_ (cp_ ⟨trivial, trivial⟩ rfl (Nat.le_of_ble_eq_true rfl)) ?_)
  refine st (c_ (cp_ ⟨trivial, trivial⟩ rfl trivial) ?_)
  refine st (stp_ rfl rfl trivial rfl rfl rfl (Nat.le_of_ble_eq_true rfl) ?_)
  refine oe_ ?_
  refine wk_ ⟨[(1, .ptr 64 0), (2, .ptr 128 0), (3, .ptr 192 0)], [(64, [.int .i64 a0.serial, .int .i64 a0.to_, .str a0.subject, .bool a0.revoked]), (128, [.int .i64 0, .int .i64 0, .str ([] : List UInt8), .bool false]), (192, [.int .i64 a0.serial, .int .i64 a0.to_, .str a0.subject, .bool false])], []⟩ (fgk (by kernel_rfl)) ?_
  refine seq_ ?_
  refine reg_ ?_
  refine st (c_ (cp_ ⟨trivial, trivial⟩ rfl trivial) ?_)
  refine st (c_ (cp_ ⟨trivial, trivial⟩ rfl (Nat.le_of_ble_eq_true rfl)) ?_)
  refine st (c_ (cp_ ⟨trivial, trivial⟩ rfl trivial) ?_)
  refine st (stp_ rfl rfl trivial rfl rfl rfl (Nat.le_of_ble_eq_true rfl) ?_)
  refine oe_ ?_
  refine wk_ ⟨[(2, .ptr 128 0), (3, .ptr 192 0)], [(128, [.int .i64 0, .int .i64 0, .str ([] : List UInt8), .bool false]), (192, [.int .i64 a0.serial, .int .i64 a0.to_, .str a0.subject, .bool a0.revoked])], []⟩ (fgk (by kernel_rfl)) ?_
  refine seq_ ?_
  refine reg_ ?_
  refine st (c_ (v := .agg [.int .i64 a0.serial, .int .i64 a0.to_, .str a0.subject, .bool a0.revoked]) (cp_ ⟨trivial, trivial⟩ rfl (Nat.le_of_ble_eq_true rfl)) ?_)
  refine st (stp_ rfl rfl trivial rfl rfl rfl (Nat.le_of_ble_eq_true rfl) ?_)
  refine oe_ ?_
  refine wk_ ⟨[(2, .ptr 128 0)], [(128, [.int .i64 a0.serial, .int .i64 a0.to_, .str a0.subject, .bool a0.revoked])], []⟩ (fgk (by kernel_rfl)) ?_
  obtain rfl := Option.some.inj h0
  exact rt_ (ret_ rfl rfl rfl rfl rfl trivial)

/- loop.example/g00149/laws.toIssuedS -/
def c280_r0 : List Ins := [⟨some 2, .nilS 4, none⟩]
def c280_r1 : List Ins := [⟨some 5, .p (.mv (.t 0)), none⟩,
 ⟨some 6, .p (.len (.t 5)), none⟩,
 ⟨some 7, .make 4 40 [(.int .i64 0), (.int .i64 0), (.str []), (.bool false)] (.t 6) (.t 6), none⟩,
 ⟨some 3, .p (.mv (.t 7)), none⟩]
def c280_r2 : List Ins := [⟨some 4, .p (.mv (.c (.int .i64 0))), none⟩]
def c280_r3 : List Ins := [⟨some 8, .p (.mv (.t 4)), none⟩,
 ⟨some 9, .p (.mv (.t 0)), none⟩,
 ⟨some 10, .p (.len (.t 9)), none⟩,
 ⟨some 11, .p (.bin .lss (.t 8) (.t 10)), none⟩]
def c280_r4 : List Ins := [⟨some 14, .p (.mv (.t 3)), none⟩,
 ⟨some 15, .p (.mv (.t 4)), none⟩,
 ⟨some 16, .p (.mv (.t 0)), none⟩,
 ⟨some 17, .p (.mv (.t 4)), none⟩,
 ⟨some 18, .p (.idxA (.t 16) (.t 17) 4), none⟩,
 ⟨some 19, .p (.load (.t 18) 4 true), none⟩,
 ⟨some 20, .call 336 [(.t 19)], none⟩,
 ⟨some 21, .p (.idxA (.t 14) (.t 15) 4), none⟩,
 ⟨none, .store (.t 21) (.t 20) 4, none⟩]
def c280_r5 : List Ins := [⟨some 12, .p (.mv (.t 4)), none⟩,
 ⟨some 13, .p (.bin .add (.t 12) (.c (.int .i64 1))), none⟩,
 ⟨some 4, .p (.mv (.t 13)), none⟩]
def c280_l0 : IR := (.seq (.seq (.reg c280_r3) (.ite (.t 11) .skip (.exit 0))) (.seq (.block 1 (.reg c280_r4)) (.reg c280_r5)))
def c280_r6 : List Ins := [⟨some 22, .p (.mv (.t 3)), none⟩,
 ⟨some 2, .p (.mv (.t 22)), none⟩]
def c280 : XFn := { np := 1, nt := 23, res := [.t 2], body := (.seq (.reg c280_r0) (.seq (.reg c280_r1) (.seq (.seq (.reg c280_r2) (.block 0 (.loop c280_l0))) (.seq (.reg c280_r6) .ret)))) }
def K280 (C : CRel) : Prop := ∀ (a0 : List DIssued) (r : (List DIssued)), g280 a0 = some r → C 280 ⟨[.lst 4 (a0.map eDIssued)], []⟩ ⟨.own 0 0 4 (r.map eDIssued), [], []⟩
theorem F280 {C : CRel} (H336 : K336 C) (a0 : List DIssued) (r : (List DIssued)) (h0 : g280 a0 = some r) : FnOK C c280 ⟨[.lst 4 (a0.map eDIssued)], []⟩ ⟨.own 0 0 4 (r.map eDIssued), [], []⟩ := by
  refine fn_ (Nat.le_of_ble_eq_true rfl) ?_
  refine seq_ ?_
  refine reg_ ?_
  refine st (nilS_ ?_)
  refine oe_ ?_
  refine wk_ ⟨[(0, .lst 4 (a0.map eDIssued))], [], []⟩ (fgk (by kernel_rfl)) ?_
  refine seq_ ?_
  refine reg_ ?_
  refine st (mv_ rfl trivial ?_)
  refine st (c_ (clenL (e := eDIssued) (l0 := a0) rfl rfl trivial) ?_)
  obtain ⟨c1, h0⟩ := grd h0
  obtain ⟨c2, h0⟩ := grd h0
  refine st (make_ (e := eDIssued) (DIssued.mk 0 0 ([] : List UInt8) false) rfl rfl c1 rfl c2 rfl ?_)
  refine st (mv_ rfl trivial ?_)
  refine oe_ ?_
  obtain ⟨v3, e4, h0⟩ := bl h0
  refine wk_ ⟨[(0, .lst 4 (a0.map eDIssued)), (3, .own 448 0 4 (v3.map eDIssued))], [], []⟩ (fgk (by subst e4; kernel_rfl)) ?_
  refine seq_ ?_
  refine seq_ ?_
  refine reg_ ?_
  refine st (mvc_ trivial ?_)
  refine oe_ ?_
  refine wk_ ⟨[(0, .lst 4 (a0.map eDIssued)), (3, .own 448 0 4 (v3.map eDIssued)), (4, .int .i64 0)], [], []⟩ (fgk (by kernel_rfl)) ?_
  refine block_ ?_
  obtain ⟨r37, e38, h0⟩ := bnd h0
  refine loop_ (R := (fun S => ∃ p27 : List DIssued, p27 = r37 ∧ S = ⟨[(3, .own 448 0 4 (p27.map eDIssued))], [], []⟩)) (g280_l0 a0) (fun s S => match s with | (p14, p15) => S = ⟨[(0, .lst 4 (a0.map eDIssued)), (3, .own 448 0 4 (p14.map eDIssued)), (4, .int .i64 p15)], [], []⟩) e38 ⟨[(0, .lst 4 (a0.map eDIssued)), (3, .own 448 0 4 (v3.map eDIssued)), (4, .int .i64 0)], [], []⟩ (fgk (by kernel_rfl)) rfl 0 (fun _ => rfl) ?_ ?_
  · rintro S _ hfg ⟨p27, rfl, rfl⟩
    refine wk_ ⟨[(3, .own 448 0 4 (p27.map eDIssued))], [], []⟩ (fglk hfg (by kernel_rfl)) ?_
    refine seq_ ?_
    refine reg_ ?_
    refine st (mv_ rfl trivial ?_)
    refine st (mv_ rfl trivial ?_)
    refine oe_ ?_
    refine wk_ ⟨[(2, .own 448 0 4 (p27.map eDIssued))], [], []⟩ (fgk (by kernel_rfl)) ?_
    obtain rfl := Option.some.inj h0
    exact rt_ (ret_ rfl rfl rfl rfl rfl trivial)
  · rintro ⟨p14, p15⟩ o1 _ K1 rfl h1 hx1 hK1 hE1 hR1
    refine seq_ ?_
    refine seq_ ?_
    refine reg_ ?_
    refine st (mv_ rfl trivial ?_)
    refine st (mv_ rfl trivial ?_)
    refine st (c_ (clenL (e := eDIssued) (l0 := a0) rfl rfl trivial) ?_)
    refine st (c_ (cp_ ⟨trivial, trivial, trivial⟩ rfl trivial) ?_)
    refine oe_ ?_
    refine wk_ ⟨[(0, .lst 4 (a0.map eDIssued)), (3, .own 448 0 4 (p14.map eDIssued)), (4, .int .i64 p15), (11, .bool (decide (p15 < (a0.length : Int))))], [], []⟩ (fgk (by kernel_rfl)) ?_
    refine ite_ (cb := (decide (p15 < (a0.length : Int)))) rfl (fun c28 => ?_) (fun c28 => ?_)
    · replace h1 := ip c28 h1
      refine sk_ ?_
      refine wk_ ⟨[(0, .lst 4 (a0.map eDIssued)), (3, .own 448 0 4 (p14.map eDIssued)), (4, .int .i64 p15)], [], []⟩ (fgk (by kernel_rfl)) ?_
      refine seq_ ?_
      refine block_ ?_
      refine reg_ ?_
      refine st (mv_ rfl trivial ?_)
      refine st (mv_ rfl trivial ?_)
      refine st (mv_ rfl trivial ?_)
      refine st (mv_ rfl trivial ?_)
      obtain ⟨y29, e30, h1⟩ := bnd h1
      refine st (c_ (cidxL (e := eDIssued) (y := y29) rfl rfl trivial rfl rfl trivial e30) ?_)
      refine st (c_ (v := .agg [.int .i64 y29.serial, .int .i64 y29.to_, .str y29.subject, .bool y29.revoked]) (cp_ ⟨trivial, trivial⟩ rfl (Nat.le_of_ble_eq_true rfl)) ?_)
      obtain ⟨r31, e32, h1⟩ := bnd h1
      refine st (call0_ (r := .agg [.int .i64 r31.serial, .int .i64 r31.to_, .str r31.subject, .bool r31.revoked]) false (H336 y29 r31 e32) ⟨trivial, trivial⟩ rfl rfl (fun _ => rfl) ?_)
      obtain ⟨y33, e34, h1⟩ := bnd h1
      refine st (c_ (cidxO (e := eDIssued) (y := y33) rfl rfl trivial rfl rfl trivial e34) ?_)
      obtain ⟨y35, e36, h1⟩ := bnd h1
      refine st (sto_ (y' := r31) rfl rfl trivial rfl rfl rfl rfl e36 (Nat.le_of_ble_eq_true rfl) rfl rfl rfl rfl ?_)
      refine oe_ ?_
      refine bn_ ?_
      refine wk_ ⟨[(0, .lst 4 (a0.map eDIssued)), (3, .own 448 0 4 ((p14.set p15.toNat r31).map eDIssued)), (4, .int .i64 p15)], [], []⟩ (fg ⟨rfl, (congrArg (fun z => some ((.own 448 0 4 z : V))) overlay_map), rfl, trivial⟩ trivial) ?_
      refine reg_ ?_
      refine st (mv_ rfl trivial ?_)
      refine st (c_ (cp_ ⟨trivial, trivial, trivial⟩ rfl trivial) ?_)
      refine st (mv_ rfl trivial ?_)
      refine oe_ ?_
      obtain rfl := Option.some.inj h1
      exact hK1 _ rfl _ ⟨[(0, .lst 4 (a0.map eDIssued)), (3, .own 448 0 4 ((p14.set p15.toNat r31).map eDIssued)), (4, .int .i64 (IntKind.i64.wrap (p15 + 1)))], [], []⟩ (fgk (by kernel_rfl)) rfl
    · replace h1 := inb c28 h1
      obtain rfl := Option.some.inj h1
      obtain rfl := hx1 _ rfl
      refine exQ rfl ?_
      exact hE1 _ ⟨[(3, .own 448 0 4 (p14.map eDIssued))], [], []⟩ (fgk (by kernel_rfl)) ⟨_, rfl, rfl⟩

/- loop.example/g00149/laws.toAuthority -/
def c225_r0 : List Ins := [⟨some 1, .box (.t 0), none⟩,
 ⟨some 2, .alloc [(.str []), (.own 130 0 1 []), (.int .i64 0), (.int .i64 0), (.str []), (.int .i64 0), (.own 135 0 4 [])], none⟩]
def c225_r1 : List Ins := [⟨some 3, .alloc [(.str []), (.own 194 0 1 []), (.int .i64 0), (.int .i64 0), (.str []), (.int .i64 0), (.own 199 0 4 [])], none⟩]
def c225_r2 : List Ins := [⟨some 4, .p (.fieldA (.t 1) 0), none⟩,
 ⟨some 5, .p (.load (.t 4) 1 false), none⟩,
 ⟨some 6, .p (.fieldA (.t 3) 0), none⟩,
 ⟨none, .store (.t 6) (.t 5) 1, none⟩]
def c225_r3 : List Ins := [⟨some 7, .p (.fieldA (.t 1) 1), none⟩,
 ⟨some 8, .p (.load (.t 7) 1 false), none⟩,
 ⟨some 9, .call 231 [(.t 8)], none⟩,
 ⟨some 10, .p (.fieldA (.t 3) 1), none⟩,
 ⟨none, .store (.t 10) (.t 9) 1, none⟩]
def c225_r4 : List Ins := [⟨some 11, .p (.fieldA (.t 1) 2), none⟩,
 ⟨some 12, .p (.load (.t 11) 1 false), none⟩,
 ⟨some 13, .p (.fieldA (.t 3) 2), none⟩,
 ⟨none, .store (.t 13) (.t 12) 1, none⟩]
def c225_r5 : List Ins := [⟨some 14, .p (.fieldA (.t 1) 3), none⟩,
 ⟨some 15, .p (.load (.t 14) 1 false), none⟩,
 ⟨some 16, .p (.fieldA (.t 3) 3), none⟩,
 ⟨none, .store (.t 16) (.t 15) 1, none⟩]
def c225_r6 : List Ins := [⟨some 17, .p (.fieldA (.t 1) 4), none⟩,
 ⟨some 18, .p (.load (.t 17) 1 false), none⟩,
 ⟨some 19, .p (.fieldA (.t 3) 4), none⟩,
 ⟨none, .store (.t 19) (.t 18) 1, none⟩]
def c225_r7 : List Ins := [⟨some 20, .p (.fieldA (.t 1) 5), none⟩,
 ⟨some 21, .p (.load (.t 20) 1 false), none⟩,
 ⟨some 22, .p (.fieldA (.t 3) 5), none⟩,
 ⟨none, .store (.t 22) (.t 21) 1, none⟩]
def c225_r8 : List Ins := [⟨some 23, .p (.fieldA (.t 1) 6), none⟩,
 ⟨some 24, .p (.load (.t 23) 1 false), none⟩,
 ⟨some 25, .call 280 [(.t 24)], none⟩,
 ⟨some 26, .p (.fieldA (.t 3) 6), none⟩,
 ⟨none, .store (.t 26) (.t 25) 1, none⟩]
def c225_r9 : List Ins := [⟨some 27, .p (.load (.t 3) 7 true), none⟩,
 ⟨none, .store (.t 2) (.t 27) 7, none⟩]
def c225 : XFn := { np := 1, nt := 28, res := [.cell 2 7 true], body := (.seq (.reg c225_r0) (.seq (.reg c225_r1) (.seq (.reg c225_r2) (.seq (.reg c225_r3) (.seq (.reg c225_r4) (.seq (.reg c225_r5) (.seq (.reg c225_r6) (.seq (.reg c225_r7) (.seq (.reg c225_r8) (.seq (.reg c225_r9) .ret)))))))))) }
def K225 (C : CRel) : Prop := ∀ (a0 : DAuthority) (r : DAuthority), g225 a0 = some r → C 225 ⟨[.agg [.str a0.name_, .lst 1 (a0.seed.map eU8), .int .i64 a0.serial, .int .i64 a0.number, .str a0.suffix, .int .i64 a0.most, .lst 4 (a0.list_.map eDIssued)]], []⟩ ⟨.agg [.str r.name_, .own 0 0 1 (r.seed.map eU8), .int .i64 r.serial, .int .i64 r.number, .str r.suffix, .int .i64 r.most, .own 1 0 4 (r.list_.map eDIssued)], [], []⟩
theorem F225 {C : CRel} (H231 : K231 C) (H280 : K280 C) (a0 : DAuthority) (r : DAuthority) (h0 : g225 a0 = some r) : FnOK C c225 ⟨[.agg [.str a0.name_, .lst 1 (a0.seed.map eU8), .int .i64 a0.serial, .int .i64 a0.number, .str a0.suffix, .int .i64 a0.most, .lst 4 (a0.list_.map eDIssued)]], []⟩ ⟨.agg [.str r.name_, .own 0 0 1 (r.seed.map eU8), .int .i64 r.serial, .int .i64 r.number, .str r.suffix, .int .i64 r.most, .own 1 0 4 (r.list_.map eDIssued)], [], []⟩ := by
  refine fn_ (Nat.le_of_ble_eq_true rfl) ?_
  refine seq_ ?_
  refine reg_ ?_
  refine st (box_ rfl trivial rfl ?_)
  refine st (alloc_ ?_)
  refine oe_ ?_
  refine wk_ ⟨[(1, .ptr 64 0), (2, .ptr 128 0)], [(64, [.str a0.name_, .lst 1 (a0.seed.map eU8), .int .i64 a0.serial, .int .i64 a0.number, .str a0.suffix, .int .i64 a0.most, .lst 4 (a0.list_.map eDIssued)]), (128, [.str ([] : List UInt8), .own 130 0 1 (([] : List UInt8).map eU8), .int .i64 0, .int .i64 0, .str ([] : List UInt8), .int .i64 0, .own 135 0 4 (([] : List DIssued).map eDIssued)])], []⟩ (fgk (by kernel_rfl)) ?_
  refine seq_ ?_
  refine reg_ ?_
  refine st (alloc_ ?_)
  refine oe_ ?_
  refine wk_ ⟨[(1, .ptr 64 0), (2, .ptr 128 0), (3, .ptr 192 0)], [(64, [.str a0.name_, .lst 1 (a0.seed.map eU8), .int .i64 a0.serial, .int .i64 a0.number, .str a0.suffix, .int .i64 a0.most, .lst 4 (a0.list_.map eDIssued)]), (128, [.str ([] : List UInt8), .own 130 0 1 (([] : List UInt8).map eU8), .int .i64 0, .int .i64 0, .str ([] : List UInt8), .int .i64 0, .own 135 0 4 (([] : List DIssued).map eDIssued)]), (192, [.str ([] : List UInt8), .own 194 0 1 (([] : List UInt8).map eU8), .int .i64 0, .int .i64 0, .str ([] : List UInt8), .int .i64 0, .own 199 0 4 (([] : List DIssued).map eDIssued)])], []⟩ (fgk (by kernel_rfl)) ?_
  refine seq_ ?_
  refine reg_ ?_
  refine st (c_ (cp_ ⟨trivial, trivial⟩ rfl trivial) ?_)
  refine st (c_ (cp_ ⟨trivial, trivial⟩ rfl (Nat.le_of_ble_eq_true rfl)) ?_)
  refine st (c_ (cp_ ⟨trivial, trivial⟩ rfl trivial) ?_)
  refine st (stp_ rfl rfl trivial rfl rfl rfl (Nat.le_of_ble_eq_true rfl) ?_)
  refine oe_ ?_
  refine wk_ ⟨[(1, .ptr 64 0), (2, .ptr 128 0), (3, .ptr 192 0)], [(64, [.str a0.name_, .lst 1 (a0.seed.map eU8), .int .i64 a0.serial, .int .i64 a0.number, .str a0.suffix, .int .i64 a0.most, .lst 4 (a0.list_.map eDIssued)]), (128, [.str ([] : List UInt8), .own 130 0 1 (([] : List UInt8).map eU8), .int .i64 0, .int .i64 0, .str ([] : List UInt8), .int .i64 0, .own 135 0 4 (([] : List DIssued).map eDIssued)]), (192, [.str a0.name_, .own 194 0 1 (([] : List UInt8).map eU8), .int .i64 0, .int .i64 0, .str ([] : List UInt8), .int .i64 0, .own 199 0 4 (([] : List DIssued).map eDIssued)])], []⟩ (fgk (by kernel_rfl)) ?_
  refine seq_ ?_
  refine reg_ ?_
  refine st (c_ (cp_ ⟨trivial, trivial⟩ rfl trivial) ?_)
  refine st (c_ (cp_ ⟨trivial, trivial⟩ rfl (Nat.le_of_ble_eq_true rfl)) ?_)
  obtain ⟨r1, e2, h0⟩ := bnd h0
  refine st (call0_ (r := .own 0 0 1 (r1.map eU8)) false (H231 a0.seed r1 e2) ⟨trivial, trivial⟩ rfl rfl (fun _ => (and_ (fl1 (fun _ => rfl)) rfl)) ?_)
  refine st (c_ (cp_ ⟨trivial, trivial⟩ rfl trivial) ?_)
  refine st (stp_ rfl rfl trivial rfl rfl rfl (Nat.le_of_ble_eq_true rfl) ?_)
  refine oe_ ?_
  refine wk_ ⟨[(1, .ptr 64 0), (2, .ptr 128 0), (3, .ptr 192 0)], [(64, [.str a0.name_, .lst 1 (a0.seed.map eU8), .int .i64 a0.serial, .int .i64 a0.number, .str a0.suffix, .int .i64 a0.most, .lst 4 (a0.list_.map eDIssued)]), (128, [.str ([] : List UInt8), .own 130 0 1 (([] : List UInt8).map eU8), .int .i64 0, .int .i64 0, .str ([] : List UInt8), .int .i64 0, .own 135 0 4 (([] : List DIssued).map eDIssued)]), (192, [.str a0.name_, .own 576 0 1 (r1.map eU8), .int .i64 0, .int .i64 0, .str ([] : List UInt8), .int .i64 0, .own 199 0 4 (([] : List DIssued).map eDIssued)])], []⟩ (fgk (by kernel_rfl)) ?_
  refine seq_ ?_
  refine reg_ ?_
  refine st (c_ (cp_ ⟨trivial, trivial⟩ rfl trivial) ?_)
  refine st (c_ (cp_ ⟨trivial, trivial⟩ rfl (Nat.le_of_ble_eq_true rfl)) ?_)
  refine st (c_ (cp_ ⟨trivial, trivial⟩ rfl trivial) ?_)
  refine st (stp_ rfl rfl trivial rfl rfl rfl (Nat.le_of_ble_eq_true rfl) ?_)
  refine oe_ ?_
  refine wk_ ⟨[(1, .ptr 64 0), (2, .ptr 128 0), (3, .ptr 192 0)], [(64, [.str a0.name_, .lst 1 (a0.seed.map eU8), .int .i64 a0.serial, .int .i64 a0.number, .str a0.suffix, .int .i64 a0.most, .lst 4 (a0.list_.map eDIssued)]), (128, [.str ([] : List UInt8), .own 130 0 1 (([] : List UInt8).map eU8), .int .i64 0, .int .i64 0, .str ([] : List UInt8), .int .i64 0, .own 135 0 4 (([] : List DIssued).map eDIssued)]), (192, [.str a0.name_, .own 576 0 1 (r1.map eU8), .int .i64 a0.serial, .int .i64 0, .str ([] : List UInt8), .int .i64 0, .own 199 0 4 (([] : List DIssued).map eDIssued)])], []⟩ (fgk (by kernel_rfl)) ?_
  refine seq_ ?_
  refine reg_ ?_
  refine st (c_ (cp_ ⟨trivial, trivial⟩ rfl trivial) ?_)
  refine st (c_ (cp_ ⟨trivial, trivial⟩ rfl (Nat.le_of_ble_eq_true rfl)) ?_)
  refine st (c_ (cp_ ⟨trivial, trivial⟩ rfl trivial) ?_)
  refine st (stp_ rfl rfl trivial rfl rfl rfl (Nat.le_of_ble_eq_true rfl) ?_)
  refine oe_ ?_
  refine wk_ ⟨[(1, .ptr 64 0), (2, .ptr 128 0), (3, .ptr 192 0)], [(64, [.str a0.name_, .lst 1 (a0.seed.map eU8), .int .i64 a0.serial, .int .i64 a0.number, .str a0.suffix, .int .i64 a0.most, .lst 4 (a0.list_.map eDIssued)]), (128, [.str ([] : List UInt8), .own 130 0 1 (([] : List UInt8).map eU8), .int .i64 0, .int .i64 0, .str ([] : List UInt8), .int .i64 0, .own 135 0 4 (([] : List DIssued).map eDIssued)]), (192, [.str a0.name_, .own 576 0 1 (r1.map eU8), .int .i64 a0.serial, .int .i64 a0.number, .str ([] : List UInt8), .int .i64 0, .own 199 0 4 (([] : List DIssued).map eDIssued)])], []⟩ (fgk (by kernel_rfl)) ?_
  refine seq_ ?_
  refine reg_ ?_
  refine st (c_ (cp_ ⟨trivial, trivial⟩ rfl trivial) ?_)
  refine st (c_ (cp_ ⟨trivial, trivial⟩ rfl (Nat.le_of_ble_eq_true rfl)) ?_)
  refine st (c_ (cp_ ⟨trivial, trivial⟩ rfl trivial) ?_)
  refine st (stp_ rfl rfl trivial rfl rfl rfl (Nat.le_of_ble_eq_true rfl) ?_)
  refine oe_ ?_
  refine wk_ ⟨[(1, .ptr 64 0), (2, .ptr 128 0), (3, .ptr 192 0)], [(64, [.str a0.name_, .lst 1 (a0.seed.map eU8), .int .i64 a0.serial, .int .i64 a0.number, .str a0.suffix, .int .i64 a0.most, .lst 4 (a0.list_.map eDIssued)]), (128, [.str ([] : List UInt8), .own 130 0 1 (([] : List UInt8).map eU8), .int .i64 0, .int .i64 0, .str ([] : List UInt8), .int .i64 0, .own 135 0 4 (([] : List DIssued).map eDIssued)]), (192, [.str a0.name_, .own 576 0 1 (r1.map eU8), .int .i64 a0.serial, .int .i64 a0.number, .str a0.suffix, .int .i64 0, .own 199 0 4 (([] : List DIssued).map eDIssued)])], []⟩ (fgk (by kernel_rfl)) ?_
  refine seq_ ?_
  refine reg_ ?_
  refine st (c_ (cp_ ⟨trivial, trivial⟩ rfl trivial) ?_)
  refine st (c_ (cp_ ⟨trivial, trivial⟩ rfl (Nat.le_of_ble_eq_true rfl)) ?_)
  refine st (c_ (cp_ ⟨trivial, trivial⟩ rfl trivial) ?_)
  refine st (stp_ rfl rfl trivial rfl rfl rfl (Nat.le_of_ble_eq_true rfl) ?_)
  refine oe_ ?_
  refine wk_ ⟨[(1, .ptr 64 0), (2, .ptr 128 0), (3, .ptr 192 0)], [(64, [.str a0.name_, .lst 1 (a0.seed.map eU8), .int .i64 a0.serial, .int .i64 a0.number, .str a0.suffix, .int .i64 a0.most, .lst 4 (a0.list_.map eDIssued)]), (128, [.str ([] : List UInt8), .own 130 0 1 (([] : List UInt8).map eU8), .int .i64 0, .int .i64 0, .str ([] : List UInt8), .int .i64 0, .own 135 0 4 (([] : List DIssued).map eDIssued)]), (192, [.str a0.name_, .own 576 0 1 (r1.map eU8), .int .i64 a0.serial, .int .i64 a0.number, .str a0.suffix, .int .i64 a0.most, .own 199 0 4 (([] : List DIssued).map eDIssued)])], []⟩ (fgk (by kernel_rfl)) ?_
  refine seq_ ?_
  refine reg_ ?_
  refine st (c_ (cp_ ⟨trivial, trivial⟩ rfl trivial) ?_)
  refine st (c_ (cp_ ⟨trivial, trivial⟩ rfl (Nat.le_of_ble_eq_true rfl)) ?_)
  obtain ⟨r3, e4, h0⟩ := bnd h0
  refine st (call0_ (r := .own 0 0 4 (r3.map eDIssued)) false (H280 a0.list_ r3 e4) ⟨trivial, trivial⟩ rfl rfl (fun _ => (and_ (fl1 (fun _ => rfl)) rfl)) ?_)
  refine st (c_ (cp_ ⟨trivial, trivial⟩ rfl trivial) ?_)
  refine st (stp_ rfl rfl trivial rfl rfl rfl (Nat.le_of_ble_eq_true rfl) ?_)
  refine oe_ ?_
  refine wk_ ⟨[(2, .ptr 128 0), (3, .ptr 192 0)], [(128, [.str ([] : List UInt8), .own 130 0 1 (([] : List UInt8).map eU8), .int .i64 0, .int .i64 0, .str ([] : List UInt8), .int .i64 0, .own 135 0 4 (([] : List DIssued).map eDIssued)]), (192, [.str a0.name_, .own 576 0 1 (r1.map eU8), .int .i64 a0.serial, .int .i64 a0.number, .str a0.suffix, .int .i64 a0.most, .own 1600 0 4 (r3.map eDIssued)])], []⟩ (fgk (by kernel_rfl)) ?_
  refine seq_ ?_
  refine reg_ ?_
  refine st (c_ (v := .agg [.str a0.name_, .own 576 0 1 (r1.map eU8), .int .i64 a0.serial, .int .i64 a0.number, .str a0.suffix, .int .i64 a0.most, .own 1600 0 4 (r3.map eDIssued)]) (cp_ ⟨trivial, trivial⟩ rfl (Nat.le_of_ble_eq_true rfl)) ?_)
  refine st (stp_ rfl rfl trivial rfl rfl rfl (Nat.le_of_ble_eq_true rfl) ?_)
  refine oe_ ?_
  refine wk_ ⟨[(2, .ptr 128 0)], [(128, [.str a0.name_, .own 576 0 1 (r1.map eU8), .int .i64 a0.serial, .int .i64 a0.number, .str a0.suffix, .int .i64 a0.most, .own 1600 0 4 (r3.map eDIssued)])], []⟩ (fgk (by kernel_rfl)) ?_
  obtain rfl := Option.some.inj h0
  exact rt_ (ret_ rfl rfl rfl rfl rfl trivial)

/- loop.example/g00149/impl.within -/
def c63_r0 : List Ins := [⟨some 6, .p (.mv (.c (.bool false))), none⟩]
def c63_r1 : List Ins := [⟨some 7, .p (.mv (.t 1)), none⟩,
 ⟨some 8, .p (.mv (.t 0)), none⟩,
 ⟨some 9, .p (.bin .leq (.t 7) (.t 8)), none⟩,
 ⟨some 10, .p (.mv (.t 9)), none⟩,
 ⟨some 11, .p (.mv (.t 0)), some (10, true)⟩,
 ⟨some 12, .p (.mv (.t 2)), some (10, true)⟩,
 ⟨some 13, .p (.bin .leq (.t 11) (.t 12)), some (10, true)⟩,
 ⟨some 14, .pick (.t 10) (.t 13) (.c (.bool false)), none⟩,
 ⟨some 6, .p (.mv (.t 14)), none⟩]
def c63 : XFn := { np := 3, nt := 15, res := [.t 6], body := (.seq (.reg c63_r0) (.seq (.reg c63_r1) .ret)) }
def K63 (C : CRel) : Prop := ∀ (a0 : Int) (a1 : Int) (a2 : Int) (r : Bool), g63 a0 a1 a2 = some r → C 63 ⟨[.int .i64 a0, .int .i64 a1, .int .i64 a2], []⟩ ⟨.bool r, [], []⟩
theorem F63 {C : CRel}  (a0 : Int) (a1 : Int) (a2 : Int) (r : Bool) (h0 : g63 a0 a1 a2 = some r) : FnOK C c63 ⟨[.int .i64 a0, .int .i64 a1, .int .i64 a2], []⟩ ⟨.bool r, [], []⟩ := by
  refine fn_ (Nat.le_of_ble_eq_true rfl) ?_
  refine seq_ ?_
  refine reg_ ?_
  refine st (mvc_ trivial ?_)
  refine oe_ ?_
  refine wk_ ⟨[(0, .int .i64 a0), (1, .int .i64 a1), (2, .int .i64 a2)], [], []⟩ (fgk (by kernel_rfl)) ?_
  refine seq_ ?_
  refine reg_ ?_
  refine st (mv_ rfl trivial ?_)
  refine st (mv_ rfl trivial ?_)
  refine st (c_ (cp_ ⟨trivial, trivial, trivial⟩ rfl trivial) ?_)
  refine st (mv_ rfl trivial ?_)
  refine st (pg_ (u := .int .i64 a0) rfl (fun hg => (cmv (v := .int .i64 a0) rfl trivial)) ?_)
  refine st (pg_ (u := .int .i64 a2) rfl (fun hg => (cmv (v := .int .i64 a2) rfl trivial)) ?_)
  refine st (pg_ (u := .bool (decide (a0 ≤ a2))) rfl (fun hg => (cp_ ⟨(fun _ => hg), (fun _ => hg), trivial⟩ rfl trivial)) ?_)
  refine st (pick_ rfl rfl rfl (fun h => eqt h) trivial rfl ?_)
  refine st (mv_ rfl trivial ?_)
  refine oe_ ?_
  refine wk_ ⟨[(6, .bool (bif (decide (a1 ≤ a0)) then (decide (a0 ≤ a2)) else false))], [], []⟩ (fgk (by kernel_rfl)) ?_
  obtain rfl := Option.some.inj h0
  exact rt_ (ret_ rfl rfl rfl rfl rfl trivial)

/- loop.example/g00149/impl.isSerial -/
def c58_r0 : List Ins := [⟨some 2, .p (.mv (.c (.bool false))), none⟩]
def c58_r1 : List Ins := [⟨some 3, .p (.mv (.t 0)), none⟩,
 ⟨some 4, .call 63 [(.t 3), (.c (.int .i64 1)), (.c (.int .i64 1000000))], none⟩,
 ⟨some 2, .p (.mv (.t 4)), none⟩]
def c58 : XFn := { np := 1, nt := 5, res := [.t 2], body := (.seq (.reg c58_r0) (.seq (.reg c58_r1) .ret)) }
def K58 (C : CRel) : Prop := ∀ (a0 : Int) (r : Bool), g58 a0 = some r → C 58 ⟨[.int .i64 a0], []⟩ ⟨.bool r, [], []⟩
theorem F58 {C : CRel} (H63 : K63 C) (a0 : Int) (r : Bool) (h0 : g58 a0 = some r) : FnOK C c58 ⟨[.int .i64 a0], []⟩ ⟨.bool r, [], []⟩ := by
  refine fn_ (Nat.le_of_ble_eq_true rfl) ?_
  refine seq_ ?_
  refine reg_ ?_
  refine st (mvc_ trivial ?_)
  refine oe_ ?_
  refine wk_ ⟨[(0, .int .i64 a0)], [], []⟩ (fgk (by kernel_rfl)) ?_
  refine seq_ ?_
  refine reg_ ?_
  refine st (mv_ rfl trivial ?_)
  obtain ⟨r1, e2, h0⟩ := bnd h0
  refine st (call0_ (r := .bool r1) false (H63 a0 1 1000000 r1 e2) ⟨trivial, trivial, trivial, trivial⟩ rfl rfl (fun _ => rfl) ?_)
  refine st (mv_ rfl trivial ?_)
  refine oe_ ?_
  refine wk_ ⟨[(2, .bool r1)], [], []⟩ (fgk (by kernel_rfl)) ?_
  obtain rfl := Option.some.inj h0
  exact rt_ (ret_ rfl rfl rfl rfl rfl trivial)

/- loop.example/g00149/impl.rises -/
def c59_r0 : List Ins := [⟨some 6, .p (.mv (.c (.bool false))), none⟩]
def c59_r1 : List Ins := [⟨some 9, .p (.mv (.t 0)), none⟩,
 ⟨some 10, .p (.len (.t 9)), none⟩,
 ⟨some 11, .p (.mv (.c (.int .i64 0))), none⟩]
def c59_r2 : List Ins := [⟨some 12, .p (.bin .lss (.t 11) (.t 10)), none⟩]
def c59_r3 : List Ins := [⟨some 13, .p (.mv (.t 11)), none⟩,
 ⟨some 14, .p (.idxA (.t 9) (.t 11) 1), none⟩,
 ⟨some 15, .p (.load (.t 14) 1 false), none⟩,
 ⟨some 7, .p (.mv (.t 13)), none⟩,
 ⟨some 8, .p (.mv (.t 15)), none⟩]
def c59_r4 : List Ins := [⟨some 16, .p (.mv (.t 8)), none⟩,
 ⟨some 17, .p (.mv (.t 1)), none⟩,
 ⟨some 18, .p (.mv (.t 2)), none⟩,
 ⟨some 19, .call 63 [(.t 16), (.t 17), (.t 18)], none⟩,
 ⟨some 20, .p (.un .not (.t 19)), none⟩,
 ⟨some 21, .p (.mv (.t 20)), none⟩,
 ⟨some 22, .p (.mv (.t 7)), some (21, false)⟩,
 ⟨some 23, .p (.bin .gtr (.t 22) (.c (.int .i64 0))), some (21, false)⟩,
 ⟨some 24, .p (.mv (.t 23)), some (21, false)⟩,
 ⟨some 25, .p (.mv (.t 0)), some (24, true)⟩,
 ⟨some 26, .p (.mv (.t 7)), some (24, true)⟩,
 ⟨some 27, .p (.bin .sub (.t 26) (.c (.int .i64 1))), some (24, true)⟩,
 ⟨some 28, .p (.idxA (.t 25) (.t 27) 1), some (24, true)⟩,
 ⟨some 29, .p (.load (.t 28) 1 false), some (24, true)⟩,
 ⟨some 30, .p (.mv (.t 8)), some (24, true)⟩,
 ⟨some 31, .p (.bin .geq (.t 29) (.t 30)), some (24, true)⟩,
 ⟨some 32, .pick (.t 24) (.t 31) (.c (.bool false)), some (21, false)⟩,
 ⟨some 33, .pick (.t 21) (.c (.bool true)) (.t 32), none⟩]
def c59_r5 : List Ins := [⟨some 6, .p (.mv (.c (.bool false))), none⟩]
def c59_r6 : List Ins := [⟨some 34, .p (.bin .add (.t 11) (.c (.int .i64 1))), none⟩,
 ⟨some 11, .p (.mv (.t 34)), none⟩]
def c59_l0 : IR := (.seq (.reg c59_r2) (.seq (.ite (.t 12) .skip (.exit 0)) (.seq (.block 1 (.seq (.reg c59_r3) (.seq (.reg c59_r4) (.ite (.t 33) (.seq (.reg c59_r5) .ret) .skip)))) (.reg c59_r6))))
def c59_r7 : List Ins := [⟨some 6, .p (.mv (.c (.bool true))), none⟩]
def c59 : XFn := { np := 3, nt := 35, res := [.t 6], body := (.seq (.reg c59_r0) (.seq (.seq (.reg c59_r1) (.block 0 (.loop c59_l0))) (.seq (.reg c59_r7) .ret))) }
def K59 (C : CRel) : Prop := ∀ (a0 : List Int) (a1 : Int) (a2 : Int) (r : Bool), g59 a0 a1 a2 = some r → C 59 ⟨[.lst 1 (a0.map eI), .int .i64 a1, .int .i64 a2], []⟩ ⟨.bool r, [], []⟩
theorem F59 {C : CRel} (H63 : K63 C) (a0 : List Int) (a1 : Int) (a2 : Int) (r : Bool) (h0 : g59 a0 a1 a2 = some r) : FnOK C c59 ⟨[.lst 1 (a0.map eI), .int .i64 a1, .int .i64 a2], []⟩ ⟨.bool r, [], []⟩ := by
  refine fn_ (Nat.le_of_ble_eq_true rfl) ?_
  refine seq_ ?_
  refine reg_ ?_
  refine st (mvc_ trivial ?_)
  refine oe_ ?_
  refine wk_ ⟨[(0, .lst 1 (a0.map eI)), (1, .int .i64 a1), (2, .int .i64 a2)], [], []⟩ (fgk (by kernel_rfl)) ?_
  refine seq_ ?_
  refine seq_ ?_
  refine reg_ ?_
  refine st (mv_ rfl trivial ?_)
  refine st (c_ (clenL (e := eI) (l0 := a0) rfl rfl trivial) ?_)
  refine st (mvc_ trivial ?_)
  refine oe_ ?_
  refine wk_ ⟨[(0, .lst 1 (a0.map eI)), (1, .int .i64 a1), (2, .int .i64 a2), (9, .lst 1 (a0.map eI)), (10, .int .i64 (a0.length : Int)), (11, .int .i64 0)], [], []⟩ (fgk (by kernel_rfl)) ?_
  refine block_ ?_
  obtain ⟨r33, e34, h0⟩ := bnd h0
  refine loop_ (R := (fun S => .inl () = r33 ∧ S = ⟨[], [], []⟩)) (g59_l0 a0 a1 a2) (fun s S => match s with | p11 => S = ⟨[(0, .lst 1 (a0.map eI)), (1, .int .i64 a1), (2, .int .i64 a2), (9, .lst 1 (a0.map eI)), (10, .int .i64 (a0.length : Int)), (11, .int .i64 p11)], [], []⟩) e34 ⟨[(0, .lst 1 (a0.map eI)), (1, .int .i64 a1), (2, .int .i64 a2), (9, .lst 1 (a0.map eI)), (10, .int .i64 (a0.length : Int)), (11, .int .i64 0)], [], []⟩ (fgk (by kernel_rfl)) rfl 0 (fun _ => rfl) ?_ ?_
  · rintro S _ hfg ⟨rfl, rfl⟩
    refine wk_ ⟨[], [], []⟩ (fglk hfg (by kernel_rfl)) ?_
    refine seq_ ?_
    refine reg_ ?_
    refine st (mvc_ trivial ?_)
    refine oe_ ?_
    refine wk_ ⟨[(6, .bool true)], [], []⟩ (fgk (by kernel_rfl)) ?_
    obtain rfl := Option.some.inj h0
    exact rt_ (ret_ rfl rfl rfl rfl rfl trivial)
  · rintro p11 o1 _ K1 rfl h1 hx1 hK1 hE1 hR1
    refine seq_ ?_
    refine reg_ ?_
    refine st (c_ (cp_ ⟨trivial, trivial, trivial⟩ rfl trivial) ?_)
    refine oe_ ?_
    refine wk_ ⟨[(0, .lst 1 (a0.map eI)), (1, .int .i64 a1), (2, .int .i64 a2), (9, .lst 1 (a0.map eI)), (10, .int .i64 (a0.length : Int)), (11, .int .i64 p11), (12, .bool (decide (p11 < (a0.length : Int))))], [], []⟩ (fgk (by kernel_rfl)) ?_
    refine seq_ ?_
    refine ite_ (cb := (decide (p11 < (a0.length : Int)))) rfl (fun c23 => ?_) (fun c23 => ?_)
    · replace h1 := ip c23 h1
      refine sk_ ?_
      refine wk_ ⟨[(0, .lst 1 (a0.map eI)), (1, .int .i64 a1), (2, .int .i64 a2), (9, .lst 1 (a0.map eI)), (10, .int .i64 (a0.length : Int)), (11, .int .i64 p11)], [], []⟩ (fgk (by kernel_rfl)) ?_
      refine seq_ ?_
      refine block_ ?_
      refine seq_ ?_
      refine reg_ ?_
      refine st (mv_ rfl trivial ?_)
      obtain ⟨y24, e25, h1⟩ := bnd h1
      refine st (c_ (cidxL (e := eI) (y := y24) rfl rfl trivial rfl rfl trivial e25) ?_)
      refine st (c_ (cp_ ⟨trivial, trivial⟩ rfl (Nat.le_of_ble_eq_true rfl)) ?_)
      refine st (mv_ rfl trivial ?_)
      refine st (mv_ rfl trivial ?_)
      refine oe_ ?_
      refine wk_ ⟨[(0, .lst 1 (a0.map eI)), (1, .int .i64 a1), (2, .int .i64 a2), (7, .int .i64 p11), (8, .int .i64 y24), (9, .lst 1 (a0.map eI)), (10, .int .i64 (a0.length : Int)), (11, .int .i64 p11)], [], []⟩ (fgk (by kernel_rfl)) ?_
      refine seq_ ?_
      refine reg_ ?_
      refine st (mv_ rfl trivial ?_)
      refine st (mv_ rfl trivial ?_)
      refine st (mv_ rfl trivial ?_)
      obtain ⟨r26, e27, h1⟩ := bnd h1
      refine st (call0_ (r := .bool r26) false (H63 y24 a1 a2 r26 e27) ⟨trivial, trivial, trivial, trivial⟩ rfl rfl (fun _ => rfl) ?_)
      refine st (c_ (cp_ ⟨trivial, trivial⟩ rfl trivial) ?_)
      refine st (mv_ rfl trivial ?_)
      refine st (pg_ (u := .int .i64 p11) rfl (fun hg => (cmv (v := .int .i64 p11) rfl trivial)) ?_)
      refine st (pg_ (u := .bool (decide (p11 > 0))) rfl (fun hg => (cp_ ⟨(fun _ => hg), trivial, trivial⟩ rfl trivial)) ?_)
      refine st (pg_ (u := .bool (decide (p11 > 0))) rfl (fun hg => (cmv (v := .may ((!r26) == false) (.bool (decide (p11 > 0)))) rfl (fun _ => hg))) ?_)
      refine st (pg_ (u := .lst 1 (a0.map eI)) rfl (fun hg => (cmv (v := .lst 1 (a0.map eI)) rfl trivial)) ?_)
      refine st (pg_ (u := .int .i64 p11) rfl (fun hg => (cmv (v := .int .i64 p11) rfl trivial)) ?_)
      refine st (pg_ (u := .int .i64 (IntKind.i64.wrap (p11 - 1))) rfl (fun hg => (cp_ ⟨(fun _ => hg), trivial, trivial⟩ rfl trivial)) ?_)
      obtain ⟨y28, e29, h1⟩ := bnd h1
      refine sw ⟨[(0, .lst 1 (a0.map eI)), (1, .int .i64 a1), (2, .int .i64 a2), (8, .int .i64 y24), (9, .lst 1 (a0.map eI)), (10, .int .i64 (a0.length : Int)), (11, .int .i64 p11), (21, .bool (!r26)), (24, .may ((!r26) == false) (.bool (decide (p11 > 0)))), (25, .may (((!r26) == false) && ((decide (p11 > 0)) == true)) (.lst 1 (a0.map eI))), (27, .may (((!r26) == false) && ((decide (p11 > 0)) == true)) (.int .i64 (IntKind.i64.wrap (p11 - 1))))], [], []⟩ (fgk (by kernel_rfl)) (pg_ (u := .iptr [.int .i64 y28]) rfl (fun hg => (cidxL (e := eI) (y := y28) rfl rfl (fun _ => hg) rfl rfl (fun _ => hg) (ip hg e29))) ?_)
      refine st (pg_ (u := .int .i64 y28) rfl (fun hg => (cp_ ⟨(fun _ => hg), trivial⟩ rfl (Nat.le_of_ble_eq_true rfl))) ?_)
      refine st (pg_ (u := .int .i64 y24) rfl (fun hg => (cmv (v := .int .i64 y24) rfl trivial)) ?_)
      refine st (pg_ (u := .bool (decide (y28 ≥ y24))) rfl (fun hg => (cp_ ⟨(fun _ => hg), (fun _ => hg), trivial⟩ rfl trivial)) ?_)
      refine st (pickg_ (u := .bool (bif (decide (p11 > 0)) then (decide (y28 ≥ y24)) else false)) rfl (fun hg => cpick rfl rfl (fun _ => hg) rfl rfl (fun h => and_ hg (eqt h)) trivial rfl) ?_)
      refine st (pick_ rfl rfl rfl trivial (fun h => eqf h) rfl ?_)
      refine oe_ ?_
      obtain ⟨v30, e31, h1⟩ := bl h1
      refine wk_ ⟨[(0, .lst 1 (a0.map eI)), (1, .int .i64 a1), (2, .int .i64 a2), (9, .lst 1 (a0.map eI)), (10, .int .i64 (a0.length : Int)), (11, .int .i64 p11), (33, .bool v30)], [], []⟩ (fgk (by subst e31; kernel_rfl)) ?_
      refine ite_ (cb := v30) rfl (fun c32 => ?_) (fun c32 => ?_)
      · replace h1 := ip c32 h1
        refine seq_ ?_
        refine reg_ ?_
        refine st (mvc_ trivial ?_)
        refine oe_ ?_
        refine wk_ ⟨[(6, .bool false)], [], []⟩ (fgk (by kernel_rfl)) ?_
        obtain rfl := Option.some.inj h1
        obtain rfl := hx1 _ rfl
        obtain rfl := Option.some.inj h0
        exact rt_ (hR1 _ (ret_ rfl rfl rfl rfl rfl trivial))
      · replace h1 := inb c32 h1
        refine sk_ ?_
        refine bn_ ?_
        refine wk_ ⟨[(0, .lst 1 (a0.map eI)), (1, .int .i64 a1), (2, .int .i64 a2), (9, .lst 1 (a0.map eI)), (10, .int .i64 (a0.length : Int)), (11, .int .i64 p11)], [], []⟩ (fgk (by kernel_rfl)) ?_
        refine reg_ ?_
        refine st (c_ (cp_ ⟨trivial, trivial, trivial⟩ rfl trivial) ?_)
        refine st (mv_ rfl trivial ?_)
        refine oe_ ?_
        obtain rfl := Option.some.inj h1
        exact hK1 _ rfl _ ⟨[(0, .lst 1 (a0.map eI)), (1, .int .i64 a1), (2, .int .i64 a2), (9, .lst 1 (a0.map eI)), (10, .int .i64 (a0.length : Int)), (11, .int .i64 (IntKind.i64.wrap (p11 + 1)))], [], []⟩ (fgk (by kernel_rfl)) rfl
    · replace h1 := inb c23 h1
      obtain rfl := Option.some.inj h1
      obtain rfl := hx1 _ rfl
      refine exQ rfl ?_
      exact hE1 _ ⟨[], [], []⟩ (fgk (by kernel_rfl)) ⟨rfl, rfl⟩

/- slices.IndexFunc[[]byte,byte] -/
def c373_r0 : List Ins := [⟨some 4, .p (.mv (.c (.int .i64 0))), none⟩]
def c373_r1 : List Ins := [⟨some 6, .p (.mv (.t 0)), none⟩,
 ⟨some 7, .p (.len (.t 6)), none⟩,
 ⟨some 8, .p (.mv (.c (.int .i64 0))), none⟩]
def c373_r2 : List Ins := [⟨some 9, .p (.bin .lss (.t 8) (.t 7)), none⟩]
def c373_r3 : List Ins := [⟨some 10, .p (.mv (.t 8)), none⟩,
 ⟨some 5, .p (.mv (.t 10)), none⟩]
def c373_r4 : List Ins := [⟨some 11, .p (.mv (.t 1)), none⟩,
 ⟨some 12, .p (.mv (.t 0)), none⟩,
 ⟨some 13, .p (.mv (.t 5)), none⟩,
 ⟨some 14, .p (.idxA (.t 12) (.t 13) 1), none⟩,
 ⟨some 15, .p (.load (.t 14) 1 false), none⟩,
 ⟨some 16, .callv (.t 11) [(.t 15)], none⟩]
def c373_r5 : List Ins := [⟨some 17, .p (.mv (.t 5)), none⟩,
 ⟨some 4, .p (.mv (.t 17)), none⟩]
def c373_r6 : List Ins := [⟨some 18, .p (.bin .add (.t 8) (.c (.int .i64 1))), none⟩,
 ⟨some 8, .p (.mv (.t 18)), none⟩]
def c373_l0 : IR := (.seq (.reg c373_r2) (.seq (.ite (.t 9) .skip (.exit 0)) (.seq (.block 1 (.seq (.reg c373_r3) (.seq (.reg c373_r4) (.ite (.t 16) (.seq (.reg c373_r5) .ret) .skip)))) (.reg c373_r6))))
def c373_r7 : List Ins := [⟨some 4, .p (.mv (.c (.int .i64 (-1)))), none⟩]
def c373 : XFn := { np := 2, nt := 19, res := [.t 4], body := (.seq (.reg c373_r0) (.seq (.seq (.reg c373_r1) (.block 0 (.loop c373_l0))) (.seq (.reg c373_r7) .ret))) }
def K373 (C : CRel) : Prop := ∀ (a0 : List UInt8) (f1 : Nat) (k1 : List V) (is1 : UInt8 → Option Bool) (hs1 : Shut k1) (hf1 : ∀ (x0 : UInt8) r, is1 x0 = some r → C f1 ⟨.int .u8 ((x0).toNat : Int) :: k1, []⟩ ⟨.bool r, [], []⟩) (r : Int), g373 a0 is1 = some r → C 373 ⟨[.lst 1 (a0.map eU8), .clo f1 k1], []⟩ ⟨.int .i64 r, [], []⟩
theorem F373 {C : CRel}  (a0 : List UInt8) (f1 : Nat) (k1 : List V) (is1 : UInt8 → Option Bool) (hs1 : Shut k1) (hf1 : ∀ (x0 : UInt8) r, is1 x0 = some r → C f1 ⟨.int .u8 ((x0).toNat : Int) :: k1, []⟩ ⟨.bool r, [], []⟩) (r : Int) (h0 : g373 a0 is1 = some r) : FnOK C c373 ⟨[.lst 1 (a0.map eU8), .clo f1 k1], []⟩ ⟨.int .i64 r, [], []⟩ := by
  refine fn_ (Nat.le_of_ble_eq_true rfl) ?_
  refine seq_ ?_
  refine reg_ ?_
  refine st (mvc_ trivial ?_)
  refine oe_ ?_
  refine wk_ ⟨[(0, .lst 1 (a0.map eU8)), (1, .clo f1 k1)], [], []⟩ (fg ⟨rfl, rfl, trivial⟩ trivial) ?_
  refine seq_ ?_
  refine seq_ ?_
  refine reg_ ?_
  refine st (mv_ rfl trivial ?_)
  refine st (c_ (clenL (e := eU8) (l0 := a0) rfl rfl trivial) ?_)
  refine st (mvc_ trivial ?_)
  refine oe_ ?_
  refine wk_ ⟨[(0, .lst 1 (a0.map eU8)), (1, .clo f1 k1), (7, .int .i64 (a0.length : Int)), (8, .int .i64 0)], [], []⟩ (fg ⟨rfl, rfl, rfl, rfl, trivial⟩ trivial) ?_
  refine block_ ?_
  obtain ⟨r21, e22, h0⟩ := bnd h0
  refine loop_ (R := (fun S => .inl () = r21 ∧ S = ⟨[], [], []⟩)) (g373_l0 a0 is1) (fun s S => match s with | p7 => S = ⟨[(0, .lst 1 (a0.map eU8)), (1, .clo f1 k1), (7, .int .i64 (a0.length : Int)), (8, .int .i64 p7)], [], []⟩) e22 ⟨[(0, .lst 1 (a0.map eU8)), (1, .clo f1 k1), (7, .int .i64 (a0.length : Int)), (8, .int .i64 0)], [], []⟩ (fg ⟨rfl, rfl, rfl, rfl, trivial⟩ trivial) rfl 0 (fun _ => rfl) ?_ ?_
  · rintro S _ hfg ⟨rfl, rfl⟩
    refine wk_ ⟨[], [], []⟩ (fglk hfg (by kernel_rfl)) ?_
    refine seq_ ?_
    refine reg_ ?_
    refine st (mvc_ trivial ?_)
    refine oe_ ?_
    refine wk_ ⟨[(4, .int .i64 (-1))], [], []⟩ (fgk (by kernel_rfl)) ?_
    obtain rfl := Option.some.inj h0
    exact rt_ (ret_ rfl rfl rfl rfl rfl trivial)
  · rintro p7 o1 _ K1 rfl h1 hx1 hK1 hE1 hR1
    refine seq_ ?_
    refine reg_ ?_
    refine st (c_ (cp_ ⟨trivial, trivial, trivial⟩ rfl trivial) ?_)
    refine oe_ ?_
    refine wk_ ⟨[(0, .lst 1 (a0.map eU8)), (1, .clo f1 k1), (7, .int .i64 (a0.length : Int)), (8, .int .i64 p7), (9, .bool (decide (p7 < (a0.length : Int))))], [], []⟩ (fg ⟨rfl, rfl, rfl, rfl, rfl, trivial⟩ trivial) ?_
    refine seq_ ?_
    refine ite_ (cb := (decide (p7 < (a0.length : Int)))) rfl (fun c15 => ?_) (fun c15 => ?_)
    · replace h1 := ip c15 h1
      refine sk_ ?_
      refine wk_ ⟨[(0, .lst 1 (a0.map eU8)), (1, .clo f1 k1), (7, .int .i64 (a0.length : Int)), (8, .int .i64 p7)], [], []⟩ (fg ⟨rfl, rfl, rfl, rfl, trivial⟩ trivial) ?_
      refine seq_ ?_
      refine block_ ?_
      refine seq_ ?_
      refine reg_ ?_
      refine st (mv_ rfl trivial ?_)
      refine st (mv_ rfl trivial ?_)
      refine oe_ ?_
      refine wk_ ⟨[(0, .lst 1 (a0.map eU8)), (1, .clo f1 k1), (5, .int .i64 p7), (7, .int .i64 (a0.length : Int)), (8, .int .i64 p7)], [], []⟩ (fg ⟨rfl, rfl, rfl, rfl, rfl, trivial⟩ trivial) ?_
      refine seq_ ?_
      refine reg_ ?_
      refine st (mv_ rfl trivial ?_)
      refine st (mv_ rfl trivial ?_)
      refine st (mv_ rfl trivial ?_)
      obtain ⟨y16, e17, h1⟩ := bnd h1
      refine st (c_ (cidxL (e := eU8) (y := y16) rfl rfl trivial rfl rfl trivial e17) ?_)
      refine st (c_ (cp_ ⟨trivial, trivial⟩ rfl (Nat.le_of_ble_eq_true rfl)) ?_)
      obtain ⟨r18, e19, h1⟩ := bnd h1
      refine st (callv0_ (r := .bool r18) rfl false (hf1 _ r18 e19) ⟨trivial, trivial⟩ (and_ rfl hs1.2.2.1) (mapc1 rfl (hs1.2.1 _ _ _ _ _)) (fun _ => rfl) ?_)
      refine oe_ ?_
      refine wk_ ⟨[(0, .lst 1 (a0.map eU8)), (1, .clo f1 k1), (5, .int .i64 p7), (7, .int .i64 (a0.length : Int)), (8, .int .i64 p7), (16, .bool r18)], [], []⟩ (fg ⟨rfl, rfl, rfl, rfl, rfl, rfl, trivial⟩ trivial) ?_
      refine ite_ (cb := r18) rfl (fun c20 => ?_) (fun c20 => ?_)
      · replace h1 := ip c20 h1
        refine seq_ ?_
        refine reg_ ?_
        refine st (mv_ rfl trivial ?_)
        refine st (mv_ rfl trivial ?_)
        refine oe_ ?_
        refine wk_ ⟨[(4, .int .i64 p7)], [], []⟩ (fgk (by kernel_rfl)) ?_
        obtain rfl := Option.some.inj h1
        obtain rfl := hx1 _ rfl
        obtain rfl := Option.some.inj h0
        exact rt_ (hR1 _ (ret_ rfl rfl rfl rfl rfl trivial))
      · replace h1 := inb c20 h1
        refine sk_ ?_
        refine bn_ ?_
        refine wk_ ⟨[(0, .lst 1 (a0.map eU8)), (1, .clo f1 k1), (7, .int .i64 (a0.length : Int)), (8, .int .i64 p7)], [], []⟩ (fg ⟨rfl, rfl, rfl, rfl, trivial⟩ trivial) ?_
        refine reg_ ?_
        refine st (c_ (cp_ ⟨trivial, trivial, trivial⟩ rfl trivial) ?_)
        refine st (mv_ rfl trivial ?_)
        refine oe_ ?_
        obtain rfl := Option.some.inj h1
        exact hK1 _ rfl _ ⟨[(0, .lst 1 (a0.map eU8)), (1, .clo f1 k1), (7, .int .i64 (a0.length : Int)), (8, .int .i64 (IntKind.i64.wrap (p7 + 1)))], [], []⟩ (fg ⟨rfl, rfl, rfl, rfl, trivial⟩ trivial) rfl
    · replace h1 := inb c15 h1
      obtain rfl := Option.some.inj h1
      obtain rfl := hx1 _ rfl
      refine exQ rfl ?_
      exact hE1 _ ⟨[], [], []⟩ (fgk (by kernel_rfl)) ⟨rfl, rfl⟩

/- slices.ContainsFunc[[]byte,byte] -/
def c368_r0 : List Ins := [⟨some 4, .p (.mv (.c (.bool false))), none⟩]
def c368_r1 : List Ins := [⟨some 5, .p (.mv (.t 0)), none⟩,
 ⟨some 6, .p (.mv (.t 1)), none⟩,
 ⟨some 7, .call 373 [(.t 5), (.t 6)], none⟩,
 ⟨some 8, .p (.bin .geq (.t 7) (.c (.int .i64 0))), none⟩,
 ⟨some 4, .p (.mv (.t 8)), none⟩]
def c368 : XFn := { np := 2, nt := 9, res := [.t 4], body := (.seq (.reg c368_r0) (.seq (.reg c368_r1) .ret)) }
def K368 (C : CRel) : Prop := ∀ (a0 : List UInt8) (f1 : Nat) (k1 : List V) (is1 : UInt8 → Option Bool) (hs1 : Shut k1) (hf1 : ∀ (x0 : UInt8) r, is1 x0 = some r → C f1 ⟨.int .u8 ((x0).toNat : Int) :: k1, []⟩ ⟨.bool r, [], []⟩) (r : Bool), g368 a0 is1 = some r → C 368 ⟨[.lst 1 (a0.map eU8), .clo f1 k1], []⟩ ⟨.bool r, [], []⟩
theorem F368 {C : CRel} (H373 : K373 C) (a0 : List UInt8) (f1 : Nat) (k1 : List V) (is1 : UInt8 → Option Bool) (hs1 : Shut k1) (hf1 : ∀ (x0 : UInt8) r, is1 x0 = some r → C f1 ⟨.int .u8 ((x0).toNat : Int) :: k1, []⟩ ⟨.bool r, [], []⟩) (r : Bool) (h0 : g368 a0 is1 = some r) : FnOK C c368 ⟨[.lst 1 (a0.map eU8), .clo f1 k1], []⟩ ⟨.bool r, [], []⟩ := by
  refine fn_ (Nat.le_of_ble_eq_true rfl) ?_
  refine seq_ ?_
  refine reg_ ?_
  refine st (mvc_ trivial ?_)
  refine oe_ ?_
  refine wk_ ⟨[(0, .lst 1 (a0.map eU8)), (1, .clo f1 k1)], [], []⟩ (fg ⟨rfl, rfl, trivial⟩ trivial) ?_
  refine seq_ ?_
  refine reg_ ?_
  refine st (mv_ rfl trivial ?_)
  refine st (mv_ rfl trivial ?_)
  obtain ⟨r1, e2, h0⟩ := bnd h0
  refine st (call0_ (r := .int .i64 r1) false (H373 a0 f1 k1 is1 hs1 hf1 r1 e2) ⟨trivial, trivial, trivial⟩ rfl (mapc1 rfl (mapc1 (clo_sh hs1) rfl)) (fun _ => rfl) ?_)
  refine st (c_ (cp_ ⟨trivial, trivial, trivial⟩ rfl trivial) ?_)
  refine st (mv_ rfl trivial ?_)
  refine oe_ ?_
  refine wk_ ⟨[(4, .bool (decide (r1 ≥ 0)))], [], []⟩ (fgk (by kernel_rfl)) ?_
  obtain rfl := Option.some.inj h0
  exact rt_ (ret_ rfl rfl rfl rfl rfl trivial)

/- loop.example/g00149/impl.areAll[byte]$1 -/
def c369_r0 : List Ins := [⟨some 3, .p (.mv (.c (.bool false))), none⟩]
def c369_r1 : List Ins := [⟨some 4, .p (.load (.t 1) 1 false), none⟩,
 ⟨some 5, .p (.mv (.t 0)), none⟩,
 ⟨some 6, .callv (.t 4) [(.t 5)], none⟩,
 ⟨some 7, .p (.un .not (.t 6)), none⟩,
 ⟨some 3, .p (.mv (.t 7)), none⟩]
def c369 : XFn := { np := 2, nt := 8, res := [.t 3], body := (.seq (.reg c369_r0) (.seq (.reg c369_r1) .ret)) }
def K369 (C : CRel) : Prop := ∀ (a0 : UInt8) (f1 : Nat) (k1 : List V) (is1 : UInt8 → Option Bool) (hs1 : Shut k1) (hf1 : ∀ (x0 : UInt8) r, is1 x0 = some r → C f1 ⟨.int .u8 ((x0).toNat : Int) :: k1, []⟩ ⟨.bool r, [], []⟩) (r : Bool), g369 a0 is1 = some r → C 369 ⟨[.int .u8 ((a0).toNat : Int), .iptr [.clo f1 k1]], []⟩ ⟨.bool r, [], []⟩
theorem F369 {C : CRel}  (a0 : UInt8) (f1 : Nat) (k1 : List V) (is1 : UInt8 → Option Bool) (hs1 : Shut k1) (hf1 : ∀ (x0 : UInt8) r, is1 x0 = some r → C f1 ⟨.int .u8 ((x0).toNat : Int) :: k1, []⟩ ⟨.bool r, [], []⟩) (r : Bool) (h0 : g369 a0 is1 = some r) : FnOK C c369 ⟨[.int .u8 ((a0).toNat : Int), .iptr [.clo f1 k1]], []⟩ ⟨.bool r, [], []⟩ := by
  refine fn_ (Nat.le_of_ble_eq_true rfl) ?_
  refine seq_ ?_
  refine reg_ ?_
  refine st (mvc_ trivial ?_)
  refine oe_ ?_
  refine wk_ ⟨[(0, .int .u8 ((a0).toNat : Int)), (1, .iptr [.clo f1 k1])], [], []⟩ (fg ⟨rfl, rfl, trivial⟩ trivial) ?_
  refine seq_ ?_
  refine reg_ ?_
  refine st (c_ (cp_ ⟨trivial, trivial⟩ rfl (Nat.le_of_ble_eq_true rfl)) ?_)
  refine st (mv_ rfl trivial ?_)
  obtain ⟨r1, e2, h0⟩ := bnd h0
  refine st (callv0_ (r := .bool r1) rfl false (hf1 _ r1 e2) ⟨trivial, trivial⟩ (and_ rfl hs1.2.2.1) (mapc1 rfl (hs1.2.1 _ _ _ _ _)) (fun _ => rfl) ?_)
  refine st (c_ (cp_ ⟨trivial, trivial⟩ rfl trivial) ?_)
  refine st (mv_ rfl trivial ?_)
  refine oe_ ?_
  refine wk_ ⟨[(3, .bool (!r1))], [], []⟩ (fgk (by kernel_rfl)) ?_
  obtain rfl := Option.some.inj h0
  exact rt_ (ret_ rfl rfl rfl rfl rfl trivial)

/- loop.example/g00149/impl.areAll[byte] -/
def c337_r0 : List Ins := [⟨some 3, .box (.t 1), none⟩,
 ⟨some 4, .p (.mv (.c (.bool false))), none⟩]
def c337_r1 : List Ins := [⟨some 5, .p (.mv (.t 0)), none⟩,
 ⟨some 6, .p (.fn 369 [(.t 3)]), none⟩,
 ⟨some 7, .call 368 [(.t 5), (.t 6)], none⟩,
 ⟨some 8, .p (.un .not (.t 7)), none⟩,
 ⟨some 4, .p (.mv (.t 8)), none⟩]
def c337 : XFn := { np := 2, nt := 9, res := [.t 4], body := (.seq (.reg c337_r0) (.seq (.reg c337_r1) .ret)) }
def K337 (C : CRel) : Prop := ∀ (a0 : List UInt8) (f1 : Nat) (k1 : List V) (is1 : UInt8 → Option Bool) (hs1 : Shut k1) (hf1 : ∀ (x0 : UInt8) r, is1 x0 = some r → C f1 ⟨.int .u8 ((x0).toNat : Int) :: k1, []⟩ ⟨.bool r, [], []⟩) (r : Bool), g337 a0 is1 = some r → C 337 ⟨[.lst 1 (a0.map eU8), .clo f1 k1], []⟩ ⟨.bool r, [], []⟩
theorem F337 {C : CRel} (H368 : K368 C) (H369 : K369 C) (a0 : List UInt8) (f1 : Nat) (k1 : List V) (is1 : UInt8 → Option Bool) (hs1 : Shut k1) (hf1 : ∀ (x0 : UInt8) r, is1 x0 = some r → C f1 ⟨.int .u8 ((x0).toNat : Int) :: k1, []⟩ ⟨.bool r, [], []⟩) (r : Bool) (h0 : g337 a0 is1 = some r) : FnOK C c337 ⟨[.lst 1 (a0.map eU8), .clo f1 k1], []⟩ ⟨.bool r, [], []⟩ := by
  refine fn_ (Nat.le_of_ble_eq_true rfl) ?_
  refine seq_ ?_
  refine reg_ ?_
  refine st (box_ (dr_sh hs1) trivial rfl ?_)
  refine sw ⟨[(0, .lst 1 (a0.map eU8)), (3, .ptr 192 0)], [(192, [.clo f1 k1])], []⟩ (fg ⟨rfl, rfl, trivial⟩ ⟨rfl, trivial⟩) (mvc_ trivial ?_)
  refine oe_ ?_
  refine wk_ ⟨[(0, .lst 1 (a0.map eU8)), (3, .ptr 192 0)], [(192, [.clo f1 k1])], []⟩ (fg ⟨rfl, rfl, trivial⟩ ⟨rfl, trivial⟩) ?_
  refine seq_ ?_
  refine reg_ ?_
  refine st (mv_ rfl trivial ?_)
  refine st (c_ (cp_ ⟨trivial, trivial⟩ rfl rfl) ?_)
  obtain ⟨r1, e2, h0⟩ := bnd h0
  refine st (call0_ (r := .bool r1) false (H368 a0 369 [.iptr [.clo f1 k1]] (fun z369_0 => g369 z369_0 is1) (⟨fun _ _ _ _ _ => rfl, fun _ _ _ _ _ => rfl, rfl, fun _ _ _ n => by cases n <;> rfl, fun _ => rfl⟩) (fun z369_0 r h => H369 z369_0 f1 k1 is1 hs1 hf1 r h) r1 e2) ⟨trivial, trivial, trivial⟩ rfl (mapc1 rfl (mapc1 (congrArg (fun z => V.clo 369 [.iptr [.clo f1 z]]) (hs1.2.2.2.1 _ _ _ _)) rfl)) (fun _ => rfl) ?_)
  refine st (c_ (cp_ ⟨trivial, trivial⟩ rfl trivial) ?_)
  refine st (mv_ rfl trivial ?_)
  refine oe_ ?_
  refine wk_ ⟨[(4, .bool (!r1))], [], []⟩ (fgk (by kernel_rfl)) ?_
  obtain rfl := Option.some.inj h0
  exact rt_ (ret_ rfl rfl rfl rfl rfl trivial)

/- loop.example/g00149/impl.isLetter -/
def c339_r0 : List Ins := [⟨some 2, .p (.mv (.c (.bool false))), none⟩]
def c339_r1 : List Ins := [⟨some 3, .p (.mv (.t 0)), none⟩,
 ⟨some 4, .p (.bin .geq (.t 3) (.c (.int .u8 97))), none⟩,
 ⟨some 5, .p (.mv (.t 4)), none⟩,
 ⟨some 6, .p (.mv (.t 0)), some (5, true)⟩,
 ⟨some 7, .p (.bin .leq (.t 6) (.c (.int .u8 122))), some (5, true)⟩,
 ⟨some 8, .pick (.t 5) (.t 7) (.c (.bool false)), none⟩,
 ⟨some 9, .p (.mv (.t 8)), none⟩,
 ⟨some 10, .p (.mv (.t 0)), some (9, false)⟩,
 ⟨some 11, .p (.bin .geq (.t 10) (.c (.int .u8 65))), some (9, false)⟩,
 ⟨some 12, .p (.mv (.t 11)), some (9, false)⟩,
 ⟨some 13, .p (.mv (.t 0)), some (12, true)⟩,
 ⟨some 14, .p (.bin .leq (.t 13) (.c (.int .u8 90))), some (12, true)⟩,
 ⟨some 15, .pick (.t 12) (.t 14) (.c (.bool false)), some (9, false)⟩,
 ⟨some 16, .pick (.t 9) (.c (.bool true)) (.t 15), none⟩,
 ⟨some 2, .p (.mv (.t 16)), none⟩]
def c339 : XFn := { np := 1, nt := 17, res := [.t 2], body := (.seq (.reg c339_r0) (.seq (.reg c339_r1) .ret)) }
def K339 (C : CRel) : Prop := ∀ (a0 : UInt8) (r : Bool), g339 a0 = some r → C 339 ⟨[.int .u8 ((a0).toNat : Int)], []⟩ ⟨.bool r, [], []⟩
theorem F339 {C : CRel}  (a0 : UInt8) (r : Bool) (h0 : g339 a0 = some r) : FnOK C c339 ⟨[.int .u8 ((a0).toNat : Int)], []⟩ ⟨.bool r, [], []⟩ := by
  refine fn_ (Nat.le_of_ble_eq_true rfl) ?_
  refine seq_ ?_
  refine reg_ ?_
  refine st (mvc_ trivial ?_)
  refine oe_ ?_
  refine wk_ ⟨[(0, .int .u8 ((a0).toNat : Int))], [], []⟩ (fgk (by kernel_rfl)) ?_
  refine seq_ ?_
  refine reg_ ?_
  refine st (mv_ rfl trivial ?_)
  refine st (c_ (cp_ ⟨trivial, trivial, trivial⟩ rfl trivial) ?_)
  refine st (mv_ rfl trivial ?_)
  refine st (pg_ (u := .int .u8 ((a0).toNat : Int)) rfl (fun hg => (cmv (v := .int .u8 ((a0).toNat : Int)) rfl trivial)) ?_)
  refine st (pg_ (u := .bool (decide (((a0).toNat : Int) ≤ 122))) rfl (fun hg => (cp_ ⟨(fun _ => hg), trivial, trivial⟩ rfl trivial)) ?_)
  refine st (pick_ rfl rfl rfl (fun h => eqt h) trivial rfl ?_)
  refine st (mv_ rfl trivial ?_)
  refine st (pg_ (u := .int .u8 ((a0).toNat : Int)) rfl (fun hg => (cmv (v := .int .u8 ((a0).toNat : Int)) rfl trivial)) ?_)
  refine st (pg_ (u := .bool (decide (((a0).toNat : Int) ≥ 65))) rfl (fun hg => (cp_ ⟨(fun _ => hg), trivial, trivial⟩ rfl trivial)) ?_)
  refine st (pg_ (u := .bool (decide (((a0).toNat : Int) ≥ 65))) rfl (fun hg => (cmv (v := .may ((bif (decide (((a0).toNat : Int) ≥ 97)) then (decide (((a0).toNat : Int) ≤ 122)) else false) == false) (.bool (decide (((a0).toNat : Int) ≥ 65)))) rfl (fun _ => hg))) ?_)
  refine st (pg_ (u := .int .u8 ((a0).toNat : Int)) rfl (fun hg => (cmv (v := .int .u8 ((a0).toNat : Int)) rfl trivial)) ?_)
  refine st (pg_ (u := .bool (decide (((a0).toNat : Int) ≤ 90))) rfl (fun hg => (cp_ ⟨(fun _ => hg), trivial, trivial⟩ rfl trivial)) ?_)
  refine st (pickg_ (u := .bool (bif (decide (((a0).toNat : Int) ≥ 65)) then (decide (((a0).toNat : Int) ≤ 90)) else false)) rfl (fun hg => cpick rfl rfl (fun _ => hg) rfl rfl (fun h => and_ hg (eqt h)) trivial rfl) ?_)
  refine st (pick_ rfl rfl rfl trivial (fun h => eqf h) rfl ?_)
  refine st (mv_ rfl trivial ?_)
  refine oe_ ?_
  obtain ⟨v1, e2, h0⟩ := bl h0
  refine wk_ ⟨[(2, .bool v1)], [], []⟩ (fgk (by subst e2; kernel_rfl)) ?_
  obtain rfl := Option.some.inj h0
  exact rt_ (ret_ rfl rfl rfl rfl rfl trivial)

/- loop.example/g00149/impl.isDigit -/
def c340_r0 : List Ins := [⟨some 2, .p (.mv (.c (.bool false))), none⟩]
def c340_r1 : List Ins := [⟨some 3, .p (.mv (.t 0)), none⟩,
 ⟨some 4, .p (.bin .geq (.t 3) (.c (.int .u8 48))), none⟩,
 ⟨some 5, .p (.mv (.t 4)), none⟩,
 ⟨some 6, .p (.mv (.t 0)), some (5, true)⟩,
 ⟨some 7, .p (.bin .leq (.t 6) (.c (.int .u8 57))), some (5, true)⟩,
 ⟨some 8, .pick (.t 5) (.t 7) (.c (.bool false)), none⟩,
 ⟨some 2, .p (.mv (.t 8)), none⟩]
def c340 : XFn := { np := 1, nt := 9, res := [.t 2], body := (.seq (.reg c340_r0) (.seq (.reg c340_r1) .ret)) }
def K340 (C : CRel) : Prop := ∀ (a0 : UInt8) (r : Bool), g340 a0 = some r → C 340 ⟨[.int .u8 ((a0).toNat : Int)], []⟩ ⟨.bool r, [], []⟩
theorem F340 {C : CRel}  (a0 : UInt8) (r : Bool) (h0 : g340 a0 = some r) : FnOK C c340 ⟨[.int .u8 ((a0).toNat : Int)], []⟩ ⟨.bool r, [], []⟩ := by
  refine fn_ (Nat.le_of_ble_eq_true rfl) ?_
  refine seq_ ?_
  refine reg_ ?_
  refine st (mvc_ trivial ?_)
  refine oe_ ?_
  refine wk_ ⟨[(0, .int .u8 ((a0).toNat : Int))], [], []⟩ (fgk (by kernel_rfl)) ?_
  refine seq_ ?_
  refine reg_ ?_
  refine st (mv_ rfl trivial ?_)
  refine st (c_ (cp_ ⟨trivial, trivial, trivial⟩ rfl trivial) ?_)
  refine st (mv_ rfl trivial ?_)
  refine st (pg_ (u := .int .u8 ((a0).toNat : Int)) rfl (fun hg => (cmv (v := .int .u8 ((a0).toNat : Int)) rfl trivial)) ?_)
  refine st (pg_ (u := .bool (decide (((a0).toNat : Int) ≤ 57))) rfl (fun hg => (cp_ ⟨(fun _ => hg), trivial, trivial⟩ rfl trivial)) ?_)
  refine st (pick_ rfl rfl rfl (fun h => eqt h) trivial rfl ?_)
  refine st (mv_ rfl trivial ?_)
  refine oe_ ?_
  obtain ⟨v1, e2, h0⟩ := bl h0
  refine wk_ ⟨[(2, .bool v1)], [], []⟩ (fgk (by subst e2; kernel_rfl)) ?_
  obtain rfl := Option.some.inj h0
  exact rt_ (ret_ rfl rfl rfl rfl rfl trivial)

/- internal/stringslite.IndexByte -/
def c370_r0 : List Ins := [⟨some 4, .p (.mv (.c (.int .i64 0))), none⟩]
def c370_r1 : List Ins := [⟨some 5, .p (.mv (.t 0)), none⟩,
 ⟨some 6, .p (.mv (.t 1)), none⟩,
 ⟨some 7, .p (.xbyte (.t 5) (.t 6)), none⟩,
 ⟨some 4, .p (.mv (.t 7)), none⟩]
def c370 : XFn := { np := 2, nt := 8, res := [.t 4], body := (.seq (.reg c370_r0) (.seq (.reg c370_r1) .ret)) }
def K370 (C : CRel) : Prop := ∀ (a0 : List UInt8) (a1 : UInt8) (r : Int), g370 a0 a1 = some r → C 370 ⟨[.str a0, .int .u8 ((a1).toNat : Int)], []⟩ ⟨.int .i64 r, [], []⟩
theorem F370 {C : CRel}  (a0 : List UInt8) (a1 : UInt8) (r : Int) (h0 : g370 a0 a1 = some r) : FnOK C c370 ⟨[.str a0, .int .u8 ((a1).toNat : Int)], []⟩ ⟨.int .i64 r, [], []⟩ := by
  refine fn_ (Nat.le_of_ble_eq_true rfl) ?_
  refine seq_ ?_
  refine reg_ ?_
  refine st (mvc_ trivial ?_)
  refine oe_ ?_
  refine wk_ ⟨[(0, .str a0), (1, .int .u8 ((a1).toNat : Int))], [], []⟩ (fgk (by kernel_rfl)) ?_
  refine seq_ ?_
  refine reg_ ?_
  refine st (mv_ rfl trivial ?_)
  refine st (mv_ rfl trivial ?_)
  refine st (c_ (cxbyte rfl rfl trivial rfl rfl trivial) ?_)
  refine st (mv_ rfl trivial ?_)
  refine oe_ ?_
  refine wk_ ⟨[(4, .int .i64 (byteAt a0 ((a1).toNat : Int)))], [], []⟩ (fgk (by kernel_rfl)) ?_
  obtain rfl := Option.some.inj h0
  exact rt_ (ret_ rfl rfl rfl rfl rfl trivial)

/- strings.IndexByte -/
def c341_r0 : List Ins := [⟨some 4, .p (.mv (.c (.int .i64 0))), none⟩]
def c341_r1 : List Ins := [⟨some 5, .p (.mv (.t 0)), none⟩,
 ⟨some 6, .p (.mv (.t 1)), none⟩,
 ⟨some 7, .call 370 [(.t 5), (.t 6)], none⟩,
 ⟨some 4, .p (.mv (.t 7)), none⟩]
def c341 : XFn := { np := 2, nt := 8, res := [.t 4], body := (.seq (.reg c341_r0) (.seq (.reg c341_r1) .ret)) }
def K341 (C : CRel) : Prop := ∀ (a0 : List UInt8) (a1 : UInt8) (r : Int), g341 a0 a1 = some r → C 341 ⟨[.str a0, .int .u8 ((a1).toNat : Int)], []⟩ ⟨.int .i64 r, [], []⟩
theorem F341 {C : CRel} (H370 : K370 C) (a0 : List UInt8) (a1 : UInt8) (r : Int) (h0 : g341 a0 a1 = some r) : FnOK C c341 ⟨[.str a0, .int .u8 ((a1).toNat : Int)], []⟩ ⟨.int .i64 r, [], []⟩ := by
  refine fn_ (Nat.le_of_ble_eq_true rfl) ?_
  refine seq_ ?_
  refine reg_ ?_
  refine st (mvc_ trivial ?_)
  refine oe_ ?_
  refine wk_ ⟨[(0, .str a0), (1, .int .u8 ((a1).toNat : Int))], [], []⟩ (fgk (by kernel_rfl)) ?_
  refine seq_ ?_
  refine reg_ ?_
  refine st (mv_ rfl trivial ?_)
  refine st (mv_ rfl trivial ?_)
  obtain ⟨r1, e2, h0⟩ := bnd h0
  refine st (call0_ (r := .int .i64 r1) false (H370 a0 a1 r1 e2) ⟨trivial, trivial, trivial⟩ rfl rfl (fun _ => rfl) ?_)
  refine st (mv_ rfl trivial ?_)
  refine oe_ ?_
  refine wk_ ⟨[(4, .int .i64 r1)], [], []⟩ (fgk (by kernel_rfl)) ?_
  obtain rfl := Option.some.inj h0
  exact rt_ (ret_ rfl rfl rfl rfl rfl trivial)

/- loop.example/g00149/impl.isPrintable$1 -/
def c338_r0 : List Ins := [⟨some 2, .p (.mv (.c (.bool false))), none⟩]
def c338_r1 : List Ins := [⟨some 3, .p (.mv (.t 0)), none⟩,
 ⟨some 4, .call 339 [(.t 3)], none⟩,
 ⟨some 5, .p (.mv (.t 4)), none⟩,
 ⟨some 6, .p (.mv (.t 0)), some (5, false)⟩,
 ⟨some 7, .call 340 [(.t 6)], some (5, false)⟩,
 ⟨some 8, .pick (.t 5) (.c (.bool true)) (.t 7), none⟩,
 ⟨some 9, .p (.mv (.t 8)), none⟩,
 ⟨some 10, .p (.mv (.t 0)), some (9, false)⟩,
 ⟨some 11, .call 341 [(.c (.str [39, 40, 41, 43, 44, 45, 46, 47, 58, 61, 63, 32])), (.t 10)], some (9, false)⟩,
 ⟨some 12, .p (.bin .geq (.t 11) (.c (.int .i64 0))), some (9, false)⟩,
 ⟨some 13, .pick (.t 9) (.c (.bool true)) (.t 12), none⟩,
 ⟨some 2, .p (.mv (.t 13)), none⟩]
def c338 : XFn := { np := 1, nt := 14, res := [.t 2], body := (.seq (.reg c338_r0) (.seq (.reg c338_r1) .ret)) }
def K338 (C : CRel) : Prop := ∀ (a0 : UInt8) (r : Bool), g338 a0 = some r → C 338 ⟨[.int .u8 ((a0).toNat : Int)], []⟩ ⟨.bool r, [], []⟩
theorem F338 {C : CRel} (H339 : K339 C) (H340 : K340 C) (H341 : K341 C) (a0 : UInt8) (r : Bool) (h0 : g338 a0 = some r) : FnOK C c338 ⟨[.int .u8 ((a0).toNat : Int)], []⟩ ⟨.bool r, [], []⟩ := by
  refine fn_ (Nat.le_of_ble_eq_true rfl) ?_
  refine seq_ ?_
  refine reg_ ?_
  refine st (mvc_ trivial ?_)
  refine oe_ ?_
  refine wk_ ⟨[(0, .int .u8 ((a0).toNat : Int))], [], []⟩ (fgk (by kernel_rfl)) ?_
  refine seq_ ?_
  refine reg_ ?_
  refine st (mv_ rfl trivial ?_)
  obtain ⟨r1, e2, h0⟩ := bnd h0
  refine st (call0_ (r := .bool r1) false (H339 a0 r1 e2) ⟨trivial, trivial⟩ rfl rfl (fun _ => rfl) ?_)
  refine st (mv_ rfl trivial ?_)
  refine st (pg_ (u := .int .u8 ((a0).toNat : Int)) rfl (fun hg => (cmv (v := .int .u8 ((a0).toNat : Int)) rfl trivial)) ?_)
  obtain ⟨r3, e4, h0⟩ := bnd h0
  refine sw ⟨[(0, .int .u8 ((a0).toNat : Int)), (5, .bool r1), (6, .may (r1 == false) (.int .u8 ((a0).toNat : Int)))], [], []⟩ (fgk (by kernel_rfl)) (callg_ (r := .bool r3) rfl false (fun hg => H340 a0 r3 (ip hg e4)) ⟨(fun hg => hg), trivial⟩ (fun _ => rfl) (fun _ => rfl) (fun _ => rfl) (fun h => nomatch h) ?_)
  refine st (pick_ rfl rfl rfl trivial (fun h => eqf h) rfl ?_)
  refine st (mv_ rfl trivial ?_)
  refine st (pg_ (u := .int .u8 ((a0).toNat : Int)) rfl (fun hg => (cmv (v := .int .u8 ((a0).toNat : Int)) rfl trivial)) ?_)
  obtain ⟨r5, e6, h0⟩ := bnd h0
  refine sw ⟨[(9, .bool (bif r1 then true else r3)), (10, .may ((bif r1 then true else r3) == false) (.int .u8 ((a0).toNat : Int)))], [], []⟩ (fgk (by kernel_rfl)) (callg_ (r := .int .i64 r5) rfl false (fun hg => H341 ([39, 40, 41, 43, 44, 45, 46, 47, 58, 61, 63, 32] : List UInt8) a0 r5 (ip hg e6)) ⟨trivial, (fun hg => hg), trivial⟩ (fun _ => rfl) (fun _ => rfl) (fun _ => rfl) (fun h => nomatch h) ?_)
  refine st (pg_ (u := .bool (decide (r5 ≥ 0))) rfl (fun hg => (cp_ ⟨(fun _ => hg), trivial, trivial⟩ rfl trivial)) ?_)
  refine st (pick_ rfl rfl rfl trivial (fun h => eqf h) rfl ?_)
  refine st (mv_ rfl trivial ?_)
  refine oe_ ?_
  refine wk_ ⟨[(2, .bool (bif (bif r1 then true else r3) then true else (decide (r5 ≥ 0))))], [], []⟩ (fgk (by kernel_rfl)) ?_
  obtain rfl := Option.some.inj h0
  exact rt_ (ret_ rfl rfl rfl rfl rfl trivial)

/- loop.example/g00149/impl.isPrintable -/
def c283_r0 : List Ins := [⟨some 2, .p (.mv (.c (.bool false))), none⟩]
def c283_r1 : List Ins := [⟨some 3, .p (.mv (.t 0)), none⟩,
 ⟨some 4, .toBytes (.t 3), none⟩,
 ⟨some 5, .call 337 [(.t 4), (.c (.clo 338 []))], none⟩,
 ⟨some 2, .p (.mv (.t 5)), none⟩]
def c283 : XFn := { np := 1, nt := 6, res := [.t 2], body := (.seq (.reg c283_r0) (.seq (.reg c283_r1) .ret)) }
def K283 (C : CRel) : Prop := ∀ (a0 : List UInt8) (r : Bool), g283 a0 = some r → C 283 ⟨[.str a0], []⟩ ⟨.bool r, [], []⟩
theorem F283 {C : CRel} (H337 : K337 C) (H338 : K338 C) (a0 : List UInt8) (r : Bool) (h0 : g283 a0 = some r) : FnOK C c283 ⟨[.str a0], []⟩ ⟨.bool r, [], []⟩ := by
  refine fn_ (Nat.le_of_ble_eq_true rfl) ?_
  refine seq_ ?_
  refine reg_ ?_
  refine st (mvc_ trivial ?_)
  refine oe_ ?_
  refine wk_ ⟨[(0, .str a0)], [], []⟩ (fgk (by kernel_rfl)) ?_
  refine seq_ ?_
  refine reg_ ?_
  refine st (mv_ rfl trivial ?_)
  refine st (toBytes_ rfl ?_)
  obtain ⟨r1, e2, h0⟩ := bnd h0
  refine st (call0_ (r := .bool r1) false (H337 a0 338 [] (fun z338_0 => g338 z338_0) (⟨fun _ _ _ _ _ => rfl, fun _ _ _ _ _ => rfl, rfl, fun _ _ _ n => by cases n <;> rfl, fun _ => rfl⟩) (fun z338_0 r h => H338 z338_0 r h) r1 e2) ⟨trivial, trivial, trivial⟩ rfl rfl (fun _ => rfl) ?_)
  refine st (mv_ rfl trivial ?_)
  refine oe_ ?_
  refine wk_ ⟨[(2, .bool r1)], [], []⟩ (fgk (by kernel_rfl)) ?_
  obtain rfl := Option.some.inj h0
  exact rt_ (ret_ rfl rfl rfl rfl rfl trivial)

/- loop.example/g00149/impl.isSubject -/
def c281_r0 : List Ins := [⟨some 2, .p (.mv (.c (.bool false))), none⟩]
def c281_r1 : List Ins := [⟨some 3, .p (.mv (.t 0)), none⟩,
 ⟨some 4, .p (.lenS (.t 3)), none⟩,
 ⟨some 5, .call 63 [(.t 4), (.c (.int .i64 1)), (.c (.int .i64 40))], none⟩,
 ⟨some 6, .p (.mv (.t 5)), none⟩,
 ⟨some 7, .p (.mv (.t 0)), some (6, true)⟩,
 ⟨some 8, .call 283 [(.t 7)], some (6, true)⟩,
 ⟨some 9, .pick (.t 6) (.t 8) (.c (.bool false)), none⟩,
 ⟨some 2, .p (.mv (.t 9)), none⟩]
def c281 : XFn := { np := 1, nt := 10, res := [.t 2], body := (.seq (.reg c281_r0) (.seq (.reg c281_r1) .ret)) }
def K281 (C : CRel) : Prop := ∀ (a0 : List UInt8) (r : Bool), g281 a0 = some r → C 281 ⟨[.str a0], []⟩ ⟨.bool r, [], []⟩
theorem F281 {C : CRel} (H63 : K63 C) (H283 : K283 C) (a0 : List UInt8) (r : Bool) (h0 : g281 a0 = some r) : FnOK C c281 ⟨[.str a0], []⟩ ⟨.bool r, [], []⟩ := by
  refine fn_ (Nat.le_of_ble_eq_true rfl) ?_
  refine seq_ ?_
  refine reg_ ?_
  refine st (mvc_ trivial ?_)
  refine oe_ ?_
  refine wk_ ⟨[(0, .str a0)], [], []⟩ (fgk (by kernel_rfl)) ?_
  refine seq_ ?_
  refine reg_ ?_
  refine st (mv_ rfl trivial ?_)
  refine st (c_ (cp_ ⟨trivial, trivial⟩ rfl trivial) ?_)
  obtain ⟨r1, e2, h0⟩ := bnd h0
  refine st (call0_ (r := .bool r1) false (H63 (a0.length : Int) 1 40 r1 e2) ⟨trivial, trivial, trivial, trivial⟩ rfl rfl (fun _ => rfl) ?_)
  refine st (mv_ rfl trivial ?_)
  refine st (pg_ (u := .str a0) rfl (fun hg => (cmv (v := .str a0) rfl trivial)) ?_)
  obtain ⟨r3, e4, h0⟩ := bnd h0
  refine sw ⟨[(6, .bool r1), (7, .may (r1 == true) (.str a0))], [], []⟩ (fgk (by kernel_rfl)) (callg_ (r := .bool r3) rfl false (fun hg => H283 a0 r3 (ip hg e4)) ⟨(fun hg => hg), trivial⟩ (fun _ => rfl) (fun _ => rfl) (fun _ => rfl) (fun h => nomatch h) ?_)
  refine st (pick_ rfl rfl rfl (fun h => eqt h) trivial rfl ?_)
  refine st (mv_ rfl trivial ?_)
  refine oe_ ?_
  refine wk_ ⟨[(2, .bool (bif r1 then r3 else false))], [], []⟩ (fgk (by kernel_rfl)) ?_
  obtain rfl := Option.some.inj h0
  exact rt_ (ret_ rfl rfl rfl rfl rfl trivial)

/- loop.example/g00149/impl.isSeed -/
def c282_r0 : List Ins := [⟨some 2, .p (.mv (.c (.bool false))), none⟩]
def c282_r1 : List Ins := [⟨some 3, .p (.mv (.t 0)), none⟩,
 ⟨some 4, .p (.len (.t 3)), none⟩,
 ⟨some 5, .p (.bin .eql (.t 4) (.c (.int .i64 32))), none⟩,
 ⟨some 2, .p (.mv (.t 5)), none⟩]
def c282 : XFn := { np := 1, nt := 6, res := [.t 2], body := (.seq (.reg c282_r0) (.seq (.reg c282_r1) .ret)) }
def K282 (C : CRel) : Prop := ∀ (a0 : List UInt8) (r : Bool), g282 a0 = some r → C 282 ⟨[.lst 1 (a0.map eU8)], []⟩ ⟨.bool r, [], []⟩
theorem F282 {C : CRel}  (a0 : List UInt8) (r : Bool) (h0 : g282 a0 = some r) : FnOK C c282 ⟨[.lst 1 (a0.map eU8)], []⟩ ⟨.bool r, [], []⟩ := by
  refine fn_ (Nat.le_of_ble_eq_true rfl) ?_
  refine seq_ ?_
  refine reg_ ?_
  refine st (mvc_ trivial ?_)
  refine oe_ ?_
  refine wk_ ⟨[(0, .lst 1 (a0.map eU8))], [], []⟩ (fgk (by kernel_rfl)) ?_
  refine seq_ ?_
  refine reg_ ?_
  refine st (mv_ rfl trivial ?_)
  refine st (c_ (clenL (e := eU8) (l0 := a0) rfl rfl trivial) ?_)
  refine st (c_ (cp_ ⟨trivial, trivial, trivial⟩ rfl trivial) ?_)
  refine st (mv_ rfl trivial ?_)
  refine oe_ ?_
  refine wk_ ⟨[(2, .bool ((a0.length : Int) == 32))], [], []⟩ (fgk (by kernel_rfl)) ?_
  obtain rfl := Option.some.inj h0
  exact rt_ (ret_ rfl rfl rfl rfl rfl trivial)

/- loop.example/g00149/impl.serials -/
def c284_r0 : List Ins := [⟨some 2, .nilS 1, none⟩]
def c284_r1 : List Ins := [⟨some 3, .nilS 1, none⟩]
def c284_r2 : List Ins := [⟨some 6, .p (.mv (.t 0)), none⟩,
 ⟨some 7, .p (.len (.t 6)), none⟩,
 ⟨some 8, .p (.mv (.c (.int .i64 0))), none⟩]
def c284_r3 : List Ins := [⟨some 9, .p (.bin .lss (.t 8) (.t 7)), none⟩]
def c284_r4 : List Ins := [⟨some 10, .p (.idxA (.t 6) (.t 8) 4), none⟩,
 ⟨some 11, .p (.load (.t 10) 4 true), none⟩,
 ⟨some 5, .alloc [(.int .i64 0), (.int .i64 0), (.str []), (.bool false)], none⟩,
 ⟨none, .store (.t 5) (.t 11) 4, none⟩]
def c284_r5 : List Ins := [⟨some 12, .p (.mv (.t 3)), none⟩,
 ⟨some 13, .p (.fieldA (.t 5) 0), none⟩,
 ⟨some 14, .p (.load (.t 13) 1 false), none⟩,
 ⟨some 15, .mkS 1 [(.int .i64 0)] 1 [(0, (.t 14))], none⟩,
 ⟨some 16, .app 1 8 (.t 12) (.t 15), none⟩,
 ⟨some 3, .p (.mv (.t 16)), none⟩]
def c284_r6 : List Ins := [⟨some 17, .p (.bin .add (.t 8) (.c (.int .i64 1))), none⟩,
 ⟨some 8, .p (.mv (.t 17)), none⟩]
def c284_l0 : IR := (.seq (.reg c284_r3) (.seq (.ite (.t 9) .skip (.exit 0)) (.seq (.block 1 (.seq (.reg c284_r4) (.reg c284_r5))) (.reg c284_r6))))
def c284_r7 : List Ins := [⟨some 18, .p (.mv (.t 3)), none⟩,
 ⟨some 2, .p (.mv (.t 18)), none⟩]
def c284 : XFn := { np := 1, nt := 19, res := [.t 2], body := (.seq (.reg c284_r0) (.seq (.reg c284_r1) (.seq (.seq (.reg c284_r2) (.block 0 (.loop c284_l0))) (.seq (.reg c284_r7) .ret)))) }
def K284 (C : CRel) : Prop := ∀ (a0 : List DIssued) (r : (List Int)), g284 a0 = some r → C 284 ⟨[.lst 4 (a0.map eDIssued)], []⟩ ⟨.own 0 0 1 (r.map eI), [], []⟩
theorem F284 {C : CRel}  (a0 : List DIssued) (r : (List Int)) (h0 : g284 a0 = some r) : FnOK C c284 ⟨[.lst 4 (a0.map eDIssued)], []⟩ ⟨.own 0 0 1 (r.map eI), [], []⟩ := by
  refine fn_ (Nat.le_of_ble_eq_true rfl) ?_
  refine seq_ ?_
  refine reg_ ?_
  refine st (nilS_ ?_)
  refine oe_ ?_
  refine wk_ ⟨[(0, .lst 4 (a0.map eDIssued))], [], []⟩ (fgk (by kernel_rfl)) ?_
  refine seq_ ?_
  refine reg_ ?_
  refine st (nilS_ ?_)
  refine oe_ ?_
  refine wk_ ⟨[(0, .lst 4 (a0.map eDIssued)), (3, .own 192 0 1 ([].map eI))], [], []⟩ (fgk (by kernel_rfl)) ?_
  refine seq_ ?_
  refine seq_ ?_
  refine reg_ ?_
  refine st (mv_ rfl trivial ?_)
  refine st (c_ (clenL (e := eDIssued) (l0 := a0) rfl rfl trivial) ?_)
  refine st (mvc_ trivial ?_)
  refine oe_ ?_
  refine wk_ ⟨[(3, .own 192 0 1 ([].map eI)), (6, .lst 4 (a0.map eDIssued)), (7, .int .i64 (a0.length : Int)), (8, .int .i64 0)], [], []⟩ (fgk (by kernel_rfl)) ?_
  refine block_ ?_
  obtain ⟨r18, e19, h0⟩ := bnd h0
  refine loop_ (R := (fun S => ∃ p13 : List Int, p13 = r18 ∧ S = ⟨[(3, .own 192 0 1 (p13.map eI))], [], []⟩)) (g284_l0 a0) (fun s S => match s with | (p5, p6) => S = ⟨[(3, .own 192 0 1 (p5.map eI)), (6, .lst 4 (a0.map eDIssued)), (7, .int .i64 (a0.length : Int)), (8, .int .i64 p6)], [], []⟩) e19 ⟨[(3, .own 192 0 1 ([].map eI)), (6, .lst 4 (a0.map eDIssued)), (7, .int .i64 (a0.length : Int)), (8, .int .i64 0)], [], []⟩ (fgk (by kernel_rfl)) rfl 0 (fun _ => rfl) ?_ ?_
  · rintro S _ hfg ⟨p13, rfl, rfl⟩
    refine wk_ ⟨[(3, .own 192 0 1 (p13.map eI))], [], []⟩ (fglk hfg (by kernel_rfl)) ?_
    refine seq_ ?_
    refine reg_ ?_
    refine st (mv_ rfl trivial ?_)
    refine st (mv_ rfl trivial ?_)
    refine oe_ ?_
    refine wk_ ⟨[(2, .own 192 0 1 (p13.map eI))], [], []⟩ (fgk (by kernel_rfl)) ?_
    obtain rfl := Option.some.inj h0
    exact rt_ (ret_ rfl rfl rfl rfl rfl trivial)
  · rintro ⟨p5, p6⟩ o1 _ K1 rfl h1 hx1 hK1 hE1 hR1
    refine seq_ ?_
    refine reg_ ?_
    refine st (c_ (cp_ ⟨trivial, trivial, trivial⟩ rfl trivial) ?_)
    refine oe_ ?_
    refine wk_ ⟨[(3, .own 192 0 1 (p5.map eI)), (6, .lst 4 (a0.map eDIssued)), (7, .int .i64 (a0.length : Int)), (8, .int .i64 p6), (9, .bool (decide (p6 < (a0.length : Int))))], [], []⟩ (fgk (by kernel_rfl)) ?_
    refine seq_ ?_
    refine ite_ (cb := (decide (p6 < (a0.length : Int)))) rfl (fun c14 => ?_) (fun c14 => ?_)
    · replace h1 := ip c14 h1
      refine sk_ ?_
      refine wk_ ⟨[(3, .own 192 0 1 (p5.map eI)), (6, .lst 4 (a0.map eDIssued)), (7, .int .i64 (a0.length : Int)), (8, .int .i64 p6)], [], []⟩ (fgk (by kernel_rfl)) ?_
      refine seq_ ?_
      refine block_ ?_
      refine seq_ ?_
      refine reg_ ?_
      obtain ⟨y15, e16, h1⟩ := bnd h1
      refine st (c_ (cidxL (e := eDIssued) (y := y15) rfl rfl trivial rfl rfl trivial e16) ?_)
      refine st (c_ (v := .agg [.int .i64 y15.serial, .int .i64 y15.to_, .str y15.subject, .bool y15.revoked]) (cp_ ⟨trivial, trivial⟩ rfl (Nat.le_of_ble_eq_true rfl)) ?_)
      refine st (alloc_ ?_)
      refine st (stp_ rfl rfl trivial rfl rfl rfl (Nat.le_of_ble_eq_true rfl) ?_)
      refine oe_ ?_
      refine wk_ ⟨[(3, .own 192 0 1 (p5.map eI)), (5, .ptr 320 0), (6, .lst 4 (a0.map eDIssued)), (7, .int .i64 (a0.length : Int)), (8, .int .i64 p6)], [(320, [.int .i64 y15.serial, .int .i64 y15.to_, .str y15.subject, .bool y15.revoked])], []⟩ (fgk (by kernel_rfl)) ?_
      refine reg_ ?_
      refine st (mv_ rfl trivial ?_)
      refine st (c_ (cp_ ⟨trivial, trivial⟩ rfl trivial) ?_)
      refine st (c_ (cp_ ⟨trivial, trivial⟩ rfl (Nat.le_of_ble_eq_true rfl)) ?_)
      refine st (mkS_ ⟨trivial, trivial⟩ ⟨⟨Nat.le_of_ble_eq_true rfl, rfl, rfl⟩, trivial⟩ ?_)
      obtain ⟨c17, h1⟩ := grd h1
      refine st (app_ (e := eI) (l0 := p5) (l1 := ([y15.serial] : List Int)) rfl rfl trivial rfl (by decide) c17 ?_)
      refine st (mv_ rfl trivial ?_)
      refine oe_ ?_
      refine bn_ ?_
      refine wk_ ⟨[(3, .own 192 0 1 ((p5 ++ ([y15.serial] : List Int)).map eI)), (6, .lst 4 (a0.map eDIssued)), (7, .int .i64 (a0.length : Int)), (8, .int .i64 p6)], [], []⟩ (fgk (by kernel_rfl)) ?_
      refine reg_ ?_
      refine st (c_ (cp_ ⟨trivial, trivial, trivial⟩ rfl trivial) ?_)
      refine st (mv_ rfl trivial ?_)
      refine oe_ ?_
      obtain rfl := Option.some.inj h1
      exact hK1 _ rfl _ ⟨[(3, .own 192 0 1 ((p5 ++ ([y15.serial] : List Int)).map eI)), (6, .lst 4 (a0.map eDIssued)), (7, .int .i64 (a0.length : Int)), (8, .int .i64 (IntKind.i64.wrap (p6 + 1)))], [], []⟩ (fgk (by kernel_rfl)) rfl
    · replace h1 := inb c14 h1
      obtain rfl := Option.some.inj h1
      obtain rfl := hx1 _ rfl
      refine exQ rfl ?_
      exact hE1 _ ⟨[(3, .own 192 0 1 (p5.map eI))], [], []⟩ (fgk (by kernel_rfl)) ⟨_, rfl, rfl⟩

/- slices.IndexFunc[[]loop.example/g00149/impl.Issued,loop.example/g00149/impl.Issued] -/
def c371_r0 : List Ins := [⟨some 4, .p (.mv (.c (.int .i64 0))), none⟩]
def c371_r1 : List Ins := [⟨some 6, .p (.mv (.t 0)), none⟩,
 ⟨some 7, .p (.len (.t 6)), none⟩,
 ⟨some 8, .p (.mv (.c (.int .i64 0))), none⟩]
def c371_r2 : List Ins := [⟨some 9, .p (.bin .lss (.t 8) (.t 7)), none⟩]
def c371_r3 : List Ins := [⟨some 10, .p (.mv (.t 8)), none⟩,
 ⟨some 5, .p (.mv (.t 10)), none⟩]
def c371_r4 : List Ins := [⟨some 11, .p (.mv (.t 1)), none⟩,
 ⟨some 12, .p (.mv (.t 0)), none⟩,
 ⟨some 13, .p (.mv (.t 5)), none⟩,
 ⟨some 14, .p (.idxA (.t 12) (.t 13) 4), none⟩,
 ⟨some 15, .p (.load (.t 14) 4 true), none⟩,
 ⟨some 16, .callv (.t 11) [(.t 15)], none⟩]
def c371_r5 : List Ins := [⟨some 17, .p (.mv (.t 5)), none⟩,
 ⟨some 4, .p (.mv (.t 17)), none⟩]
def c371_r6 : List Ins := [⟨some 18, .p (.bin .add (.t 8) (.c (.int .i64 1))), none⟩,
 ⟨some 8, .p (.mv (.t 18)), none⟩]
def c371_l0 : IR := (.seq (.reg c371_r2) (.seq (.ite (.t 9) .skip (.exit 0)) (.seq (.block 1 (.seq (.reg c371_r3) (.seq (.reg c371_r4) (.ite (.t 16) (.seq (.reg c371_r5) .ret) .skip)))) (.reg c371_r6))))
def c371_r7 : List Ins := [⟨some 4, .p (.mv (.c (.int .i64 (-1)))), none⟩]
def c371 : XFn := { np := 2, nt := 19, res := [.t 4], body := (.seq (.reg c371_r0) (.seq (.seq (.reg c371_r1) (.block 0 (.loop c371_l0))) (.seq (.reg c371_r7) .ret))) }
def K371 (C : CRel) : Prop := ∀ (a0 : List DIssued) (f1 : Nat) (k1 : List V) (is1 : DIssued → Option Bool) (hs1 : Shut k1) (hf1 : ∀ (x0 : DIssued) r, is1 x0 = some r → C f1 ⟨.agg [.int .i64 x0.serial, .int .i64 x0.to_, .str x0.subject, .bool x0.revoked] :: k1, []⟩ ⟨.bool r, [], []⟩) (r : Int), g371 a0 is1 = some r → C 371 ⟨[.lst 4 (a0.map eDIssued), .clo f1 k1], []⟩ ⟨.int .i64 r, [], []⟩
theorem F371 {C : CRel}  (a0 : List DIssued) (f1 : Nat) (k1 : List V) (is1 : DIssued → Option Bool) (hs1 : Shut k1) (hf1 : ∀ (x0 : DIssued) r, is1 x0 = some r → C f1 ⟨.agg [.int .i64 x0.serial, .int .i64 x0.to_, .str x0.subject, .bool x0.revoked] :: k1, []⟩ ⟨.bool r, [], []⟩) (r : Int) (h0 : g371 a0 is1 = some r) : FnOK C c371 ⟨[.lst 4 (a0.map eDIssued), .clo f1 k1], []⟩ ⟨.int .i64 r, [], []⟩ := by
  refine fn_ (Nat.le_of_ble_eq_true rfl) ?_
  refine seq_ ?_
  refine reg_ ?_
  refine st (mvc_ trivial ?_)
  refine oe_ ?_
  refine wk_ ⟨[(0, .lst 4 (a0.map eDIssued)), (1, .clo f1 k1)], [], []⟩ (fg ⟨rfl, rfl, trivial⟩ trivial) ?_
  refine seq_ ?_
  refine seq_ ?_
  refine reg_ ?_
  refine st (mv_ rfl trivial ?_)
  refine st (c_ (clenL (e := eDIssued) (l0 := a0) rfl rfl trivial) ?_)
  refine st (mvc_ trivial ?_)
  refine oe_ ?_
  refine wk_ ⟨[(0, .lst 4 (a0.map eDIssued)), (1, .clo f1 k1), (7, .int .i64 (a0.length : Int)), (8, .int .i64 0)], [], []⟩ (fg ⟨rfl, rfl, rfl, rfl, trivial⟩ trivial) ?_
  refine block_ ?_
  obtain ⟨r21, e22, h0⟩ := bnd h0
  refine loop_ (R := (fun S => .inl () = r21 ∧ S = ⟨[], [], []⟩)) (g371_l0 a0 is1) (fun s S => match s with | p7 => S = ⟨[(0, .lst 4 (a0.map eDIssued)), (1, .clo f1 k1), (7, .int .i64 (a0.length : Int)), (8, .int .i64 p7)], [], []⟩) e22 ⟨[(0, .lst 4 (a0.map eDIssued)), (1, .clo f1 k1), (7, .int .i64 (a0.length : Int)), (8, .int .i64 0)], [], []⟩ (fg ⟨rfl, rfl, rfl, rfl, trivial⟩ trivial) rfl 0 (fun _ => rfl) ?_ ?_
  · rintro S _ hfg ⟨rfl, rfl⟩
    refine wk_ ⟨[], [], []⟩ (fglk hfg (by kernel_rfl)) ?_
    refine seq_ ?_
    refine reg_ ?_
    refine st (mvc_ trivial ?_)
    refine oe_ ?_
    refine wk_ ⟨[(4, .int .i64 (-1))], [], []⟩ (fgk (by kernel_rfl)) ?_
    obtain rfl := Option.some.inj h0
    exact rt_ (ret_ rfl rfl rfl rfl rfl trivial)
  · rintro p7 o1 _ K1 rfl h1 hx1 hK1 hE1 hR1
    refine seq_ ?_
    refine reg_ ?_
    refine st (c_ (cp_ ⟨trivial, trivial, trivial⟩ rfl trivial) ?_)
    refine oe_ ?_
    refine wk_ ⟨[(0, .lst 4 (a0.map eDIssued)), (1, .clo f1 k1), (7, .int .i64 (a0.length : Int)), (8, .int .i64 p7), (9, .bool (decide (p7 < (a0.length : Int))))], [], []⟩ (fg ⟨rfl, rfl, rfl, rfl, rfl, trivial⟩ trivial) ?_
    refine seq_ ?_
    refine ite_ (cb := (decide (p7 < (a0.length : Int)))) rfl (fun c15 => ?_) (fun c15 => ?_)
    · replace h1 := ip c15 h1
      refine sk_ ?_
      refine wk_ ⟨[(0, .lst 4 (a0.map eDIssued)), (1, .clo f1 k1), (7, .int .i64 (a0.length : Int)), (8, .int .i64 p7)], [], []⟩ (fg ⟨rfl, rfl, rfl, rfl, trivial⟩ trivial) ?_
      refine seq_ ?_
      refine block_ ?_
      refine seq_ ?_
      refine reg_ ?_
      refine st (mv_ rfl trivial ?_)
      refine st (mv_ rfl trivial ?_)
      refine oe_ ?_
      refine wk_ ⟨[(0, .lst 4 (a0.map eDIssued)), (1, .clo f1 k1), (5, .int .i64 p7), (7, .int .i64 (a0.length : Int)), (8, .int .i64 p7)], [], []⟩ (fg ⟨rfl, rfl, rfl, rfl, rfl, trivial⟩ trivial) ?_
      refine seq_ ?_
      refine reg_ ?_
      refine st (mv_ rfl trivial ?_)
      refine st (mv_ rfl trivial ?_)
      refine st (mv_ rfl trivial ?_)
      obtain ⟨y16, e17, h1⟩ := bnd h1
      refine st (c_ (cidxL (e := eDIssued) (y := y16) rfl rfl trivial rfl rfl trivial e17) ?_)
      refine st (c_ (v := .agg [.int .i64 y16.serial, .int .i64 y16.to_, .str y16.subject, .bool y16.revoked]) (cp_ ⟨trivial, trivial⟩ rfl (Nat.le_of_ble_eq_true rfl)) ?_)
      obtain ⟨r18, e19, h1⟩ := bnd h1
      refine st (callv0_ (r := .bool r18) rfl false (hf1 _ r18 e19) ⟨trivial, trivial⟩ (and_ rfl hs1.2.2.1) (mapc1 rfl (hs1.2.1 _ _ _ _ _)) (fun _ => rfl) ?_)
      refine oe_ ?_
      refine wk_ ⟨[(0, .lst 4 (a0.map eDIssued)), (1, .clo f1 k1), (5, .int .i64 p7), (7, .int .i64 (a0.length : Int)), (8, .int .i64 p7), (16, .bool r18)], [], []⟩ (fg ⟨rfl, rfl, rfl, rfl, rfl, rfl, trivial⟩ trivial) ?_
      refine ite_ (cb := r18) rfl (fun c20 => ?_) (fun c20 => ?_)
      · replace h1 := ip c20 h1
        refine seq_ ?_
        refine reg_ ?_
        refine st (mv_ rfl trivial ?_)
        refine st (mv_ rfl trivial ?_)
        refine oe_ ?_
        refine wk_ ⟨[(4, .int .i64 p7)], [], []⟩ (fgk (by kernel_rfl)) ?_
        obtain rfl := Option.some.inj h1
        obtain rfl := hx1 _ rfl
        obtain rfl := Option.some.inj h0
        exact rt_ (hR1 _ (ret_ rfl rfl rfl rfl rfl trivial))
      · replace h1 := inb c20 h1
        refine sk_ ?_
        refine bn_ ?_
        refine wk_ ⟨[(0, .lst 4 (a0.map eDIssued)), (1, .clo f1 k1), (7, .int .i64 (a0.length : Int)), (8, .int .i64 p7)], [], []⟩ (fg ⟨rfl, rfl, rfl, rfl, trivial⟩ trivial) ?_
        refine reg_ ?_
        refine st (c_ (cp_ ⟨trivial, trivial, trivial⟩ rfl trivial) ?_)
        refine st (mv_ rfl trivial ?_)
        refine oe_ ?_
        obtain rfl := Option.some.inj h1
        exact hK1 _ rfl _ ⟨[(0, .lst 4 (a0.map eDIssued)), (1, .clo f1 k1), (7, .int .i64 (a0.length : Int)), (8, .int .i64 (IntKind.i64.wrap (p7 + 1)))], [], []⟩ (fg ⟨rfl, rfl, rfl, rfl, trivial⟩ trivial) rfl
    · replace h1 := inb c15 h1
      obtain rfl := Option.some.inj h1
      obtain rfl := hx1 _ rfl
      refine exQ rfl ?_
      exact hE1 _ ⟨[], [], []⟩ (fgk (by kernel_rfl)) ⟨rfl, rfl⟩

/- slices.ContainsFunc[[]loop.example/g00149/impl.Issued,loop.example/g00149/impl.Issued] -/
def c342_r0 : List Ins := [⟨some 4, .p (.mv (.c (.bool false))), none⟩]
def c342_r1 : List Ins := [⟨some 5, .p (.mv (.t 0)), none⟩,
 ⟨some 6, .p (.mv (.t 1)), none⟩,
 ⟨some 7, .call 371 [(.t 5), (.t 6)], none⟩,
 ⟨some 8, .p (.bin .geq (.t 7) (.c (.int .i64 0))), none⟩,
 ⟨some 4, .p (.mv (.t 8)), none⟩]
def c342 : XFn := { np := 2, nt := 9, res := [.t 4], body := (.seq (.reg c342_r0) (.seq (.reg c342_r1) .ret)) }
def K342 (C : CRel) : Prop := ∀ (a0 : List DIssued) (f1 : Nat) (k1 : List V) (is1 : DIssued → Option Bool) (hs1 : Shut k1) (hf1 : ∀ (x0 : DIssued) r, is1 x0 = some r → C f1 ⟨.agg [.int .i64 x0.serial, .int .i64 x0.to_, .str x0.subject, .bool x0.revoked] :: k1, []⟩ ⟨.bool r, [], []⟩) (r : Bool), g342 a0 is1 = some r → C 342 ⟨[.lst 4 (a0.map eDIssued), .clo f1 k1], []⟩ ⟨.bool r, [], []⟩
theorem F342 {C : CRel} (H371 : K371 C) (a0 : List DIssued) (f1 : Nat) (k1 : List V) (is1 : DIssued → Option Bool) (hs1 : Shut k1) (hf1 : ∀ (x0 : DIssued) r, is1 x0 = some r → C f1 ⟨.agg [.int .i64 x0.serial, .int .i64 x0.to_, .str x0.subject, .bool x0.revoked] :: k1, []⟩ ⟨.bool r, [], []⟩) (r : Bool) (h0 : g342 a0 is1 = some r) : FnOK C c342 ⟨[.lst 4 (a0.map eDIssued), .clo f1 k1], []⟩ ⟨.bool r, [], []⟩ := by
  refine fn_ (Nat.le_of_ble_eq_true rfl) ?_
  refine seq_ ?_
  refine reg_ ?_
  refine st (mvc_ trivial ?_)
  refine oe_ ?_
  refine wk_ ⟨[(0, .lst 4 (a0.map eDIssued)), (1, .clo f1 k1)], [], []⟩ (fg ⟨rfl, rfl, trivial⟩ trivial) ?_
  refine seq_ ?_
  refine reg_ ?_
  refine st (mv_ rfl trivial ?_)
  refine st (mv_ rfl trivial ?_)
  obtain ⟨r1, e2, h0⟩ := bnd h0
  refine st (call0_ (r := .int .i64 r1) false (H371 a0 f1 k1 is1 hs1 hf1 r1 e2) ⟨trivial, trivial, trivial⟩ rfl (mapc1 rfl (mapc1 (clo_sh hs1) rfl)) (fun _ => rfl) ?_)
  refine st (c_ (cp_ ⟨trivial, trivial, trivial⟩ rfl trivial) ?_)
  refine st (mv_ rfl trivial ?_)
  refine oe_ ?_
  refine wk_ ⟨[(4, .bool (decide (r1 ≥ 0)))], [], []⟩ (fgk (by kernel_rfl)) ?_
  obtain rfl := Option.some.inj h0
  exact rt_ (ret_ rfl rfl rfl rfl rfl trivial)

/- loop.example/g00149/impl.areAll[loop.example/g00149/impl.Issued]$1 -/
def c343_r0 : List Ins := [⟨some 2, .box (.t 0), none⟩,
 ⟨some 3, .p (.mv (.c (.bool false))), none⟩]
def c343_r1 : List Ins := [⟨some 4, .p (.load (.t 1) 1 false), none⟩,
 ⟨some 5, .p (.load (.t 2) 4 true), none⟩,
 ⟨some 6, .callv (.t 4) [(.t 5)], none⟩,
 ⟨some 7, .p (.un .not (.t 6)), none⟩,
 ⟨some 3, .p (.mv (.t 7)), none⟩]
def c343 : XFn := { np := 2, nt := 8, res := [.t 3], body := (.seq (.reg c343_r0) (.seq (.reg c343_r1) .ret)) }
def K343 (C : CRel) : Prop := ∀ (a0 : DIssued) (f1 : Nat) (k1 : List V) (is1 : DIssued → Option Bool) (hs1 : Shut k1) (hf1 : ∀ (x0 : DIssued) r, is1 x0 = some r → C f1 ⟨.agg [.int .i64 x0.serial, .int .i64 x0.to_, .str x0.subject, .bool x0.revoked] :: k1, []⟩ ⟨.bool r, [], []⟩) (r : Bool), g343 a0 is1 = some r → C 343 ⟨[.agg [.int .i64 a0.serial, .int .i64 a0.to_, .str a0.subject, .bool a0.revoked], .iptr [.clo f1 k1]], []⟩ ⟨.bool r, [], []⟩
theorem F343 {C : CRel}  (a0 : DIssued) (f1 : Nat) (k1 : List V) (is1 : DIssued → Option Bool) (hs1 : Shut k1) (hf1 : ∀ (x0 : DIssued) r, is1 x0 = some r → C f1 ⟨.agg [.int .i64 x0.serial, .int .i64 x0.to_, .str x0.subject, .bool x0.revoked] :: k1, []⟩ ⟨.bool r, [], []⟩) (r : Bool) (h0 : g343 a0 is1 = some r) : FnOK C c343 ⟨[.agg [.int .i64 a0.serial, .int .i64 a0.to_, .str a0.subject, .bool a0.revoked], .iptr [.clo f1 k1]], []⟩ ⟨.bool r, [], []⟩ := by
  refine fn_ (Nat.le_of_ble_eq_true rfl) ?_
  refine seq_ ?_
  refine reg_ ?_
  refine st (box_ rfl trivial rfl ?_)
  refine sw ⟨[(1, .iptr [.clo f1 k1]), (2, .ptr 128 0)], [(128, [.int .i64 a0.serial, .int .i64 a0.to_, .str a0.subject, .bool a0.revoked])], []⟩ (fg ⟨rfl, rfl, trivial⟩ ⟨rfl, trivial⟩) (mvc_ trivial ?_)
  refine oe_ ?_
  refine wk_ ⟨[(1, .iptr [.clo f1 k1]), (2, .ptr 128 0)], [(128, [.int .i64 a0.serial, .int .i64 a0.to_, .str a0.subject, .bool a0.revoked])], []⟩ (fg ⟨rfl, rfl, trivial⟩ ⟨rfl, trivial⟩) ?_
  refine seq_ ?_
  refine reg_ ?_
  refine st (c_ (cp_ ⟨trivial, trivial⟩ rfl (Nat.le_of_ble_eq_true rfl)) ?_)
  refine st (c_ (v := .agg [.int .i64 a0.serial, .int .i64 a0.to_, .str a0.subject, .bool a0.revoked]) (cp_ ⟨trivial, trivial⟩ rfl (Nat.le_of_ble_eq_true rfl)) ?_)
  obtain ⟨r1, e2, h0⟩ := bnd h0
  refine st (callv0_ (r := .bool r1) rfl false (hf1 _ r1 e2) ⟨trivial, trivial⟩ (and_ rfl hs1.2.2.1) (mapc1 rfl (hs1.2.1 _ _ _ _ _)) (fun _ => rfl) ?_)
  refine st (c_ (cp_ ⟨trivial, trivial⟩ rfl trivial) ?_)
  refine st (mv_ rfl trivial ?_)
  refine oe_ ?_
  refine wk_ ⟨[(3, .bool (!r1))], [], []⟩ (fgk (by kernel_rfl)) ?_
  obtain rfl := Option.some.inj h0
  exact rt_ (ret_ rfl rfl rfl rfl rfl trivial)

/- loop.example/g00149/impl.areAll[loop.example/g00149/impl.Issued] -/
def c285_r0 : List Ins := [⟨some 3, .box (.t 1), none⟩,
 ⟨some 4, .p (.mv (.c (.bool false))), none⟩]
def c285_r1 : List Ins := [⟨some 5, .p (.mv (.t 0)), none⟩,
 ⟨some 6, .p (.fn 343 [(.t 3)]), none⟩,
 ⟨some 7, .call 342 [(.t 5), (.t 6)], none⟩,
 ⟨some 8, .p (.un .not (.t 7)), none⟩,
 ⟨some 4, .p (.mv (.t 8)), none⟩]
def c285 : XFn := { np := 2, nt := 9, res := [.t 4], body := (.seq (.reg c285_r0) (.seq (.reg c285_r1) .ret)) }
def K285 (C : CRel) : Prop := ∀ (a0 : List DIssued) (f1 : Nat) (k1 : List V) (is1 : DIssued → Option Bool) (hs1 : Shut k1) (hf1 : ∀ (x0 : DIssued) r, is1 x0 = some r → C f1 ⟨.agg [.int .i64 x0.serial, .int .i64 x0.to_, .str x0.subject, .bool x0.revoked] :: k1, []⟩ ⟨.bool r, [], []⟩) (r : Bool), g285 a0 is1 = some r → C 285 ⟨[.lst 4 (a0.map eDIssued), .clo f1 k1], []⟩ ⟨.bool r, [], []⟩
theorem F285 {C : CRel} (H342 : K342 C) (H343 : K343 C) (a0 : List DIssued) (f1 : Nat) (k1 : List V) (is1 : DIssued → Option Bool) (hs1 : Shut k1) (hf1 : ∀ (x0 : DIssued) r, is1 x0 = some r → C f1 ⟨.agg [.int .i64 x0.serial, .int .i64 x0.to_, .str x0.subject, .bool x0.revoked] :: k1, []⟩ ⟨.bool r, [], []⟩) (r : Bool) (h0 : g285 a0 is1 = some r) : FnOK C c285 ⟨[.lst 4 (a0.map eDIssued), .clo f1 k1], []⟩ ⟨.bool r, [], []⟩ := by
  refine fn_ (Nat.le_of_ble_eq_true rfl) ?_
  refine seq_ ?_
  refine reg_ ?_
  refine st (box_ (dr_sh hs1) trivial rfl ?_)
  refine sw ⟨[(0, .lst 4 (a0.map eDIssued)), (3, .ptr 192 0)], [(192, [.clo f1 k1])], []⟩ (fg ⟨rfl, rfl, trivial⟩ ⟨rfl, trivial⟩) (mvc_ trivial ?_)
  refine oe_ ?_
  refine wk_ ⟨[(0, .lst 4 (a0.map eDIssued)), (3, .ptr 192 0)], [(192, [.clo f1 k1])], []⟩ (fg ⟨rfl, rfl, trivial⟩ ⟨rfl, trivial⟩) ?_
  refine seq_ ?_
  refine reg_ ?_
  refine st (mv_ rfl trivial ?_)
  refine st (c_ (cp_ ⟨trivial, trivial⟩ rfl rfl) ?_)
  obtain ⟨r1, e2, h0⟩ := bnd h0
  refine st (call0_ (r := .bool r1) false (H342 a0 343 [.iptr [.clo f1 k1]] (fun z343_0 => g343 z343_0 is1) (⟨fun _ _ _ _ _ => rfl, fun _ _ _ _ _ => rfl, rfl, fun _ _ _ n => by cases n <;> rfl, fun _ => rfl⟩) (fun z343_0 r h => H343 z343_0 f1 k1 is1 hs1 hf1 r h) r1 e2) ⟨trivial, trivial, trivial⟩ rfl (mapc1 rfl (mapc1 (congrArg (fun z => V.clo 343 [.iptr [.clo f1 z]]) (hs1.2.2.2.1 _ _ _ _)) rfl)) (fun _ => rfl) ?_)
  refine st (c_ (cp_ ⟨trivial, trivial⟩ rfl trivial) ?_)
  refine st (mv_ rfl trivial ?_)
  refine oe_ ?_
  refine wk_ ⟨[(4, .bool (!r1))], [], []⟩ (fgk (by kernel_rfl)) ?_
  obtain rfl := Option.some.inj h0
  exact rt_ (ret_ rfl rfl rfl rfl rfl trivial)

/- loop.example/g00149/impl.isTime -/
def c287_r0 : List Ins := [⟨some 2, .p (.mv (.c (.bool false))), none⟩]
def c287_r1 : List Ins := [⟨some 3, .p (.mv (.t 0)), none⟩,
 ⟨some 4, .call 63 [(.t 3), (.c (.int .i64 0)), (.c (.int .i64 253402300799))], none⟩,
 ⟨some 2, .p (.mv (.t 4)), none⟩]
def c287 : XFn := { np := 1, nt := 5, res := [.t 2], body := (.seq (.reg c287_r0) (.seq (.reg c287_r1) .ret)) }
def K287 (C : CRel) : Prop := ∀ (a0 : Int) (r : Bool), g287 a0 = some r → C 287 ⟨[.int .i64 a0], []⟩ ⟨.bool r, [], []⟩
theorem F287 {C : CRel} (H63 : K63 C) (a0 : Int) (r : Bool) (h0 : g287 a0 = some r) : FnOK C c287 ⟨[.int .i64 a0], []⟩ ⟨.bool r, [], []⟩ := by
  refine fn_ (Nat.le_of_ble_eq_true rfl) ?_
  refine seq_ ?_
  refine reg_ ?_
  refine st (mvc_ trivial ?_)
  refine oe_ ?_
  refine wk_ ⟨[(0, .int .i64 a0)], [], []⟩ (fgk (by kernel_rfl)) ?_
  refine seq_ ?_
  refine reg_ ?_
  refine st (mv_ rfl trivial ?_)
  obtain ⟨r1, e2, h0⟩ := bnd h0
  refine st (call0_ (r := .bool r1) false (H63 a0 0 253402300799 r1 e2) ⟨trivial, trivial, trivial, trivial⟩ rfl rfl (fun _ => rfl) ?_)
  refine st (mv_ rfl trivial ?_)
  refine oe_ ?_
  refine wk_ ⟨[(2, .bool r1)], [], []⟩ (fgk (by kernel_rfl)) ?_
  obtain rfl := Option.some.inj h0
  exact rt_ (ret_ rfl rfl rfl rfl rfl trivial)

/- loop.example/g00149/impl.AuthorityOK$1 -/
def c286_r0 : List Ins := [⟨some 1, .box (.t 0), none⟩,
 ⟨some 2, .p (.mv (.c (.bool false))), none⟩]
def c286_r1 : List Ins := [⟨some 3, .p (.fieldA (.t 1) 1), none⟩,
 ⟨some 4, .p (.load (.t 3) 1 false), none⟩,
 ⟨some 5, .call 287 [(.t 4)], none⟩,
 ⟨some 6, .p (.mv (.t 5)), none⟩,
 ⟨some 7, .p (.fieldA (.t 1) 2), some (6, true)⟩,
 ⟨some 8, .p (.load (.t 7) 1 false), some (6, true)⟩,
 ⟨some 9, .call 281 [(.t 8)], some (6, true)⟩,
 ⟨some 10, .pick (.t 6) (.t 9) (.c (.bool false)), none⟩,
 ⟨some 2, .p (.mv (.t 10)), none⟩]
def c286 : XFn := { np := 1, nt := 11, res := [.t 2], body := (.seq (.reg c286_r0) (.seq (.reg c286_r1) .ret)) }
def K286 (C : CRel) : Prop := ∀ (a0 : DIssued) (r : Bool), g286 a0 = some r → C 286 ⟨[.agg [.int .i64 a0.serial, .int .i64 a0.to_, .str a0.subject, .bool a0.revoked]], []⟩ ⟨.bool r, [], []⟩
theorem F286 {C : CRel} (H281 : K281 C) (H287 : K287 C) (a0 : DIssued) (r : Bool) (h0 : g286 a0 = some r) : FnOK C c286 ⟨[.agg [.int .i64 a0.serial, .int .i64 a0.to_, .str a0.subject, .bool a0.revoked]], []⟩ ⟨.bool r, [], []⟩ := by
  refine fn_ (Nat.le_of_ble_eq_true rfl) ?_
  refine seq_ ?_
  refine reg_ ?_
  refine st (box_ rfl trivial rfl ?_)
  refine st (mvc_ trivial ?_)
  refine oe_ ?_
  refine wk_ ⟨[(1, .ptr 64 0)], [(64, [.int .i64 a0.serial, .int .i64 a0.to_, .str a0.subject, .bool a0.revoked])], []⟩ (fgk (by kernel_rfl)) ?_
  refine seq_ ?_
  refine reg_ ?_
  refine st (c_ (cp_ ⟨trivial, trivial⟩ rfl trivial) ?_)
  refine st (c_ (cp_ ⟨trivial, trivial⟩ rfl (Nat.le_of_ble_eq_true rfl)) ?_)
  obtain ⟨r1, e2, h0⟩ := bnd h0
  refine st (call0_ (r := .bool r1) false (H287 a0.to_ r1 e2) ⟨trivial, trivial⟩ rfl rfl (fun _ => rfl) ?_)
  refine st (mv_ rfl trivial ?_)
  refine st (pg_ (u := .ptr 64 2) rfl (fun hg => (cp_ ⟨trivial, trivial⟩ rfl trivial)) ?_)
  refine st (pg_ (u := .str a0.subject) rfl (fun hg => (cp_ ⟨(fun _ => hg), trivial⟩ rfl (Nat.le_of_ble_eq_true rfl))) ?_)
  obtain ⟨r3, e4, h0⟩ := bnd h0
  refine sw ⟨[(6, .bool r1), (8, .may (r1 == true) (.str a0.subject))], [], []⟩ (fgk (by kernel_rfl)) (callg_ (r := .bool r3) rfl false (fun hg => H281 a0.subject r3 (ip hg e4)) ⟨(fun hg => hg), trivial⟩ (fun _ => rfl) (fun _ => rfl) (fun _ => rfl) (fun h => nomatch h) ?_)
  refine st (pick_ rfl rfl rfl (fun h => eqt h) trivial rfl ?_)
  refine st (mv_ rfl trivial ?_)
  refine oe_ ?_
  refine wk_ ⟨[(2, .bool (bif r1 then r3 else false))], [], []⟩ (fgk (by kernel_rfl)) ?_
  obtain rfl := Option.some.inj h0
  exact rt_ (ret_ rfl rfl rfl rfl rfl trivial)

/- loop.example/g00149/impl.AuthorityOK -/
def c226_r0 : List Ins := [⟨some 1, .box (.t 0), none⟩,
 ⟨some 2, .p (.mv (.c (.bool false))), none⟩]
def c226_r1 : DP := (.take ⟨some 3, .p (.fieldA (.t 1) 0), none⟩
 (.take ⟨some 4, .p (.load (.t 3) 1 false), none⟩
 (.alt [] ⟨some 5, .call 281 [(.t 4)], none⟩
 (.take ⟨some 6, .p (.mv (.t 5)), none⟩
 (.take ⟨some 7, .p (.fieldA (.t 1) 1), some (6, true)⟩
 (.take ⟨some 8, .p (.load (.t 7) 1 false), some (6, true)⟩
 (.alt [] ⟨some 9, .call 282 [(.t 8)], some (6, true)⟩
 (.take ⟨some 10, .pick (.t 6) (.t 9) (.c (.bool false)), none⟩
 (.take ⟨some 11, .p (.mv (.t 10)), none⟩
 (.take ⟨some 12, .p (.fieldA (.t 1) 2), some (11, true)⟩
 (.take ⟨some 13, .p (.load (.t 12) 1 false), some (11, true)⟩
 (.alt [] ⟨some 14, .call 58 [(.t 13)], some (11, true)⟩
 (.take ⟨some 15, .pick (.t 11) (.t 14) (.c (.bool false)), none⟩
 (.take ⟨some 16, .p (.mv (.t 15)), none⟩
 (.take ⟨some 17, .p (.fieldA (.t 1) 3), some (16, true)⟩
 (.take ⟨some 18, .p (.load (.t 17) 1 false), some (16, true)⟩
 (.alt [] ⟨some 19, .call 58 [(.t 18)], some (16, true)⟩
 (.take ⟨some 20, .pick (.t 16) (.t 19) (.c (.bool false)), none⟩
 (.take ⟨some 21, .p (.mv (.t 20)), none⟩
 (.take ⟨some 22, .p (.fieldA (.t 1) 4), some (21, true)⟩
 (.take ⟨some 23, .p (.load (.t 22) 1 false), some (21, true)⟩
 (.take ⟨some 24, .p (.lenS (.t 23)), some (21, true)⟩
 (.take ⟨some 25, .p (.bin .leq (.t 24) (.c (.int .i64 40))), some (21, true)⟩
 (.take ⟨some 26, .pick (.t 21) (.t 25) (.c (.bool false)), none⟩
 (.take ⟨some 27, .p (.mv (.t 26)), none⟩
 (.take ⟨some 28, .p (.fieldA (.t 1) 4), some (27, true)⟩
 (.take ⟨some 29, .p (.load (.t 28) 1 false), some (27, true)⟩
 (.alt [] ⟨some 30, .call 283 [(.t 29)], some (27, true)⟩
 (.take ⟨some 31, .pick (.t 27) (.t 30) (.c (.bool false)), none⟩
 (.take ⟨some 32, .p (.mv (.t 31)), none⟩
 (.take ⟨some 33, .p (.fieldA (.t 1) 5), some (32, true)⟩
 (.take ⟨some 34, .p (.load (.t 33) 1 false), some (32, true)⟩
 (.alt [] ⟨some 35, .call 63 [(.t 34), (.c (.int .i64 1)), (.c (.int .i64 253402300799))], some (32, true)⟩
 (.take ⟨some 36, .pick (.t 32) (.t 35) (.c (.bool false)), none⟩
 (.take ⟨some 37, .p (.mv (.t 36)), none⟩
 (.take ⟨some 38, .p (.fieldA (.t 1) 6), some (37, true)⟩
 (.take ⟨some 39, .p (.load (.t 38) 1 false), some (37, true)⟩
 (.take ⟨some 40, .p (.len (.t 39)), some (37, true)⟩
 (.take ⟨some 41, .p (.bin .leq (.t 40) (.c (.int .i64 40))), some (37, true)⟩
 (.take ⟨some 42, .pick (.t 37) (.t 41) (.c (.bool false)), none⟩
 (.take ⟨some 43, .p (.mv (.t 42)), none⟩
 (.take ⟨some 44, .p (.fieldA (.t 1) 6), some (43, true)⟩
 (.take ⟨some 45, .p (.load (.t 44) 1 false), some (43, true)⟩
 (.take ⟨some 47, .p (.fieldA (.t 1) 2), some (43, true)⟩
 (.take ⟨some 48, .p (.load (.t 47) 1 false), some (43, true)⟩
 (.take ⟨some 49, .p (.bin .sub (.t 48) (.c (.int .i64 1))), some (43, true)⟩
 (.alt [⟨some 49, .p (.bin .sub (.t 48) (.c (.int .i64 1))), some (43, true)⟩, ⟨some 48, .p (.load (.t 47) 1 false), some (43, true)⟩, ⟨some 47, .p (.fieldA (.t 1) 2), some (43, true)⟩] ⟨some 46, .call 284 [(.t 45)], some (43, true)⟩
 (.alt [] ⟨some 50, .call 59 [(.t 46), (.c (.int .i64 1)), (.t 49)], some (43, true)⟩
 (.take ⟨some 51, .pick (.t 43) (.t 50) (.c (.bool false)), none⟩
 (.take ⟨some 52, .p (.mv (.t 51)), none⟩
 (.take ⟨some 53, .p (.fieldA (.t 1) 6), some (52, true)⟩
 (.take ⟨some 54, .p (.load (.t 53) 1 false), some (52, true)⟩
 (.alt [] ⟨some 55, .call 285 [(.t 54), (.c (.clo 286 []))], some (52, true)⟩
 (.take ⟨some 56, .pick (.t 52) (.t 55) (.c (.bool false)), none⟩
 (.take ⟨some 2, .p (.mv (.t 56)), none⟩
 .fin))
 .stop)))))
 .stop)
 .stop))))))))))))))
 .stop)))))
 .stop)))))))))))
 .stop)))))
 .stop)))))
 .stop))))
 .stop)))
def c226 : XFn := { np := 1, nt := 57, res := [.t 2], body := (.seq (.reg c226_r0) (.seq (.draw c226_r1) .ret)) }
def K226 (C : CRel) : Prop := ∀ (a0 : DAuthority) (r : Bool), g226 a0 = some r → C 226 ⟨[.agg [.str a0.name_, .lst 1 (a0.seed.map eU8), .int .i64 a0.serial, .int .i64 a0.number, .str a0.suffix, .int .i64 a0.most, .lst 4 (a0.list_.map eDIssued)]], []⟩ ⟨.bool r, [], []⟩
theorem F226 {C : CRel} (H58 : K58 C) (H59 : K59 C) (H63 : K63 C) (H281 : K281 C) (H282 : K282 C) (H283 : K283 C) (H284 : K284 C) (H285 : K285 C) (H286 : K286 C) (a0 : DAuthority) (r : Bool) (h0 : g226 a0 = some r) : FnOK C c226 ⟨[.agg [.str a0.name_, .lst 1 (a0.seed.map eU8), .int .i64 a0.serial, .int .i64 a0.number, .str a0.suffix, .int .i64 a0.most, .lst 4 (a0.list_.map eDIssued)]], []⟩ ⟨.bool r, [], []⟩ := by
  refine fn_ (Nat.le_of_ble_eq_true rfl) ?_
  refine seq_ ?_
  refine reg_ ?_
  refine st (box_ rfl trivial rfl ?_)
  refine st (mvc_ trivial ?_)
  refine oe_ ?_
  refine wk_ ⟨[(1, .ptr 64 0)], [(64, [.str a0.name_, .lst 1 (a0.seed.map eU8), .int .i64 a0.serial, .int .i64 a0.number, .str a0.suffix, .int .i64 a0.most, .lst 4 (a0.list_.map eDIssued)])], []⟩ (fgk (by kernel_rfl)) ?_
  refine seq_ ?_
  obtain ⟨r1, e2, h0⟩ := bnd h0
  obtain ⟨r3, e4, h0⟩ := bnd h0
  obtain ⟨r5, e6, h0⟩ := bnd h0
  obtain ⟨r7, e8, h0⟩ := bnd h0
  obtain ⟨r9, e10, h0⟩ := bnd h0
  obtain ⟨r11, e12, h0⟩ := bnd h0
  obtain ⟨r13, e14, h0⟩ := bnd h0
  obtain ⟨r15, e16, h0⟩ := bnd h0
  obtain ⟨r17, e18, h0⟩ := bnd h0
  refine draw_ ?_
  refine dtake trivial (c_ (cp_ ⟨trivial, trivial⟩ rfl trivial) ?_)
  refine ⟨trivial, ?_⟩
  refine dtake trivial (c_ (cp_ ⟨trivial, trivial⟩ rfl (Nat.le_of_ble_eq_true rfl)) ?_)
  refine ⟨trivial, ?_⟩
  refine dalt (call0_ (r := .bool r1) false (H281 a0.name_ r1 e2) ⟨trivial, trivial⟩ rfl rfl (fun _ => rfl) ?_) dstop
  refine dkw ⟨[(1, .ptr 64 0), (5, .bool r1)], [(64, [.str a0.name_, .lst 1 (a0.seed.map eU8), .int .i64 a0.serial, .int .i64 a0.number, .str a0.suffix, .int .i64 a0.most, .lst 4 (a0.list_.map eDIssued)])], []⟩ (fgk (by kernel_rfl)) ⟨[], trivial, trivial, ?_⟩
  refine dtake trivial (mv_ rfl trivial ?_)
  refine ⟨trivial, ?_⟩
  refine dtake trivial (pg_ (u := .ptr 64 1) rfl (fun hg => (cp_ ⟨trivial, trivial⟩ rfl trivial)) ?_)
  refine ⟨trivial, ?_⟩
  refine dtake trivial (pg_ (u := .lst 1 (a0.seed.map eU8)) rfl (fun hg => (cp_ ⟨(fun _ => hg), trivial⟩ rfl (Nat.le_of_ble_eq_true rfl))) ?_)
  refine ⟨trivial, ?_⟩
  refine dalt (callg_ (r := .bool r3) rfl false (fun hg => H282 a0.seed r3 (ip hg e4)) ⟨(fun hg => hg), trivial⟩ (fun _ => rfl) (fun _ => rfl) (fun _ => rfl) (fun h => nomatch h) ?_) dstop
  refine dkw ⟨[(1, .ptr 64 0), (6, .bool r1), (9, .may (r1 == true) (.bool r3))], [(64, [.str a0.name_, .lst 1 (a0.seed.map eU8), .int .i64 a0.serial, .int .i64 a0.number, .str a0.suffix, .int .i64 a0.most, .lst 4 (a0.list_.map eDIssued)])], []⟩ (fgk (by kernel_rfl)) ⟨[], trivial, trivial, ?_⟩
  refine dtake trivial (pick_ rfl rfl rfl (fun h => eqt h) trivial rfl ?_)
  refine ⟨trivial, ?_⟩
  refine dtake trivial (mv_ rfl trivial ?_)
  refine ⟨trivial, ?_⟩
  refine dtake trivial (pg_ (u := .ptr 64 2) rfl (fun hg => (cp_ ⟨trivial, trivial⟩ rfl trivial)) ?_)
  refine ⟨trivial, ?_⟩
  refine dtake trivial (pg_ (u := .int .i64 a0.serial) rfl (fun hg => (cp_ ⟨(fun _ => hg), trivial⟩ rfl (Nat.le_of_ble_eq_true rfl))) ?_)
  refine ⟨trivial, ?_⟩
  refine dalt (callg_ (r := .bool r5) rfl false (fun hg => H58 a0.serial r5 (ip hg e6)) ⟨(fun hg => hg), trivial⟩ (fun _ => rfl) (fun _ => rfl) (fun _ => rfl) (fun h => nomatch h) ?_) dstop
  refine dkw ⟨[(1, .ptr 64 0), (11, .bool (bif r1 then r3 else false)), (14, .may ((bif r1 then r3 else false) == true) (.bool r5))], [(64, [.str a0.name_, .lst 1 (a0.seed.map eU8), .int .i64 a0.serial, .int .i64 a0.number, .str a0.suffix, .int .i64 a0.most, .lst 4 (a0.list_.map eDIssued)])], []⟩ (fgk (by kernel_rfl)) ⟨[], trivial, trivial, ?_⟩
  refine dtake trivial (pick_ rfl rfl rfl (fun h => eqt h) trivial rfl ?_)
  refine ⟨trivial, ?_⟩
  refine dtake trivial (mv_ rfl trivial ?_)
  refine ⟨trivial, ?_⟩
  refine dtake trivial (pg_ (u := .ptr 64 3) rfl (fun hg => (cp_ ⟨trivial, trivial⟩ rfl trivial)) ?_)
  refine ⟨trivial, ?_⟩
  refine dtake trivial (pg_ (u := .int .i64 a0.number) rfl (fun hg => (cp_ ⟨(fun _ => hg), trivial⟩ rfl (Nat.le_of_ble_eq_true rfl))) ?_)
  refine ⟨trivial, ?_⟩
  refine dalt (callg_ (r := .bool r7) rfl false (fun hg => H58 a0.number r7 (ip hg e8)) ⟨(fun hg => hg), trivial⟩ (fun _ => rfl) (fun _ => rfl) (fun _ => rfl) (fun h => nomatch h) ?_) dstop
  refine dkw ⟨[(1, .ptr 64 0), (16, .bool (bif (bif r1 then r3 else false) then r5 else false)), (19, .may ((bif (bif r1 then r3 else false) then r5 else false) == true) (.bool r7))], [(64, [.str a0.name_, .lst 1 (a0.seed.map eU8), .int .i64 a0.serial, .int .i64 a0.number, .str a0.suffix, .int .i64 a0.most, .lst 4 (a0.list_.map eDIssued)])], []⟩ (fgk (by kernel_rfl)) ⟨[], trivial, trivial, ?_⟩
  refine dtake trivial (pick_ rfl rfl rfl (fun h => eqt h) trivial rfl ?_)
  refine ⟨trivial, ?_⟩
  refine dtake trivial (mv_ rfl trivial ?_)
  refine ⟨trivial, ?_⟩
  refine dtake trivial (pg_ (u := .ptr 64 4) rfl (fun hg => (cp_ ⟨trivial, trivial⟩ rfl trivial)) ?_)
  refine ⟨trivial, ?_⟩
  refine dtake trivial (pg_ (u := .str a0.suffix) rfl (fun hg => (cp_ ⟨(fun _ => hg), trivial⟩ rfl (Nat.le_of_ble_eq_true rfl))) ?_)
  refine ⟨trivial, ?_⟩
  refine dtake trivial (pg_ (u := .int .i64 (a0.suffix.length : Int)) rfl (fun hg => (cp_ ⟨(fun _ => hg), trivial⟩ rfl trivial)) ?_)
  refine ⟨trivial, ?_⟩
  refine dtake trivial (pg_ (u := .bool (decide ((a0.suffix.length : Int) ≤ 40))) rfl (fun hg => (cp_ ⟨(fun _ => hg), trivial, trivial⟩ rfl trivial)) ?_)
  refine ⟨trivial, ?_⟩
  refine dtake trivial (pick_ rfl rfl rfl (fun h => eqt h) trivial rfl ?_)
  refine ⟨trivial, ?_⟩
  refine dtake trivial (mv_ rfl trivial ?_)
  refine ⟨trivial, ?_⟩
  refine dtake trivial (pg_ (u := .ptr 64 4) rfl (fun hg => (cp_ ⟨trivial, trivial⟩ rfl trivial)) ?_)
  refine ⟨trivial, ?_⟩
  refine dtake trivial (pg_ (u := .str a0.suffix) rfl (fun hg => (cp_ ⟨(fun _ => hg), trivial⟩ rfl (Nat.le_of_ble_eq_true rfl))) ?_)
  refine ⟨trivial, ?_⟩
  refine dalt (callg_ (r := .bool r9) rfl false (fun hg => H283 a0.suffix r9 (ip hg e10)) ⟨(fun hg => hg), trivial⟩ (fun _ => rfl) (fun _ => rfl) (fun _ => rfl) (fun h => nomatch h) ?_) dstop
  refine dkw ⟨[(1, .ptr 64 0), (27, .bool (bif (bif (bif (bif r1 then r3 else false) then r5 else false) then r7 else false) then (decide ((a0.suffix.length : Int) ≤ 40)) else false)), (30, .may ((bif (bif (bif (bif r1 then r3 else false) then r5 else false) then r7 else false) then (decide ((a0.suffix.length : Int) ≤ 40)) else false) == true) (.bool r9))], [(64, [.str a0.name_, .lst 1 (a0.seed.map eU8), .int .i64 a0.serial, .int .i64 a0.number, .str a0.suffix, .int .i64 a0.most, .lst 4 (a0.list_.map eDIssued)])], []⟩ (fgk (by kernel_rfl)) ⟨[], trivial, trivial, ?_⟩
  refine dtake trivial (pick_ rfl rfl rfl (fun h => eqt h) trivial rfl ?_)
  refine ⟨trivial, ?_⟩
  refine dtake trivial (mv_ rfl trivial ?_)
  refine ⟨trivial, ?_⟩
  refine dtake trivial (pg_ (u := .ptr 64 5) rfl (fun hg => (cp_ ⟨trivial, trivial⟩ rfl trivial)) ?_)
  refine ⟨trivial, ?_⟩
  refine dtake trivial (pg_ (u := .int .i64 a0.most) rfl (fun hg => (cp_ ⟨(fun _ => hg), trivial⟩ rfl (Nat.le_of_ble_eq_true rfl))) ?_)
  refine ⟨trivial, ?_⟩
  refine dalt (callg_ (r := .bool r11) rfl false (fun hg => H63 a0.most 1 253402300799 r11 (ip hg e12)) ⟨(fun hg => hg), trivial, trivial, trivial⟩ (fun _ => rfl) (fun _ => rfl) (fun _ => rfl) (fun h => nomatch h) ?_) dstop
  refine dkw ⟨[(1, .ptr 64 0), (32, .bool (bif (bif (bif (bif (bif r1 then r3 else false) then r5 else false) then r7 else false) then (decide ((a0.suffix.length : Int) ≤ 40)) else false) then r9 else false)), (35, .may ((bif (bif (bif (bif (bif r1 then r3 else false) then r5 else false) then r7 else false) then (decide ((a0.suffix.length : Int) ≤ 40)) else false) then r9 else false) == true) (.bool r11))], [(64, [.str a0.name_, .lst 1 (a0.seed.map eU8), .int .i64 a0.serial, .int .i64 a0.number, .str a0.suffix, .int .i64 a0.most, .lst 4 (a0.list_.map eDIssued)])], []⟩ (fgk (by kernel_rfl)) ⟨[], trivial, trivial, ?_⟩
  refine dtake trivial (pick_ rfl rfl rfl (fun h => eqt h) trivial rfl ?_)
  refine ⟨trivial, ?_⟩
  refine dtake trivial (mv_ rfl trivial ?_)
  refine ⟨trivial, ?_⟩
  refine dtake trivial (pg_ (u := .ptr 64 6) rfl (fun hg => (cp_ ⟨trivial, trivial⟩ rfl trivial)) ?_)
  refine ⟨trivial, ?_⟩
  refine dtake trivial (pg_ (u := .lst 4 (a0.list_.map eDIssued)) rfl (fun hg => (cp_ ⟨(fun _ => hg), trivial⟩ rfl (Nat.le_of_ble_eq_true rfl))) ?_)
  refine ⟨trivial, ?_⟩
  refine dtake trivial (pg_ (u := .int .i64 (a0.list_.length : Int)) rfl (fun hg => (clenL (e := eDIssued) (l0 := a0.list_) rfl rfl (fun _ => hg))) ?_)
  refine ⟨trivial, ?_⟩
  refine dtake trivial (pg_ (u := .bool (decide ((a0.list_.length : Int) ≤ 40))) rfl (fun hg => (cp_ ⟨(fun _ => hg), trivial, trivial⟩ rfl trivial)) ?_)
  refine ⟨trivial, ?_⟩
  refine dtake trivial (pick_ rfl rfl rfl (fun h => eqt h) trivial rfl ?_)
  refine ⟨trivial, ?_⟩
  refine dtake trivial (mv_ rfl trivial ?_)
  refine ⟨trivial, ?_⟩
  refine dtake trivial (pg_ (u := .ptr 64 6) rfl (fun hg => (cp_ ⟨trivial, trivial⟩ rfl trivial)) ?_)
  refine ⟨trivial, ?_⟩
  refine dtake trivial (pg_ (u := .lst 4 (a0.list_.map eDIssued)) rfl (fun hg => (cp_ ⟨(fun _ => hg), trivial⟩ rfl (Nat.le_of_ble_eq_true rfl))) ?_)
  refine ⟨trivial, ?_⟩
  refine dtake trivial (pg_ (u := .ptr 64 2) rfl (fun hg => (cp_ ⟨trivial, trivial⟩ rfl trivial)) ?_)
  refine ⟨trivial, ?_⟩
  refine dtake trivial (pg_ (u := .int .i64 a0.serial) rfl (fun hg => (cp_ ⟨(fun _ => hg), trivial⟩ rfl (Nat.le_of_ble_eq_true rfl))) ?_)
  refine ⟨trivial, ?_⟩
  refine dtake trivial (pg_ (u := .int .i64 (IntKind.i64.wrap (a0.serial - 1))) rfl (fun hg => (cp_ ⟨(fun _ => hg), trivial, trivial⟩ rfl trivial)) ?_)
  refine ⟨trivial, ?_⟩
  refine dalt (callg_ (r := .own 0 0 1 (r13.map eI)) rfl false (fun hg => H284 a0.list_ r13 (ip hg e14)) ⟨(fun hg => hg), trivial⟩ (fun _ => rfl) (fun _ => rfl) (fun _ => (and_ (fl1 (fun _ => rfl)) rfl)) (fun h => nomatch h) ?_) dstop
  refine dkw ⟨[(1, .ptr 64 0), (43, .bool (bif (bif (bif (bif (bif (bif (bif r1 then r3 else false) then r5 else false) then r7 else false) then (decide ((a0.suffix.length : Int) ≤ 40)) else false) then r9 else false) then r11 else false) then (decide ((a0.list_.length : Int) ≤ 40)) else false)), (46, .may ((bif (bif (bif (bif (bif (bif (bif r1 then r3 else false) then r5 else false) then r7 else false) then (decide ((a0.suffix.length : Int) ≤ 40)) else false) then r9 else false) then r11 else false) then (decide ((a0.list_.length : Int) ≤ 40)) else false) == true) (.lst 1 (r13.map eI))), (47, .may ((bif (bif (bif (bif (bif (bif (bif r1 then r3 else false) then r5 else false) then r7 else false) then (decide ((a0.suffix.length : Int) ≤ 40)) else false) then r9 else false) then r11 else false) then (decide ((a0.list_.length : Int) ≤ 40)) else false) == true) (.ptr 64 2)), (48, .may ((bif (bif (bif (bif (bif (bif (bif r1 then r3 else false) then r5 else false) then r7 else false) then (decide ((a0.suffix.length : Int) ≤ 40)) else false) then r9 else false) then r11 else false) then (decide ((a0.list_.length : Int) ≤ 40)) else false) == true) (.int .i64 a0.serial)), (49, .may ((bif (bif (bif (bif (bif (bif (bif r1 then r3 else false) then r5 else false) then r7 else false) then (decide ((a0.suffix.length : Int) ≤ 40)) else false) then r9 else false) then r11 else false) then (decide ((a0.list_.length : Int) ≤ 40)) else false) == true) (.int .i64 (IntKind.i64.wrap (a0.serial - 1))))], [(64, [.str a0.name_, .lst 1 (a0.seed.map eU8), .int .i64 a0.serial, .int .i64 a0.number, .str a0.suffix, .int .i64 a0.most, .lst 4 (a0.list_.map eDIssued)])], []⟩ (fgk (by kernel_rfl)) ⟨[], ⟨⟨.inl trivial, (againg (v := .int .i64 (IntKind.i64.wrap (a0.serial - 1))) rfl (fun hg => (cp_ ⟨(fun _ => hg), trivial, trivial⟩ rfl trivial)) rfl)⟩, ⟨.inl trivial, (againg (v := .int .i64 a0.serial) rfl (fun hg => (cp_ ⟨(fun _ => hg), trivial⟩ rfl (Nat.le_of_ble_eq_true rfl))) rfl)⟩, ⟨.inl trivial, (againg (v := .ptr 64 2) rfl (fun hg => (cp_ ⟨trivial, trivial⟩ rfl trivial)) rfl)⟩, trivial⟩, trivial, ?_⟩
  refine dalt (callg_ (r := .bool r15) rfl false (fun hg => H59 r13 1 (IntKind.i64.wrap (a0.serial - 1)) r15 (ip hg e16)) ⟨(fun hg => hg), trivial, (fun hg => hg), trivial⟩ (fun _ => rfl) (fun _ => rfl) (fun _ => rfl) (fun h => nomatch h) ?_) dstop
  refine dkw ⟨[(1, .ptr 64 0), (43, .bool (bif (bif (bif (bif (bif (bif (bif r1 then r3 else false) then r5 else false) then r7 else false) then (decide ((a0.suffix.length : Int) ≤ 40)) else false) then r9 else false) then r11 else false) then (decide ((a0.list_.length : Int) ≤ 40)) else false)), (50, .may ((bif (bif (bif (bif (bif (bif (bif r1 then r3 else false) then r5 else false) then r7 else false) then (decide ((a0.suffix.length : Int) ≤ 40)) else false) then r9 else false) then r11 else false) then (decide ((a0.list_.length : Int) ≤ 40)) else false) == true) (.bool r15))], [(64, [.str a0.name_, .lst 1 (a0.seed.map eU8), .int .i64 a0.serial, .int .i64 a0.number, .str a0.suffix, .int .i64 a0.most, .lst 4 (a0.list_.map eDIssued)])], []⟩ (fgk (by kernel_rfl)) ⟨[], trivial, trivial, ?_⟩
  refine dtake trivial (pick_ rfl rfl rfl (fun h => eqt h) trivial rfl ?_)
  refine ⟨trivial, ?_⟩
  refine dtake trivial (mv_ rfl trivial ?_)
  refine ⟨trivial, ?_⟩
  refine dtake trivial (pg_ (u := .ptr 64 6) rfl (fun hg => (cp_ ⟨trivial, trivial⟩ rfl trivial)) ?_)
  refine ⟨trivial, ?_⟩
  refine dtake trivial (pg_ (u := .lst 4 (a0.list_.map eDIssued)) rfl (fun hg => (cp_ ⟨(fun _ => hg), trivial⟩ rfl (Nat.le_of_ble_eq_true rfl))) ?_)
  refine ⟨trivial, ?_⟩
  refine dalt (callg_ (r := .bool r17) rfl false (fun hg => H285 a0.list_ 286 [] (fun z286_0 => g286 z286_0) (⟨fun _ _ _ _ _ => rfl, fun _ _ _ _ _ => rfl, rfl, fun _ _ _ n => by cases n <;> rfl, fun _ => rfl⟩) (fun z286_0 r h => H286 z286_0 r h) r17 (ip hg e18)) ⟨(fun hg => hg), trivial, trivial⟩ (fun _ => rfl) (fun _ => rfl) (fun _ => rfl) (fun h => nomatch h) ?_) dstop
  refine dkw ⟨[(52, .bool (bif (bif (bif (bif (bif (bif (bif (bif r1 then r3 else false) then r5 else false) then r7 else false) then (decide ((a0.suffix.length : Int) ≤ 40)) else false) then r9 else false) then r11 else false) then (decide ((a0.list_.length : Int) ≤ 40)) else false) then r15 else false)), (55, .may ((bif (bif (bif (bif (bif (bif (bif (bif r1 then r3 else false) then r5 else false) then r7 else false) then (decide ((a0.suffix.length : Int) ≤ 40)) else false) then r9 else false) then r11 else false) then (decide ((a0.list_.length : Int) ≤ 40)) else false) then r15 else false) == true) (.bool r17))], [], []⟩ (fgk (by kernel_rfl)) ⟨[], trivial, trivial, ?_⟩
  refine dtake trivial (pick_ rfl rfl rfl (fun h => eqt h) trivial rfl ?_)
  refine ⟨trivial, ?_⟩
  refine dtake trivial (mv_ rfl trivial ?_)
  refine ⟨trivial, ?_⟩
  refine dfin ?_
  obtain ⟨v19, e20, h0⟩ := bl h0
  refine wk_ ⟨[(2, .bool v19)], [], []⟩ (fgk (by subst e20; kernel_rfl)) ?_
  obtain rfl := Option.some.inj h0
  exact rt_ (ret_ rfl rfl rfl rfl rfl trivial)
end Go.Ev
