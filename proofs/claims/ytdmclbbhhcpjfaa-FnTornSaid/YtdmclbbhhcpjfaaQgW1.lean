/- The walks of functions: the code comes to the answers that QgD tells. Written by a program of ours. -/
import Derived.Test.YtdmclbbhhcpjfaaQgW0
set_option linter.all false
set_option maxHeartbeats 4000000
set_option linter.unusedVariables false
set_option maxRecDepth 100000
namespace Go.Ev

/- loop.example/g00149/impl.LogOf -/
def c220_r0 : List Ins := [⟨some 1, .box (.t 0), none⟩,
 ⟨some 2, .nilS 1, none⟩,
 ⟨some 3, .p (.mv (.c (.int .i64 0))), none⟩]
def c220_r1 : List Ins := [⟨some 6, .p (.load (.t 1) 2 true), none⟩,
 ⟨some 7, .call 216 [(.t 6)], none⟩,
 ⟨some 8, .p (.un .not (.t 7)), none⟩]
def c220_r2 : List Ins := [⟨some 2, .nilS 1, none⟩,
 ⟨some 3, .p (.mv (.c (.int .i64 1))), none⟩]
def c220_r3 : List Ins := [⟨some 10, .p (.load (.t 1) 2 true), none⟩,
 ⟨some 11, .call 263 [(.t 10)], none⟩,
 ⟨some 12, .call 275 [(.t 11)], none⟩,
 ⟨some 9, .p (.mv (.t 12)), none⟩,
 ⟨some 13, .p (.ext (.t 9) 0), none⟩,
 ⟨some 14, .p (.ext (.t 9) 1), none⟩,
 ⟨some 4, .p (.mv (.t 13)), none⟩,
 ⟨some 5, .p (.mv (.t 14)), none⟩]
def c220_r4 : List Ins := [⟨some 15, .p (.mv (.t 4)), none⟩,
 ⟨some 2, .p (.mv (.t 15)), none⟩,
 ⟨some 3, .p (.mv (.c (.int .i64 0))), none⟩]
def c220 : XFn := { np := 1, nt := 16, res := [.t 2, .t 3], body := (.seq (.reg c220_r0) (.seq (.seq (.reg c220_r1) (.ite (.t 8) (.seq (.reg c220_r2) .ret) .skip)) (.seq (.reg c220_r3) (.seq (.reg c220_r4) .ret)))) }
def K220 (C : CRel) : Prop := ∀ (a0 : DDevice) (r : (List (List UInt8)) × Int), g220 a0 = some r → C 220 ⟨[.agg [.lst 1 (a0.held.map eU8), .lst 2 (a0.waiting.map eDSector)]], []⟩ ⟨.tup [.own 0 0 1 (r.1.map (eL 1 eU8)), .int .i64 r.2], [], []⟩
theorem F220 {C : CRel} (H216 : K216 C) (H263 : K263 C) (H275 : K275 C) (a0 : DDevice) (r : (List (List UInt8)) × Int) (h0 : g220 a0 = some r) : FnOK C c220 ⟨[.agg [.lst 1 (a0.held.map eU8), .lst 2 (a0.waiting.map eDSector)]], []⟩ ⟨.tup [.own 0 0 1 (r.1.map (eL 1 eU8)), .int .i64 r.2], [], []⟩ := by
  refine fn_ (Nat.le_of_ble_eq_true rfl) ?_
  refine seq_ ?_
  refine reg_ ?_
  refine st (box_ rfl trivial rfl ?_)
  refine st (nilS_ ?_)
  refine st (mvc_ trivial ?_)
  refine oe_ ?_
  refine wk_ ⟨[(1, .ptr 64 0)], [(64, [.lst 1 (a0.held.map eU8), .lst 2 (a0.waiting.map eDSector)])], []⟩ (fgk (by kernel_rfl)) ?_
  refine seq_ ?_
  refine seq_ ?_
  refine reg_ ?_
  refine st (c_ (v := .agg [.lst 1 (a0.held.map eU8), .lst 2 (a0.waiting.map eDSector)]) (cp_ ⟨trivial, trivial⟩ rfl (Nat.le_of_ble_eq_true rfl)) ?_)
  obtain ⟨r1, e2, h0⟩ := bnd h0
  refine st (call0_ (r := .bool r1) false (H216 a0 r1 e2) ⟨trivial, trivial⟩ rfl rfl (fun _ => rfl) ?_)
  refine st (c_ (cp_ ⟨trivial, trivial⟩ rfl trivial) ?_)
  refine oe_ ?_
  refine wk_ ⟨[(1, .ptr 64 0), (8, .bool (!r1))], [(64, [.lst 1 (a0.held.map eU8), .lst 2 (a0.waiting.map eDSector)])], []⟩ (fgk (by kernel_rfl)) ?_
  refine ite_ (cb := (!r1)) rfl (fun c3 => ?_) (fun c3 => ?_)
  · replace h0 := ip c3 h0
    refine seq_ ?_
    refine reg_ ?_
    refine st (nilS_ ?_)
    refine st (mvc_ trivial ?_)
    refine oe_ ?_
    refine wk_ ⟨[(2, .own 128 0 1 ([].map (eL 1 eU8))), (3, .int .i64 1)], [], []⟩ (fgk (by kernel_rfl)) ?_
    obtain rfl := Option.some.inj h0
    exact rt_ (ret_ rfl rfl rfl rfl rfl trivial)
  · replace h0 := inb c3 h0
    refine sk_ ?_
    refine wk_ ⟨[(1, .ptr 64 0)], [(64, [.lst 1 (a0.held.map eU8), .lst 2 (a0.waiting.map eDSector)])], []⟩ (fgk (by kernel_rfl)) ?_
    refine seq_ ?_
    refine reg_ ?_
    refine st (c_ (v := .agg [.lst 1 (a0.held.map eU8), .lst 2 (a0.waiting.map eDSector)]) (cp_ ⟨trivial, trivial⟩ rfl (Nat.le_of_ble_eq_true rfl)) ?_)
    obtain ⟨r4, e5, h0⟩ := bnd h0
    refine st (call0_ (r := .own 0 0 1 (r4.map eU8)) false (H263 a0 r4 e5) ⟨trivial, trivial⟩ rfl rfl (fun _ => (and_ (fl1 (fun _ => rfl)) rfl)) ?_)
    obtain ⟨r6, e7, h0⟩ := bnd h0
    refine st (call0_ (r := .tup [.own 0 0 1 (r6.1.map (eL 1 eU8)), .int .i64 r6.2]) true (H275 r4 r6 e7) ⟨trivial, trivial⟩ rfl rfl (fun h => nomatch h) ?_)
    refine sw ⟨[(12, .tup [.own 768 0 1 (r6.1.map (eL 1 eU8)), .int .i64 r6.2])], [], []⟩ (fgk (by kernel_rfl)) (mv_ rfl trivial ?_)
    refine st (c_ (cp_ ⟨trivial, trivial⟩ rfl trivial) ?_)
    refine st (c_ (cp_ ⟨trivial, trivial⟩ rfl trivial) ?_)
    refine st (mv_ rfl trivial ?_)
    refine st (mv_ rfl trivial ?_)
    refine oe_ ?_
    refine wk_ ⟨[(4, .own 768 0 1 (r6.1.map (eL 1 eU8)))], [], []⟩ (fgk (by kernel_rfl)) ?_
    refine seq_ ?_
    refine reg_ ?_
    refine st (mv_ rfl trivial ?_)
    refine st (mv_ rfl trivial ?_)
    refine st (mvc_ trivial ?_)
    refine oe_ ?_
    refine wk_ ⟨[(2, .own 768 0 1 (r6.1.map (eL 1 eU8))), (3, .int .i64 0)], [], []⟩ (fgk (by kernel_rfl)) ?_
    obtain rfl := Option.some.inj h0
    exact rt_ (ret_ rfl rfl rfl rfl rfl trivial)

/- loop.example/g00149/laws.sameLists -/
def c222_r0 : List Ins := [⟨some 4, .p (.mv (.c (.bool false))), none⟩]
def c222_r1 : List Ins := [⟨some 6, .p (.mv (.t 0)), none⟩,
 ⟨some 7, .p (.len (.t 6)), none⟩,
 ⟨some 8, .p (.mv (.t 1)), none⟩,
 ⟨some 9, .p (.len (.t 8)), none⟩,
 ⟨some 10, .p (.bin .neq (.t 7) (.t 9)), none⟩]
def c222_r2 : List Ins := [⟨some 4, .p (.mv (.c (.bool false))), none⟩]
def c222_r3 : List Ins := [⟨some 5, .p (.mv (.c (.int .i64 0))), none⟩]
def c222_r4 : List Ins := [⟨some 11, .p (.mv (.t 5)), none⟩,
 ⟨some 12, .p (.mv (.t 0)), none⟩,
 ⟨some 13, .p (.len (.t 12)), none⟩,
 ⟨some 14, .p (.bin .lss (.t 11) (.t 13)), none⟩]
def c222_r5 : DP := (.take ⟨some 17, .p (.mv (.t 0)), none⟩
 (.take ⟨some 18, .p (.mv (.t 5)), none⟩
 (.take ⟨some 19, .p (.idxA (.t 17) (.t 18) 1), none⟩
 (.take ⟨some 20, .p (.load (.t 19) 1 false), none⟩
 (.take ⟨some 21, .p (.toStr (.t 20)), none⟩
 (.take ⟨some 22, .p (.mv (.t 1)), none⟩
 (.take ⟨some 23, .p (.mv (.t 5)), none⟩
 (.take ⟨some 24, .p (.idxA (.t 22) (.t 23) 1), none⟩
 (.take ⟨some 25, .p (.load (.t 24) 1 false), none⟩
 (.take ⟨some 26, .p (.toStr (.t 25)), none⟩
 (.take ⟨some 27, .p (.bin .neq (.t 21) (.t 26)), none⟩
 .fin)))))))))))
def c222_r6 : List Ins := [⟨some 4, .p (.mv (.c (.bool false))), none⟩]
def c222_r7 : List Ins := [⟨some 15, .p (.mv (.t 5)), none⟩,
 ⟨some 16, .p (.bin .add (.t 15) (.c (.int .i64 1))), none⟩,
 ⟨some 5, .p (.mv (.t 16)), none⟩]
def c222_l0 : IR := (.seq (.seq (.reg c222_r4) (.ite (.t 14) .skip (.exit 0))) (.seq (.block 1 (.seq (.draw c222_r5) (.ite (.t 27) (.seq (.reg c222_r6) .ret) .skip))) (.reg c222_r7)))
def c222_r8 : List Ins := [⟨some 4, .p (.mv (.c (.bool true))), none⟩]
def c222 : XFn := { np := 2, nt := 28, res := [.t 4], body := (.seq (.reg c222_r0) (.seq (.seq (.reg c222_r1) (.ite (.t 10) (.seq (.reg c222_r2) .ret) .skip)) (.seq (.seq (.reg c222_r3) (.block 0 (.loop c222_l0))) (.seq (.reg c222_r8) .ret)))) }
def K222 (C : CRel) : Prop := ∀ (a0 : List (List UInt8)) (a1 : List (List UInt8)) (r : Bool), g222 a0 a1 = some r → C 222 ⟨[.lst 1 (a0.map (eL 1 eU8)), .lst 1 (a1.map (eL 1 eU8))], []⟩ ⟨.bool r, [], []⟩
theorem F222 {C : CRel}  (a0 : List (List UInt8)) (a1 : List (List UInt8)) (r : Bool) (h0 : g222 a0 a1 = some r) : FnOK C c222 ⟨[.lst 1 (a0.map (eL 1 eU8)), .lst 1 (a1.map (eL 1 eU8))], []⟩ ⟨.bool r, [], []⟩ := by
  refine fn_ (Nat.le_of_ble_eq_true rfl) ?_
  refine seq_ ?_
  refine reg_ ?_
  refine st (mvc_ trivial ?_)
  refine oe_ ?_
  refine wk_ ⟨[(0, .lst 1 (a0.map (eL 1 eU8))), (1, .lst 1 (a1.map (eL 1 eU8)))], [], []⟩ (fgk (by kernel_rfl)) ?_
  refine seq_ ?_
  refine seq_ ?_
  refine reg_ ?_
  refine st (mv_ rfl trivial ?_)
  refine st (c_ (clenL (e := (eL 1 eU8)) (l0 := a0) rfl rfl trivial) ?_)
  refine st (mv_ rfl trivial ?_)
  refine st (c_ (clenL (e := (eL 1 eU8)) (l0 := a1) rfl rfl trivial) ?_)
  refine st (c_ (cp_ ⟨trivial, trivial, trivial⟩ rfl trivial) ?_)
  refine oe_ ?_
  refine wk_ ⟨[(0, .lst 1 (a0.map (eL 1 eU8))), (1, .lst 1 (a1.map (eL 1 eU8))), (10, .bool ((a0.length : Int) != (a1.length : Int)))], [], []⟩ (fgk (by kernel_rfl)) ?_
  refine ite_ (cb := ((a0.length : Int) != (a1.length : Int))) rfl (fun c1 => ?_) (fun c1 => ?_)
  · replace h0 := ip c1 h0
    refine seq_ ?_
    refine reg_ ?_
    refine st (mvc_ trivial ?_)
    refine oe_ ?_
    refine wk_ ⟨[(4, .bool false)], [], []⟩ (fgk (by kernel_rfl)) ?_
    obtain rfl := Option.some.inj h0
    exact rt_ (ret_ rfl rfl rfl rfl rfl trivial)
  · replace h0 := inb c1 h0
    refine sk_ ?_
    refine wk_ ⟨[(0, .lst 1 (a0.map (eL 1 eU8))), (1, .lst 1 (a1.map (eL 1 eU8)))], [], []⟩ (fgk (by kernel_rfl)) ?_
    refine seq_ ?_
    refine seq_ ?_
    refine reg_ ?_
    refine st (mvc_ trivial ?_)
    refine oe_ ?_
    refine wk_ ⟨[(0, .lst 1 (a0.map (eL 1 eU8))), (1, .lst 1 (a1.map (eL 1 eU8))), (5, .int .i64 0)], [], []⟩ (fgk (by kernel_rfl)) ?_
    refine block_ ?_
    obtain ⟨r22, e23, h0⟩ := bnd h0
    refine loop_ (R := (fun S => .inl () = r22 ∧ S = ⟨[], [], []⟩)) (g222_l0 a0 a1) (fun s S => match s with | p8 => S = ⟨[(0, .lst 1 (a0.map (eL 1 eU8))), (1, .lst 1 (a1.map (eL 1 eU8))), (5, .int .i64 p8)], [], []⟩) e23 ⟨[(0, .lst 1 (a0.map (eL 1 eU8))), (1, .lst 1 (a1.map (eL 1 eU8))), (5, .int .i64 0)], [], []⟩ (fgk (by kernel_rfl)) rfl 0 (fun _ => rfl) ?_ ?_
    · rintro S _ hfg ⟨rfl, rfl⟩
      refine wk_ ⟨[], [], []⟩ (fglk hfg (by kernel_rfl)) ?_
      refine seq_ ?_
      refine reg_ ?_
      refine st (mvc_ trivial ?_)
      refine oe_ ?_
      refine wk_ ⟨[(4, .bool true)], [], []⟩ (fgk (by kernel_rfl)) ?_
      obtain rfl := Option.some.inj h0
      exact rt_ (ret_ rfl rfl rfl rfl rfl trivial)
    · rintro p8 o1 _ K1 rfl h1 hx1 hK1 hE1 hR1
      refine seq_ ?_
      refine seq_ ?_
      refine reg_ ?_
      refine st (mv_ rfl trivial ?_)
      refine st (mv_ rfl trivial ?_)
      refine st (c_ (clenL (e := (eL 1 eU8)) (l0 := a0) rfl rfl trivial) ?_)
      refine st (c_ (cp_ ⟨trivial, trivial, trivial⟩ rfl trivial) ?_)
      refine oe_ ?_
      refine wk_ ⟨[(0, .lst 1 (a0.map (eL 1 eU8))), (1, .lst 1 (a1.map (eL 1 eU8))), (5, .int .i64 p8), (14, .bool (decide (p8 < (a0.length : Int))))], [], []⟩ (fgk (by kernel_rfl)) ?_
      refine ite_ (cb := (decide (p8 < (a0.length : Int)))) rfl (fun c16 => ?_) (fun c16 => ?_)
      · replace h1 := ip c16 h1
        refine sk_ ?_
        refine wk_ ⟨[(0, .lst 1 (a0.map (eL 1 eU8))), (1, .lst 1 (a1.map (eL 1 eU8))), (5, .int .i64 p8)], [], []⟩ (fgk (by kernel_rfl)) ?_
        refine seq_ ?_
        refine block_ ?_
        refine seq_ ?_
        obtain ⟨y17, e18, h1⟩ := bnd h1
        obtain ⟨y19, e20, h1⟩ := bnd h1
        refine draw_ ?_
        refine dtake trivial (mv_ rfl trivial ?_)
        refine ⟨trivial, ?_⟩
        refine dtake trivial (mv_ rfl trivial ?_)
        refine ⟨trivial, ?_⟩
        refine dtake trivial (c_ (cidxL (e := (eL 1 eU8)) (y := y17) rfl rfl trivial rfl rfl trivial e18) ?_)
        refine ⟨trivial, ?_⟩
        refine dtake trivial (c_ (cp_ ⟨trivial, trivial⟩ rfl (Nat.le_of_ble_eq_true rfl)) ?_)
        refine ⟨trivial, ?_⟩
        refine dtake trivial (c_ (ctoStrL (s := y17) rfl rfl trivial) ?_)
        refine ⟨trivial, ?_⟩
        refine dtake trivial (mv_ rfl trivial ?_)
        refine ⟨trivial, ?_⟩
        refine dtake trivial (mv_ rfl trivial ?_)
        refine ⟨trivial, ?_⟩
        refine dtake trivial (c_ (cidxL (e := (eL 1 eU8)) (y := y19) rfl rfl trivial rfl rfl trivial e20) ?_)
        refine ⟨trivial, ?_⟩
        refine dtake trivial (c_ (cp_ ⟨trivial, trivial⟩ rfl (Nat.le_of_ble_eq_true rfl)) ?_)
        refine ⟨trivial, ?_⟩
        refine dtake trivial (c_ (ctoStrL (s := y19) rfl rfl trivial) ?_)
        refine ⟨trivial, ?_⟩
        refine dtake trivial (c_ (cp_ ⟨trivial, trivial, trivial⟩ rfl trivial) ?_)
        refine ⟨trivial, ?_⟩
        refine dfin ?_
        refine wk_ ⟨[(0, .lst 1 (a0.map (eL 1 eU8))), (1, .lst 1 (a1.map (eL 1 eU8))), (5, .int .i64 p8), (27, .bool (!(y17 == y19)))], [], []⟩ (fgk (by kernel_rfl)) ?_
        refine ite_ (cb := (!(y17 == y19))) rfl (fun c21 => ?_) (fun c21 => ?_)
        · replace h1 := ip c21 h1
          refine seq_ ?_
          refine reg_ ?_
          refine st (mvc_ trivial ?_)
          refine oe_ ?_
          refine wk_ ⟨[(4, .bool false)], [], []⟩ (fgk (by kernel_rfl)) ?_
          obtain rfl := Option.some.inj h1
          obtain rfl := hx1 _ rfl
          obtain rfl := Option.some.inj h0
          exact rt_ (hR1 _ (ret_ rfl rfl rfl rfl rfl trivial))
        · replace h1 := inb c21 h1
          refine sk_ ?_
          refine bn_ ?_
          refine wk_ ⟨[(0, .lst 1 (a0.map (eL 1 eU8))), (1, .lst 1 (a1.map (eL 1 eU8))), (5, .int .i64 p8)], [], []⟩ (fgk (by kernel_rfl)) ?_
          refine reg_ ?_
          refine st (mv_ rfl trivial ?_)
          refine st (c_ (cp_ ⟨trivial, trivial, trivial⟩ rfl trivial) ?_)
          refine st (mv_ rfl trivial ?_)
          refine oe_ ?_
          obtain rfl := Option.some.inj h1
          exact hK1 _ rfl _ ⟨[(0, .lst 1 (a0.map (eL 1 eU8))), (1, .lst 1 (a1.map (eL 1 eU8))), (5, .int .i64 (IntKind.i64.wrap (p8 + 1)))], [], []⟩ (fgk (by kernel_rfl)) rfl
      · replace h1 := inb c16 h1
        obtain rfl := Option.some.inj h1
        obtain rfl := hx1 _ rfl
        refine exQ rfl ?_
        exact hE1 _ ⟨[], [], []⟩ (fgk (by kernel_rfl)) ⟨rfl, rfl⟩

/- loop.example/g00149/spec.l01In -/
def c56_r0 : List Ins := [⟨some 6, .p (.mv (.c (.bool false))), none⟩]
def c56_r1 : List Ins := [⟨some 7, .p (.mv (.t 0)), none⟩,
 ⟨some 8, .p (.mv (.t 1)), none⟩,
 ⟨some 9, .p (.bin .geq (.t 7) (.t 8)), none⟩,
 ⟨some 10, .p (.mv (.t 9)), none⟩,
 ⟨some 11, .p (.mv (.t 0)), some (10, true)⟩,
 ⟨some 12, .p (.mv (.t 2)), some (10, true)⟩,
 ⟨some 13, .p (.bin .leq (.t 11) (.t 12)), some (10, true)⟩,
 ⟨some 14, .pick (.t 10) (.t 13) (.c (.bool false)), none⟩,
 ⟨some 6, .p (.mv (.t 14)), none⟩]
def c56 : XFn := { np := 3, nt := 15, res := [.t 6], body := (.seq (.reg c56_r0) (.seq (.reg c56_r1) .ret)) }
def K56 (C : CRel) : Prop := ∀ (a0 : Int) (a1 : Int) (a2 : Int) (r : Bool), g56 a0 a1 a2 = some r → C 56 ⟨[.int .i64 a0, .int .i64 a1, .int .i64 a2], []⟩ ⟨.bool r, [], []⟩
theorem F56 {C : CRel}  (a0 : Int) (a1 : Int) (a2 : Int) (r : Bool) (h0 : g56 a0 a1 a2 = some r) : FnOK C c56 ⟨[.int .i64 a0, .int .i64 a1, .int .i64 a2], []⟩ ⟨.bool r, [], []⟩ := by
  refine fn_ (Nat.le_of_ble_eq_true rfl) ?_
  refine seq_ ?_
  refine reg_ ?_
  refine st (mvc_ trivial ?_)
  refine oe_ ?_
  refine wk_ ⟨[(0, .int .i64 a0), (1, .int .i64 a1), (2, .int .i64 a2)], [], []⟩ (fgk (by kernel_rfl)) ?_
  refine seq_ ?_
  refine reg_ ?_
  refine st (mv_ rfl trivial ?_)
  refine st (mv_ rfl trivial ?_)
  refine st (c_ (cp_ ⟨trivial, trivial, trivial⟩ rfl trivial) ?_)
  refine st (mv_ rfl trivial ?_)
  refine st (pg_ (u := .int .i64 a0) rfl (fun hg => (cmv (v := .int .i64 a0) rfl trivial)) ?_)
  refine st (pg_ (u := .int .i64 a2) rfl (fun hg => (cmv (v := .int .i64 a2) rfl trivial)) ?_)
  refine st (pg_ (u := .bool (decide (a0 ≤ a2))) rfl (fun hg => (cp_ ⟨(fun _ => hg), (fun _ => hg), trivial⟩ rfl trivial)) ?_)
  refine st (pick_ rfl rfl rfl (fun h => eqt h) trivial rfl ?_)
  refine st (mv_ rfl trivial ?_)
  refine oe_ ?_
  refine wk_ ⟨[(6, .bool (bif (decide (a0 ≥ a1)) then (decide (a0 ≤ a2)) else false))], [], []⟩ (fgk (by kernel_rfl)) ?_
  obtain rfl := Option.some.inj h0
  exact rt_ (ret_ rfl rfl rfl rfl rfl trivial)

/- loop.example/g00149/spec.DeviceOK -/
def c290_r0 : List Ins := [⟨some 1, .box (.t 0), none⟩,
 ⟨some 2, .p (.mv (.c (.bool false))), none⟩]
def c290_r1 : List Ins := [⟨some 4, .p (.fieldA (.t 1) 0), none⟩,
 ⟨some 5, .p (.load (.t 4) 1 false), none⟩,
 ⟨some 6, .p (.len (.t 5)), none⟩,
 ⟨some 7, .p (.bin .rem (.t 6) (.c (.int .i64 32))), none⟩,
 ⟨some 8, .p (.bin .neq (.t 7) (.c (.int .i64 0))), none⟩,
 ⟨some 9, .p (.mv (.t 8)), none⟩,
 ⟨some 10, .p (.fieldA (.t 1) 0), some (9, false)⟩,
 ⟨some 11, .p (.load (.t 10) 1 false), some (9, false)⟩,
 ⟨some 12, .p (.len (.t 11)), some (9, false)⟩,
 ⟨some 13, .p (.bin .gtr (.t 12) (.c (.int .i64 4096))), some (9, false)⟩,
 ⟨some 14, .pick (.t 9) (.c (.bool true)) (.t 13), none⟩,
 ⟨some 15, .p (.mv (.t 14)), none⟩,
 ⟨some 16, .p (.fieldA (.t 1) 1), some (15, false)⟩,
 ⟨some 17, .p (.load (.t 16) 1 false), some (15, false)⟩,
 ⟨some 18, .p (.len (.t 17)), some (15, false)⟩,
 ⟨some 19, .p (.bin .gtr (.t 18) (.c (.int .i64 4096))), some (15, false)⟩,
 ⟨some 20, .pick (.t 15) (.c (.bool true)) (.t 19), none⟩]
def c290_r2 : List Ins := [⟨some 2, .p (.mv (.c (.bool false))), none⟩]
def c290_r3 : List Ins := [⟨some 3, .p (.mv (.c (.int .i64 0))), none⟩]
def c290_r4 : List Ins := [⟨some 21, .p (.mv (.t 3)), none⟩,
 ⟨some 22, .p (.fieldA (.t 1) 1), none⟩,
 ⟨some 23, .p (.load (.t 22) 1 false), none⟩,
 ⟨some 24, .p (.len (.t 23)), none⟩,
 ⟨some 25, .p (.bin .lss (.t 21) (.t 24)), none⟩]
def c290_r5 : List Ins := [⟨some 28, .p (.fieldA (.t 1) 1), none⟩,
 ⟨some 29, .p (.load (.t 28) 1 false), none⟩,
 ⟨some 30, .p (.mv (.t 3)), none⟩,
 ⟨some 31, .p (.idxA (.t 29) (.t 30) 2), none⟩,
 ⟨some 32, .p (.fieldA (.t 31) 0), none⟩,
 ⟨some 33, .p (.load (.t 32) 1 false), none⟩,
 ⟨some 34, .call 56 [(.t 33), (.c (.int .i64 0)), (.c (.int .i64 127))], none⟩,
 ⟨some 35, .p (.un .not (.t 34)), none⟩,
 ⟨some 36, .p (.mv (.t 35)), none⟩,
 ⟨some 37, .p (.fieldA (.t 1) 1), some (36, false)⟩,
 ⟨some 38, .p (.load (.t 37) 1 false), some (36, false)⟩,
 ⟨some 39, .p (.mv (.t 3)), some (36, false)⟩,
 ⟨some 40, .p (.idxA (.t 38) (.t 39) 2), some (36, false)⟩,
 ⟨some 41, .p (.fieldA (.t 40) 1), some (36, false)⟩,
 ⟨some 42, .p (.load (.t 41) 1 false), some (36, false)⟩,
 ⟨some 43, .p (.len (.t 42)), some (36, false)⟩,
 ⟨some 44, .p (.bin .neq (.t 43) (.c (.int .i64 32))), some (36, false)⟩,
 ⟨some 45, .pick (.t 36) (.c (.bool true)) (.t 44), none⟩]
def c290_r6 : List Ins := [⟨some 2, .p (.mv (.c (.bool false))), none⟩]
def c290_r7 : List Ins := [⟨some 26, .p (.mv (.t 3)), none⟩,
 ⟨some 27, .p (.bin .add (.t 26) (.c (.int .i64 1))), none⟩,
 ⟨some 3, .p (.mv (.t 27)), none⟩]
def c290_l0 : IR := (.seq (.seq (.reg c290_r4) (.ite (.t 25) .skip (.exit 0))) (.seq (.block 1 (.seq (.reg c290_r5) (.ite (.t 45) (.seq (.reg c290_r6) .ret) .skip))) (.reg c290_r7)))
def c290_r8 : List Ins := [⟨some 2, .p (.mv (.c (.bool true))), none⟩]
def c290 : XFn := { np := 1, nt := 46, res := [.t 2], body := (.seq (.reg c290_r0) (.seq (.seq (.reg c290_r1) (.ite (.t 20) (.seq (.reg c290_r2) .ret) .skip)) (.seq (.seq (.reg c290_r3) (.block 0 (.loop c290_l0))) (.seq (.reg c290_r8) .ret)))) }
def K290 (C : CRel) : Prop := ∀ (a0 : DDevice) (r : Bool), g290 a0 = some r → C 290 ⟨[.agg [.lst 1 (a0.held.map eU8), .lst 2 (a0.waiting.map eDSector)]], []⟩ ⟨.bool r, [], []⟩
theorem F290 {C : CRel} (H56 : K56 C) (a0 : DDevice) (r : Bool) (h0 : g290 a0 = some r) : FnOK C c290 ⟨[.agg [.lst 1 (a0.held.map eU8), .lst 2 (a0.waiting.map eDSector)]], []⟩ ⟨.bool r, [], []⟩ := by
  refine fn_ (Nat.le_of_ble_eq_true rfl) ?_
  refine seq_ ?_
  refine reg_ ?_
  refine st (box_ rfl trivial rfl ?_)
  refine st (mvc_ trivial ?_)
  refine oe_ ?_
  refine wk_ ⟨[(1, .ptr 64 0)], [(64, [.lst 1 (a0.held.map eU8), .lst 2 (a0.waiting.map eDSector)])], []⟩ (fgk (by kernel_rfl)) ?_
  refine seq_ ?_
  refine seq_ ?_
  refine reg_ ?_
  refine st (c_ (cp_ ⟨trivial, trivial⟩ rfl trivial) ?_)
  refine st (c_ (cp_ ⟨trivial, trivial⟩ rfl (Nat.le_of_ble_eq_true rfl)) ?_)
  refine st (c_ (clenL (e := eU8) (l0 := a0.held) rfl rfl trivial) ?_)
  refine st (c_ (cp_ ⟨trivial, trivial, trivial⟩ rfl (by decide)) ?_)
  refine st (c_ (cp_ ⟨trivial, trivial, trivial⟩ rfl trivial) ?_)
  refine st (mv_ rfl trivial ?_)
  refine st (pg_ (u := .ptr 64 0) rfl (fun hg => (cp_ ⟨trivial, trivial⟩ rfl trivial)) ?_)
  refine st (pg_ (u := .lst 1 (a0.held.map eU8)) rfl (fun hg => (cp_ ⟨(fun _ => hg), trivial⟩ rfl (Nat.le_of_ble_eq_true rfl))) ?_)
  refine st (pg_ (u := .int .i64 (a0.held.length : Int)) rfl (fun hg => (clenL (e := eU8) (l0 := a0.held) rfl rfl (fun _ => hg))) ?_)
  refine st (pg_ (u := .bool (decide ((a0.held.length : Int) > 4096))) rfl (fun hg => (cp_ ⟨(fun _ => hg), trivial, trivial⟩ rfl trivial)) ?_)
  refine st (pick_ rfl rfl rfl trivial (fun h => eqf h) rfl ?_)
  refine st (mv_ rfl trivial ?_)
  refine st (pg_ (u := .ptr 64 1) rfl (fun hg => (cp_ ⟨trivial, trivial⟩ rfl trivial)) ?_)
  refine st (pg_ (u := .lst 2 (a0.waiting.map eDSector)) rfl (fun hg => (cp_ ⟨(fun _ => hg), trivial⟩ rfl (Nat.le_of_ble_eq_true rfl))) ?_)
  refine st (pg_ (u := .int .i64 (a0.waiting.length : Int)) rfl (fun hg => (clenL (e := eDSector) (l0 := a0.waiting) rfl rfl (fun _ => hg))) ?_)
  refine sw ⟨[(1, .ptr 64 0), (15, .bool (bif ((((a0.held.length : Int)).tmod 32) != 0) then true else (decide ((a0.held.length : Int) > 4096)))), (18, .may ((bif ((((a0.held.length : Int)).tmod 32) != 0) then true else (decide ((a0.held.length : Int) > 4096))) == false) (.int .i64 (a0.waiting.length : Int)))], [(64, [.lst 1 (a0.held.map eU8), .lst 2 (a0.waiting.map eDSector)])], []⟩ (fgk (by kernel_rfl)) (pg_ (u := .bool (decide ((a0.waiting.length : Int) > 4096))) rfl (fun hg => (cp_ ⟨(fun _ => hg), trivial, trivial⟩ rfl trivial)) ?_)
  refine st (pick_ rfl rfl rfl trivial (fun h => eqf h) rfl ?_)
  refine oe_ ?_
  obtain ⟨v1, e2, h0⟩ := bl h0
  refine wk_ ⟨[(1, .ptr 64 0), (20, .bool v1)], [(64, [.lst 1 (a0.held.map eU8), .lst 2 (a0.waiting.map eDSector)])], []⟩ (fgk (by subst e2; kernel_rfl)) ?_
  refine ite_ (cb := v1) rfl (fun c3 => ?_) (fun c3 => ?_)
  · replace h0 := ip c3 h0
    refine seq_ ?_
    refine reg_ ?_
    refine st (mvc_ trivial ?_)
    refine oe_ ?_
    refine wk_ ⟨[(2, .bool false)], [], []⟩ (fgk (by kernel_rfl)) ?_
    obtain rfl := Option.some.inj h0
    exact rt_ (ret_ rfl rfl rfl rfl rfl trivial)
  · replace h0 := inb c3 h0
    refine sk_ ?_
    refine wk_ ⟨[(1, .ptr 64 0)], [(64, [.lst 1 (a0.held.map eU8), .lst 2 (a0.waiting.map eDSector)])], []⟩ (fgk (by kernel_rfl)) ?_
    refine seq_ ?_
    refine seq_ ?_
    refine reg_ ?_
    refine st (mvc_ trivial ?_)
    refine oe_ ?_
    refine wk_ ⟨[(1, .ptr 64 0), (3, .int .i64 0)], [(64, [.lst 1 (a0.held.map eU8), .lst 2 (a0.waiting.map eDSector)])], []⟩ (fgk (by kernel_rfl)) ?_
    refine block_ ?_
    obtain ⟨r30, e31, h0⟩ := bnd h0
    refine loop_ (R := (fun S => .inl () = r30 ∧ S = ⟨[], [], []⟩)) (g290_l0 a0) (fun s S => match s with | p12 => S = ⟨[(1, .ptr 64 0), (3, .int .i64 p12)], [(64, [.lst 1 (a0.held.map eU8), .lst 2 (a0.waiting.map eDSector)])], []⟩) e31 ⟨[(1, .ptr 64 0), (3, .int .i64 0)], [(64, [.lst 1 (a0.held.map eU8), .lst 2 (a0.waiting.map eDSector)])], []⟩ (fgk (by kernel_rfl)) rfl 0 (fun _ => rfl) ?_ ?_
    · rintro S _ hfg ⟨rfl, rfl⟩
      refine wk_ ⟨[], [], []⟩ (fglk hfg (by kernel_rfl)) ?_
      refine seq_ ?_
      refine reg_ ?_
      refine st (mvc_ trivial ?_)
      refine oe_ ?_
      refine wk_ ⟨[(2, .bool true)], [], []⟩ (fgk (by kernel_rfl)) ?_
      obtain rfl := Option.some.inj h0
      exact rt_ (ret_ rfl rfl rfl rfl rfl trivial)
    · rintro p12 o1 _ K1 rfl h1 hx1 hK1 hE1 hR1
      refine seq_ ?_
      refine seq_ ?_
      refine reg_ ?_
      refine st (mv_ rfl trivial ?_)
      refine st (c_ (cp_ ⟨trivial, trivial⟩ rfl trivial) ?_)
      refine st (c_ (cp_ ⟨trivial, trivial⟩ rfl (Nat.le_of_ble_eq_true rfl)) ?_)
      refine st (c_ (clenL (e := eDSector) (l0 := a0.waiting) rfl rfl trivial) ?_)
      refine st (c_ (cp_ ⟨trivial, trivial, trivial⟩ rfl trivial) ?_)
      refine oe_ ?_
      refine wk_ ⟨[(1, .ptr 64 0), (3, .int .i64 p12), (25, .bool (decide (p12 < (a0.waiting.length : Int))))], [(64, [.lst 1 (a0.held.map eU8), .lst 2 (a0.waiting.map eDSector)])], []⟩ (fgk (by kernel_rfl)) ?_
      refine ite_ (cb := (decide (p12 < (a0.waiting.length : Int)))) rfl (fun c22 => ?_) (fun c22 => ?_)
      · replace h1 := ip c22 h1
        refine sk_ ?_
        refine wk_ ⟨[(1, .ptr 64 0), (3, .int .i64 p12)], [(64, [.lst 1 (a0.held.map eU8), .lst 2 (a0.waiting.map eDSector)])], []⟩ (fgk (by kernel_rfl)) ?_
        refine seq_ ?_
        refine block_ ?_
        refine seq_ ?_
        refine reg_ ?_
        refine st (c_ (cp_ ⟨trivial, trivial⟩ rfl trivial) ?_)
        refine st (c_ (cp_ ⟨trivial, trivial⟩ rfl (Nat.le_of_ble_eq_true rfl)) ?_)
        refine st (mv_ rfl trivial ?_)
        obtain ⟨y23, e24, h1⟩ := bnd h1
        refine st (c_ (cidxL (e := eDSector) (y := y23) rfl rfl trivial rfl rfl trivial e24) ?_)
        refine st (c_ (cp_ ⟨trivial, trivial⟩ rfl (Nat.le_of_ble_eq_true rfl)) ?_)
        refine st (c_ (cp_ ⟨trivial, trivial⟩ rfl (Nat.le_of_ble_eq_true rfl)) ?_)
        obtain ⟨r25, e26, h1⟩ := bnd h1
        refine st (call0_ (r := .bool r25) false (H56 y23.at_ 0 127 r25 e26) ⟨trivial, trivial, trivial, trivial⟩ rfl rfl (fun _ => rfl) ?_)
        refine st (c_ (cp_ ⟨trivial, trivial⟩ rfl trivial) ?_)
        refine st (mv_ rfl trivial ?_)
        refine st (pg_ (u := .ptr 64 1) rfl (fun hg => (cp_ ⟨trivial, trivial⟩ rfl trivial)) ?_)
        refine st (pg_ (u := .lst 2 (a0.waiting.map eDSector)) rfl (fun hg => (cp_ ⟨(fun _ => hg), trivial⟩ rfl (Nat.le_of_ble_eq_true rfl))) ?_)
        refine st (pg_ (u := .int .i64 p12) rfl (fun hg => (cmv (v := .int .i64 p12) rfl trivial)) ?_)
        obtain ⟨y27, e28, h1⟩ := bnd h1
        refine sw ⟨[(1, .ptr 64 0), (3, .int .i64 p12), (36, .bool (!r25)), (38, .may ((!r25) == false) (.lst 2 (a0.waiting.map eDSector))), (39, .may ((!r25) == false) (.int .i64 p12))], [(64, [.lst 1 (a0.held.map eU8), .lst 2 (a0.waiting.map eDSector)])], []⟩ (fgk (by kernel_rfl)) (pg_ (u := .iptr [.int .i64 y27.at_, .lst 1 (y27.data.map eU8)]) rfl (fun hg => (cidxL (e := eDSector) (y := y27) rfl rfl (fun _ => hg) rfl rfl (fun _ => hg) (ip hg e28))) ?_)
        refine st (pg_ (u := .iptr [.lst 1 (y27.data.map eU8)]) rfl (fun hg => (cp_ ⟨(fun _ => hg), trivial⟩ rfl (Nat.le_of_ble_eq_true rfl))) ?_)
        refine st (pg_ (u := .lst 1 (y27.data.map eU8)) rfl (fun hg => (cp_ ⟨(fun _ => hg), trivial⟩ rfl (Nat.le_of_ble_eq_true rfl))) ?_)
        refine st (pg_ (u := .int .i64 (y27.data.length : Int)) rfl (fun hg => (clenL (e := eU8) (l0 := y27.data) rfl rfl (fun _ => hg))) ?_)
        refine st (pg_ (u := .bool ((y27.data.length : Int) != 32)) rfl (fun hg => (cp_ ⟨(fun _ => hg), trivial, trivial⟩ rfl trivial)) ?_)
        refine st (pick_ rfl rfl rfl trivial (fun h => eqf h) rfl ?_)
        refine oe_ ?_
        refine wk_ ⟨[(1, .ptr 64 0), (3, .int .i64 p12), (45, .bool (bif (!r25) then true else ((y27.data.length : Int) != 32)))], [(64, [.lst 1 (a0.held.map eU8), .lst 2 (a0.waiting.map eDSector)])], []⟩ (fgk (by kernel_rfl)) ?_
        refine ite_ (cb := (bif (!r25) then true else ((y27.data.length : Int) != 32))) rfl (fun c29 => ?_) (fun c29 => ?_)
        · replace h1 := ip c29 h1
          refine seq_ ?_
          refine reg_ ?_
          refine st (mvc_ trivial ?_)
          refine oe_ ?_
          refine wk_ ⟨[(2, .bool false)], [], []⟩ (fgk (by kernel_rfl)) ?_
          obtain rfl := Option.some.inj h1
          obtain rfl := hx1 _ rfl
          obtain rfl := Option.some.inj h0
          exact rt_ (hR1 _ (ret_ rfl rfl rfl rfl rfl trivial))
        · replace h1 := inb c29 h1
          refine sk_ ?_
          refine bn_ ?_
          refine wk_ ⟨[(1, .ptr 64 0), (3, .int .i64 p12)], [(64, [.lst 1 (a0.held.map eU8), .lst 2 (a0.waiting.map eDSector)])], []⟩ (fgk (by kernel_rfl)) ?_
          refine reg_ ?_
          refine st (mv_ rfl trivial ?_)
          refine st (c_ (cp_ ⟨trivial, trivial, trivial⟩ rfl trivial) ?_)
          refine st (mv_ rfl trivial ?_)
          refine oe_ ?_
          obtain rfl := Option.some.inj h1
          exact hK1 _ rfl _ ⟨[(1, .ptr 64 0), (3, .int .i64 (IntKind.i64.wrap (p12 + 1)))], [(64, [.lst 1 (a0.held.map eU8), .lst 2 (a0.waiting.map eDSector)])], []⟩ (fgk (by kernel_rfl)) rfl
      · replace h1 := inb c22 h1
        obtain rfl := Option.some.inj h1
        obtain rfl := hx1 _ rfl
        refine exQ rfl ?_
        exact hE1 _ ⟨[], [], []⟩ (fgk (by kernel_rfl)) ⟨rfl, rfl⟩

/- loop.example/g00149/spec.l01Fits -/
def c291_r0 : List Ins := [⟨some 4, .p (.mv (.c (.bool false))), none⟩]
def c291_r1 : List Ins := [⟨some 5, .p (.mv (.t 0)), none⟩,
 ⟨some 6, .p (.bin .geq (.t 5) (.c (.int .i64 0))), none⟩,
 ⟨some 7, .p (.mv (.t 6)), none⟩,
 ⟨some 8, .p (.mv (.t 1)), some (7, true)⟩,
 ⟨some 9, .p (.bin .leq (.t 8) (.c (.int .i64 4096))), some (7, true)⟩,
 ⟨some 10, .pick (.t 7) (.t 9) (.c (.bool false)), none⟩,
 ⟨some 11, .p (.mv (.t 10)), none⟩,
 ⟨some 12, .p (.mv (.t 0)), some (11, true)⟩,
 ⟨some 13, .p (.mv (.t 1)), some (11, true)⟩,
 ⟨some 14, .p (.bin .sub (.c (.int .i64 4096)) (.t 13)), some (11, true)⟩,
 ⟨some 15, .p (.bin .leq (.t 12) (.t 14)), some (11, true)⟩,
 ⟨some 16, .pick (.t 11) (.t 15) (.c (.bool false)), none⟩,
 ⟨some 4, .p (.mv (.t 16)), none⟩]
def c291 : XFn := { np := 2, nt := 17, res := [.t 4], body := (.seq (.reg c291_r0) (.seq (.reg c291_r1) .ret)) }
def K291 (C : CRel) : Prop := ∀ (a0 : Int) (a1 : Int) (r : Bool), g291 a0 a1 = some r → C 291 ⟨[.int .i64 a0, .int .i64 a1], []⟩ ⟨.bool r, [], []⟩
theorem F291 {C : CRel}  (a0 : Int) (a1 : Int) (r : Bool) (h0 : g291 a0 a1 = some r) : FnOK C c291 ⟨[.int .i64 a0, .int .i64 a1], []⟩ ⟨.bool r, [], []⟩ := by
  refine fn_ (Nat.le_of_ble_eq_true rfl) ?_
  refine seq_ ?_
  refine reg_ ?_
  refine st (mvc_ trivial ?_)
  refine oe_ ?_
  refine wk_ ⟨[(0, .int .i64 a0), (1, .int .i64 a1)], [], []⟩ (fgk (by kernel_rfl)) ?_
  refine seq_ ?_
  refine reg_ ?_
  refine st (mv_ rfl trivial ?_)
  refine st (c_ (cp_ ⟨trivial, trivial, trivial⟩ rfl trivial) ?_)
  refine st (mv_ rfl trivial ?_)
  refine st (pg_ (u := .int .i64 a1) rfl (fun hg => (cmv (v := .int .i64 a1) rfl trivial)) ?_)
  refine st (pg_ (u := .bool (decide (a1 ≤ 4096))) rfl (fun hg => (cp_ ⟨(fun _ => hg), trivial, trivial⟩ rfl trivial)) ?_)
  refine st (pick_ rfl rfl rfl (fun h => eqt h) trivial rfl ?_)
  refine st (mv_ rfl trivial ?_)
  refine st (pg_ (u := .int .i64 a0) rfl (fun hg => (cmv (v := .int .i64 a0) rfl trivial)) ?_)
  refine st (pg_ (u := .int .i64 a1) rfl (fun hg => (cmv (v := .int .i64 a1) rfl trivial)) ?_)
  refine st (pg_ (u := .int .i64 (IntKind.i64.wrap (4096 - a1))) rfl (fun hg => (cp_ ⟨trivial, (fun _ => hg), trivial⟩ rfl trivial)) ?_)
  refine st (pg_ (u := .bool (decide (a0 ≤ (IntKind.i64.wrap (4096 - a1))))) rfl (fun hg => (cp_ ⟨(fun _ => hg), (fun _ => hg), trivial⟩ rfl trivial)) ?_)
  refine st (pick_ rfl rfl rfl (fun h => eqt h) trivial rfl ?_)
  refine st (mv_ rfl trivial ?_)
  refine oe_ ?_
  obtain ⟨v1, e2, h0⟩ := bl h0
  refine wk_ ⟨[(4, .bool v1)], [], []⟩ (fgk (by subst e2; kernel_rfl)) ?_
  obtain rfl := Option.some.inj h0
  exact rt_ (ret_ rfl rfl rfl rfl rfl trivial)

/- loop.example/g00149/spec.l01Put -/
def c352_r0 : List Ins := [⟨some 3, .box (.t 1), none⟩,
 ⟨some 4, .nilS 1, none⟩]
def c352_r1 : List Ins := [⟨some 6, .mkS 1 [(.int .u8 0)] 0 [], none⟩,
 ⟨some 7, .p (.mv (.t 0)), none⟩,
 ⟨some 8, .app 1 1 (.t 6) (.t 7), none⟩,
 ⟨some 5, .p (.mv (.t 8)), none⟩]
def c352_r2 : List Ins := [⟨some 9, .p (.mv (.t 5)), none⟩,
 ⟨some 10, .p (.len (.t 9)), none⟩,
 ⟨some 11, .p (.fieldA (.t 3) 0), none⟩,
 ⟨some 12, .p (.load (.t 11) 1 false), none⟩,
 ⟨some 13, .p (.bin .add (.t 12) (.c (.int .i64 1))), none⟩,
 ⟨some 14, .p (.bin .mul (.t 13) (.c (.int .i64 32))), none⟩,
 ⟨some 15, .p (.bin .lss (.t 10) (.t 14)), none⟩]
def c352_r3 : List Ins := [⟨some 16, .p (.mv (.t 5)), none⟩,
 ⟨some 17, .appz 1 1 [(.int .u8 0)] (.t 16) (.c (.int .i64 32)), none⟩,
 ⟨some 5, .p (.mv (.t 17)), none⟩]
def c352_l0 : IR := (.seq (.seq (.reg c352_r2) (.ite (.t 15) .skip (.exit 0))) (.block 1 (.reg c352_r3)))
def c352_r4 : DP := (.take ⟨some 18, .p (.mv (.t 5)), none⟩
 (.take ⟨some 19, .p (.fieldA (.t 3) 0), none⟩
 (.take ⟨some 20, .p (.load (.t 19) 1 false), none⟩
 (.take ⟨some 21, .p (.bin .mul (.t 20) (.c (.int .i64 32))), none⟩
 (.take ⟨some 22, .p (.slice (.t 18) (some (.t 21)) none 1), none⟩
 (.take ⟨some 23, .p (.fieldA (.t 3) 1), none⟩
 (.take ⟨some 24, .p (.load (.t 23) 1 false), none⟩
 (.alt [] ⟨some 25, .copy 1 (.t 22) (.t 24), none⟩
 .fin
 .stop))))))))
def c352_r5 : List Ins := [⟨some 26, .p (.mv (.t 5)), none⟩,
 ⟨some 4, .p (.mv (.t 26)), none⟩]
def c352 : XFn := { np := 2, nt := 27, res := [.t 4], body := (.seq (.reg c352_r0) (.seq (.reg c352_r1) (.seq (.block 0 (.loop c352_l0)) (.seq (.draw c352_r4) (.seq (.reg c352_r5) .ret))))) }
def K352 (C : CRel) : Prop := ∀ (a0 : List UInt8) (a1 : DSector) (r : (List UInt8)), g352 a0 a1 = some r → C 352 ⟨[.lst 1 (a0.map eU8), .agg [.int .i64 a1.at_, .lst 1 (a1.data.map eU8)]], []⟩ ⟨.own 0 0 1 (r.map eU8), [], []⟩
theorem F352 {C : CRel}  (a0 : List UInt8) (a1 : DSector) (r : (List UInt8)) (h0 : g352 a0 a1 = some r) : FnOK C c352 ⟨[.lst 1 (a0.map eU8), .agg [.int .i64 a1.at_, .lst 1 (a1.data.map eU8)]], []⟩ ⟨.own 0 0 1 (r.map eU8), [], []⟩ := by
  refine fn_ (Nat.le_of_ble_eq_true rfl) ?_
  refine seq_ ?_
  refine reg_ ?_
  refine st (box_ rfl trivial rfl ?_)
  refine st (nilS_ ?_)
  refine oe_ ?_
  refine wk_ ⟨[(0, .lst 1 (a0.map eU8)), (3, .ptr 192 0)], [(192, [.int .i64 a1.at_, .lst 1 (a1.data.map eU8)])], []⟩ (fgk (by kernel_rfl)) ?_
  refine seq_ ?_
  refine reg_ ?_
  refine st (mkS_ trivial trivial ?_)
  refine st (mv_ rfl trivial ?_)
  obtain ⟨c1, h0⟩ := grd h0
  refine st (app_ (e := eU8) (l0 := ([] : List UInt8)) (l1 := a0) rfl rfl trivial rfl (by decide) c1 ?_)
  refine st (mv_ rfl trivial ?_)
  refine oe_ ?_
  refine wk_ ⟨[(3, .ptr 192 0), (5, .own 384 0 1 ((([] : List UInt8) ++ a0).map eU8))], [(192, [.int .i64 a1.at_, .lst 1 (a1.data.map eU8)])], []⟩ (fgk (by kernel_rfl)) ?_
  refine seq_ ?_
  refine block_ ?_
  obtain ⟨r20, e21, h0⟩ := bnd h0
  refine loop_ (R := (fun S => ∃ p14 : List UInt8, p14 = r20 ∧ S = ⟨[(3, .ptr 192 0), (5, .own 384 0 1 (p14.map eU8))], [(192, [.int .i64 a1.at_, .lst 1 (a1.data.map eU8)])], []⟩)) (g352_l0 a1) (fun s S => match s with | p7 => S = ⟨[(3, .ptr 192 0), (5, .own 384 0 1 (p7.map eU8))], [(192, [.int .i64 a1.at_, .lst 1 (a1.data.map eU8)])], []⟩) e21 ⟨[(3, .ptr 192 0), (5, .own 384 0 1 ((([] : List UInt8) ++ a0).map eU8))], [(192, [.int .i64 a1.at_, .lst 1 (a1.data.map eU8)])], []⟩ (fgk (by kernel_rfl)) rfl 0 (fun _ => rfl) ?_ ?_
  · rintro S _ hfg ⟨p14, rfl, rfl⟩
    refine wk_ ⟨[(3, .ptr 192 0), (5, .own 384 0 1 (p14.map eU8))], [(192, [.int .i64 a1.at_, .lst 1 (a1.data.map eU8)])], []⟩ (fglk hfg (by kernel_rfl)) ?_
    refine seq_ ?_
    obtain ⟨s22, e23, h0⟩ := bnd h0
    refine draw_ ?_
    refine dtake trivial (mv_ rfl trivial ?_)
    refine ⟨trivial, ?_⟩
    refine dtake trivial (c_ (cp_ ⟨trivial, trivial⟩ rfl trivial) ?_)
    refine ⟨trivial, ?_⟩
    refine dtake trivial (c_ (cp_ ⟨trivial, trivial⟩ rfl (Nat.le_of_ble_eq_true rfl)) ?_)
    refine ⟨trivial, ?_⟩
    refine dtake trivial (c_ (cp_ ⟨trivial, trivial, trivial⟩ rfl trivial) ?_)
    refine ⟨trivial, ?_⟩
    refine dtake trivial (c_ (csliceO (e := eU8) (y := s22) rfl rfl trivial ⟨trivial, trivial⟩ rfl rfl e23) ?_)
    refine ⟨trivial, ?_⟩
    refine dtake trivial (c_ (cp_ ⟨trivial, trivial⟩ rfl trivial) ?_)
    refine ⟨trivial, ?_⟩
    refine dtake trivial (c_ (cp_ ⟨trivial, trivial⟩ rfl (Nat.le_of_ble_eq_true rfl)) ?_)
    refine ⟨trivial, ?_⟩
    refine dalt (copy_ (e := eU8) (l1 := a1.data) rfl rfl trivial rfl ?_) dstop
    refine dk0 ⟨[], trivial, trivial, ?_⟩
    refine dfin ?_
    refine wk_ ⟨[(5, .own 384 0 1 ((ovl p14 ((IntKind.i64.wrap (a1.at_ * 32)).toNat) (a1.data.take s22.length)).map eU8))], [], []⟩ (fg ⟨(congrArg (fun z => some ((.own 384 0 1 z : V))) overlay_ovl), trivial⟩ trivial) ?_
    refine seq_ ?_
    refine reg_ ?_
    refine st (mv_ rfl trivial ?_)
    refine st (mv_ rfl trivial ?_)
    refine oe_ ?_
    obtain ⟨v24, e25, h0⟩ := bl h0
    refine wk_ ⟨[(4, .own 384 0 1 (v24.map eU8))], [], []⟩ (fgk (by subst e25; kernel_rfl)) ?_
    obtain rfl := Option.some.inj h0
    exact rt_ (ret_ rfl rfl rfl rfl rfl trivial)
  · rintro p7 o1 _ K1 rfl h1 hx1 hK1 hE1 hR1
    unfold g352_l0 at h1
    refine seq_ ?_
    refine seq_ ?_
    refine reg_ ?_
    refine st (mv_ rfl trivial ?_)
    refine st (c_ (clenO (e := eU8) (l0 := p7) rfl rfl trivial) ?_)
    refine st (c_ (cp_ ⟨trivial, trivial⟩ rfl trivial) ?_)
    refine st (c_ (cp_ ⟨trivial, trivial⟩ rfl (Nat.le_of_ble_eq_true rfl)) ?_)
    refine st (c_ (cp_ ⟨trivial, trivial, trivial⟩ rfl trivial) ?_)
    refine st (c_ (cp_ ⟨trivial, trivial, trivial⟩ rfl trivial) ?_)
    refine st (c_ (cp_ ⟨trivial, trivial, trivial⟩ rfl trivial) ?_)
    refine oe_ ?_
    obtain ⟨v15, e16, h1⟩ := bl h1
    refine wk_ ⟨[(3, .ptr 192 0), (5, .own 384 0 1 (p7.map eU8)), (15, .bool v15)], [(192, [.int .i64 a1.at_, .lst 1 (a1.data.map eU8)])], []⟩ (fgk (by subst e16; kernel_rfl)) ?_
    refine ite_ (cb := v15) rfl (fun c17 => ?_) (fun c17 => ?_)
    · replace h1 := ip c17 h1
      refine sk_ ?_
      refine wk_ ⟨[(3, .ptr 192 0), (5, .own 384 0 1 (p7.map eU8))], [(192, [.int .i64 a1.at_, .lst 1 (a1.data.map eU8)])], []⟩ (fgk (by kernel_rfl)) ?_
      refine block_ ?_
      refine reg_ ?_
      refine st (mv_ rfl trivial ?_)
      obtain ⟨c18, h1⟩ := grd h1
      obtain ⟨c19, h1⟩ := grd h1
      refine st (appz_ (e := eU8) (l0 := p7) (0 : UInt8) rfl rfl rfl (by decide) c18 c19 ?_)
      refine st (mv_ rfl trivial ?_)
      refine oe_ ?_
      refine bn_ ?_
      obtain rfl := Option.some.inj h1
      exact hK1 _ rfl _ ⟨[(3, .ptr 192 0), (5, .own 384 0 1 ((p7 ++ List.replicate (32 : Int).toNat (0 : UInt8)).map eU8))], [(192, [.int .i64 a1.at_, .lst 1 (a1.data.map eU8)])], []⟩ (fgk (by kernel_rfl)) rfl
    · replace h1 := inb c17 h1
      obtain rfl := Option.some.inj h1
      obtain rfl := hx1 _ rfl
      refine exQ rfl ?_
      exact hE1 _ ⟨[(3, .ptr 192 0), (5, .own 384 0 1 (p7.map eU8))], [(192, [.int .i64 a1.at_, .lst 1 (a1.data.map eU8)])], []⟩ (fgk (by kernel_rfl)) ⟨_, rfl, rfl⟩

/- loop.example/g00149/spec.l01Read -/
def c303_r0 : List Ins := [⟨some 1, .box (.t 0), none⟩,
 ⟨some 2, .nilS 1, none⟩]
def c303_r1 : List Ins := [⟨some 5, .mkS 1 [(.int .u8 0)] 0 [], none⟩,
 ⟨some 6, .p (.fieldA (.t 1) 0), none⟩,
 ⟨some 7, .p (.load (.t 6) 1 false), none⟩,
 ⟨some 8, .app 1 1 (.t 5) (.t 7), none⟩,
 ⟨some 3, .p (.mv (.t 8)), none⟩]
def c303_r2 : List Ins := [⟨some 4, .p (.mv (.c (.int .i64 0))), none⟩]
def c303_r3 : List Ins := [⟨some 9, .p (.mv (.t 4)), none⟩,
 ⟨some 10, .p (.fieldA (.t 1) 1), none⟩,
 ⟨some 11, .p (.load (.t 10) 1 false), none⟩,
 ⟨some 12, .p (.len (.t 11)), none⟩,
 ⟨some 13, .p (.bin .lss (.t 9) (.t 12)), none⟩]
def c303_r4 : List Ins := [⟨some 16, .p (.mv (.t 3)), none⟩,
 ⟨some 17, .p (.fieldA (.t 1) 1), none⟩,
 ⟨some 18, .p (.load (.t 17) 1 false), none⟩,
 ⟨some 19, .p (.mv (.t 4)), none⟩,
 ⟨some 20, .p (.idxA (.t 18) (.t 19) 2), none⟩,
 ⟨some 21, .p (.load (.t 20) 2 true), none⟩,
 ⟨some 22, .call 352 [(.t 16), (.t 21)], none⟩,
 ⟨some 3, .p (.mv (.t 22)), none⟩]
def c303_r5 : List Ins := [⟨some 14, .p (.mv (.t 4)), none⟩,
 ⟨some 15, .p (.bin .add (.t 14) (.c (.int .i64 1))), none⟩,
 ⟨some 4, .p (.mv (.t 15)), none⟩]
def c303_l0 : IR := (.seq (.seq (.reg c303_r3) (.ite (.t 13) .skip (.exit 0))) (.seq (.block 1 (.reg c303_r4)) (.reg c303_r5)))
def c303_r6 : List Ins := [⟨some 23, .p (.mv (.t 3)), none⟩,
 ⟨some 2, .p (.mv (.t 23)), none⟩]
def c303 : XFn := { np := 1, nt := 24, res := [.t 2], body := (.seq (.reg c303_r0) (.seq (.reg c303_r1) (.seq (.seq (.reg c303_r2) (.block 0 (.loop c303_l0))) (.seq (.reg c303_r6) .ret)))) }
def K303 (C : CRel) : Prop := ∀ (a0 : DDevice) (r : (List UInt8)), g303 a0 = some r → C 303 ⟨[.agg [.lst 1 (a0.held.map eU8), .lst 2 (a0.waiting.map eDSector)]], []⟩ ⟨.own 0 0 1 (r.map eU8), [], []⟩
theorem F303 {C : CRel} (H352 : K352 C) (a0 : DDevice) (r : (List UInt8)) (h0 : g303 a0 = some r) : FnOK C c303 ⟨[.agg [.lst 1 (a0.held.map eU8), .lst 2 (a0.waiting.map eDSector)]], []⟩ ⟨.own 0 0 1 (r.map eU8), [], []⟩ := by
  refine fn_ (Nat.le_of_ble_eq_true rfl) ?_
  refine seq_ ?_
  refine reg_ ?_
  refine st (box_ rfl trivial rfl ?_)
  refine st (nilS_ ?_)
  refine oe_ ?_
  refine wk_ ⟨[(1, .ptr 64 0)], [(64, [.lst 1 (a0.held.map eU8), .lst 2 (a0.waiting.map eDSector)])], []⟩ (fgk (by kernel_rfl)) ?_
  refine seq_ ?_
  refine reg_ ?_
  refine st (mkS_ trivial trivial ?_)
  refine st (c_ (cp_ ⟨trivial, trivial⟩ rfl trivial) ?_)
  refine st (c_ (cp_ ⟨trivial, trivial⟩ rfl (Nat.le_of_ble_eq_true rfl)) ?_)
  obtain ⟨c1, h0⟩ := grd h0
  refine st (app_ (e := eU8) (l0 := ([] : List UInt8)) (l1 := a0.held) rfl rfl trivial rfl (by decide) c1 ?_)
  refine st (mv_ rfl trivial ?_)
  refine oe_ ?_
  refine wk_ ⟨[(1, .ptr 64 0), (3, .own 320 0 1 ((([] : List UInt8) ++ a0.held).map eU8))], [(64, [.lst 1 (a0.held.map eU8), .lst 2 (a0.waiting.map eDSector)])], []⟩ (fgk (by kernel_rfl)) ?_
  refine seq_ ?_
  refine seq_ ?_
  refine reg_ ?_
  refine st (mvc_ trivial ?_)
  refine oe_ ?_
  refine wk_ ⟨[(1, .ptr 64 0), (3, .own 320 0 1 ((([] : List UInt8) ++ a0.held).map eU8)), (4, .int .i64 0)], [(64, [.lst 1 (a0.held.map eU8), .lst 2 (a0.waiting.map eDSector)])], []⟩ (fgk (by kernel_rfl)) ?_
  refine block_ ?_
  obtain ⟨r22, e23, h0⟩ := bnd h0
  refine loop_ (R := (fun S => ∃ p16 : List UInt8, p16 = r22 ∧ S = ⟨[(3, .own 320 0 1 (p16.map eU8))], [], []⟩)) (g303_l0 a0) (fun s S => match s with | (p7, p8) => S = ⟨[(1, .ptr 64 0), (3, .own 320 0 1 (p7.map eU8)), (4, .int .i64 p8)], [(64, [.lst 1 (a0.held.map eU8), .lst 2 (a0.waiting.map eDSector)])], []⟩) e23 ⟨[(1, .ptr 64 0), (3, .own 320 0 1 ((([] : List UInt8) ++ a0.held).map eU8)), (4, .int .i64 0)], [(64, [.lst 1 (a0.held.map eU8), .lst 2 (a0.waiting.map eDSector)])], []⟩ (fgk (by kernel_rfl)) rfl 0 (fun _ => rfl) ?_ ?_
  · rintro S _ hfg ⟨p16, rfl, rfl⟩
    refine wk_ ⟨[(3, .own 320 0 1 (p16.map eU8))], [], []⟩ (fglk hfg (by kernel_rfl)) ?_
    refine seq_ ?_
    refine reg_ ?_
    refine st (mv_ rfl trivial ?_)
    refine st (mv_ rfl trivial ?_)
    refine oe_ ?_
    refine wk_ ⟨[(2, .own 320 0 1 (p16.map eU8))], [], []⟩ (fgk (by kernel_rfl)) ?_
    obtain rfl := Option.some.inj h0
    exact rt_ (ret_ rfl rfl rfl rfl rfl trivial)
  · rintro ⟨p7, p8⟩ o1 _ K1 rfl h1 hx1 hK1 hE1 hR1
    refine seq_ ?_
    refine seq_ ?_
    refine reg_ ?_
    refine st (mv_ rfl trivial ?_)
    refine st (c_ (cp_ ⟨trivial, trivial⟩ rfl trivial) ?_)
    refine st (c_ (cp_ ⟨trivial, trivial⟩ rfl (Nat.le_of_ble_eq_true rfl)) ?_)
    refine st (c_ (clenL (e := eDSector) (l0 := a0.waiting) rfl rfl trivial) ?_)
    refine st (c_ (cp_ ⟨trivial, trivial, trivial⟩ rfl trivial) ?_)
    refine oe_ ?_
    refine wk_ ⟨[(1, .ptr 64 0), (3, .own 320 0 1 (p7.map eU8)), (4, .int .i64 p8), (13, .bool (decide (p8 < (a0.waiting.length : Int))))], [(64, [.lst 1 (a0.held.map eU8), .lst 2 (a0.waiting.map eDSector)])], []⟩ (fgk (by kernel_rfl)) ?_
    refine ite_ (cb := (decide (p8 < (a0.waiting.length : Int)))) rfl (fun c17 => ?_) (fun c17 => ?_)
    · replace h1 := ip c17 h1
      refine sk_ ?_
      refine wk_ ⟨[(1, .ptr 64 0), (3, .own 320 0 1 (p7.map eU8)), (4, .int .i64 p8)], [(64, [.lst 1 (a0.held.map eU8), .lst 2 (a0.waiting.map eDSector)])], []⟩ (fgk (by kernel_rfl)) ?_
      refine seq_ ?_
      refine block_ ?_
      refine reg_ ?_
      refine st (mv_ rfl trivial ?_)
      refine st (c_ (cp_ ⟨trivial, trivial⟩ rfl trivial) ?_)
      refine st (c_ (cp_ ⟨trivial, trivial⟩ rfl (Nat.le_of_ble_eq_true rfl)) ?_)
      refine st (mv_ rfl trivial ?_)
      obtain ⟨y18, e19, h1⟩ := bnd h1
      refine st (c_ (cidxL (e := eDSector) (y := y18) rfl rfl trivial rfl rfl trivial e19) ?_)
      refine st (c_ (v := .agg [.int .i64 y18.at_, .lst 1 (y18.data.map eU8)]) (cp_ ⟨trivial, trivial⟩ rfl (Nat.le_of_ble_eq_true rfl)) ?_)
      obtain ⟨r20, e21, h1⟩ := bnd h1
      refine st (call0_ (r := .own 0 0 1 (r20.map eU8)) false (H352 p7 y18 r20 e21) ⟨trivial, trivial, trivial⟩ rfl rfl (fun _ => (and_ (fl1 (fun _ => rfl)) rfl)) ?_)
      refine st (mv_ rfl trivial ?_)
      refine oe_ ?_
      refine bn_ ?_
      refine wk_ ⟨[(1, .ptr 64 0), (3, .own 1408 0 1 (r20.map eU8)), (4, .int .i64 p8)], [(64, [.lst 1 (a0.held.map eU8), .lst 2 (a0.waiting.map eDSector)])], []⟩ (fgk (by kernel_rfl)) ?_
      refine reg_ ?_
      refine st (mv_ rfl trivial ?_)
      refine st (c_ (cp_ ⟨trivial, trivial, trivial⟩ rfl trivial) ?_)
      refine st (mv_ rfl trivial ?_)
      refine oe_ ?_
      obtain rfl := Option.some.inj h1
      exact hK1 _ rfl _ ⟨[(1, .ptr 64 0), (3, .own 320 0 1 (r20.map eU8)), (4, .int .i64 (IntKind.i64.wrap (p8 + 1)))], [(64, [.lst 1 (a0.held.map eU8), .lst 2 (a0.waiting.map eDSector)])], []⟩ (fgsk [] [(1408, 320)] rfl (by kernel_rfl)) rfl
    · replace h1 := inb c17 h1
      obtain rfl := Option.some.inj h1
      obtain rfl := hx1 _ rfl
      refine exQ rfl ?_
      exact hE1 _ ⟨[(3, .own 320 0 1 (p7.map eU8))], [], []⟩ (fgk (by kernel_rfl)) ⟨_, rfl, rfl⟩

/- loop.example/g00149/spec.l01Write -/
def c292_r0 : List Ins := [⟨some 3, .box (.t 0), none⟩,
 ⟨some 6, .alloc [(.own 385 0 1 []), (.own 386 0 2 [])], none⟩]
def c292_r1 : List Ins := [⟨some 10, .p (.load (.t 3) 2 true), none⟩,
 ⟨some 11, .call 303 [(.t 10)], none⟩,
 ⟨some 7, .p (.mv (.t 11)), none⟩]
def c292_r2 : List Ins := [⟨some 12, .p (.mv (.t 7)), none⟩,
 ⟨some 13, .p (.len (.t 12)), none⟩,
 ⟨some 14, .p (.mv (.t 1)), none⟩,
 ⟨some 15, .p (.mv (.t 2)), none⟩,
 ⟨some 16, .p (.len (.t 15)), none⟩,
 ⟨some 17, .p (.bin .add (.t 14) (.t 16)), none⟩,
 ⟨some 18, .p (.bin .lss (.t 13) (.t 17)), none⟩,
 ⟨some 19, .p (.mv (.t 18)), none⟩,
 ⟨some 20, .p (.mv (.t 7)), some (19, false)⟩,
 ⟨some 21, .p (.len (.t 20)), some (19, false)⟩,
 ⟨some 22, .p (.bin .rem (.t 21) (.c (.int .i64 32))), some (19, false)⟩,
 ⟨some 23, .p (.bin .neq (.t 22) (.c (.int .i64 0))), some (19, false)⟩,
 ⟨some 24, .pick (.t 19) (.c (.bool true)) (.t 23), none⟩]
def c292_r3 : List Ins := [⟨some 25, .p (.mv (.t 7)), none⟩,
 ⟨some 26, .mkS 1 [(.int .u8 0)] 1 [(0, (.c (.int .u8 0)))], none⟩,
 ⟨some 27, .app 1 1 (.t 25) (.t 26), none⟩,
 ⟨some 7, .p (.mv (.t 27)), none⟩]
def c292_l0 : IR := (.seq (.seq (.reg c292_r2) (.ite (.t 24) .skip (.exit 0))) (.block 1 (.reg c292_r3)))
def c292_r4 : List Ins := [⟨some 28, .p (.mv (.t 7)), none⟩,
 ⟨some 29, .p (.mv (.t 1)), none⟩,
 ⟨some 30, .p (.slice (.t 28) (some (.t 29)) none 1), none⟩,
 ⟨some 31, .p (.mv (.t 2)), none⟩,
 ⟨some 32, .copy 1 (.t 30) (.t 31), none⟩]
def c292_r5 : DP := (.take ⟨some 33, .p (.fieldA (.t 3) 0), none⟩
 (.take ⟨some 34, .p (.load (.t 33) 1 false), none⟩
 (.take ⟨some 36, .p (.fieldA (.t 3) 1), none⟩
 (.take ⟨some 37, .p (.load (.t 36) 1 false), none⟩
 (.alt [⟨some 37, .p (.load (.t 36) 1 false), none⟩, ⟨some 36, .p (.fieldA (.t 3) 1), none⟩, ⟨some 34, .p (.load (.t 33) 1 false), none⟩, ⟨some 33, .p (.fieldA (.t 3) 0), none⟩] ⟨some 35, .mkS 2 [(.int .i64 0), (.lst 1 [])] 0 [], none⟩
 (.alt [⟨some 34, .p (.load (.t 33) 1 false), none⟩, ⟨some 33, .p (.fieldA (.t 3) 0), none⟩] ⟨some 38, .app 2 32 (.t 35) (.t 37), none⟩
 (.take ⟨some 39, .p (.build [(.own 2497 0 1 []), (.own 2498 0 2 [])] [(0, 1, (.t 34)), (1, 1, (.t 38))]), none⟩
 (.alt [⟨some 39, .p (.build [(.own 2497 0 1 []), (.own 2498 0 2 [])] [(0, 1, (.t 34)), (1, 1, (.t 38))]), none⟩, ⟨some 34, .p (.load (.t 33) 1 false), none⟩, ⟨some 33, .p (.fieldA (.t 3) 0), none⟩] ⟨some 8, .alloc [(.own 513 0 1 []), (.own 514 0 2 [])], none⟩
 (.alt [] ⟨none, .store (.t 8) (.t 39) 2, none⟩
 .fin
 .stop)
 .stop))
 (.alt [⟨some 37, .p (.load (.t 36) 1 false), none⟩, ⟨some 36, .p (.fieldA (.t 3) 1), none⟩, ⟨some 34, .p (.load (.t 33) 1 false), none⟩, ⟨some 33, .p (.fieldA (.t 3) 0), none⟩] ⟨some 8, .alloc [(.own 513 0 1 []), (.own 514 0 2 [])], none⟩
 (.alt [⟨some 34, .p (.load (.t 33) 1 false), none⟩, ⟨some 33, .p (.fieldA (.t 3) 0), none⟩] ⟨some 38, .app 2 32 (.t 35) (.t 37), none⟩
 (.take ⟨some 39, .p (.build [(.own 2497 0 1 []), (.own 2498 0 2 [])] [(0, 1, (.t 34)), (1, 1, (.t 38))]), none⟩
 (.alt [] ⟨none, .store (.t 8) (.t 39) 2, none⟩
 .fin
 .stop))
 .stop)
 .stop))
 (.alt [⟨some 37, .p (.load (.t 36) 1 false), none⟩, ⟨some 36, .p (.fieldA (.t 3) 1), none⟩, ⟨some 34, .p (.load (.t 33) 1 false), none⟩, ⟨some 33, .p (.fieldA (.t 3) 0), none⟩] ⟨some 8, .alloc [(.own 513 0 1 []), (.own 514 0 2 [])], none⟩
 (.alt [⟨some 37, .p (.load (.t 36) 1 false), none⟩, ⟨some 36, .p (.fieldA (.t 3) 1), none⟩, ⟨some 34, .p (.load (.t 33) 1 false), none⟩, ⟨some 33, .p (.fieldA (.t 3) 0), none⟩] ⟨some 35, .mkS 2 [(.int .i64 0), (.lst 1 [])] 0 [], none⟩
 (.alt [⟨some 34, .p (.load (.t 33) 1 false), none⟩, ⟨some 33, .p (.fieldA (.t 3) 0), none⟩] ⟨some 38, .app 2 32 (.t 35) (.t 37), none⟩
 (.take ⟨some 39, .p (.build [(.own 2497 0 1 []), (.own 2498 0 2 [])] [(0, 1, (.t 34)), (1, 1, (.t 38))]), none⟩
 (.alt [] ⟨none, .store (.t 8) (.t 39) 2, none⟩
 .fin
 .stop))
 .stop)
 .stop)
 .stop))))))
def c292_r6 : List Ins := [⟨some 40, .p (.mv (.t 2)), none⟩,
 ⟨some 41, .p (.len (.t 40)), none⟩,
 ⟨some 42, .p (.bin .eql (.t 41) (.c (.int .i64 0))), none⟩]
def c292_r7 : List Ins := [⟨some 43, .p (.load (.t 8) 2 true), none⟩,
 ⟨none, .store (.t 6) (.t 43) 2, none⟩]
def c292_r8 : List Ins := [⟨some 44, .p (.mv (.t 1)), none⟩,
 ⟨some 45, .p (.bin .quo (.t 44) (.c (.int .i64 32))), none⟩,
 ⟨some 9, .p (.mv (.t 45)), none⟩]
def c292_r9 : List Ins := [⟨some 46, .p (.mv (.t 9)), none⟩,
 ⟨some 47, .p (.bin .mul (.t 46) (.c (.int .i64 32))), none⟩,
 ⟨some 48, .p (.mv (.t 1)), none⟩,
 ⟨some 49, .p (.mv (.t 2)), none⟩,
 ⟨some 50, .p (.len (.t 49)), none⟩,
 ⟨some 51, .p (.bin .add (.t 48) (.t 50)), none⟩,
 ⟨some 52, .p (.bin .lss (.t 47) (.t 51)), none⟩]
def c292_r10 : DP := (.take ⟨some 55, .p (.fieldA (.t 8) 1), none⟩
 (.take ⟨some 56, .p (.load (.t 55) 1 false), none⟩
 (.take ⟨some 57, .p (.mv (.t 9)), none⟩
 (.take ⟨some 59, .p (.mv (.t 7)), none⟩
 (.take ⟨some 60, .p (.mv (.t 9)), none⟩
 (.take ⟨some 61, .p (.bin .mul (.t 60) (.c (.int .i64 32))), none⟩
 (.take ⟨some 62, .p (.mv (.t 9)), none⟩
 (.take ⟨some 63, .p (.bin .add (.t 62) (.c (.int .i64 1))), none⟩
 (.take ⟨some 64, .p (.bin .mul (.t 63) (.c (.int .i64 32))), none⟩
 (.take ⟨some 65, .p (.slice (.t 59) (some (.t 61)) (some (.t 64)) 1), none⟩
 (.alt [⟨some 65, .p (.slice (.t 59) (some (.t 61)) (some (.t 64)) 1), none⟩, ⟨some 64, .p (.bin .mul (.t 63) (.c (.int .i64 32))), none⟩, ⟨some 63, .p (.bin .add (.t 62) (.c (.int .i64 1))), none⟩, ⟨some 62, .p (.mv (.t 9)), none⟩, ⟨some 61, .p (.bin .mul (.t 60) (.c (.int .i64 32))), none⟩, ⟨some 60, .p (.mv (.t 9)), none⟩, ⟨some 59, .p (.mv (.t 7)), none⟩, ⟨some 57, .p (.mv (.t 9)), none⟩, ⟨some 56, .p (.load (.t 55) 1 false), none⟩, ⟨some 55, .p (.fieldA (.t 8) 1), none⟩] ⟨some 58, .mkS 1 [(.int .u8 0)] 0 [], none⟩
 (.alt [⟨some 57, .p (.mv (.t 9)), none⟩, ⟨some 56, .p (.load (.t 55) 1 false), none⟩, ⟨some 55, .p (.fieldA (.t 8) 1), none⟩] ⟨some 66, .app 1 1 (.t 58) (.t 65), none⟩
 (.take ⟨some 67, .p (.build [(.int .i64 0), (.own 4290 0 1 [])] [(0, 1, (.t 57)), (1, 1, (.t 66))]), none⟩
 (.alt [⟨some 56, .p (.load (.t 55) 1 false), none⟩, ⟨some 55, .p (.fieldA (.t 8) 1), none⟩] ⟨some 68, .mkS 2 [(.int .i64 0), (.lst 1 [])] 1 [(0, (.t 67))], none⟩
 (.alt [] ⟨some 69, .app 2 32 (.t 56) (.t 68), none⟩
 (.take ⟨some 70, .p (.fieldA (.t 8) 1), none⟩
 (.alt [] ⟨none, .store (.t 70) (.t 69) 1, none⟩
 .fin
 .stop))
 .stop)
 .stop))
 .stop)
 .stop)))))))))))
def c292_r11 : List Ins := [⟨some 53, .p (.mv (.t 9)), none⟩,
 ⟨some 54, .p (.bin .add (.t 53) (.c (.int .i64 1))), none⟩,
 ⟨some 9, .p (.mv (.t 54)), none⟩]
def c292_l1 : IR := (.seq (.seq (.reg c292_r9) (.ite (.t 52) .skip (.exit 2))) (.seq (.block 3 (.draw c292_r10)) (.reg c292_r11)))
def c292_r12 : List Ins := [⟨some 71, .p (.load (.t 8) 2 true), none⟩,
 ⟨none, .store (.t 6) (.t 71) 2, none⟩]
def c292 : XFn := { np := 3, nt := 72, res := [.cell 6 2 true], body := (.seq (.reg c292_r0) (.seq (.reg c292_r1) (.seq (.block 0 (.loop c292_l0)) (.seq (.reg c292_r4) (.seq (.draw c292_r5) (.seq (.seq (.reg c292_r6) (.ite (.t 42) (.seq (.reg c292_r7) .ret) .skip)) (.seq (.seq (.reg c292_r8) (.block 2 (.loop c292_l1))) (.seq (.reg c292_r12) .ret)))))))) }
def K292 (C : CRel) : Prop := ∀ (a0 : DDevice) (a1 : Int) (a2 : List UInt8) (r : DDevice), g292 a0 a1 a2 = some r → C 292 ⟨[.agg [.lst 1 (a0.held.map eU8), .lst 2 (a0.waiting.map eDSector)], .int .i64 a1, .lst 1 (a2.map eU8)], []⟩ ⟨.agg [.lst 1 (r.held.map eU8), .own 0 0 2 (r.waiting.map eDSector)], [], []⟩
theorem F292 {C : CRel} (H303 : K303 C) (a0 : DDevice) (a1 : Int) (a2 : List UInt8) (r : DDevice) (h0 : g292 a0 a1 a2 = some r) : FnOK C c292 ⟨[.agg [.lst 1 (a0.held.map eU8), .lst 2 (a0.waiting.map eDSector)], .int .i64 a1, .lst 1 (a2.map eU8)], []⟩ ⟨.agg [.lst 1 (r.held.map eU8), .own 0 0 2 (r.waiting.map eDSector)], [], []⟩ := by
  refine fn_ (Nat.le_of_ble_eq_true rfl) ?_
  refine seq_ ?_
  refine reg_ ?_
  refine st (box_ rfl trivial rfl ?_)
  refine st (alloc_ ?_)
  refine oe_ ?_
  refine wk_ ⟨[(1, .int .i64 a1), (2, .lst 1 (a2.map eU8)), (3, .ptr 192 0), (6, .ptr 384 0)], [(192, [.lst 1 (a0.held.map eU8), .lst 2 (a0.waiting.map eDSector)]), (384, [.own 385 0 1 (([] : List UInt8).map eU8), .own 386 0 2 (([] : List DSector).map eDSector)])], []⟩ (fgk (by kernel_rfl)) ?_
  refine seq_ ?_
  refine reg_ ?_
  refine st (c_ (v := .agg [.lst 1 (a0.held.map eU8), .lst 2 (a0.waiting.map eDSector)]) (cp_ ⟨trivial, trivial⟩ rfl (Nat.le_of_ble_eq_true rfl)) ?_)
  obtain ⟨r1, e2, h0⟩ := bnd h0
  refine st (call0_ (r := .own 0 0 1 (r1.map eU8)) false (H303 a0 r1 e2) ⟨trivial, trivial⟩ rfl rfl (fun _ => (and_ (fl1 (fun _ => rfl)) rfl)) ?_)
  refine st (mv_ rfl trivial ?_)
  refine oe_ ?_
  refine wk_ ⟨[(1, .int .i64 a1), (2, .lst 1 (a2.map eU8)), (3, .ptr 192 0), (6, .ptr 384 0), (7, .own 704 0 1 (r1.map eU8))], [(192, [.lst 1 (a0.held.map eU8), .lst 2 (a0.waiting.map eDSector)]), (384, [.own 385 0 1 (([] : List UInt8).map eU8), .own 386 0 2 (([] : List DSector).map eDSector)])], []⟩ (fgk (by kernel_rfl)) ?_
  refine seq_ ?_
  refine block_ ?_
  obtain ⟨r18, e19, h0⟩ := bnd h0
  refine loop_ (R := (fun S => ∃ p13 : List UInt8, p13 = r18 ∧ S = ⟨[(1, .int .i64 a1), (2, .lst 1 (a2.map eU8)), (3, .ptr 192 0), (6, .ptr 384 0), (7, .own 704 0 1 (p13.map eU8))], [(192, [.lst 1 (a0.held.map eU8), .lst 2 (a0.waiting.map eDSector)]), (384, [.own 385 0 1 (([] : List UInt8).map eU8), .own 386 0 2 (([] : List DSector).map eDSector)])], []⟩)) (g292_l0 a1 a2) (fun s S => match s with | p7 => S = ⟨[(1, .int .i64 a1), (2, .lst 1 (a2.map eU8)), (3, .ptr 192 0), (6, .ptr 384 0), (7, .own 704 0 1 (p7.map eU8))], [(192, [.lst 1 (a0.held.map eU8), .lst 2 (a0.waiting.map eDSector)]), (384, [.own 385 0 1 (([] : List UInt8).map eU8), .own 386 0 2 (([] : List DSector).map eDSector)])], []⟩) e19 ⟨[(1, .int .i64 a1), (2, .lst 1 (a2.map eU8)), (3, .ptr 192 0), (6, .ptr 384 0), (7, .own 704 0 1 (r1.map eU8))], [(192, [.lst 1 (a0.held.map eU8), .lst 2 (a0.waiting.map eDSector)]), (384, [.own 385 0 1 (([] : List UInt8).map eU8), .own 386 0 2 (([] : List DSector).map eDSector)])], []⟩ (fgk (by kernel_rfl)) rfl 0 (fun _ => rfl) ?_ ?_
  · rintro S _ hfg ⟨p13, rfl, rfl⟩
    refine wk_ ⟨[(1, .int .i64 a1), (2, .lst 1 (a2.map eU8)), (3, .ptr 192 0), (6, .ptr 384 0), (7, .own 704 0 1 (p13.map eU8))], [(192, [.lst 1 (a0.held.map eU8), .lst 2 (a0.waiting.map eDSector)]), (384, [.own 385 0 1 (([] : List UInt8).map eU8), .own 386 0 2 (([] : List DSector).map eDSector)])], []⟩ (fglk hfg (by kernel_rfl)) ?_
    refine seq_ ?_
    refine reg_ ?_
    refine st (mv_ rfl trivial ?_)
    refine st (mv_ rfl trivial ?_)
    obtain ⟨s20, e21, h0⟩ := bnd h0
    refine st (c_ (csliceO (e := eU8) (y := s20) rfl rfl trivial ⟨trivial, trivial⟩ rfl rfl e21) ?_)
    refine st (mv_ rfl trivial ?_)
    refine st (copy_ (e := eU8) (l1 := a2) rfl rfl trivial rfl ?_)
    refine oe_ ?_
    refine wk_ ⟨[(1, .int .i64 a1), (2, .lst 1 (a2.map eU8)), (3, .ptr 192 0), (6, .ptr 384 0), (7, .own 704 0 1 ((ovl p13 a1.toNat (a2.take s20.length)).map eU8))], [(192, [.lst 1 (a0.held.map eU8), .lst 2 (a0.waiting.map eDSector)]), (384, [.own 385 0 1 (([] : List UInt8).map eU8), .own 386 0 2 (([] : List DSector).map eDSector)])], []⟩ (fg ⟨rfl, rfl, rfl, rfl, (congrArg (fun z => some ((.own 704 0 1 z : V))) overlay_ovl), trivial⟩ ⟨rfl, rfl, trivial⟩) ?_
    refine seq_ ?_
    obtain ⟨c22, h0⟩ := grd h0
    refine drawJ (fun S => S = ⟨[(1, .int .i64 a1), (2, .lst 1 (a2.map eU8)), (6, .ptr 384 0), (7, .own 704 0 1 ((ovl p13 a1.toNat (a2.take s20.length)).map eU8)), (8, .ptr 512 0)], [(384, [.own 385 0 1 (([] : List UInt8).map eU8), .own 386 0 2 (([] : List DSector).map eDSector)]), (512, [.lst 1 (a0.held.map eU8), .own 2240 0 2 ((([] : List DSector) ++ a0.waiting).map eDSector)])], []⟩) ?_ (fun J23 => ?_)
    · rintro _ rfl
      refine seq_ ?_
      refine seq_ ?_
      refine reg_ ?_
      refine st (mv_ rfl trivial ?_)
      refine st (c_ (clenL (e := eU8) (l0 := a2) rfl rfl trivial) ?_)
      refine st (c_ (cp_ ⟨trivial, trivial, trivial⟩ rfl trivial) ?_)
      refine oe_ ?_
      refine wk_ ⟨[(1, .int .i64 a1), (2, .lst 1 (a2.map eU8)), (6, .ptr 384 0), (7, .own 704 0 1 ((ovl p13 a1.toNat (a2.take s20.length)).map eU8)), (8, .ptr 512 0), (42, .bool ((a2.length : Int) == 0))], [(384, [.own 385 0 1 (([] : List UInt8).map eU8), .own 386 0 2 (([] : List DSector).map eDSector)]), (512, [.lst 1 (a0.held.map eU8), .own 2240 0 2 ((([] : List DSector) ++ a0.waiting).map eDSector)])], []⟩ (fgk (by kernel_rfl)) ?_
      refine ite_ (cb := ((a2.length : Int) == 0)) rfl (fun c24 => ?_) (fun c24 => ?_)
      · replace h0 := ip c24 h0
        refine seq_ ?_
        refine reg_ ?_
        refine st (c_ (v := .agg [.lst 1 (a0.held.map eU8), .own 2240 0 2 ((([] : List DSector) ++ a0.waiting).map eDSector)]) (cp_ ⟨trivial, trivial⟩ rfl (Nat.le_of_ble_eq_true rfl)) ?_)
        refine st (stp_ rfl rfl trivial rfl rfl rfl (Nat.le_of_ble_eq_true rfl) ?_)
        refine oe_ ?_
        refine wk_ ⟨[(6, .ptr 384 0)], [(384, [.lst 1 (a0.held.map eU8), .own 2240 0 2 ((([] : List DSector) ++ a0.waiting).map eDSector)])], []⟩ (fgk (by kernel_rfl)) ?_
        obtain rfl := Option.some.inj h0
        exact rt_ (ret_ rfl rfl rfl rfl rfl trivial)
      · replace h0 := inb c24 h0
        refine sk_ ?_
        refine wk_ ⟨[(1, .int .i64 a1), (2, .lst 1 (a2.map eU8)), (6, .ptr 384 0), (7, .own 704 0 1 ((ovl p13 a1.toNat (a2.take s20.length)).map eU8)), (8, .ptr 512 0)], [(384, [.own 385 0 1 (([] : List UInt8).map eU8), .own 386 0 2 (([] : List DSector).map eDSector)]), (512, [.lst 1 (a0.held.map eU8), .own 2240 0 2 ((([] : List DSector) ++ a0.waiting).map eDSector)])], []⟩ (fgk (by kernel_rfl)) ?_
        refine seq_ ?_
        refine seq_ ?_
        refine reg_ ?_
        refine st (mv_ rfl trivial ?_)
        refine st (c_ (cp_ ⟨trivial, trivial, trivial⟩ rfl (by decide)) ?_)
        refine st (mv_ rfl trivial ?_)
        refine oe_ ?_
        refine wk_ ⟨[(1, .int .i64 a1), (2, .lst 1 (a2.map eU8)), (6, .ptr 384 0), (7, .own 704 0 1 ((ovl p13 a1.toNat (a2.take s20.length)).map eU8)), (8, .ptr 512 0), (9, .int .i64 (IntKind.i64.wrap ((a1).tdiv 32)))], [(384, [.own 385 0 1 (([] : List UInt8).map eU8), .own 386 0 2 (([] : List DSector).map eDSector)]), (512, [.lst 1 (a0.held.map eU8), .own 2240 0 2 ((([] : List DSector) ++ a0.waiting).map eDSector)])], []⟩ (fgk (by kernel_rfl)) ?_
        refine block_ ?_
        obtain ⟨r53, e54, h0⟩ := bnd h0
        refine loop_ (R := (fun S => ∃ p45 : List DSector, p45 = r53 ∧ S = ⟨[(6, .ptr 384 0), (8, .ptr 512 0)], [(384, [.own 385 0 1 (([] : List UInt8).map eU8), .own 386 0 2 (([] : List DSector).map eDSector)]), (512, [.lst 1 (a0.held.map eU8), .own 2240 0 2 (p45.map eDSector)])], []⟩)) (g292_l1 a1 a2 p13 s20) (fun s S => match s with | (p34, p35) => S = ⟨[(1, .int .i64 a1), (2, .lst 1 (a2.map eU8)), (6, .ptr 384 0), (7, .own 704 0 1 ((ovl p13 a1.toNat (a2.take s20.length)).map eU8)), (8, .ptr 512 0), (9, .int .i64 p34)], [(384, [.own 385 0 1 (([] : List UInt8).map eU8), .own 386 0 2 (([] : List DSector).map eDSector)]), (512, [.lst 1 (a0.held.map eU8), .own 2240 0 2 (p35.map eDSector)])], []⟩) e54 ⟨[(1, .int .i64 a1), (2, .lst 1 (a2.map eU8)), (6, .ptr 384 0), (7, .own 704 0 1 ((ovl p13 a1.toNat (a2.take s20.length)).map eU8)), (8, .ptr 512 0), (9, .int .i64 (IntKind.i64.wrap ((a1).tdiv 32)))], [(384, [.own 385 0 1 (([] : List UInt8).map eU8), .own 386 0 2 (([] : List DSector).map eDSector)]), (512, [.lst 1 (a0.held.map eU8), .own 2240 0 2 ((([] : List DSector) ++ a0.waiting).map eDSector)])], []⟩ (fgk (by kernel_rfl)) rfl 2 (fun _ => rfl) ?_ ?_
        · rintro S _ hfg ⟨p45, rfl, rfl⟩
          refine wk_ ⟨[(6, .ptr 384 0), (8, .ptr 512 0)], [(384, [.own 385 0 1 (([] : List UInt8).map eU8), .own 386 0 2 (([] : List DSector).map eDSector)]), (512, [.lst 1 (a0.held.map eU8), .own 2240 0 2 (p45.map eDSector)])], []⟩ (fglk hfg (by kernel_rfl)) ?_
          refine seq_ ?_
          refine reg_ ?_
          refine st (c_ (v := .agg [.lst 1 (a0.held.map eU8), .own 2240 0 2 (p45.map eDSector)]) (cp_ ⟨trivial, trivial⟩ rfl (Nat.le_of_ble_eq_true rfl)) ?_)
          refine st (stp_ rfl rfl trivial rfl rfl rfl (Nat.le_of_ble_eq_true rfl) ?_)
          refine oe_ ?_
          refine wk_ ⟨[(6, .ptr 384 0)], [(384, [.lst 1 (a0.held.map eU8), .own 2240 0 2 (p45.map eDSector)])], []⟩ (fgk (by kernel_rfl)) ?_
          obtain rfl := Option.some.inj h0
          exact rt_ (ret_ rfl rfl rfl rfl rfl trivial)
        · rintro ⟨p34, p35⟩ o1 _ K1 rfl h1 hx1 hK1 hE1 hR1
          unfold g292_l1 at h1
          refine seq_ ?_
          refine seq_ ?_
          refine reg_ ?_
          refine st (mv_ rfl trivial ?_)
          refine st (c_ (cp_ ⟨trivial, trivial, trivial⟩ rfl trivial) ?_)
          refine st (mv_ rfl trivial ?_)
          refine st (mv_ rfl trivial ?_)
          refine st (c_ (clenL (e := eU8) (l0 := a2) rfl rfl trivial) ?_)
          refine st (c_ (cp_ ⟨trivial, trivial, trivial⟩ rfl trivial) ?_)
          refine st (c_ (cp_ ⟨trivial, trivial, trivial⟩ rfl trivial) ?_)
          refine oe_ ?_
          obtain ⟨v46, e47, h1⟩ := bl h1
          refine wk_ ⟨[(1, .int .i64 a1), (2, .lst 1 (a2.map eU8)), (6, .ptr 384 0), (7, .own 704 0 1 ((ovl p13 a1.toNat (a2.take s20.length)).map eU8)), (8, .ptr 512 0), (9, .int .i64 p34), (52, .bool v46)], [(384, [.own 385 0 1 (([] : List UInt8).map eU8), .own 386 0 2 (([] : List DSector).map eDSector)]), (512, [.lst 1 (a0.held.map eU8), .own 2240 0 2 (p35.map eDSector)])], []⟩ (fgk (by subst e47; kernel_rfl)) ?_
          refine ite_ (cb := v46) rfl (fun c48 => ?_) (fun c48 => ?_)
          · replace h1 := ip c48 h1
            refine sk_ ?_
            refine wk_ ⟨[(1, .int .i64 a1), (2, .lst 1 (a2.map eU8)), (6, .ptr 384 0), (7, .own 704 0 1 ((ovl p13 a1.toNat (a2.take s20.length)).map eU8)), (8, .ptr 512 0), (9, .int .i64 p34)], [(384, [.own 385 0 1 (([] : List UInt8).map eU8), .own 386 0 2 (([] : List DSector).map eDSector)]), (512, [.lst 1 (a0.held.map eU8), .own 2240 0 2 (p35.map eDSector)])], []⟩ (fgk (by kernel_rfl)) ?_
            refine seq_ ?_
            refine block_ ?_
            obtain ⟨s49, e50, h1⟩ := bnd h1
            obtain ⟨c51, h1⟩ := grd h1
            obtain ⟨c52, h1⟩ := grd h1
            refine draw_ ?_
            refine dtake trivial (c_ (cp_ ⟨trivial, trivial⟩ rfl trivial) ?_)
            refine ⟨trivial, ?_⟩
            refine dtake trivial (c_ (cp_ ⟨trivial, trivial⟩ rfl (Nat.le_of_ble_eq_true rfl)) ?_)
            refine ⟨trivial, ?_⟩
            refine dtake trivial (mv_ rfl trivial ?_)
            refine ⟨trivial, ?_⟩
            refine dtake trivial (mv_ rfl trivial ?_)
            refine ⟨trivial, ?_⟩
            refine dtake trivial (mv_ rfl trivial ?_)
            refine ⟨trivial, ?_⟩
            refine dtake trivial (c_ (cp_ ⟨trivial, trivial, trivial⟩ rfl trivial) ?_)
            refine ⟨trivial, ?_⟩
            refine dtake trivial (mv_ rfl trivial ?_)
            refine ⟨trivial, ?_⟩
            refine dtake trivial (c_ (cp_ ⟨trivial, trivial, trivial⟩ rfl trivial) ?_)
            refine ⟨trivial, ?_⟩
            refine dtake trivial (c_ (cp_ ⟨trivial, trivial, trivial⟩ rfl trivial) ?_)
            refine ⟨trivial, ?_⟩
            refine dtake trivial (c_ (csliceO (e := eU8) (y := s49) rfl rfl trivial ⟨trivial, trivial, trivial⟩ rfl rfl e50) ?_)
            refine ⟨trivial, ?_⟩
            refine dalt (mkS_ trivial trivial ?_) dstop
            refine dk0 ⟨[], ⟨⟨.inl trivial, (again1 (csliceO (e := eU8) (y := s49) rfl rfl trivial ⟨trivial, trivial, trivial⟩ rfl rfl e50) rfl)⟩, ⟨.inl trivial, (again1 (cp_ ⟨trivial, trivial, trivial⟩ rfl trivial) rfl)⟩, ⟨.inl trivial, (again1 (cp_ ⟨trivial, trivial, trivial⟩ rfl trivial) rfl)⟩, ⟨.inl trivial, (again1 (cmv (v := .int .i64 p34) rfl trivial) rfl)⟩, ⟨.inl trivial, (again1 (cp_ ⟨trivial, trivial, trivial⟩ rfl trivial) rfl)⟩, ⟨.inl trivial, (again1 (cmv (v := .int .i64 p34) rfl trivial) rfl)⟩, ⟨.inl trivial, (again1 (cmv (v := .own 704 0 1 ((ovl p13 a1.toNat (a2.take s20.length)).map eU8)) rfl trivial) rfl)⟩, ⟨.inl trivial, (again1 (cmv (v := .int .i64 p34) rfl trivial) rfl)⟩, ⟨.inl trivial, (again1 (cp_ ⟨trivial, trivial⟩ rfl (Nat.le_of_ble_eq_true rfl)) rfl)⟩, ⟨.inl trivial, (again1 (cp_ ⟨trivial, trivial⟩ rfl trivial) rfl)⟩, trivial⟩, trivial, ?_⟩
            refine dalt (app_ (e := eU8) (l0 := ([] : List UInt8)) (l1 := s49) rfl rfl trivial rfl (by decide) c51 ?_) dstop
            refine dkw ⟨[(1, .int .i64 a1), (2, .lst 1 (a2.map eU8)), (6, .ptr 384 0), (7, .own 704 0 1 ((ovl p13 a1.toNat (a2.take s20.length)).map eU8)), (8, .ptr 512 0), (9, .int .i64 p34), (55, .ptr 512 1), (56, .own 2240 0 2 (p35.map eDSector)), (57, .int .i64 p34), (66, .own 3712 0 1 ((([] : List UInt8) ++ s49).map eU8))], [(384, [.own 385 0 1 (([] : List UInt8).map eU8), .own 386 0 2 (([] : List DSector).map eDSector)]), (512, [.lst 1 (a0.held.map eU8), .own 2240 0 2 (p35.map eDSector)])], []⟩ (fgk (by kernel_rfl)) ⟨[], ⟨⟨.inl trivial, (again1 (cmv (v := .int .i64 p34) rfl trivial) rfl)⟩, ⟨.inl trivial, (again1 (cp_ ⟨trivial, trivial⟩ rfl (Nat.le_of_ble_eq_true rfl)) rfl)⟩, ⟨.inl trivial, (again1 (cp_ ⟨trivial, trivial⟩ rfl trivial) rfl)⟩, trivial⟩, trivial, ?_⟩
            refine dtake trivial (c_ (v := .agg [.int .i64 p34, .own 3712 0 1 ((([] : List UInt8) ++ s49).map eU8)]) (cp_ ⟨trivial, trivial, trivial⟩ rfl ⟨⟨rfl, rfl, Nat.le_of_ble_eq_true rfl⟩, ⟨rfl, rfl, Nat.le_of_ble_eq_true rfl⟩, trivial⟩) ?_)
            refine ⟨trivial, ?_⟩
            refine dalt (mkS_ ⟨trivial, trivial⟩ ⟨⟨Nat.le_of_ble_eq_true rfl, rfl, rfl⟩, trivial⟩ ?_) dstop
            refine dk0 ⟨[], ⟨⟨.inl trivial, (again1 (cp_ ⟨trivial, trivial⟩ rfl (Nat.le_of_ble_eq_true rfl)) rfl)⟩, ⟨.inl trivial, (again1 (cp_ ⟨trivial, trivial⟩ rfl trivial) rfl)⟩, trivial⟩, trivial, ?_⟩
            refine dalt (app_ (e := eDSector) (l0 := p35) (l1 := ([(DSector.mk p34 (([] : List UInt8) ++ s49))] : List DSector)) rfl rfl trivial rfl (by decide) c52 ?_) dstop
            refine dk0 ⟨[], trivial, trivial, ?_⟩
            refine dtake trivial (c_ (cp_ ⟨trivial, trivial⟩ rfl trivial) ?_)
            refine ⟨trivial, ?_⟩
            refine dalt (stp_ rfl rfl trivial rfl rfl rfl (Nat.le_of_ble_eq_true rfl) ?_) dstop
            refine dk0 ⟨[], trivial, trivial, ?_⟩
            refine dfin ?_
            refine bn_ ?_
            refine wk_ ⟨[(1, .int .i64 a1), (2, .lst 1 (a2.map eU8)), (6, .ptr 384 0), (7, .own 704 0 1 ((ovl p13 a1.toNat (a2.take s20.length)).map eU8)), (8, .ptr 512 0), (9, .int .i64 p34)], [(384, [.own 385 0 1 (([] : List UInt8).map eU8), .own 386 0 2 (([] : List DSector).map eDSector)]), (512, [.lst 1 (a0.held.map eU8), .own 2240 0 2 ((p35 ++ ([(DSector.mk p34 (([] : List UInt8) ++ s49))] : List DSector)).map eDSector)])], []⟩ (fgk (by kernel_rfl)) ?_
            refine reg_ ?_
            refine st (mv_ rfl trivial ?_)
            refine st (c_ (cp_ ⟨trivial, trivial, trivial⟩ rfl trivial) ?_)
            refine st (mv_ rfl trivial ?_)
            refine oe_ ?_
            obtain rfl := Option.some.inj h1
            exact hK1 _ rfl _ ⟨[(1, .int .i64 a1), (2, .lst 1 (a2.map eU8)), (6, .ptr 384 0), (7, .own 704 0 1 ((ovl p13 a1.toNat (a2.take s20.length)).map eU8)), (8, .ptr 512 0), (9, .int .i64 (IntKind.i64.wrap (p34 + 1)))], [(384, [.own 385 0 1 (([] : List UInt8).map eU8), .own 386 0 2 (([] : List DSector).map eDSector)]), (512, [.lst 1 (a0.held.map eU8), .own 2240 0 2 ((p35 ++ ([(DSector.mk p34 (([] : List UInt8) ++ s49))] : List DSector)).map eDSector)])], []⟩ (fgk (by kernel_rfl)) rfl
          · replace h1 := inb c48 h1
            obtain rfl := Option.some.inj h1
            obtain rfl := hx1 _ rfl
            refine exQ rfl ?_
            exact hE1 _ ⟨[(6, .ptr 384 0), (8, .ptr 512 0)], [(384, [.own 385 0 1 (([] : List UInt8).map eU8), .own 386 0 2 (([] : List DSector).map eDSector)]), (512, [.lst 1 (a0.held.map eU8), .own 2240 0 2 (p35.map eDSector)])], []⟩ (fgk (by kernel_rfl)) ⟨_, rfl, rfl⟩
    · refine dtake trivial (c_ (cp_ ⟨trivial, trivial⟩ rfl trivial) ?_)
      refine ⟨trivial, ?_⟩
      refine dtake trivial (c_ (cp_ ⟨trivial, trivial⟩ rfl (Nat.le_of_ble_eq_true rfl)) ?_)
      refine ⟨trivial, ?_⟩
      refine dtake trivial (c_ (cp_ ⟨trivial, trivial⟩ rfl trivial) ?_)
      refine ⟨trivial, ?_⟩
      refine dtake trivial (c_ (cp_ ⟨trivial, trivial⟩ rfl (Nat.le_of_ble_eq_true rfl)) ?_)
      refine ⟨trivial, ?_⟩
      refine dalt (mkS_ trivial trivial ?_) ?_
      · refine dk0 ⟨[], ⟨⟨.inl trivial, (again1 (cp_ ⟨trivial, trivial⟩ rfl (Nat.le_of_ble_eq_true rfl)) rfl)⟩, ⟨.inl trivial, (again1 (cp_ ⟨trivial, trivial⟩ rfl trivial) rfl)⟩, ⟨.inl trivial, (again1 (cp_ ⟨trivial, trivial⟩ rfl (Nat.le_of_ble_eq_true rfl)) rfl)⟩, ⟨.inl trivial, (again1 (cp_ ⟨trivial, trivial⟩ rfl trivial) rfl)⟩, trivial⟩, trivial, ?_⟩
        refine dalt (app_ (e := eDSector) (l0 := ([] : List DSector)) (l1 := a0.waiting) rfl rfl trivial rfl (by decide) c22 ?_) ?_
        · refine dk0 ⟨[], ⟨⟨.inl trivial, (again1 (cp_ ⟨trivial, trivial⟩ rfl (Nat.le_of_ble_eq_true rfl)) rfl)⟩, ⟨.inl trivial, (again1 (cp_ ⟨trivial, trivial⟩ rfl trivial) rfl)⟩, trivial⟩, trivial, ?_⟩
          refine dtake trivial (c_ (v := .agg [.lst 1 (a0.held.map eU8), .own 2240 0 2 ((([] : List DSector) ++ a0.waiting).map eDSector)]) (cp_ ⟨trivial, trivial, trivial⟩ rfl ⟨⟨rfl, rfl, Nat.le_of_ble_eq_true rfl⟩, ⟨rfl, rfl, Nat.le_of_ble_eq_true rfl⟩, trivial⟩) ?_)
          refine ⟨trivial, ?_⟩
          refine dalt (alloc_ ?_) dstop
          refine dk0 ⟨[], ⟨⟨.inl trivial, (again1 (cp_ ⟨trivial, trivial, trivial⟩ rfl ⟨⟨rfl, rfl, Nat.le_of_ble_eq_true rfl⟩, ⟨rfl, rfl, Nat.le_of_ble_eq_true rfl⟩, trivial⟩) rfl)⟩, ⟨.inl trivial, (again1 (cp_ ⟨trivial, trivial⟩ rfl (Nat.le_of_ble_eq_true rfl)) rfl)⟩, ⟨.inl trivial, (again1 (cp_ ⟨trivial, trivial⟩ rfl trivial) rfl)⟩, trivial⟩, trivial, ?_⟩
          refine dalt (stp_ rfl rfl trivial rfl rfl rfl (Nat.le_of_ble_eq_true rfl) ?_) dstop
          refine dk0 ⟨[], trivial, trivial, ?_⟩
          refine dfin ?_
          exact J23 _ ⟨[(1, .int .i64 a1), (2, .lst 1 (a2.map eU8)), (6, .ptr 384 0), (7, .own 704 0 1 ((ovl p13 a1.toNat (a2.take s20.length)).map eU8)), (8, .ptr 512 0)], [(384, [.own 385 0 1 (([] : List UInt8).map eU8), .own 386 0 2 (([] : List DSector).map eDSector)]), (512, [.lst 1 (a0.held.map eU8), .own 2240 0 2 ((([] : List DSector) ++ a0.waiting).map eDSector)])], []⟩ (fgk (by kernel_rfl)) rfl
        · refine dalt (alloc_ ?_) dstop
          refine dk0 ⟨[], ⟨⟨.inl trivial, (again1 (cp_ ⟨trivial, trivial⟩ rfl (Nat.le_of_ble_eq_true rfl)) rfl)⟩, ⟨.inl trivial, (again1 (cp_ ⟨trivial, trivial⟩ rfl trivial) rfl)⟩, ⟨.inl trivial, (again1 (cp_ ⟨trivial, trivial⟩ rfl (Nat.le_of_ble_eq_true rfl)) rfl)⟩, ⟨.inl trivial, (again1 (cp_ ⟨trivial, trivial⟩ rfl trivial) rfl)⟩, trivial⟩, trivial, ?_⟩
          refine dalt (app_ (e := eDSector) (l0 := ([] : List DSector)) (l1 := a0.waiting) rfl rfl trivial rfl (by decide) c22 ?_) dstop
          refine dk0 ⟨[], ⟨⟨.inl trivial, (again1 (cp_ ⟨trivial, trivial⟩ rfl (Nat.le_of_ble_eq_true rfl)) rfl)⟩, ⟨.inl trivial, (again1 (cp_ ⟨trivial, trivial⟩ rfl trivial) rfl)⟩, trivial⟩, trivial, ?_⟩
          refine dtake trivial (c_ (v := .agg [.lst 1 (a0.held.map eU8), .own 2240 0 2 ((([] : List DSector) ++ a0.waiting).map eDSector)]) (cp_ ⟨trivial, trivial, trivial⟩ rfl ⟨⟨rfl, rfl, Nat.le_of_ble_eq_true rfl⟩, ⟨rfl, rfl, Nat.le_of_ble_eq_true rfl⟩, trivial⟩) ?_)
          refine ⟨trivial, ?_⟩
          refine dalt (stp_ rfl rfl trivial rfl rfl rfl (Nat.le_of_ble_eq_true rfl) ?_) dstop
          refine dk0 ⟨[], trivial, trivial, ?_⟩
          refine dfin ?_
          exact J23 _ ⟨[(1, .int .i64 a1), (2, .lst 1 (a2.map eU8)), (6, .ptr 384 0), (7, .own 704 0 1 ((ovl p13 a1.toNat (a2.take s20.length)).map eU8)), (8, .ptr 512 0)], [(384, [.own 385 0 1 (([] : List UInt8).map eU8), .own 386 0 2 (([] : List DSector).map eDSector)]), (512, [.lst 1 (a0.held.map eU8), .own 2240 0 2 ((([] : List DSector) ++ a0.waiting).map eDSector)])], []⟩ (fgk (by kernel_rfl)) rfl
      · refine dalt (alloc_ ?_) dstop
        refine dk0 ⟨[], ⟨⟨.inl trivial, (again1 (cp_ ⟨trivial, trivial⟩ rfl (Nat.le_of_ble_eq_true rfl)) rfl)⟩, ⟨.inl trivial, (again1 (cp_ ⟨trivial, trivial⟩ rfl trivial) rfl)⟩, ⟨.inl trivial, (again1 (cp_ ⟨trivial, trivial⟩ rfl (Nat.le_of_ble_eq_true rfl)) rfl)⟩, ⟨.inl trivial, (again1 (cp_ ⟨trivial, trivial⟩ rfl trivial) rfl)⟩, trivial⟩, trivial, ?_⟩
        refine dalt (mkS_ trivial trivial ?_) dstop
        refine dk0 ⟨[], ⟨⟨.inl trivial, (again1 (cp_ ⟨trivial, trivial⟩ rfl (Nat.le_of_ble_eq_true rfl)) rfl)⟩, ⟨.inl trivial, (again1 (cp_ ⟨trivial, trivial⟩ rfl trivial) rfl)⟩, ⟨.inl trivial, (again1 (cp_ ⟨trivial, trivial⟩ rfl (Nat.le_of_ble_eq_true rfl)) rfl)⟩, ⟨.inl trivial, (again1 (cp_ ⟨trivial, trivial⟩ rfl trivial) rfl)⟩, trivial⟩, trivial, ?_⟩
        refine dalt (app_ (e := eDSector) (l0 := ([] : List DSector)) (l1 := a0.waiting) rfl rfl trivial rfl (by decide) c22 ?_) dstop
        refine dk0 ⟨[], ⟨⟨.inl trivial, (again1 (cp_ ⟨trivial, trivial⟩ rfl (Nat.le_of_ble_eq_true rfl)) rfl)⟩, ⟨.inl trivial, (again1 (cp_ ⟨trivial, trivial⟩ rfl trivial) rfl)⟩, trivial⟩, trivial, ?_⟩
        refine dtake trivial (c_ (v := .agg [.lst 1 (a0.held.map eU8), .own 2240 0 2 ((([] : List DSector) ++ a0.waiting).map eDSector)]) (cp_ ⟨trivial, trivial, trivial⟩ rfl ⟨⟨rfl, rfl, Nat.le_of_ble_eq_true rfl⟩, ⟨rfl, rfl, Nat.le_of_ble_eq_true rfl⟩, trivial⟩) ?_)
        refine ⟨trivial, ?_⟩
        refine dalt (stp_ rfl rfl trivial rfl rfl rfl (Nat.le_of_ble_eq_true rfl) ?_) dstop
        refine dk0 ⟨[], trivial, trivial, ?_⟩
        refine dfin ?_
        exact J23 _ ⟨[(1, .int .i64 a1), (2, .lst 1 (a2.map eU8)), (6, .ptr 384 0), (7, .own 704 0 1 ((ovl p13 a1.toNat (a2.take s20.length)).map eU8)), (8, .ptr 512 0)], [(384, [.own 385 0 1 (([] : List UInt8).map eU8), .own 386 0 2 (([] : List DSector).map eDSector)]), (512, [.lst 1 (a0.held.map eU8), .own 2240 0 2 ((([] : List DSector) ++ a0.waiting).map eDSector)])], []⟩ (fgk (by kernel_rfl)) rfl
  · rintro p7 o1 _ K1 rfl h1 hx1 hK1 hE1 hR1
    unfold g292_l0 at h1
    refine seq_ ?_
    refine seq_ ?_
    refine reg_ ?_
    refine st (mv_ rfl trivial ?_)
    refine st (c_ (clenO (e := eU8) (l0 := p7) rfl rfl trivial) ?_)
    refine st (mv_ rfl trivial ?_)
    refine st (mv_ rfl trivial ?_)
    refine st (c_ (clenL (e := eU8) (l0 := a2) rfl rfl trivial) ?_)
    refine st (c_ (cp_ ⟨trivial, trivial, trivial⟩ rfl trivial) ?_)
    refine st (c_ (cp_ ⟨trivial, trivial, trivial⟩ rfl trivial) ?_)
    refine st (mv_ rfl trivial ?_)
    refine st (pg_ (u := .own 704 0 1 (p7.map eU8)) rfl (fun hg => (cmv (v := .own 704 0 1 (p7.map eU8)) rfl trivial)) ?_)
    refine st (pg_ (u := .int .i64 (p7.length : Int)) rfl (fun hg => (clenO (e := eU8) (l0 := p7) rfl rfl (fun _ => hg))) ?_)
    refine st (pg_ (u := .int .i64 (((p7.length : Int)).tmod 32)) rfl (fun hg => (cp_ ⟨(fun _ => hg), trivial, trivial⟩ rfl (by decide))) ?_)
    refine st (pg_ (u := .bool ((((p7.length : Int)).tmod 32) != 0)) rfl (fun hg => (cp_ ⟨(fun _ => hg), trivial, trivial⟩ rfl trivial)) ?_)
    refine st (pick_ rfl rfl rfl trivial (fun h => eqf h) rfl ?_)
    refine oe_ ?_
    obtain ⟨v14, e15, h1⟩ := bl h1
    refine wk_ ⟨[(1, .int .i64 a1), (2, .lst 1 (a2.map eU8)), (3, .ptr 192 0), (6, .ptr 384 0), (7, .own 704 0 1 (p7.map eU8)), (24, .bool v14)], [(192, [.lst 1 (a0.held.map eU8), .lst 2 (a0.waiting.map eDSector)]), (384, [.own 385 0 1 (([] : List UInt8).map eU8), .own 386 0 2 (([] : List DSector).map eDSector)])], []⟩ (fgk (by subst e15; kernel_rfl)) ?_
    refine ite_ (cb := v14) rfl (fun c16 => ?_) (fun c16 => ?_)
    · replace h1 := ip c16 h1
      refine sk_ ?_
      refine wk_ ⟨[(1, .int .i64 a1), (2, .lst 1 (a2.map eU8)), (3, .ptr 192 0), (6, .ptr 384 0), (7, .own 704 0 1 (p7.map eU8))], [(192, [.lst 1 (a0.held.map eU8), .lst 2 (a0.waiting.map eDSector)]), (384, [.own 385 0 1 (([] : List UInt8).map eU8), .own 386 0 2 (([] : List DSector).map eDSector)])], []⟩ (fgk (by kernel_rfl)) ?_
      refine block_ ?_
      refine reg_ ?_
      refine st (mv_ rfl trivial ?_)
      refine st (mkS_ ⟨trivial, trivial⟩ ⟨⟨Nat.le_of_ble_eq_true rfl, rfl, rfl⟩, trivial⟩ ?_)
      obtain ⟨c17, h1⟩ := grd h1
      refine st (app_ (e := eU8) (l0 := p7) (l1 := ([(0 : UInt8)] : List UInt8)) rfl rfl trivial rfl (by decide) c17 ?_)
      refine st (mv_ rfl trivial ?_)
      refine oe_ ?_
      refine bn_ ?_
      obtain rfl := Option.some.inj h1
      exact hK1 _ rfl _ ⟨[(1, .int .i64 a1), (2, .lst 1 (a2.map eU8)), (3, .ptr 192 0), (6, .ptr 384 0), (7, .own 704 0 1 ((p7 ++ ([(0 : UInt8)] : List UInt8)).map eU8))], [(192, [.lst 1 (a0.held.map eU8), .lst 2 (a0.waiting.map eDSector)]), (384, [.own 385 0 1 (([] : List UInt8).map eU8), .own 386 0 2 (([] : List DSector).map eDSector)])], []⟩ (fgk (by kernel_rfl)) rfl
    · replace h1 := inb c16 h1
      obtain rfl := Option.some.inj h1
      obtain rfl := hx1 _ rfl
      refine exQ rfl ?_
      exact hE1 _ ⟨[(1, .int .i64 a1), (2, .lst 1 (a2.map eU8)), (3, .ptr 192 0), (6, .ptr 384 0), (7, .own 704 0 1 (p7.map eU8))], [(192, [.lst 1 (a0.held.map eU8), .lst 2 (a0.waiting.map eDSector)]), (384, [.own 385 0 1 (([] : List UInt8).map eU8), .own 386 0 2 (([] : List DSector).map eDSector)])], []⟩ (fgk (by kernel_rfl)) ⟨_, rfl, rfl⟩

/- loop.example/g00149/spec.l02Crc -/
def c353_r0 : List Ins := [⟨some 2, .p (.mv (.c (.int .i64 0))), none⟩]
def c353_r1 : List Ins := [⟨some 3, .p (.mv (.c (.int .i64 4294967295))), none⟩]
def c353_r2 : List Ins := [⟨some 4, .p (.mv (.c (.int .i64 0))), none⟩]
def c353_r3 : List Ins := [⟨some 6, .p (.mv (.t 4)), none⟩,
 ⟨some 7, .p (.mv (.t 0)), none⟩,
 ⟨some 8, .p (.len (.t 7)), none⟩,
 ⟨some 9, .p (.bin .lss (.t 6) (.t 8)), none⟩]
def c353_r4 : List Ins := [⟨some 12, .p (.mv (.t 3)), none⟩,
 ⟨some 13, .p (.mv (.t 0)), none⟩,
 ⟨some 14, .p (.mv (.t 4)), none⟩,
 ⟨some 15, .p (.idxA (.t 13) (.t 14) 1), none⟩,
 ⟨some 16, .p (.load (.t 15) 1 false), none⟩,
 ⟨some 17, .p (.conv .i64 (.t 16)), none⟩,
 ⟨some 18, .p (.bin .xor (.t 12) (.t 17)), none⟩,
 ⟨some 3, .p (.mv (.t 18)), none⟩]
def c353_r5 : List Ins := [⟨some 5, .p (.mv (.c (.int .i64 0))), none⟩]
def c353_r6 : List Ins := [⟨some 19, .p (.mv (.t 5)), none⟩,
 ⟨some 20, .p (.bin .lss (.t 19) (.c (.int .i64 8))), none⟩]
def c353_r7 : List Ins := [⟨some 23, .p (.mv (.t 3)), none⟩,
 ⟨some 24, .p (.bin .rem (.t 23) (.c (.int .i64 2))), none⟩,
 ⟨some 25, .p (.bin .eql (.t 24) (.c (.int .i64 1))), none⟩]
def c353_r8 : List Ins := [⟨some 26, .p (.mv (.t 3)), none⟩,
 ⟨some 27, .p (.bin .quo (.t 26) (.c (.int .i64 2))), none⟩,
 ⟨some 28, .p (.bin .xor (.t 27) (.c (.int .i64 3988292384))), none⟩,
 ⟨some 3, .p (.mv (.t 28)), none⟩]
def c353_r9 : List Ins := [⟨some 29, .p (.mv (.t 3)), none⟩,
 ⟨some 30, .p (.bin .quo (.t 29) (.c (.int .i64 2))), none⟩,
 ⟨some 3, .p (.mv (.t 30)), none⟩]
def c353_r10 : List Ins := [⟨some 21, .p (.mv (.t 5)), none⟩,
 ⟨some 22, .p (.bin .add (.t 21) (.c (.int .i64 1))), none⟩,
 ⟨some 5, .p (.mv (.t 22)), none⟩]
def c353_l0 : IR := (.seq (.seq (.reg c353_r6) (.ite (.t 20) .skip (.exit 2))) (.seq (.block 3 (.seq (.reg c353_r7) (.ite (.t 25) (.reg c353_r8) (.reg c353_r9)))) (.reg c353_r10)))
def c353_r11 : List Ins := [⟨some 10, .p (.mv (.t 4)), none⟩,
 ⟨some 11, .p (.bin .add (.t 10) (.c (.int .i64 1))), none⟩,
 ⟨some 4, .p (.mv (.t 11)), none⟩]
def c353_l1 : IR := (.seq (.seq (.reg c353_r3) (.ite (.t 9) .skip (.exit 0))) (.seq (.block 1 (.seq (.reg c353_r4) (.seq (.reg c353_r5) (.block 2 (.loop c353_l0))))) (.reg c353_r11)))
def c353_r12 : List Ins := [⟨some 31, .p (.mv (.t 3)), none⟩,
 ⟨some 32, .p (.bin .xor (.t 31) (.c (.int .i64 4294967295))), none⟩,
 ⟨some 2, .p (.mv (.t 32)), none⟩]
def c353 : XFn := { np := 1, nt := 33, res := [.t 2], body := (.seq (.reg c353_r0) (.seq (.reg c353_r1) (.seq (.seq (.reg c353_r2) (.block 0 (.loop c353_l1))) (.seq (.reg c353_r12) .ret)))) }
def K353 (C : CRel) : Prop := ∀ (a0 : List UInt8) (r : Int), g353 a0 = some r → C 353 ⟨[.lst 1 (a0.map eU8)], []⟩ ⟨.int .i64 r, [], []⟩
theorem F353 {C : CRel}  (a0 : List UInt8) (r : Int) (h0 : g353 a0 = some r) : FnOK C c353 ⟨[.lst 1 (a0.map eU8)], []⟩ ⟨.int .i64 r, [], []⟩ := by
  refine fn_ (Nat.le_of_ble_eq_true rfl) ?_
  refine seq_ ?_
  refine reg_ ?_
  refine st (mvc_ trivial ?_)
  refine oe_ ?_
  refine wk_ ⟨[(0, .lst 1 (a0.map eU8))], [], []⟩ (fgk (by kernel_rfl)) ?_
  refine seq_ ?_
  refine reg_ ?_
  refine st (mvc_ trivial ?_)
  refine oe_ ?_
  refine wk_ ⟨[(0, .lst 1 (a0.map eU8)), (3, .int .i64 4294967295)], [], []⟩ (fgk (by kernel_rfl)) ?_
  refine seq_ ?_
  refine seq_ ?_
  refine reg_ ?_
  refine st (mvc_ trivial ?_)
  refine oe_ ?_
  refine wk_ ⟨[(0, .lst 1 (a0.map eU8)), (3, .int .i64 4294967295), (4, .int .i64 0)], [], []⟩ (fgk (by kernel_rfl)) ?_
  refine block_ ?_
  obtain ⟨r61, e62, h0⟩ := bnd h0
  refine loop_ (R := (fun S => ∃ p37 : Int, p37 = r61 ∧ S = ⟨[(3, .int .i64 p37)], [], []⟩)) (g353_l0 a0) (fun s S => match s with | (p17, p18) => S = ⟨[(0, .lst 1 (a0.map eU8)), (3, .int .i64 p17), (4, .int .i64 p18)], [], []⟩) e62 ⟨[(0, .lst 1 (a0.map eU8)), (3, .int .i64 4294967295), (4, .int .i64 0)], [], []⟩ (fgk (by kernel_rfl)) rfl 0 (fun _ => rfl) ?_ ?_
  · rintro S _ hfg ⟨p37, rfl, rfl⟩
    refine wk_ ⟨[(3, .int .i64 p37)], [], []⟩ (fglk hfg (by kernel_rfl)) ?_
    refine seq_ ?_
    refine reg_ ?_
    refine st (mv_ rfl trivial ?_)
    refine st (c_ (cp_ ⟨trivial, trivial, trivial⟩ rfl trivial) ?_)
    refine st (mv_ rfl trivial ?_)
    refine oe_ ?_
    refine wk_ ⟨[(2, .int .i64 (ixor .i64 p37 4294967295))], [], []⟩ (fgk (by kernel_rfl)) ?_
    obtain rfl := Option.some.inj h0
    exact rt_ (ret_ rfl rfl rfl rfl rfl trivial)
  · rintro ⟨p17, p18⟩ o1 _ K1 rfl h1 hx1 hK1 hE1 hR1
    refine seq_ ?_
    refine seq_ ?_
    refine reg_ ?_
    refine st (mv_ rfl trivial ?_)
    refine st (mv_ rfl trivial ?_)
    refine st (c_ (clenL (e := eU8) (l0 := a0) rfl rfl trivial) ?_)
    refine st (c_ (cp_ ⟨trivial, trivial, trivial⟩ rfl trivial) ?_)
    refine oe_ ?_
    refine wk_ ⟨[(0, .lst 1 (a0.map eU8)), (3, .int .i64 p17), (4, .int .i64 p18), (9, .bool (decide (p18 < (a0.length : Int))))], [], []⟩ (fgk (by kernel_rfl)) ?_
    refine ite_ (cb := (decide (p18 < (a0.length : Int)))) rfl (fun c38 => ?_) (fun c38 => ?_)
    · replace h1 := ip c38 h1
      refine sk_ ?_
      refine wk_ ⟨[(0, .lst 1 (a0.map eU8)), (3, .int .i64 p17), (4, .int .i64 p18)], [], []⟩ (fgk (by kernel_rfl)) ?_
      refine seq_ ?_
      refine block_ ?_
      refine seq_ ?_
      refine reg_ ?_
      refine st (mv_ rfl trivial ?_)
      refine st (mv_ rfl trivial ?_)
      refine st (mv_ rfl trivial ?_)
      obtain ⟨y39, e40, h1⟩ := bnd h1
      refine st (c_ (cidxL (e := eU8) (y := y39) rfl rfl trivial rfl rfl trivial e40) ?_)
      refine st (c_ (cp_ ⟨trivial, trivial⟩ rfl (Nat.le_of_ble_eq_true rfl)) ?_)
      refine st (c_ (cp_ ⟨trivial, trivial⟩ rfl trivial) ?_)
      refine st (c_ (cp_ ⟨trivial, trivial, trivial⟩ rfl trivial) ?_)
      refine st (mv_ rfl trivial ?_)
      refine oe_ ?_
      refine wk_ ⟨[(0, .lst 1 (a0.map eU8)), (3, .int .i64 (ixor .i64 p17 (IntKind.i64.wrap ((y39).toNat : Int)))), (4, .int .i64 p18)], [], []⟩ (fgk (by kernel_rfl)) ?_
      refine seq_ ?_
      refine reg_ ?_
      refine st (mvc_ trivial ?_)
      refine oe_ ?_
      refine wk_ ⟨[(0, .lst 1 (a0.map eU8)), (3, .int .i64 (ixor .i64 p17 (IntKind.i64.wrap ((y39).toNat : Int)))), (4, .int .i64 p18), (5, .int .i64 0)], [], []⟩ (fgk (by kernel_rfl)) ?_
      refine block_ ?_
      obtain ⟨r59, e60, h1⟩ := bnd h1
      refine loop_ (R := (fun S => ∃ p53 : Int, p53 = r59 ∧ S = ⟨[(0, .lst 1 (a0.map eU8)), (3, .int .i64 p53), (4, .int .i64 p18)], [], []⟩)) (g353_l1) (fun s S => match s with | (p46, p47) => S = ⟨[(0, .lst 1 (a0.map eU8)), (3, .int .i64 p46), (4, .int .i64 p18), (5, .int .i64 p47)], [], []⟩) e60 ⟨[(0, .lst 1 (a0.map eU8)), (3, .int .i64 (ixor .i64 p17 (IntKind.i64.wrap ((y39).toNat : Int)))), (4, .int .i64 p18), (5, .int .i64 0)], [], []⟩ (fgk (by kernel_rfl)) rfl 2 (fun _ => rfl) ?_ ?_
      · rintro S _ hfg ⟨p53, rfl, rfl⟩
        refine bn_ ?_
        refine wk_ ⟨[(0, .lst 1 (a0.map eU8)), (3, .int .i64 p53), (4, .int .i64 p18)], [], []⟩ (fglk hfg (by kernel_rfl)) ?_
        refine reg_ ?_
        refine st (mv_ rfl trivial ?_)
        refine st (c_ (cp_ ⟨trivial, trivial, trivial⟩ rfl trivial) ?_)
        refine st (mv_ rfl trivial ?_)
        refine oe_ ?_
        obtain rfl := Option.some.inj h1
        exact hK1 _ rfl _ ⟨[(0, .lst 1 (a0.map eU8)), (3, .int .i64 p53), (4, .int .i64 (IntKind.i64.wrap (p18 + 1)))], [], []⟩ (fgk (by kernel_rfl)) rfl
      · rintro ⟨p46, p47⟩ o2 _ K2 rfl h2 hx2 hK2 hE2 hR2
        refine seq_ ?_
        refine seq_ ?_
        refine reg_ ?_
        refine st (mv_ rfl trivial ?_)
        refine st (c_ (cp_ ⟨trivial, trivial, trivial⟩ rfl trivial) ?_)
        refine oe_ ?_
        refine wk_ ⟨[(0, .lst 1 (a0.map eU8)), (3, .int .i64 p46), (4, .int .i64 p18), (5, .int .i64 p47), (20, .bool (decide (p47 < 8)))], [], []⟩ (fgk (by kernel_rfl)) ?_
        refine ite_ (cb := (decide (p47 < 8))) rfl (fun c54 => ?_) (fun c54 => ?_)
        · replace h2 := ip c54 h2
          refine sk_ ?_
          refine wk_ ⟨[(0, .lst 1 (a0.map eU8)), (3, .int .i64 p46), (4, .int .i64 p18), (5, .int .i64 p47)], [], []⟩ (fgk (by kernel_rfl)) ?_
          refine seq_ ?_
          refine blockJ (fun S => ∃ p56 : Int, S = ⟨[(0, .lst 1 (a0.map eU8)), (3, .int .i64 p56), (4, .int .i64 p18), (5, .int .i64 p47)], [], []⟩ ∧ g353_j0 p47 p56 = some o2) ?_ (fun J57 => ?_)
          · rintro _ ⟨p56, rfl, h2⟩
            refine wk_ ⟨[(0, .lst 1 (a0.map eU8)), (3, .int .i64 p56), (4, .int .i64 p18), (5, .int .i64 p47)], [], []⟩ (fgk (by kernel_rfl)) ?_
            refine reg_ ?_
            refine st (mv_ rfl trivial ?_)
            refine st (c_ (cp_ ⟨trivial, trivial, trivial⟩ rfl trivial) ?_)
            refine st (mv_ rfl trivial ?_)
            refine oe_ ?_
            obtain rfl := Option.some.inj h2
            exact hK2 _ rfl _ ⟨[(0, .lst 1 (a0.map eU8)), (3, .int .i64 p56), (4, .int .i64 p18), (5, .int .i64 (IntKind.i64.wrap (p47 + 1)))], [], []⟩ (fgk (by kernel_rfl)) rfl
          · refine seq_ ?_
            refine reg_ ?_
            refine st (mv_ rfl trivial ?_)
            refine st (c_ (cp_ ⟨trivial, trivial, trivial⟩ rfl (by decide)) ?_)
            refine st (c_ (cp_ ⟨trivial, trivial, trivial⟩ rfl trivial) ?_)
            refine oe_ ?_
            refine wk_ ⟨[(0, .lst 1 (a0.map eU8)), (3, .int .i64 p46), (4, .int .i64 p18), (5, .int .i64 p47), (25, .bool (((p46).tmod 2) == 1))], [], []⟩ (fgk (by kernel_rfl)) ?_
            refine ite_ (cb := (((p46).tmod 2) == 1)) rfl (fun c58 => ?_) (fun c58 => ?_)
            · replace h2 := ip c58 h2
              refine reg_ ?_
              refine st (mv_ rfl trivial ?_)
              refine st (c_ (cp_ ⟨trivial, trivial, trivial⟩ rfl (by decide)) ?_)
              refine st (c_ (cp_ ⟨trivial, trivial, trivial⟩ rfl trivial) ?_)
              refine st (mv_ rfl trivial ?_)
              refine oe_ ?_
              refine bn_ ?_
              exact J57 _ ⟨[(0, .lst 1 (a0.map eU8)), (3, .int .i64 (ixor .i64 (IntKind.i64.wrap ((p46).tdiv 2)) 3988292384)), (4, .int .i64 p18), (5, .int .i64 p47)], [], []⟩ (fgk (by kernel_rfl)) ⟨_, rfl, h2⟩
            · replace h2 := inb c58 h2
              refine reg_ ?_
              refine st (mv_ rfl trivial ?_)
              refine st (c_ (cp_ ⟨trivial, trivial, trivial⟩ rfl (by decide)) ?_)
              refine st (mv_ rfl trivial ?_)
              refine oe_ ?_
              refine bn_ ?_
              exact J57 _ ⟨[(0, .lst 1 (a0.map eU8)), (3, .int .i64 (IntKind.i64.wrap ((p46).tdiv 2))), (4, .int .i64 p18), (5, .int .i64 p47)], [], []⟩ (fgk (by kernel_rfl)) ⟨_, rfl, h2⟩
        · replace h2 := inb c54 h2
          obtain rfl := Option.some.inj h2
          obtain rfl := hx2 _ rfl
          refine exQ rfl ?_
          exact hE2 _ ⟨[(0, .lst 1 (a0.map eU8)), (3, .int .i64 p46), (4, .int .i64 p18)], [], []⟩ (fgk (by kernel_rfl)) ⟨_, rfl, rfl⟩
    · replace h1 := inb c38 h1
      obtain rfl := Option.some.inj h1
      obtain rfl := hx1 _ rfl
      refine exQ rfl ?_
      exact hE1 _ ⟨[(3, .int .i64 p17)], [], []⟩ (fgk (by kernel_rfl)) ⟨_, rfl, rfl⟩

/- loop.example/g00149/spec.l02Frame -/
def c304_r0 : List Ins := [⟨some 2, .nilS 1, none⟩]
def c304_r1 : List Ins := [⟨some 6, .p (.mv (.t 0)), none⟩,
 ⟨some 7, .p (.len (.t 6)), none⟩,
 ⟨some 8, .p (.bin .add (.t 7) (.c (.int .i64 1))), none⟩,
 ⟨some 3, .p (.mv (.t 8)), none⟩]
def c304_r2 : List Ins := [⟨some 9, .p (.mv (.t 3)), none⟩,
 ⟨some 10, .p (.bin .quo (.t 9) (.c (.int .i64 256))), none⟩,
 ⟨some 11, .p (.conv .u8 (.t 10)), none⟩,
 ⟨some 12, .p (.mv (.t 3)), none⟩,
 ⟨some 13, .p (.bin .rem (.t 12) (.c (.int .i64 256))), none⟩,
 ⟨some 14, .p (.conv .u8 (.t 13)), none⟩,
 ⟨some 15, .mkS 1 [(.int .u8 0)] 2 [(0, (.t 11)), (1, (.t 14))], none⟩,
 ⟨some 16, .p (.mv (.t 0)), none⟩,
 ⟨some 17, .app 1 1 (.t 15) (.t 16), none⟩,
 ⟨some 4, .p (.mv (.t 17)), none⟩]
def c304_r3 : List Ins := [⟨some 18, .p (.mv (.t 4)), none⟩,
 ⟨some 19, .call 353 [(.t 18)], none⟩,
 ⟨some 5, .p (.mv (.t 19)), none⟩]
def c304_r4 : List Ins := [⟨some 20, .p (.mv (.t 4)), none⟩,
 ⟨some 21, .p (.mv (.t 5)), none⟩,
 ⟨some 22, .p (.bin .quo (.t 21) (.c (.int .i64 16777216))), none⟩,
 ⟨some 23, .p (.conv .u8 (.t 22)), none⟩,
 ⟨some 24, .p (.mv (.t 5)), none⟩,
 ⟨some 25, .p (.bin .quo (.t 24) (.c (.int .i64 65536))), none⟩,
 ⟨some 26, .p (.bin .rem (.t 25) (.c (.int .i64 256))), none⟩,
 ⟨some 27, .p (.conv .u8 (.t 26)), none⟩,
 ⟨some 28, .p (.mv (.t 5)), none⟩,
 ⟨some 29, .p (.bin .quo (.t 28) (.c (.int .i64 256))), none⟩,
 ⟨some 30, .p (.bin .rem (.t 29) (.c (.int .i64 256))), none⟩,
 ⟨some 31, .p (.conv .u8 (.t 30)), none⟩,
 ⟨some 32, .p (.mv (.t 5)), none⟩,
 ⟨some 33, .p (.bin .rem (.t 32) (.c (.int .i64 256))), none⟩,
 ⟨some 34, .p (.conv .u8 (.t 33)), none⟩,
 ⟨some 35, .mkS 1 [(.int .u8 0)] 4 [(0, (.t 23)), (1, (.t 27)), (2, (.t 31)), (3, (.t 34))], none⟩,
 ⟨some 36, .app 1 1 (.t 20) (.t 35), none⟩,
 ⟨some 2, .p (.mv (.t 36)), none⟩]
def c304 : XFn := { np := 1, nt := 37, res := [.t 2], body := (.seq (.reg c304_r0) (.seq (.reg c304_r1) (.seq (.reg c304_r2) (.seq (.reg c304_r3) (.seq (.reg c304_r4) .ret))))) }
def K304 (C : CRel) : Prop := ∀ (a0 : List UInt8) (r : (List UInt8)), g304 a0 = some r → C 304 ⟨[.lst 1 (a0.map eU8)], []⟩ ⟨.own 0 0 1 (r.map eU8), [], []⟩
theorem F304 {C : CRel} (H353 : K353 C) (a0 : List UInt8) (r : (List UInt8)) (h0 : g304 a0 = some r) : FnOK C c304 ⟨[.lst 1 (a0.map eU8)], []⟩ ⟨.own 0 0 1 (r.map eU8), [], []⟩ := by
  refine fn_ (Nat.le_of_ble_eq_true rfl) ?_
  refine seq_ ?_
  refine reg_ ?_
  refine st (nilS_ ?_)
  refine oe_ ?_
  refine wk_ ⟨[(0, .lst 1 (a0.map eU8))], [], []⟩ (fgk (by kernel_rfl)) ?_
  refine seq_ ?_
  refine reg_ ?_
  refine st (mv_ rfl trivial ?_)
  refine st (c_ (clenL (e := eU8) (l0 := a0) rfl rfl trivial) ?_)
  refine st (c_ (cp_ ⟨trivial, trivial, trivial⟩ rfl trivial) ?_)
  refine st (mv_ rfl trivial ?_)
  refine oe_ ?_
  refine wk_ ⟨[(0, .lst 1 (a0.map eU8)), (3, .int .i64 (IntKind.i64.wrap ((a0.length : Int) + 1)))], [], []⟩ (fgk (by kernel_rfl)) ?_
  refine seq_ ?_
  refine reg_ ?_
  refine st (mv_ rfl trivial ?_)
  refine st (c_ (cp_ ⟨trivial, trivial, trivial⟩ rfl (by decide)) ?_)
  refine st (c_ (cb8 (cp_ ⟨trivial, trivial⟩ rfl trivial)) ?_)
  refine st (mv_ rfl trivial ?_)
  refine st (c_ (cp_ ⟨trivial, trivial, trivial⟩ rfl (by decide)) ?_)
  refine st (c_ (cb8 (cp_ ⟨trivial, trivial⟩ rfl trivial)) ?_)
  refine st (mkS_ ⟨trivial, trivial, trivial⟩ ⟨⟨Nat.le_of_ble_eq_true rfl, rfl, rfl⟩, ⟨Nat.le_of_ble_eq_true rfl, rfl, rfl⟩, trivial⟩ ?_)
  refine st (mv_ rfl trivial ?_)
  obtain ⟨c1, h0⟩ := grd h0
  refine st (app_ (e := eU8) (l0 := ([b8 (IntKind.i64.wrap (((IntKind.i64.wrap ((a0.length : Int) + 1))).tdiv 256)), b8 (((IntKind.i64.wrap ((a0.length : Int) + 1))).tmod 256)] : List UInt8)) (l1 := a0) rfl rfl trivial rfl (by decide) c1 ?_)
  refine st (mv_ rfl trivial ?_)
  refine oe_ ?_
  obtain ⟨v2, e3, h0⟩ := bl h0
  refine wk_ ⟨[(4, .own 960 0 1 (v2.map eU8))], [], []⟩ (fgk (by subst e3; kernel_rfl)) ?_
  refine seq_ ?_
  refine reg_ ?_
  refine st (mv_ rfl trivial ?_)
  obtain ⟨r4, e5, h0⟩ := bnd h0
  refine st (call0_ (r := .int .i64 r4) false (H353 v2 r4 e5) ⟨trivial, trivial⟩ rfl rfl (fun _ => rfl) ?_)
  refine st (mv_ rfl trivial ?_)
  refine oe_ ?_
  refine wk_ ⟨[(4, .own 960 0 1 (v2.map eU8)), (5, .int .i64 r4)], [], []⟩ (fgk (by kernel_rfl)) ?_
  refine seq_ ?_
  refine reg_ ?_
  refine st (mv_ rfl trivial ?_)
  refine st (mv_ rfl trivial ?_)
  refine st (c_ (cp_ ⟨trivial, trivial, trivial⟩ rfl (by decide)) ?_)
  refine st (c_ (cb8 (cp_ ⟨trivial, trivial⟩ rfl trivial)) ?_)
  refine st (mv_ rfl trivial ?_)
  refine st (c_ (cp_ ⟨trivial, trivial, trivial⟩ rfl (by decide)) ?_)
  refine st (c_ (cp_ ⟨trivial, trivial, trivial⟩ rfl (by decide)) ?_)
  refine st (c_ (cb8 (cp_ ⟨trivial, trivial⟩ rfl trivial)) ?_)
  refine st (mv_ rfl trivial ?_)
  refine st (c_ (cp_ ⟨trivial, trivial, trivial⟩ rfl (by decide)) ?_)
  refine st (c_ (cp_ ⟨trivial, trivial, trivial⟩ rfl (by decide)) ?_)
  refine st (c_ (cb8 (cp_ ⟨trivial, trivial⟩ rfl trivial)) ?_)
  refine st (mv_ rfl trivial ?_)
  refine st (c_ (cp_ ⟨trivial, trivial, trivial⟩ rfl (by decide)) ?_)
  refine st (c_ (cb8 (cp_ ⟨trivial, trivial⟩ rfl trivial)) ?_)
  refine sw ⟨[(20, .own 960 0 1 (v2.map eU8)), (23, .int .u8 ((b8 (IntKind.i64.wrap ((r4).tdiv 16777216))).toNat : Int)), (27, .int .u8 ((b8 (((IntKind.i64.wrap ((r4).tdiv 65536))).tmod 256)).toNat : Int)), (31, .int .u8 ((b8 (((IntKind.i64.wrap ((r4).tdiv 256))).tmod 256)).toNat : Int)), (34, .int .u8 ((b8 ((r4).tmod 256)).toNat : Int))], [], []⟩ (fgk (by kernel_rfl)) (mkS_ ⟨trivial, trivial, trivial, trivial, trivial⟩ ⟨⟨Nat.le_of_ble_eq_true rfl, rfl, rfl⟩, ⟨Nat.le_of_ble_eq_true rfl, rfl, rfl⟩, ⟨Nat.le_of_ble_eq_true rfl, rfl, rfl⟩, ⟨Nat.le_of_ble_eq_true rfl, rfl, rfl⟩, trivial⟩ ?_)
  obtain ⟨c6, h0⟩ := grd h0
  refine st (app_ (e := eU8) (l0 := v2) (l1 := ([b8 (IntKind.i64.wrap ((r4).tdiv 16777216)), b8 (((IntKind.i64.wrap ((r4).tdiv 65536))).tmod 256), b8 (((IntKind.i64.wrap ((r4).tdiv 256))).tmod 256), b8 ((r4).tmod 256)] : List UInt8)) rfl rfl trivial rfl (by decide) c6 ?_)
  refine st (mv_ rfl trivial ?_)
  refine oe_ ?_
  obtain ⟨v7, e8, h0⟩ := bl h0
  refine wk_ ⟨[(2, .own 960 0 1 (v7.map eU8))], [], []⟩ (fgk (by subst e8; kernel_rfl)) ?_
  obtain rfl := Option.some.inj h0
  exact rt_ (ret_ rfl rfl rfl rfl rfl trivial)

/- loop.example/g00149/spec.l02Next -/
def c351_r0 : List Ins := [⟨some 4, .nilS 1, none⟩,
 ⟨some 5, .p (.mv (.c (.bool false))), none⟩]
def c351_r1 : List Ins := [⟨some 10, .p (.mv (.t 1)), none⟩,
 ⟨some 11, .p (.bin .add (.t 10) (.c (.int .i64 2))), none⟩,
 ⟨some 12, .p (.mv (.t 0)), none⟩,
 ⟨some 13, .p (.len (.t 12)), none⟩,
 ⟨some 14, .p (.bin .gtr (.t 11) (.t 13)), none⟩]
def c351_r2 : List Ins := [⟨some 15, .mkS 1 [(.int .u8 0)] 0 [], none⟩,
 ⟨some 4, .p (.mv (.t 15)), none⟩,
 ⟨some 5, .p (.mv (.c (.bool false))), none⟩]
def c351_r3 : DP := (.take ⟨some 16, .p (.mv (.t 0)), none⟩
 (.take ⟨some 17, .p (.mv (.t 1)), none⟩
 (.take ⟨some 18, .p (.idxA (.t 16) (.t 17) 1), none⟩
 (.take ⟨some 19, .p (.load (.t 18) 1 false), none⟩
 (.take ⟨some 20, .p (.conv .i64 (.t 19)), none⟩
 (.take ⟨some 21, .p (.bin .mul (.t 20) (.c (.int .i64 256))), none⟩
 (.take ⟨some 22, .p (.mv (.t 0)), none⟩
 (.take ⟨some 23, .p (.mv (.t 1)), none⟩
 (.take ⟨some 24, .p (.bin .add (.t 23) (.c (.int .i64 1))), none⟩
 (.take ⟨some 25, .p (.idxA (.t 22) (.t 24) 1), none⟩
 (.take ⟨some 26, .p (.load (.t 25) 1 false), none⟩
 (.take ⟨some 27, .p (.conv .i64 (.t 26)), none⟩
 (.take ⟨some 28, .p (.bin .add (.t 21) (.t 27)), none⟩
 (.take ⟨some 29, .p (.bin .sub (.t 28) (.c (.int .i64 1))), none⟩
 (.take ⟨some 6, .p (.mv (.t 29)), none⟩
 .fin)))))))))))))))
def c351_r4 : List Ins := [⟨some 30, .p (.mv (.t 6)), none⟩,
 ⟨some 31, .p (.bin .lss (.t 30) (.c (.int .i64 0))), none⟩,
 ⟨some 32, .p (.mv (.t 31)), none⟩,
 ⟨some 33, .p (.mv (.t 6)), some (32, false)⟩,
 ⟨some 34, .p (.bin .gtr (.t 33) (.c (.int .i64 2000))), some (32, false)⟩,
 ⟨some 35, .pick (.t 32) (.c (.bool true)) (.t 34), none⟩,
 ⟨some 36, .p (.mv (.t 35)), none⟩,
 ⟨some 37, .p (.mv (.t 1)), some (36, false)⟩,
 ⟨some 38, .p (.mv (.t 6)), some (36, false)⟩,
 ⟨some 39, .p (.bin .add (.t 37) (.t 38)), some (36, false)⟩,
 ⟨some 40, .p (.bin .add (.t 39) (.c (.int .i64 6))), some (36, false)⟩,
 ⟨some 41, .p (.mv (.t 0)), some (36, false)⟩,
 ⟨some 42, .p (.len (.t 41)), some (36, false)⟩,
 ⟨some 43, .p (.bin .gtr (.t 40) (.t 42)), some (36, false)⟩,
 ⟨some 44, .pick (.t 36) (.c (.bool true)) (.t 43), none⟩]
def c351_r5 : List Ins := [⟨some 45, .mkS 1 [(.int .u8 0)] 0 [], none⟩,
 ⟨some 4, .p (.mv (.t 45)), none⟩,
 ⟨some 5, .p (.mv (.c (.bool false))), none⟩]
def c351_r6 : List Ins := [⟨some 46, .mkS 1 [(.int .u8 0)] 0 [], none⟩,
 ⟨some 47, .p (.mv (.t 0)), none⟩,
 ⟨some 48, .p (.mv (.t 1)), none⟩,
 ⟨some 49, .p (.bin .add (.t 48) (.c (.int .i64 2))), none⟩,
 ⟨some 50, .p (.mv (.t 1)), none⟩,
 ⟨some 51, .p (.bin .add (.t 50) (.c (.int .i64 2))), none⟩,
 ⟨some 52, .p (.mv (.t 6)), none⟩,
 ⟨some 53, .p (.bin .add (.t 51) (.t 52)), none⟩,
 ⟨some 54, .p (.slice (.t 47) (some (.t 49)) (some (.t 53)) 1), none⟩,
 ⟨some 55, .app 1 1 (.t 46) (.t 54), none⟩,
 ⟨some 7, .p (.mv (.t 55)), none⟩]
def c351_r7 : List Ins := [⟨some 56, .p (.mv (.t 7)), none⟩,
 ⟨some 57, .call 304 [(.t 56)], none⟩,
 ⟨some 8, .p (.mv (.t 57)), none⟩]
def c351_r8 : List Ins := [⟨some 9, .p (.mv (.c (.int .i64 0))), none⟩]
def c351_r9 : List Ins := [⟨some 58, .p (.mv (.t 9)), none⟩,
 ⟨some 59, .p (.bin .lss (.t 58) (.c (.int .i64 4))), none⟩]
def c351_r10 : DP := (.take ⟨some 62, .p (.mv (.t 0)), none⟩
 (.take ⟨some 63, .p (.mv (.t 1)), none⟩
 (.take ⟨some 64, .p (.bin .add (.t 63) (.c (.int .i64 2))), none⟩
 (.take ⟨some 65, .p (.mv (.t 6)), none⟩
 (.take ⟨some 66, .p (.bin .add (.t 64) (.t 65)), none⟩
 (.take ⟨some 67, .p (.mv (.t 9)), none⟩
 (.take ⟨some 68, .p (.bin .add (.t 66) (.t 67)), none⟩
 (.take ⟨some 69, .p (.idxA (.t 62) (.t 68) 1), none⟩
 (.take ⟨some 70, .p (.load (.t 69) 1 false), none⟩
 (.take ⟨some 71, .p (.mv (.t 8)), none⟩
 (.take ⟨some 72, .p (.mv (.t 6)), none⟩
 (.take ⟨some 73, .p (.bin .add (.c (.int .i64 2)) (.t 72)), none⟩
 (.take ⟨some 74, .p (.mv (.t 9)), none⟩
 (.take ⟨some 75, .p (.bin .add (.t 73) (.t 74)), none⟩
 (.take ⟨some 76, .p (.idxA (.t 71) (.t 75) 1), none⟩
 (.take ⟨some 77, .p (.load (.t 76) 1 false), none⟩
 (.take ⟨some 78, .p (.bin .neq (.t 70) (.t 77)), none⟩
 .fin)))))))))))))))))
def c351_r11 : List Ins := [⟨some 79, .mkS 1 [(.int .u8 0)] 0 [], none⟩,
 ⟨some 4, .p (.mv (.t 79)), none⟩,
 ⟨some 5, .p (.mv (.c (.bool false))), none⟩]
def c351_r12 : List Ins := [⟨some 60, .p (.mv (.t 9)), none⟩,
 ⟨some 61, .p (.bin .add (.t 60) (.c (.int .i64 1))), none⟩,
 ⟨some 9, .p (.mv (.t 61)), none⟩]
def c351_l0 : IR := (.seq (.seq (.reg c351_r9) (.ite (.t 59) .skip (.exit 0))) (.seq (.block 1 (.seq (.draw c351_r10) (.ite (.t 78) (.seq (.reg c351_r11) .ret) .skip))) (.reg c351_r12)))
def c351_r13 : List Ins := [⟨some 80, .p (.mv (.t 7)), none⟩,
 ⟨some 4, .p (.mv (.t 80)), none⟩,
 ⟨some 5, .p (.mv (.c (.bool true))), none⟩]
def c351 : XFn := { np := 2, nt := 81, res := [.t 4, .t 5], body := (.seq (.reg c351_r0) (.seq (.seq (.reg c351_r1) (.ite (.t 14) (.seq (.reg c351_r2) .ret) .skip)) (.seq (.draw c351_r3) (.seq (.seq (.reg c351_r4) (.ite (.t 44) (.seq (.reg c351_r5) .ret) .skip)) (.seq (.reg c351_r6) (.seq (.reg c351_r7) (.seq (.seq (.reg c351_r8) (.block 0 (.loop c351_l0))) (.seq (.reg c351_r13) .ret)))))))) }
def K351 (C : CRel) : Prop := ∀ (a0 : List UInt8) (a1 : Int) (r : (List UInt8) × Bool), g351 a0 a1 = some r → C 351 ⟨[.lst 1 (a0.map eU8), .int .i64 a1], []⟩ ⟨.tup [.own 0 0 1 (r.1.map eU8), .bool r.2], [], []⟩
theorem F351 {C : CRel} (H304 : K304 C) (a0 : List UInt8) (a1 : Int) (r : (List UInt8) × Bool) (h0 : g351 a0 a1 = some r) : FnOK C c351 ⟨[.lst 1 (a0.map eU8), .int .i64 a1], []⟩ ⟨.tup [.own 0 0 1 (r.1.map eU8), .bool r.2], [], []⟩ := by
  refine fn_ (Nat.le_of_ble_eq_true rfl) ?_
  refine seq_ ?_
  refine reg_ ?_
  refine st (nilS_ ?_)
  refine st (mvc_ trivial ?_)
  refine oe_ ?_
  refine wk_ ⟨[(0, .lst 1 (a0.map eU8)), (1, .int .i64 a1)], [], []⟩ (fgk (by kernel_rfl)) ?_
  refine seq_ ?_
  refine seq_ ?_
  refine reg_ ?_
  refine st (mv_ rfl trivial ?_)
  refine st (c_ (cp_ ⟨trivial, trivial, trivial⟩ rfl trivial) ?_)
  refine st (mv_ rfl trivial ?_)
  refine st (c_ (clenL (e := eU8) (l0 := a0) rfl rfl trivial) ?_)
  refine st (c_ (cp_ ⟨trivial, trivial, trivial⟩ rfl trivial) ?_)
  refine oe_ ?_
  refine wk_ ⟨[(0, .lst 1 (a0.map eU8)), (1, .int .i64 a1), (14, .bool (decide ((IntKind.i64.wrap (a1 + 2)) > (a0.length : Int))))], [], []⟩ (fgk (by kernel_rfl)) ?_
  refine ite_ (cb := (decide ((IntKind.i64.wrap (a1 + 2)) > (a0.length : Int)))) rfl (fun c1 => ?_) (fun c1 => ?_)
  · replace h0 := ip c1 h0
    refine seq_ ?_
    refine reg_ ?_
    refine st (mkS_ trivial trivial ?_)
    refine st (mv_ rfl trivial ?_)
    refine st (mvc_ trivial ?_)
    refine oe_ ?_
    refine wk_ ⟨[(4, .own 960 0 1 (([] : List UInt8).map eU8)), (5, .bool false)], [], []⟩ (fgk (by kernel_rfl)) ?_
    obtain rfl := Option.some.inj h0
    exact rt_ (ret_ rfl rfl rfl rfl rfl trivial)
  · replace h0 := inb c1 h0
    refine sk_ ?_
    refine wk_ ⟨[(0, .lst 1 (a0.map eU8)), (1, .int .i64 a1)], [], []⟩ (fgk (by kernel_rfl)) ?_
    refine seq_ ?_
    obtain ⟨y2, e3, h0⟩ := bnd h0
    obtain ⟨y4, e5, h0⟩ := bnd h0
    refine draw_ ?_
    refine dtake trivial (mv_ rfl trivial ?_)
    refine ⟨trivial, ?_⟩
    refine dtake trivial (mv_ rfl trivial ?_)
    refine ⟨trivial, ?_⟩
    refine dtake trivial (c_ (cidxL (e := eU8) (y := y2) rfl rfl trivial rfl rfl trivial e3) ?_)
    refine ⟨trivial, ?_⟩
    refine dtake trivial (c_ (cp_ ⟨trivial, trivial⟩ rfl (Nat.le_of_ble_eq_true rfl)) ?_)
    refine ⟨trivial, ?_⟩
    refine dtake trivial (c_ (cp_ ⟨trivial, trivial⟩ rfl trivial) ?_)
    refine ⟨trivial, ?_⟩
    refine dtake trivial (c_ (cp_ ⟨trivial, trivial, trivial⟩ rfl trivial) ?_)
    refine ⟨trivial, ?_⟩
    refine dtake trivial (mv_ rfl trivial ?_)
    refine ⟨trivial, ?_⟩
    refine dtake trivial (mv_ rfl trivial ?_)
    refine ⟨trivial, ?_⟩
    refine dtake trivial (c_ (cp_ ⟨trivial, trivial, trivial⟩ rfl trivial) ?_)
    refine ⟨trivial, ?_⟩
    refine dtake trivial (c_ (cidxL (e := eU8) (y := y4) rfl rfl trivial rfl rfl trivial e5) ?_)
    refine ⟨trivial, ?_⟩
    refine dtake trivial (c_ (cp_ ⟨trivial, trivial⟩ rfl (Nat.le_of_ble_eq_true rfl)) ?_)
    refine ⟨trivial, ?_⟩
    refine dtake trivial (c_ (cp_ ⟨trivial, trivial⟩ rfl trivial) ?_)
    refine ⟨trivial, ?_⟩
    refine dtake trivial (c_ (cp_ ⟨trivial, trivial, trivial⟩ rfl trivial) ?_)
    refine ⟨trivial, ?_⟩
    refine dtake trivial (c_ (cp_ ⟨trivial, trivial, trivial⟩ rfl trivial) ?_)
    refine ⟨trivial, ?_⟩
    refine dtake trivial (mv_ rfl trivial ?_)
    refine ⟨trivial, ?_⟩
    refine dfin ?_
    obtain ⟨v6, e7, h0⟩ := bl h0
    refine wk_ ⟨[(0, .lst 1 (a0.map eU8)), (1, .int .i64 a1), (6, .int .i64 v6)], [], []⟩ (fgk (by subst e7; kernel_rfl)) ?_
    refine seq_ ?_
    refine seq_ ?_
    refine reg_ ?_
    refine st (mv_ rfl trivial ?_)
    refine st (c_ (cp_ ⟨trivial, trivial, trivial⟩ rfl trivial) ?_)
    refine st (mv_ rfl trivial ?_)
    refine st (pg_ (u := .int .i64 v6) rfl (fun hg => (cmv (v := .int .i64 v6) rfl trivial)) ?_)
    refine st (pg_ (u := .bool (decide (v6 > 2000))) rfl (fun hg => (cp_ ⟨(fun _ => hg), trivial, trivial⟩ rfl trivial)) ?_)
    refine st (pick_ rfl rfl rfl trivial (fun h => eqf h) rfl ?_)
    refine st (mv_ rfl trivial ?_)
    refine st (pg_ (u := .int .i64 a1) rfl (fun hg => (cmv (v := .int .i64 a1) rfl trivial)) ?_)
    refine st (pg_ (u := .int .i64 v6) rfl (fun hg => (cmv (v := .int .i64 v6) rfl trivial)) ?_)
    refine st (pg_ (u := .int .i64 (IntKind.i64.wrap (a1 + v6))) rfl (fun hg => (cp_ ⟨(fun _ => hg), (fun _ => hg), trivial⟩ rfl trivial)) ?_)
    refine st (pg_ (u := .int .i64 (IntKind.i64.wrap ((IntKind.i64.wrap (a1 + v6)) + 6))) rfl (fun hg => (cp_ ⟨(fun _ => hg), trivial, trivial⟩ rfl trivial)) ?_)
    refine st (pg_ (u := .lst 1 (a0.map eU8)) rfl (fun hg => (cmv (v := .lst 1 (a0.map eU8)) rfl trivial)) ?_)
    refine st (pg_ (u := .int .i64 (a0.length : Int)) rfl (fun hg => (clenL (e := eU8) (l0 := a0) rfl rfl (fun _ => hg))) ?_)
    refine st (pg_ (u := .bool (decide ((IntKind.i64.wrap ((IntKind.i64.wrap (a1 + v6)) + 6)) > (a0.length : Int)))) rfl (fun hg => (cp_ ⟨(fun _ => hg), (fun _ => hg), trivial⟩ rfl trivial)) ?_)
    refine st (pick_ rfl rfl rfl trivial (fun h => eqf h) rfl ?_)
    refine oe_ ?_
    obtain ⟨v8, e9, h0⟩ := bl h0
    refine wk_ ⟨[(0, .lst 1 (a0.map eU8)), (1, .int .i64 a1), (6, .int .i64 v6), (44, .bool v8)], [], []⟩ (fgk (by subst e9; kernel_rfl)) ?_
    refine ite_ (cb := v8) rfl (fun c10 => ?_) (fun c10 => ?_)
    · replace h0 := ip c10 h0
      refine seq_ ?_
      refine reg_ ?_
      refine st (mkS_ trivial trivial ?_)
      refine st (mv_ rfl trivial ?_)
      refine st (mvc_ trivial ?_)
      refine oe_ ?_
      refine wk_ ⟨[(4, .own 2880 0 1 (([] : List UInt8).map eU8)), (5, .bool false)], [], []⟩ (fgk (by kernel_rfl)) ?_
      obtain rfl := Option.some.inj h0
      exact rt_ (ret_ rfl rfl rfl rfl rfl trivial)
    · replace h0 := inb c10 h0
      refine sk_ ?_
      refine wk_ ⟨[(0, .lst 1 (a0.map eU8)), (1, .int .i64 a1), (6, .int .i64 v6)], [], []⟩ (fgk (by kernel_rfl)) ?_
      refine seq_ ?_
      refine reg_ ?_
      refine st (mkS_ trivial trivial ?_)
      refine st (mv_ rfl trivial ?_)
      refine st (mv_ rfl trivial ?_)
      refine st (c_ (cp_ ⟨trivial, trivial, trivial⟩ rfl trivial) ?_)
      refine st (mv_ rfl trivial ?_)
      refine st (c_ (cp_ ⟨trivial, trivial, trivial⟩ rfl trivial) ?_)
      refine st (mv_ rfl trivial ?_)
      refine st (c_ (cp_ ⟨trivial, trivial, trivial⟩ rfl trivial) ?_)
      obtain ⟨s11, e12, h0⟩ := bnd h0
      refine st (c_ (csliceL (e := eU8) (y := s11) rfl rfl trivial ⟨trivial, trivial, trivial⟩ rfl rfl e12) ?_)
      obtain ⟨c13, h0⟩ := grd h0
      refine st (app_ (e := eU8) (l0 := ([] : List UInt8)) (l1 := s11) rfl rfl trivial rfl (by decide) c13 ?_)
      refine st (mv_ rfl trivial ?_)
      refine oe_ ?_
      refine wk_ ⟨[(0, .lst 1 (a0.map eU8)), (1, .int .i64 a1), (6, .int .i64 v6), (7, .own 2944 0 1 ((([] : List UInt8) ++ s11).map eU8))], [], []⟩ (fgk (by kernel_rfl)) ?_
      refine seq_ ?_
      refine reg_ ?_
      refine st (mv_ rfl trivial ?_)
      obtain ⟨r14, e15, h0⟩ := bnd h0
      refine st (call0_ (r := .own 0 0 1 (r14.map eU8)) false (H304 (([] : List UInt8) ++ s11) r14 e15) ⟨trivial, trivial⟩ rfl rfl (fun _ => (and_ (fl1 (fun _ => rfl)) rfl)) ?_)
      refine st (mv_ rfl trivial ?_)
      refine oe_ ?_
      refine wk_ ⟨[(0, .lst 1 (a0.map eU8)), (1, .int .i64 a1), (6, .int .i64 v6), (7, .own 2944 0 1 ((([] : List UInt8) ++ s11).map eU8)), (8, .own 3648 0 1 (r14.map eU8))], [], []⟩ (fgk (by kernel_rfl)) ?_
      refine seq_ ?_
      refine seq_ ?_
      refine reg_ ?_
      refine st (mvc_ trivial ?_)
      refine oe_ ?_
      refine wk_ ⟨[(0, .lst 1 (a0.map eU8)), (1, .int .i64 a1), (6, .int .i64 v6), (7, .own 2944 0 1 ((([] : List UInt8) ++ s11).map eU8)), (8, .own 3648 0 1 (r14.map eU8)), (9, .int .i64 0)], [], []⟩ (fgk (by kernel_rfl)) ?_
      refine block_ ?_
      obtain ⟨r42, e43, h0⟩ := bnd h0
      refine loop_ (R := (fun S => .inl () = r42 ∧ S = ⟨[(7, .own 2944 0 1 ((([] : List UInt8) ++ s11).map eU8))], [], []⟩)) (g351_l0 a0 a1 v6 r14) (fun s S => match s with | p24 => S = ⟨[(0, .lst 1 (a0.map eU8)), (1, .int .i64 a1), (6, .int .i64 v6), (7, .own 2944 0 1 ((([] : List UInt8) ++ s11).map eU8)), (8, .own 3648 0 1 (r14.map eU8)), (9, .int .i64 p24)], [], []⟩) e43 ⟨[(0, .lst 1 (a0.map eU8)), (1, .int .i64 a1), (6, .int .i64 v6), (7, .own 2944 0 1 ((([] : List UInt8) ++ s11).map eU8)), (8, .own 3648 0 1 (r14.map eU8)), (9, .int .i64 0)], [], []⟩ (fgk (by kernel_rfl)) rfl 0 (fun _ => rfl) ?_ ?_
      · rintro S _ hfg ⟨rfl, rfl⟩
        refine wk_ ⟨[(7, .own 2944 0 1 ((([] : List UInt8) ++ s11).map eU8))], [], []⟩ (fglk hfg (by kernel_rfl)) ?_
        refine seq_ ?_
        refine reg_ ?_
        refine st (mv_ rfl trivial ?_)
        refine st (mv_ rfl trivial ?_)
        refine st (mvc_ trivial ?_)
        refine oe_ ?_
        refine wk_ ⟨[(4, .own 2944 0 1 ((([] : List UInt8) ++ s11).map eU8)), (5, .bool true)], [], []⟩ (fgk (by kernel_rfl)) ?_
        obtain rfl := Option.some.inj h0
        exact rt_ (ret_ rfl rfl rfl rfl rfl trivial)
      · rintro p24 o1 _ K1 rfl h1 hx1 hK1 hE1 hR1
        refine seq_ ?_
        refine seq_ ?_
        refine reg_ ?_
        refine st (mv_ rfl trivial ?_)
        refine st (c_ (cp_ ⟨trivial, trivial, trivial⟩ rfl trivial) ?_)
        refine oe_ ?_
        refine wk_ ⟨[(0, .lst 1 (a0.map eU8)), (1, .int .i64 a1), (6, .int .i64 v6), (7, .own 2944 0 1 ((([] : List UInt8) ++ s11).map eU8)), (8, .own 3648 0 1 (r14.map eU8)), (9, .int .i64 p24), (59, .bool (decide (p24 < 4)))], [], []⟩ (fgk (by kernel_rfl)) ?_
        refine ite_ (cb := (decide (p24 < 4))) rfl (fun c34 => ?_) (fun c34 => ?_)
        · replace h1 := ip c34 h1
          refine sk_ ?_
          refine wk_ ⟨[(0, .lst 1 (a0.map eU8)), (1, .int .i64 a1), (6, .int .i64 v6), (7, .own 2944 0 1 ((([] : List UInt8) ++ s11).map eU8)), (8, .own 3648 0 1 (r14.map eU8)), (9, .int .i64 p24)], [], []⟩ (fgk (by kernel_rfl)) ?_
          refine seq_ ?_
          refine block_ ?_
          refine seq_ ?_
          obtain ⟨y35, e36, h1⟩ := bnd h1
          obtain ⟨y37, e38, h1⟩ := bnd h1
          obtain ⟨y39, e40, h1⟩ := bnd h1
          refine draw_ ?_
          refine dtake trivial (mv_ rfl trivial ?_)
          refine ⟨trivial, ?_⟩
          refine dtake trivial (mv_ rfl trivial ?_)
          refine ⟨trivial, ?_⟩
          refine dtake trivial (c_ (cp_ ⟨trivial, trivial, trivial⟩ rfl trivial) ?_)
          refine ⟨trivial, ?_⟩
          refine dtake trivial (mv_ rfl trivial ?_)
          refine ⟨trivial, ?_⟩
          refine dtake trivial (c_ (cp_ ⟨trivial, trivial, trivial⟩ rfl trivial) ?_)
          refine ⟨trivial, ?_⟩
          refine dtake trivial (mv_ rfl trivial ?_)
          refine ⟨trivial, ?_⟩
          refine dtake trivial (c_ (cp_ ⟨trivial, trivial, trivial⟩ rfl trivial) ?_)
          refine ⟨trivial, ?_⟩
          refine dtake trivial (c_ (cidxL (e := eU8) (y := y35) rfl rfl trivial rfl rfl trivial e36) ?_)
          refine ⟨trivial, ?_⟩
          refine dtake trivial (c_ (cp_ ⟨trivial, trivial⟩ rfl (Nat.le_of_ble_eq_true rfl)) ?_)
          refine ⟨trivial, ?_⟩
          refine dtake trivial (mv_ rfl trivial ?_)
          refine ⟨trivial, ?_⟩
          refine dtake trivial (mv_ rfl trivial ?_)
          refine ⟨trivial, ?_⟩
          refine dtake trivial (c_ (cp_ ⟨trivial, trivial, trivial⟩ rfl trivial) ?_)
          refine ⟨trivial, ?_⟩
          refine dtake trivial (mv_ rfl trivial ?_)
          refine ⟨trivial, ?_⟩
          refine dtake trivial (c_ (cp_ ⟨trivial, trivial, trivial⟩ rfl trivial) ?_)
          refine ⟨trivial, ?_⟩
          refine dtake trivial (c_ (cidxO (e := eU8) (y := y37) rfl rfl trivial rfl rfl trivial e38) ?_)
          refine ⟨trivial, ?_⟩
          refine dtakeO (c_ (cloadO (e := eU8) (y := y39) (v := .int .u8 ((y39).toNat : Int)) rfl rfl trivial rfl rfl e40 rfl (Nat.le_of_ble_eq_true rfl) rfl) ?_)
          refine ⟨⟨(again1 (cloadO (e := eU8) (y := y39) (v := .int .u8 ((y39).toNat : Int)) rfl rfl trivial rfl rfl e40 rfl (Nat.le_of_ble_eq_true rfl) rfl) rfl), trivial⟩, ?_⟩
          refine dtake trivial (c_ (cp_ ⟨trivial, trivial, trivial⟩ rfl trivial) ?_)
          refine ⟨⟨(again1 (cloadO (e := eU8) (y := y39) (v := .int .u8 ((y39).toNat : Int)) rfl rfl trivial rfl rfl e40 rfl (Nat.le_of_ble_eq_true rfl) rfl) rfl), trivial⟩, ?_⟩
          refine dfin ?_
          refine wk_ ⟨[(0, .lst 1 (a0.map eU8)), (1, .int .i64 a1), (6, .int .i64 v6), (7, .own 2944 0 1 ((([] : List UInt8) ++ s11).map eU8)), (8, .own 3648 0 1 (r14.map eU8)), (9, .int .i64 p24), (78, .bool (((y35).toNat : Int) != ((y39).toNat : Int)))], [], []⟩ (fgk (by kernel_rfl)) ?_
          refine ite_ (cb := (((y35).toNat : Int) != ((y39).toNat : Int))) rfl (fun c41 => ?_) (fun c41 => ?_)
          · replace h1 := ip c41 h1
            refine seq_ ?_
            refine reg_ ?_
            refine st (mkS_ trivial trivial ?_)
            refine st (mv_ rfl trivial ?_)
            refine st (mvc_ trivial ?_)
            refine oe_ ?_
            refine wk_ ⟨[(4, .own 5056 0 1 (([] : List UInt8).map eU8)), (5, .bool false)], [], []⟩ (fgk (by kernel_rfl)) ?_
            obtain rfl := Option.some.inj h1
            obtain rfl := hx1 _ rfl
            obtain rfl := Option.some.inj h0
            exact rt_ (hR1 _ (ret_ rfl rfl rfl rfl rfl trivial))
          · replace h1 := inb c41 h1
            refine sk_ ?_
            refine bn_ ?_
            refine wk_ ⟨[(0, .lst 1 (a0.map eU8)), (1, .int .i64 a1), (6, .int .i64 v6), (7, .own 2944 0 1 ((([] : List UInt8) ++ s11).map eU8)), (8, .own 3648 0 1 (r14.map eU8)), (9, .int .i64 p24)], [], []⟩ (fgk (by kernel_rfl)) ?_
            refine reg_ ?_
            refine st (mv_ rfl trivial ?_)
            refine st (c_ (cp_ ⟨trivial, trivial, trivial⟩ rfl trivial) ?_)
            refine st (mv_ rfl trivial ?_)
            refine oe_ ?_
            obtain rfl := Option.some.inj h1
            exact hK1 _ rfl _ ⟨[(0, .lst 1 (a0.map eU8)), (1, .int .i64 a1), (6, .int .i64 v6), (7, .own 2944 0 1 ((([] : List UInt8) ++ s11).map eU8)), (8, .own 3648 0 1 (r14.map eU8)), (9, .int .i64 (IntKind.i64.wrap (p24 + 1)))], [], []⟩ (fgk (by kernel_rfl)) rfl
        · replace h1 := inb c34 h1
          obtain rfl := Option.some.inj h1
          obtain rfl := hx1 _ rfl
          refine exQ rfl ?_
          exact hE1 _ ⟨[(7, .own 2944 0 1 ((([] : List UInt8) ++ s11).map eU8))], [], []⟩ (fgk (by kernel_rfl)) ⟨rfl, rfl⟩

/- loop.example/g00149/spec.l02Scan -/
def c302_r0 : List Ins := [⟨some 2, .nilS 1, none⟩,
 ⟨some 3, .p (.mv (.c (.int .i64 0))), none⟩]
def c302_r1 : List Ins := [⟨some 8, .mkS 1 [(.lst 1 [])] 0 [], none⟩,
 ⟨some 4, .p (.mv (.t 8)), none⟩]
def c302_r2 : List Ins := [⟨some 5, .p (.mv (.c (.int .i64 0))), none⟩]
def c302_r3 : List Ins := [⟨some 10, .p (.mv (.t 0)), none⟩,
 ⟨some 11, .p (.mv (.t 5)), none⟩,
 ⟨some 12, .call 351 [(.t 10), (.t 11)], none⟩,
 ⟨some 9, .p (.mv (.t 12)), none⟩,
 ⟨some 13, .p (.ext (.t 9) 0), none⟩,
 ⟨some 14, .p (.ext (.t 9) 1), none⟩,
 ⟨some 6, .p (.mv (.t 13)), none⟩,
 ⟨some 7, .p (.mv (.t 14)), none⟩]
def c302_r4 : List Ins := [⟨some 15, .p (.mv (.t 7)), none⟩,
 ⟨some 16, .p (.un .not (.t 15)), none⟩]
def c302_r5 : List Ins := [⟨some 17, .p (.mv (.t 4)), none⟩,
 ⟨some 18, .p (.mv (.t 5)), none⟩,
 ⟨some 2, .p (.mv (.t 17)), none⟩,
 ⟨some 3, .p (.mv (.t 18)), none⟩]
def c302_r6 : List Ins := [⟨some 19, .p (.mv (.t 4)), none⟩,
 ⟨some 20, .p (.mv (.t 6)), none⟩,
 ⟨some 21, .mkS 1 [(.lst 1 [])] 1 [(0, (.t 20))], none⟩,
 ⟨some 22, .app 1 24 (.t 19) (.t 21), none⟩,
 ⟨some 4, .p (.mv (.t 22)), none⟩]
def c302_r7 : List Ins := [⟨some 23, .p (.mv (.t 5)), none⟩,
 ⟨some 24, .p (.mv (.t 6)), none⟩,
 ⟨some 25, .p (.len (.t 24)), none⟩,
 ⟨some 26, .p (.bin .add (.t 25) (.c (.int .i64 6))), none⟩,
 ⟨some 27, .p (.bin .add (.t 23) (.t 26)), none⟩,
 ⟨some 5, .p (.mv (.t 27)), none⟩]
def c302_l0 : IR := (.block 1 (.seq (.reg c302_r3) (.seq (.seq (.reg c302_r4) (.ite (.t 16) (.seq (.reg c302_r5) .ret) .skip)) (.seq (.reg c302_r6) (.reg c302_r7)))))
def c302 : XFn := { np := 1, nt := 28, res := [.t 2, .t 3], body := (.seq (.reg c302_r0) (.seq (.reg c302_r1) (.seq (.reg c302_r2) (.block 0 (.loop c302_l0))))) }
def K302 (C : CRel) : Prop := ∀ (a0 : List UInt8) (r : (List (List UInt8)) × Int), g302 a0 = some r → C 302 ⟨[.lst 1 (a0.map eU8)], []⟩ ⟨.tup [.own 0 0 1 (r.1.map (eL 1 eU8)), .int .i64 r.2], [], []⟩
theorem F302 {C : CRel} (H351 : K351 C) (a0 : List UInt8) (r : (List (List UInt8)) × Int) (h0 : g302 a0 = some r) : FnOK C c302 ⟨[.lst 1 (a0.map eU8)], []⟩ ⟨.tup [.own 0 0 1 (r.1.map (eL 1 eU8)), .int .i64 r.2], [], []⟩ := by
  refine fn_ (Nat.le_of_ble_eq_true rfl) ?_
  refine seq_ ?_
  refine reg_ ?_
  refine st (nilS_ ?_)
  refine st (mvc_ trivial ?_)
  refine oe_ ?_
  refine wk_ ⟨[(0, .lst 1 (a0.map eU8))], [], []⟩ (fgk (by kernel_rfl)) ?_
  refine seq_ ?_
  refine reg_ ?_
  refine st (mkS_ trivial trivial ?_)
  refine st (mv_ rfl trivial ?_)
  refine oe_ ?_
  refine wk_ ⟨[(0, .lst 1 (a0.map eU8)), (4, .own 512 0 1 (([] : List (List UInt8)).map (eL 1 eU8)))], [], []⟩ (fgk (by kernel_rfl)) ?_
  refine seq_ ?_
  refine reg_ ?_
  refine st (mvc_ trivial ?_)
  refine oe_ ?_
  refine wk_ ⟨[(0, .lst 1 (a0.map eU8)), (4, .own 512 0 1 (([] : List (List UInt8)).map (eL 1 eU8))), (5, .int .i64 0)], [], []⟩ (fgk (by kernel_rfl)) ?_
  refine block_ ?_
  obtain ⟨r17, e18, h0⟩ := bnd h0
  refine loop_ (R := (fun _ => False)) (g302_l0 a0) (fun s S => match s with | (p5, p6) => S = ⟨[(0, .lst 1 (a0.map eU8)), (4, .own 512 0 1 (p5.map (eL 1 eU8))), (5, .int .i64 p6)], [], []⟩) e18 ⟨[(0, .lst 1 (a0.map eU8)), (4, .own 512 0 1 (([] : List (List UInt8)).map (eL 1 eU8))), (5, .int .i64 0)], [], []⟩ (fgk (by kernel_rfl)) rfl 0 (fun h => h.elim fun _ h => h.elim) ?_ ?_
  · exact fun _ _ _ h => h.elim
  · rintro ⟨p5, p6⟩ o1 _ K1 rfl h1 hx1 hK1 hE1 hR1
    refine block_ ?_
    refine seq_ ?_
    refine reg_ ?_
    refine st (mv_ rfl trivial ?_)
    refine st (mv_ rfl trivial ?_)
    obtain ⟨r13, e14, h1⟩ := bnd h1
    refine st (call0_ (r := .tup [.own 0 0 1 (r13.1.map eU8), .bool r13.2]) false (H351 a0 p6 r13 e14) ⟨trivial, trivial, trivial⟩ rfl rfl (fun _ => (and_ (fl1 (fun _ => rfl)) (and_ rfl rfl))) ?_)
    refine st (mv_ rfl trivial ?_)
    refine st (c_ (cp_ ⟨trivial, trivial⟩ rfl trivial) ?_)
    refine st (c_ (cp_ ⟨trivial, trivial⟩ rfl trivial) ?_)
    refine st (mv_ rfl trivial ?_)
    refine st (mv_ rfl trivial ?_)
    refine oe_ ?_
    refine wk_ ⟨[(0, .lst 1 (a0.map eU8)), (4, .own 512 0 1 (p5.map (eL 1 eU8))), (5, .int .i64 p6), (6, .own 768 0 1 (r13.1.map eU8)), (7, .bool r13.2)], [], []⟩ (fgk (by kernel_rfl)) ?_
    refine seq_ ?_
    refine seq_ ?_
    refine reg_ ?_
    refine st (mv_ rfl trivial ?_)
    refine st (c_ (cp_ ⟨trivial, trivial⟩ rfl trivial) ?_)
    refine oe_ ?_
    refine wk_ ⟨[(0, .lst 1 (a0.map eU8)), (4, .own 512 0 1 (p5.map (eL 1 eU8))), (5, .int .i64 p6), (6, .own 768 0 1 (r13.1.map eU8)), (16, .bool (!r13.2))], [], []⟩ (fgk (by kernel_rfl)) ?_
    refine ite_ (cb := (!r13.2)) rfl (fun c15 => ?_) (fun c15 => ?_)
    · replace h1 := ip c15 h1
      refine seq_ ?_
      refine reg_ ?_
      refine st (mv_ rfl trivial ?_)
      refine st (mv_ rfl trivial ?_)
      refine st (mv_ rfl trivial ?_)
      refine st (mv_ rfl trivial ?_)
      refine oe_ ?_
      refine wk_ ⟨[(2, .own 512 0 1 (p5.map (eL 1 eU8))), (3, .int .i64 p6)], [], []⟩ (fgk (by kernel_rfl)) ?_
      obtain rfl := Option.some.inj h1
      obtain rfl := hx1 _ rfl
      obtain rfl := Option.some.inj h0
      exact rt_ (hR1 _ (ret_ rfl rfl rfl rfl rfl trivial))
    · replace h1 := inb c15 h1
      refine sk_ ?_
      refine wk_ ⟨[(0, .lst 1 (a0.map eU8)), (4, .own 512 0 1 (p5.map (eL 1 eU8))), (5, .int .i64 p6), (6, .own 768 0 1 (r13.1.map eU8))], [], []⟩ (fgk (by kernel_rfl)) ?_
      refine seq_ ?_
      refine reg_ ?_
      refine st (mv_ rfl trivial ?_)
      refine st (mv_ rfl trivial ?_)
      refine st (mkS_ ⟨trivial, trivial⟩ ⟨⟨Nat.le_of_ble_eq_true rfl, rfl, rfl⟩, trivial⟩ ?_)
      obtain ⟨c16, h1⟩ := grd h1
      refine st (app_ (e := (eL 1 eU8)) (l0 := p5) (l1 := ([r13.1] : List (List UInt8))) rfl rfl trivial rfl (by decide) c16 ?_)
      refine st (mv_ rfl trivial ?_)
      refine oe_ ?_
      refine wk_ ⟨[(0, .lst 1 (a0.map eU8)), (4, .own 512 0 1 ((p5 ++ ([r13.1] : List (List UInt8))).map (eL 1 eU8))), (5, .int .i64 p6), (6, .lst 1 (r13.1.map eU8))], [], []⟩ (fgk (by kernel_rfl)) ?_
      refine reg_ ?_
      refine st (mv_ rfl trivial ?_)
      refine st (mv_ rfl trivial ?_)
      refine st (c_ (clenL (e := eU8) (l0 := r13.1) rfl rfl trivial) ?_)
      refine st (c_ (cp_ ⟨trivial, trivial, trivial⟩ rfl trivial) ?_)
      refine st (c_ (cp_ ⟨trivial, trivial, trivial⟩ rfl trivial) ?_)
      refine st (mv_ rfl trivial ?_)
      refine oe_ ?_
      refine bn_ ?_
      obtain rfl := Option.some.inj h1
      exact hK1 _ rfl _ ⟨[(0, .lst 1 (a0.map eU8)), (4, .own 512 0 1 ((p5 ++ ([r13.1] : List (List UInt8))).map (eL 1 eU8))), (5, .int .i64 (IntKind.i64.wrap (p6 + (IntKind.i64.wrap ((r13.1.length : Int) + 6)))))], [], []⟩ (fgk (by kernel_rfl)) rfl

/- loop.example/g00149/spec.AppendLog -/
def c240_r0 : List Ins := [⟨some 2, .box (.t 0), none⟩,
 ⟨some 4, .alloc [(.own 257 0 1 []), (.own 258 0 2 [])], none⟩,
 ⟨some 5, .p (.mv (.c (.int .i64 0))), none⟩]
def c240_r1 : List Ins := [⟨some 9, .p (.mv (.t 1)), none⟩,
 ⟨some 10, .p (.len (.t 9)), none⟩,
 ⟨some 11, .p (.bin .gtr (.t 10) (.c (.int .i64 65536))), none⟩]
def c240_r2 : List Ins := [⟨some 12, .p (.build [(.own 769 0 1 []), (.own 770 0 2 [])] []), none⟩,
 ⟨none, .store (.t 4) (.t 12) 2, none⟩,
 ⟨some 5, .p (.mv (.c (.int .i64 2))), none⟩]
def c240_r3 : List Ins := [⟨some 13, .p (.load (.t 2) 2 true), none⟩,
 ⟨some 14, .call 290 [(.t 13)], none⟩,
 ⟨some 15, .p (.un .not (.t 14)), none⟩]
def c240_r4 : List Ins := [⟨some 16, .p (.build [(.own 1025 0 1 []), (.own 1026 0 2 [])] []), none⟩,
 ⟨none, .store (.t 4) (.t 16) 2, none⟩,
 ⟨some 5, .p (.mv (.c (.int .i64 1))), none⟩]
def c240_r5 : List Ins := [⟨some 17, .p (.mv (.t 1)), none⟩,
 ⟨some 18, .p (.len (.t 17)), none⟩,
 ⟨some 19, .p (.bin .gtr (.t 18) (.c (.int .i64 2000))), none⟩]
def c240_r6 : List Ins := [⟨some 20, .p (.build [(.own 1281 0 1 []), (.own 1282 0 2 [])] []), none⟩,
 ⟨none, .store (.t 4) (.t 20) 2, none⟩,
 ⟨some 5, .p (.mv (.c (.int .i64 4))), none⟩]
def c240_r7 : List Ins := [⟨some 22, .p (.load (.t 2) 2 true), none⟩,
 ⟨some 23, .call 303 [(.t 22)], none⟩,
 ⟨some 24, .call 302 [(.t 23)], none⟩,
 ⟨some 21, .p (.mv (.t 24)), none⟩,
 ⟨some 25, .p (.ext (.t 21) 0), none⟩,
 ⟨some 26, .p (.ext (.t 21) 1), none⟩,
 ⟨some 6, .p (.mv (.t 25)), none⟩,
 ⟨some 7, .p (.mv (.t 26)), none⟩]
def c240_r8 : List Ins := [⟨some 27, .p (.mv (.t 1)), none⟩,
 ⟨some 28, .call 304 [(.t 27)], none⟩,
 ⟨some 8, .p (.mv (.t 28)), none⟩]
def c240_r9 : List Ins := [⟨some 29, .p (.mv (.t 7)), none⟩,
 ⟨some 30, .p (.mv (.t 8)), none⟩,
 ⟨some 31, .p (.len (.t 30)), none⟩,
 ⟨some 32, .call 291 [(.t 29), (.t 31)], none⟩,
 ⟨some 33, .p (.un .not (.t 32)), none⟩]
def c240_r10 : List Ins := [⟨some 34, .p (.build [(.own 2177 0 1 []), (.own 2178 0 2 [])] []), none⟩,
 ⟨none, .store (.t 4) (.t 34) 2, none⟩,
 ⟨some 5, .p (.mv (.c (.int .i64 9))), none⟩]
def c240_r11 : List Ins := [⟨some 35, .p (.load (.t 2) 2 true), none⟩,
 ⟨some 36, .p (.mv (.t 7)), none⟩,
 ⟨some 37, .p (.mv (.t 8)), none⟩,
 ⟨some 38, .call 292 [(.t 35), (.t 36), (.t 37)], none⟩,
 ⟨some 39, .call 303 [(.t 38)], none⟩,
 ⟨some 40, .p (.build [(.own 2561 0 1 []), (.own 2562 0 2 [])] [(0, 1, (.t 39))]), none⟩,
 ⟨none, .store (.t 4) (.t 40) 2, none⟩,
 ⟨some 5, .p (.mv (.c (.int .i64 0))), none⟩]
def c240 : XFn := { np := 2, nt := 41, res := [.cell 4 2 true, .t 5], body := (.seq (.reg c240_r0) (.seq (.seq (.reg c240_r1) (.ite (.t 11) (.seq (.reg c240_r2) .ret) .skip)) (.seq (.seq (.reg c240_r3) (.ite (.t 15) (.seq (.reg c240_r4) .ret) .skip)) (.seq (.seq (.reg c240_r5) (.ite (.t 19) (.seq (.reg c240_r6) .ret) .skip)) (.seq (.reg c240_r7) (.seq (.reg c240_r8) (.seq (.seq (.reg c240_r9) (.ite (.t 33) (.seq (.reg c240_r10) .ret) .skip)) (.seq (.reg c240_r11) .ret)))))))) }
def K240 (C : CRel) : Prop := ∀ (a0 : DDevice) (a1 : List UInt8) (r : DDevice × Int), g240 a0 a1 = some r → C 240 ⟨[.agg [.lst 1 (a0.held.map eU8), .lst 2 (a0.waiting.map eDSector)], .lst 1 (a1.map eU8)], []⟩ ⟨.tup [.agg [.own 0 0 1 (r.1.held.map eU8), .own 1 0 2 (r.1.waiting.map eDSector)], .int .i64 r.2], [], []⟩
theorem F240 {C : CRel} (H290 : K290 C) (H291 : K291 C) (H292 : K292 C) (H302 : K302 C) (H303 : K303 C) (H304 : K304 C) (a0 : DDevice) (a1 : List UInt8) (r : DDevice × Int) (h0 : g240 a0 a1 = some r) : FnOK C c240 ⟨[.agg [.lst 1 (a0.held.map eU8), .lst 2 (a0.waiting.map eDSector)], .lst 1 (a1.map eU8)], []⟩ ⟨.tup [.agg [.own 0 0 1 (r.1.held.map eU8), .own 1 0 2 (r.1.waiting.map eDSector)], .int .i64 r.2], [], []⟩ := by
  refine fn_ (Nat.le_of_ble_eq_true rfl) ?_
  refine seq_ ?_
  refine reg_ ?_
  refine st (box_ rfl trivial rfl ?_)
  refine st (alloc_ ?_)
  refine st (mvc_ trivial ?_)
  refine oe_ ?_
  refine wk_ ⟨[(1, .lst 1 (a1.map eU8)), (2, .ptr 128 0), (4, .ptr 256 0)], [(128, [.lst 1 (a0.held.map eU8), .lst 2 (a0.waiting.map eDSector)]), (256, [.own 257 0 1 (([] : List UInt8).map eU8), .own 258 0 2 (([] : List DSector).map eDSector)])], []⟩ (fgk (by kernel_rfl)) ?_
  refine seq_ ?_
  refine seq_ ?_
  refine reg_ ?_
  refine st (mv_ rfl trivial ?_)
  refine st (c_ (clenL (e := eU8) (l0 := a1) rfl rfl trivial) ?_)
  refine st (c_ (cp_ ⟨trivial, trivial, trivial⟩ rfl trivial) ?_)
  refine oe_ ?_
  refine wk_ ⟨[(1, .lst 1 (a1.map eU8)), (2, .ptr 128 0), (4, .ptr 256 0), (11, .bool (decide ((a1.length : Int) > 65536)))], [(128, [.lst 1 (a0.held.map eU8), .lst 2 (a0.waiting.map eDSector)]), (256, [.own 257 0 1 (([] : List UInt8).map eU8), .own 258 0 2 (([] : List DSector).map eDSector)])], []⟩ (fgk (by kernel_rfl)) ?_
  refine ite_ (cb := (decide ((a1.length : Int) > 65536))) rfl (fun c1 => ?_) (fun c1 => ?_)
  · replace h0 := ip c1 h0
    refine seq_ ?_
    refine reg_ ?_
    refine st (c_ (v := .agg [.own 769 0 1 (([] : List UInt8).map eU8), .own 770 0 2 (([] : List DSector).map eDSector)]) (cp_ trivial rfl trivial) ?_)
    refine st (stp_ rfl rfl trivial rfl rfl rfl (Nat.le_of_ble_eq_true rfl) ?_)
    refine st (mvc_ trivial ?_)
    refine oe_ ?_
    refine wk_ ⟨[(4, .ptr 256 0), (5, .int .i64 2)], [(256, [.own 769 0 1 (([] : List UInt8).map eU8), .own 770 0 2 (([] : List DSector).map eDSector)])], []⟩ (fgk (by kernel_rfl)) ?_
    obtain rfl := Option.some.inj h0
    exact rt_ (ret_ rfl rfl rfl rfl rfl trivial)
  · replace h0 := inb c1 h0
    refine sk_ ?_
    refine wk_ ⟨[(1, .lst 1 (a1.map eU8)), (2, .ptr 128 0), (4, .ptr 256 0)], [(128, [.lst 1 (a0.held.map eU8), .lst 2 (a0.waiting.map eDSector)]), (256, [.own 257 0 1 (([] : List UInt8).map eU8), .own 258 0 2 (([] : List DSector).map eDSector)])], []⟩ (fgk (by kernel_rfl)) ?_
    refine seq_ ?_
    refine seq_ ?_
    refine reg_ ?_
    refine st (c_ (v := .agg [.lst 1 (a0.held.map eU8), .lst 2 (a0.waiting.map eDSector)]) (cp_ ⟨trivial, trivial⟩ rfl (Nat.le_of_ble_eq_true rfl)) ?_)
    obtain ⟨r2, e3, h0⟩ := bnd h0
    refine st (call0_ (r := .bool r2) false (H290 a0 r2 e3) ⟨trivial, trivial⟩ rfl rfl (fun _ => rfl) ?_)
    refine st (c_ (cp_ ⟨trivial, trivial⟩ rfl trivial) ?_)
    refine oe_ ?_
    refine wk_ ⟨[(1, .lst 1 (a1.map eU8)), (2, .ptr 128 0), (4, .ptr 256 0), (15, .bool (!r2))], [(128, [.lst 1 (a0.held.map eU8), .lst 2 (a0.waiting.map eDSector)]), (256, [.own 257 0 1 (([] : List UInt8).map eU8), .own 258 0 2 (([] : List DSector).map eDSector)])], []⟩ (fgk (by kernel_rfl)) ?_
    refine ite_ (cb := (!r2)) rfl (fun c4 => ?_) (fun c4 => ?_)
    · replace h0 := ip c4 h0
      refine seq_ ?_
      refine reg_ ?_
      refine st (c_ (v := .agg [.own 1025 0 1 (([] : List UInt8).map eU8), .own 1026 0 2 (([] : List DSector).map eDSector)]) (cp_ trivial rfl trivial) ?_)
      refine st (stp_ rfl rfl trivial rfl rfl rfl (Nat.le_of_ble_eq_true rfl) ?_)
      refine st (mvc_ trivial ?_)
      refine oe_ ?_
      refine wk_ ⟨[(4, .ptr 256 0), (5, .int .i64 1)], [(256, [.own 1025 0 1 (([] : List UInt8).map eU8), .own 1026 0 2 (([] : List DSector).map eDSector)])], []⟩ (fgk (by kernel_rfl)) ?_
      obtain rfl := Option.some.inj h0
      exact rt_ (ret_ rfl rfl rfl rfl rfl trivial)
    · replace h0 := inb c4 h0
      refine sk_ ?_
      refine wk_ ⟨[(1, .lst 1 (a1.map eU8)), (2, .ptr 128 0), (4, .ptr 256 0)], [(128, [.lst 1 (a0.held.map eU8), .lst 2 (a0.waiting.map eDSector)]), (256, [.own 257 0 1 (([] : List UInt8).map eU8), .own 258 0 2 (([] : List DSector).map eDSector)])], []⟩ (fgk (by kernel_rfl)) ?_
      refine seq_ ?_
      refine seq_ ?_
      refine reg_ ?_
      refine st (mv_ rfl trivial ?_)
      refine st (c_ (clenL (e := eU8) (l0 := a1) rfl rfl trivial) ?_)
      refine st (c_ (cp_ ⟨trivial, trivial, trivial⟩ rfl trivial) ?_)
      refine oe_ ?_
      refine wk_ ⟨[(1, .lst 1 (a1.map eU8)), (2, .ptr 128 0), (4, .ptr 256 0), (19, .bool (decide ((a1.length : Int) > 2000)))], [(128, [.lst 1 (a0.held.map eU8), .lst 2 (a0.waiting.map eDSector)]), (256, [.own 257 0 1 (([] : List UInt8).map eU8), .own 258 0 2 (([] : List DSector).map eDSector)])], []⟩ (fgk (by kernel_rfl)) ?_
      refine ite_ (cb := (decide ((a1.length : Int) > 2000))) rfl (fun c5 => ?_) (fun c5 => ?_)
      · replace h0 := ip c5 h0
        refine seq_ ?_
        refine reg_ ?_
        refine st (c_ (v := .agg [.own 1281 0 1 (([] : List UInt8).map eU8), .own 1282 0 2 (([] : List DSector).map eDSector)]) (cp_ trivial rfl trivial) ?_)
        refine st (stp_ rfl rfl trivial rfl rfl rfl (Nat.le_of_ble_eq_true rfl) ?_)
        refine st (mvc_ trivial ?_)
        refine oe_ ?_
        refine wk_ ⟨[(4, .ptr 256 0), (5, .int .i64 4)], [(256, [.own 1281 0 1 (([] : List UInt8).map eU8), .own 1282 0 2 (([] : List DSector).map eDSector)])], []⟩ (fgk (by kernel_rfl)) ?_
        obtain rfl := Option.some.inj h0
        exact rt_ (ret_ rfl rfl rfl rfl rfl trivial)
      · replace h0 := inb c5 h0
        refine sk_ ?_
        refine wk_ ⟨[(1, .lst 1 (a1.map eU8)), (2, .ptr 128 0), (4, .ptr 256 0)], [(128, [.lst 1 (a0.held.map eU8), .lst 2 (a0.waiting.map eDSector)]), (256, [.own 257 0 1 (([] : List UInt8).map eU8), .own 258 0 2 (([] : List DSector).map eDSector)])], []⟩ (fgk (by kernel_rfl)) ?_
        refine seq_ ?_
        refine reg_ ?_
        refine st (c_ (v := .agg [.lst 1 (a0.held.map eU8), .lst 2 (a0.waiting.map eDSector)]) (cp_ ⟨trivial, trivial⟩ rfl (Nat.le_of_ble_eq_true rfl)) ?_)
        obtain ⟨r6, e7, h0⟩ := bnd h0
        refine st (call0_ (r := .own 0 0 1 (r6.map eU8)) false (H303 a0 r6 e7) ⟨trivial, trivial⟩ rfl rfl (fun _ => (and_ (fl1 (fun _ => rfl)) rfl)) ?_)
        obtain ⟨r8, e9, h0⟩ := bnd h0
        refine st (call0_ (r := .tup [.own 0 0 1 (r8.1.map (eL 1 eU8)), .int .i64 r8.2]) true (H302 r6 r8 e9) ⟨trivial, trivial⟩ rfl rfl (fun h => nomatch h) ?_)
        refine sw ⟨[(1, .lst 1 (a1.map eU8)), (2, .ptr 128 0), (4, .ptr 256 0), (24, .tup [.own 1536 0 1 (r8.1.map (eL 1 eU8)), .int .i64 r8.2])], [(128, [.lst 1 (a0.held.map eU8), .lst 2 (a0.waiting.map eDSector)]), (256, [.own 257 0 1 (([] : List UInt8).map eU8), .own 258 0 2 (([] : List DSector).map eDSector)])], []⟩ (fgk (by kernel_rfl)) (mv_ rfl trivial ?_)
        refine st (c_ (cp_ ⟨trivial, trivial⟩ rfl trivial) ?_)
        refine st (c_ (cp_ ⟨trivial, trivial⟩ rfl trivial) ?_)
        refine st (mv_ rfl trivial ?_)
        refine st (mv_ rfl trivial ?_)
        refine oe_ ?_
        refine wk_ ⟨[(1, .lst 1 (a1.map eU8)), (2, .ptr 128 0), (4, .ptr 256 0), (7, .int .i64 r8.2)], [(128, [.lst 1 (a0.held.map eU8), .lst 2 (a0.waiting.map eDSector)]), (256, [.own 257 0 1 (([] : List UInt8).map eU8), .own 258 0 2 (([] : List DSector).map eDSector)])], []⟩ (fgk (by kernel_rfl)) ?_
        refine seq_ ?_
        refine reg_ ?_
        refine st (mv_ rfl trivial ?_)
        obtain ⟨r10, e11, h0⟩ := bnd h0
        refine st (call0_ (r := .own 0 0 1 (r10.map eU8)) false (H304 a1 r10 e11) ⟨trivial, trivial⟩ rfl rfl (fun _ => (and_ (fl1 (fun _ => rfl)) rfl)) ?_)
        refine st (mv_ rfl trivial ?_)
        refine oe_ ?_
        refine wk_ ⟨[(2, .ptr 128 0), (4, .ptr 256 0), (7, .int .i64 r8.2), (8, .own 1792 0 1 (r10.map eU8))], [(128, [.lst 1 (a0.held.map eU8), .lst 2 (a0.waiting.map eDSector)]), (256, [.own 257 0 1 (([] : List UInt8).map eU8), .own 258 0 2 (([] : List DSector).map eDSector)])], []⟩ (fgk (by kernel_rfl)) ?_
        refine seq_ ?_
        refine seq_ ?_
        refine reg_ ?_
        refine st (mv_ rfl trivial ?_)
        refine st (mv_ rfl trivial ?_)
        refine st (c_ (clenO (e := eU8) (l0 := r10) rfl rfl trivial) ?_)
        obtain ⟨r12, e13, h0⟩ := bnd h0
        refine st (call0_ (r := .bool r12) false (H291 r8.2 (r10.length : Int) r12 e13) ⟨trivial, trivial, trivial⟩ rfl rfl (fun _ => rfl) ?_)
        refine st (c_ (cp_ ⟨trivial, trivial⟩ rfl trivial) ?_)
        refine oe_ ?_
        refine wk_ ⟨[(2, .ptr 128 0), (4, .ptr 256 0), (7, .int .i64 r8.2), (8, .own 1792 0 1 (r10.map eU8)), (33, .bool (!r12))], [(128, [.lst 1 (a0.held.map eU8), .lst 2 (a0.waiting.map eDSector)]), (256, [.own 257 0 1 (([] : List UInt8).map eU8), .own 258 0 2 (([] : List DSector).map eDSector)])], []⟩ (fgk (by kernel_rfl)) ?_
        refine ite_ (cb := (!r12)) rfl (fun c14 => ?_) (fun c14 => ?_)
        · replace h0 := ip c14 h0
          refine seq_ ?_
          refine reg_ ?_
          refine st (c_ (v := .agg [.own 2177 0 1 (([] : List UInt8).map eU8), .own 2178 0 2 (([] : List DSector).map eDSector)]) (cp_ trivial rfl trivial) ?_)
          refine st (stp_ rfl rfl trivial rfl rfl rfl (Nat.le_of_ble_eq_true rfl) ?_)
          refine st (mvc_ trivial ?_)
          refine oe_ ?_
          refine wk_ ⟨[(4, .ptr 256 0), (5, .int .i64 9)], [(256, [.own 2177 0 1 (([] : List UInt8).map eU8), .own 2178 0 2 (([] : List DSector).map eDSector)])], []⟩ (fgk (by kernel_rfl)) ?_
          obtain rfl := Option.some.inj h0
          exact rt_ (ret_ rfl rfl rfl rfl rfl trivial)
        · replace h0 := inb c14 h0
          refine sk_ ?_
          refine wk_ ⟨[(2, .ptr 128 0), (4, .ptr 256 0), (7, .int .i64 r8.2), (8, .own 1792 0 1 (r10.map eU8))], [(128, [.lst 1 (a0.held.map eU8), .lst 2 (a0.waiting.map eDSector)]), (256, [.own 257 0 1 (([] : List UInt8).map eU8), .own 258 0 2 (([] : List DSector).map eDSector)])], []⟩ (fgk (by kernel_rfl)) ?_
          refine seq_ ?_
          refine reg_ ?_
          refine st (c_ (v := .agg [.lst 1 (a0.held.map eU8), .lst 2 (a0.waiting.map eDSector)]) (cp_ ⟨trivial, trivial⟩ rfl (Nat.le_of_ble_eq_true rfl)) ?_)
          refine st (mv_ rfl trivial ?_)
          refine st (mv_ rfl trivial ?_)
          obtain ⟨r15, e16, h0⟩ := bnd h0
          refine st (call0_ (r := .agg [.lst 1 (r15.held.map eU8), .own 0 0 2 (r15.waiting.map eDSector)]) true (H292 a0 r8.2 r10 r15 e16) ⟨trivial, trivial, trivial, trivial⟩ rfl rfl (fun h => nomatch h) ?_)
          obtain ⟨r17, e18, h0⟩ := bnd h0
          refine sw ⟨[(4, .ptr 256 0), (38, .agg [.lst 1 (r15.held.map eU8), .own 2432 0 2 (r15.waiting.map eDSector)])], [(256, [.own 257 0 1 (([] : List UInt8).map eU8), .own 258 0 2 (([] : List DSector).map eDSector)])], []⟩ (fgk (by kernel_rfl)) (call0_ (r := .own 0 0 1 (r17.map eU8)) false (H303 r15 r17 e18) ⟨trivial, trivial⟩ rfl rfl (fun _ => (and_ (fl1 (fun _ => rfl)) rfl)) ?_)
          refine st (c_ (v := .agg [.own 2496 0 1 (r17.map eU8), .own 2562 0 2 (([] : List DSector).map eDSector)]) (cp_ ⟨trivial, trivial⟩ rfl ⟨⟨rfl, rfl, Nat.le_of_ble_eq_true rfl⟩, trivial⟩) ?_)
          refine st (stp_ rfl rfl trivial rfl rfl rfl (Nat.le_of_ble_eq_true rfl) ?_)
          refine st (mvc_ trivial ?_)
          refine oe_ ?_
          refine wk_ ⟨[(4, .ptr 256 0), (5, .int .i64 0)], [(256, [.own 2496 0 1 (r17.map eU8), .own 2562 0 2 (([] : List DSector).map eDSector)])], []⟩ (fgk (by kernel_rfl)) ?_
          obtain rfl := Option.some.inj h0
          exact rt_ (ret_ rfl rfl rfl rfl rfl trivial)

/- loop.example/g00149/spec.FrameOf -/
def c241_r0 : List Ins := [⟨some 2, .nilS 1, none⟩,
 ⟨some 3, .p (.mv (.c (.int .i64 0))), none⟩]
def c241_r1 : List Ins := [⟨some 4, .p (.mv (.t 0)), none⟩,
 ⟨some 5, .p (.len (.t 4)), none⟩,
 ⟨some 6, .p (.bin .gtr (.t 5) (.c (.int .i64 65536))), none⟩]
def c241_r2 : List Ins := [⟨some 7, .mkS 1 [(.int .u8 0)] 0 [], none⟩,
 ⟨some 2, .p (.mv (.t 7)), none⟩,
 ⟨some 3, .p (.mv (.c (.int .i64 2))), none⟩]
def c241_r3 : List Ins := [⟨some 8, .p (.mv (.t 0)), none⟩,
 ⟨some 9, .p (.len (.t 8)), none⟩,
 ⟨some 10, .p (.bin .gtr (.t 9) (.c (.int .i64 2000))), none⟩]
def c241_r4 : List Ins := [⟨some 11, .mkS 1 [(.int .u8 0)] 0 [], none⟩,
 ⟨some 2, .p (.mv (.t 11)), none⟩,
 ⟨some 3, .p (.mv (.c (.int .i64 4))), none⟩]
def c241_r5 : List Ins := [⟨some 12, .p (.mv (.t 0)), none⟩,
 ⟨some 13, .call 304 [(.t 12)], none⟩,
 ⟨some 2, .p (.mv (.t 13)), none⟩,
 ⟨some 3, .p (.mv (.c (.int .i64 0))), none⟩]
def c241 : XFn := { np := 1, nt := 14, res := [.t 2, .t 3], body := (.seq (.reg c241_r0) (.seq (.seq (.reg c241_r1) (.ite (.t 6) (.seq (.reg c241_r2) .ret) .skip)) (.seq (.seq (.reg c241_r3) (.ite (.t 10) (.seq (.reg c241_r4) .ret) .skip)) (.seq (.reg c241_r5) .ret)))) }
def K241 (C : CRel) : Prop := ∀ (a0 : List UInt8) (r : (List UInt8) × Int), g241 a0 = some r → C 241 ⟨[.lst 1 (a0.map eU8)], []⟩ ⟨.tup [.own 0 0 1 (r.1.map eU8), .int .i64 r.2], [], []⟩
theorem F241 {C : CRel} (H304 : K304 C) (a0 : List UInt8) (r : (List UInt8) × Int) (h0 : g241 a0 = some r) : FnOK C c241 ⟨[.lst 1 (a0.map eU8)], []⟩ ⟨.tup [.own 0 0 1 (r.1.map eU8), .int .i64 r.2], [], []⟩ := by
  refine fn_ (Nat.le_of_ble_eq_true rfl) ?_
  refine seq_ ?_
  refine reg_ ?_
  refine st (nilS_ ?_)
  refine st (mvc_ trivial ?_)
  refine oe_ ?_
  refine wk_ ⟨[(0, .lst 1 (a0.map eU8))], [], []⟩ (fgk (by kernel_rfl)) ?_
  refine seq_ ?_
  refine seq_ ?_
  refine reg_ ?_
  refine st (mv_ rfl trivial ?_)
  refine st (c_ (clenL (e := eU8) (l0 := a0) rfl rfl trivial) ?_)
  refine st (c_ (cp_ ⟨trivial, trivial, trivial⟩ rfl trivial) ?_)
  refine oe_ ?_
  refine wk_ ⟨[(0, .lst 1 (a0.map eU8)), (6, .bool (decide ((a0.length : Int) > 65536)))], [], []⟩ (fgk (by kernel_rfl)) ?_
  refine ite_ (cb := (decide ((a0.length : Int) > 65536))) rfl (fun c1 => ?_) (fun c1 => ?_)
  · replace h0 := ip c1 h0
    refine seq_ ?_
    refine reg_ ?_
    refine st (mkS_ trivial trivial ?_)
    refine st (mv_ rfl trivial ?_)
    refine st (mvc_ trivial ?_)
    refine oe_ ?_
    refine wk_ ⟨[(2, .own 448 0 1 (([] : List UInt8).map eU8)), (3, .int .i64 2)], [], []⟩ (fgk (by kernel_rfl)) ?_
    obtain rfl := Option.some.inj h0
    exact rt_ (ret_ rfl rfl rfl rfl rfl trivial)
  · replace h0 := inb c1 h0
    refine sk_ ?_
    refine wk_ ⟨[(0, .lst 1 (a0.map eU8))], [], []⟩ (fgk (by kernel_rfl)) ?_
    refine seq_ ?_
    refine seq_ ?_
    refine reg_ ?_
    refine st (mv_ rfl trivial ?_)
    refine st (c_ (clenL (e := eU8) (l0 := a0) rfl rfl trivial) ?_)
    refine st (c_ (cp_ ⟨trivial, trivial, trivial⟩ rfl trivial) ?_)
    refine oe_ ?_
    refine wk_ ⟨[(0, .lst 1 (a0.map eU8)), (10, .bool (decide ((a0.length : Int) > 2000)))], [], []⟩ (fgk (by kernel_rfl)) ?_
    refine ite_ (cb := (decide ((a0.length : Int) > 2000))) rfl (fun c2 => ?_) (fun c2 => ?_)
    · replace h0 := ip c2 h0
      refine seq_ ?_
      refine reg_ ?_
      refine st (mkS_ trivial trivial ?_)
      refine st (mv_ rfl trivial ?_)
      refine st (mvc_ trivial ?_)
      refine oe_ ?_
      refine wk_ ⟨[(2, .own 704 0 1 (([] : List UInt8).map eU8)), (3, .int .i64 4)], [], []⟩ (fgk (by kernel_rfl)) ?_
      obtain rfl := Option.some.inj h0
      exact rt_ (ret_ rfl rfl rfl rfl rfl trivial)
    · replace h0 := inb c2 h0
      refine sk_ ?_
      refine wk_ ⟨[(0, .lst 1 (a0.map eU8))], [], []⟩ (fgk (by kernel_rfl)) ?_
      refine seq_ ?_
      refine reg_ ?_
      refine st (mv_ rfl trivial ?_)
      obtain ⟨r3, e4, h0⟩ := bnd h0
      refine st (call0_ (r := .own 0 0 1 (r3.map eU8)) false (H304 a0 r3 e4) ⟨trivial, trivial⟩ rfl rfl (fun _ => (and_ (fl1 (fun _ => rfl)) rfl)) ?_)
      refine st (mv_ rfl trivial ?_)
      refine st (mvc_ trivial ?_)
      refine oe_ ?_
      refine wk_ ⟨[(2, .own 832 0 1 (r3.map eU8)), (3, .int .i64 0)], [], []⟩ (fgk (by kernel_rfl)) ?_
      obtain rfl := Option.some.inj h0
      exact rt_ (ret_ rfl rfl rfl rfl rfl trivial)

/- (loop.example/g00149/impl.Device).crash -/
def c268_r0 : List Ins := [⟨some 2, .box (.t 0), none⟩,
 ⟨some 4, .alloc [(.own 257 0 1 []), (.own 258 0 2 [])], none⟩]
def c268_r1 : List Ins := [⟨some 8, .p (.fieldA (.t 2) 0), none⟩,
 ⟨some 9, .p (.load (.t 8) 1 false), none⟩,
 ⟨some 10, .call 325 [(.t 9)], none⟩,
 ⟨some 5, .p (.mv (.t 10)), none⟩]
def c268_r2 : List Ins := [⟨some 11, .p (.fieldA (.t 2) 1), none⟩,
 ⟨some 12, .p (.load (.t 11) 1 false), none⟩,
 ⟨some 13, .p (.len (.t 12)), none⟩,
 ⟨some 14, .p (.mv (.c (.int .i64 0))), none⟩]
def c268_r3 : List Ins := [⟨some 15, .p (.bin .lss (.t 14) (.t 13)), none⟩]
def c268_r4 : List Ins := [⟨some 16, .p (.mv (.t 14)), none⟩,
 ⟨some 17, .p (.idxA (.t 12) (.t 14) 2), none⟩,
 ⟨some 18, .p (.load (.t 17) 2 true), none⟩,
 ⟨some 7, .alloc [(.int .i64 0), (.own 450 0 1 [])], none⟩,
 ⟨some 6, .p (.mv (.t 16)), none⟩,
 ⟨none, .store (.t 7) (.t 18) 2, none⟩]
def c268_r5 : List Ins := [⟨some 19, .p (.mv (.t 6)), none⟩,
 ⟨some 20, .p (.mv (.t 1)), none⟩,
 ⟨some 21, .p (.len (.t 20)), none⟩,
 ⟨some 22, .p (.bin .lss (.t 19) (.t 21)), none⟩,
 ⟨some 23, .p (.mv (.t 22)), none⟩,
 ⟨some 24, .p (.mv (.t 1)), some (23, true)⟩,
 ⟨some 25, .p (.mv (.t 6)), some (23, true)⟩,
 ⟨some 26, .p (.idxA (.t 24) (.t 25) 1), some (23, true)⟩,
 ⟨some 27, .p (.load (.t 26) 1 false), some (23, true)⟩,
 ⟨some 28, .pick (.t 23) (.t 27) (.c (.bool false)), none⟩]
def c268_r6 : List Ins := [⟨some 29, .p (.mv (.t 5)), none⟩,
 ⟨some 30, .p (.load (.t 7) 2 true), none⟩,
 ⟨some 31, .call 326 [(.t 29), (.t 30)], none⟩,
 ⟨some 5, .p (.mv (.t 31)), none⟩]
def c268_r7 : List Ins := [⟨some 32, .p (.bin .add (.t 14) (.c (.int .i64 1))), none⟩,
 ⟨some 14, .p (.mv (.t 32)), none⟩]
def c268_l0 : IR := (.seq (.reg c268_r3) (.seq (.ite (.t 15) .skip (.exit 0)) (.seq (.block 1 (.seq (.reg c268_r4) (.seq (.reg c268_r5) (.ite (.t 28) (.reg c268_r6) .skip)))) (.reg c268_r7))))
def c268_r8 : List Ins := [⟨some 33, .p (.mv (.t 5)), none⟩,
 ⟨some 34, .p (.build [(.own 2177 0 1 []), (.own 2178 0 2 [])] [(0, 1, (.t 33))]), none⟩,
 ⟨none, .store (.t 4) (.t 34) 2, none⟩]
def c268 : XFn := { np := 2, nt := 35, res := [.cell 4 2 true], body := (.seq (.reg c268_r0) (.seq (.reg c268_r1) (.seq (.seq (.reg c268_r2) (.block 0 (.loop c268_l0))) (.seq (.reg c268_r8) .ret)))) }
def K268 (C : CRel) : Prop := ∀ (a0 : DDevice) (a1 : List Bool) (r : DDevice), g268 a0 a1 = some r → C 268 ⟨[.agg [.lst 1 (a0.held.map eU8), .lst 2 (a0.waiting.map eDSector)], .lst 1 (a1.map eB)], []⟩ ⟨.agg [.own 0 0 1 (r.held.map eU8), .own 1 0 2 (r.waiting.map eDSector)], [], []⟩
theorem F268 {C : CRel} (H325 : K325 C) (H326 : K326 C) (a0 : DDevice) (a1 : List Bool) (r : DDevice) (h0 : g268 a0 a1 = some r) : FnOK C c268 ⟨[.agg [.lst 1 (a0.held.map eU8), .lst 2 (a0.waiting.map eDSector)], .lst 1 (a1.map eB)], []⟩ ⟨.agg [.own 0 0 1 (r.held.map eU8), .own 1 0 2 (r.waiting.map eDSector)], [], []⟩ := by
  refine fn_ (Nat.le_of_ble_eq_true rfl) ?_
  refine seq_ ?_
  refine reg_ ?_
  refine st (box_ rfl trivial rfl ?_)
  refine st (alloc_ ?_)
  refine oe_ ?_
  refine wk_ ⟨[(1, .lst 1 (a1.map eB)), (2, .ptr 128 0), (4, .ptr 256 0)], [(128, [.lst 1 (a0.held.map eU8), .lst 2 (a0.waiting.map eDSector)]), (256, [.own 257 0 1 (([] : List UInt8).map eU8), .own 258 0 2 (([] : List DSector).map eDSector)])], []⟩ (fgk (by kernel_rfl)) ?_
  refine seq_ ?_
  refine reg_ ?_
  refine st (c_ (cp_ ⟨trivial, trivial⟩ rfl trivial) ?_)
  refine st (c_ (cp_ ⟨trivial, trivial⟩ rfl (Nat.le_of_ble_eq_true rfl)) ?_)
  obtain ⟨r1, e2, h0⟩ := bnd h0
  refine st (call0_ (r := .own 0 0 1 (r1.map eU8)) false (H325 a0.held r1 e2) ⟨trivial, trivial⟩ rfl rfl (fun _ => (and_ (fl1 (fun _ => rfl)) rfl)) ?_)
  refine st (mv_ rfl trivial ?_)
  refine oe_ ?_
  refine wk_ ⟨[(1, .lst 1 (a1.map eB)), (2, .ptr 128 0), (4, .ptr 256 0), (5, .own 640 0 1 (r1.map eU8))], [(128, [.lst 1 (a0.held.map eU8), .lst 2 (a0.waiting.map eDSector)]), (256, [.own 257 0 1 (([] : List UInt8).map eU8), .own 258 0 2 (([] : List DSector).map eDSector)])], []⟩ (fgk (by kernel_rfl)) ?_
  refine seq_ ?_
  refine seq_ ?_
  refine reg_ ?_
  refine st (c_ (cp_ ⟨trivial, trivial⟩ rfl trivial) ?_)
  refine st (c_ (cp_ ⟨trivial, trivial⟩ rfl (Nat.le_of_ble_eq_true rfl)) ?_)
  refine st (c_ (clenL (e := eDSector) (l0 := a0.waiting) rfl rfl trivial) ?_)
  refine st (mvc_ trivial ?_)
  refine oe_ ?_
  refine wk_ ⟨[(1, .lst 1 (a1.map eB)), (4, .ptr 256 0), (5, .own 640 0 1 (r1.map eU8)), (12, .lst 2 (a0.waiting.map eDSector)), (13, .int .i64 (a0.waiting.length : Int)), (14, .int .i64 0)], [(256, [.own 257 0 1 (([] : List UInt8).map eU8), .own 258 0 2 (([] : List DSector).map eDSector)])], []⟩ (fgk (by kernel_rfl)) ?_
  refine block_ ?_
  obtain ⟨r43, e44, h0⟩ := bnd h0
  refine loop_ (R := (fun S => ∃ p25 : List UInt8, p25 = r43 ∧ S = ⟨[(4, .ptr 256 0), (5, .own 640 0 1 (p25.map eU8))], [(256, [.own 257 0 1 (([] : List UInt8).map eU8), .own 258 0 2 (([] : List DSector).map eDSector)])], []⟩)) (g268_l0 a0 a1) (fun s S => match s with | (p12, p13) => S = ⟨[(1, .lst 1 (a1.map eB)), (4, .ptr 256 0), (5, .own 640 0 1 (p12.map eU8)), (12, .lst 2 (a0.waiting.map eDSector)), (13, .int .i64 (a0.waiting.length : Int)), (14, .int .i64 p13)], [(256, [.own 257 0 1 (([] : List UInt8).map eU8), .own 258 0 2 (([] : List DSector).map eDSector)])], []⟩) e44 ⟨[(1, .lst 1 (a1.map eB)), (4, .ptr 256 0), (5, .own 640 0 1 (r1.map eU8)), (12, .lst 2 (a0.waiting.map eDSector)), (13, .int .i64 (a0.waiting.length : Int)), (14, .int .i64 0)], [(256, [.own 257 0 1 (([] : List UInt8).map eU8), .own 258 0 2 (([] : List DSector).map eDSector)])], []⟩ (fgk (by kernel_rfl)) rfl 0 (fun _ => rfl) ?_ ?_
  · rintro S _ hfg ⟨p25, rfl, rfl⟩
    refine wk_ ⟨[(4, .ptr 256 0), (5, .own 640 0 1 (p25.map eU8))], [(256, [.own 257 0 1 (([] : List UInt8).map eU8), .own 258 0 2 (([] : List DSector).map eDSector)])], []⟩ (fglk hfg (by kernel_rfl)) ?_
    refine seq_ ?_
    refine reg_ ?_
    refine st (mv_ rfl trivial ?_)
    refine st (c_ (v := .agg [.own 640 0 1 (p25.map eU8), .own 2178 0 2 (([] : List DSector).map eDSector)]) (cp_ ⟨trivial, trivial⟩ rfl ⟨⟨rfl, rfl, Nat.le_of_ble_eq_true rfl⟩, trivial⟩) ?_)
    refine st (stp_ rfl rfl trivial rfl rfl rfl (Nat.le_of_ble_eq_true rfl) ?_)
    refine oe_ ?_
    refine wk_ ⟨[(4, .ptr 256 0)], [(256, [.own 640 0 1 (p25.map eU8), .own 2178 0 2 (([] : List DSector).map eDSector)])], []⟩ (fgk (by kernel_rfl)) ?_
    obtain rfl := Option.some.inj h0
    exact rt_ (ret_ rfl rfl rfl rfl rfl trivial)
  · rintro ⟨p12, p13⟩ o1 _ K1 rfl h1 hx1 hK1 hE1 hR1
    refine seq_ ?_
    refine reg_ ?_
    refine st (c_ (cp_ ⟨trivial, trivial, trivial⟩ rfl trivial) ?_)
    refine oe_ ?_
    refine wk_ ⟨[(1, .lst 1 (a1.map eB)), (4, .ptr 256 0), (5, .own 640 0 1 (p12.map eU8)), (12, .lst 2 (a0.waiting.map eDSector)), (13, .int .i64 (a0.waiting.length : Int)), (14, .int .i64 p13), (15, .bool (decide (p13 < (a0.waiting.length : Int))))], [(256, [.own 257 0 1 (([] : List UInt8).map eU8), .own 258 0 2 (([] : List DSector).map eDSector)])], []⟩ (fgk (by kernel_rfl)) ?_
    refine seq_ ?_
    refine ite_ (cb := (decide (p13 < (a0.waiting.length : Int)))) rfl (fun c26 => ?_) (fun c26 => ?_)
    · replace h1 := ip c26 h1
      refine sk_ ?_
      refine wk_ ⟨[(1, .lst 1 (a1.map eB)), (4, .ptr 256 0), (5, .own 640 0 1 (p12.map eU8)), (12, .lst 2 (a0.waiting.map eDSector)), (13, .int .i64 (a0.waiting.length : Int)), (14, .int .i64 p13)], [(256, [.own 257 0 1 (([] : List UInt8).map eU8), .own 258 0 2 (([] : List DSector).map eDSector)])], []⟩ (fgk (by kernel_rfl)) ?_
      refine seq_ ?_
      refine blockJ (fun S => ∃ p34 : List UInt8, S = ⟨[(1, .lst 1 (a1.map eB)), (4, .ptr 256 0), (5, .own 1984 0 1 (p34.map eU8)), (12, .lst 2 (a0.waiting.map eDSector)), (13, .int .i64 (a0.waiting.length : Int)), (14, .int .i64 p13)], [(256, [.own 257 0 1 (([] : List UInt8).map eU8), .own 258 0 2 (([] : List DSector).map eDSector)])], []⟩ ∧ g268_j0 p13 p34 = some o1) ?_ (fun J35 => ?_)
      · rintro _ ⟨p34, rfl, h1⟩
        refine wk_ ⟨[(1, .lst 1 (a1.map eB)), (4, .ptr 256 0), (5, .own 1984 0 1 (p34.map eU8)), (12, .lst 2 (a0.waiting.map eDSector)), (13, .int .i64 (a0.waiting.length : Int)), (14, .int .i64 p13)], [(256, [.own 257 0 1 (([] : List UInt8).map eU8), .own 258 0 2 (([] : List DSector).map eDSector)])], []⟩ (fgk (by kernel_rfl)) ?_
        refine reg_ ?_
        refine st (c_ (cp_ ⟨trivial, trivial, trivial⟩ rfl trivial) ?_)
        refine st (mv_ rfl trivial ?_)
        refine oe_ ?_
        obtain rfl := Option.some.inj h1
        exact hK1 _ rfl _ ⟨[(1, .lst 1 (a1.map eB)), (4, .ptr 256 0), (5, .own 640 0 1 (p34.map eU8)), (12, .lst 2 (a0.waiting.map eDSector)), (13, .int .i64 (a0.waiting.length : Int)), (14, .int .i64 (IntKind.i64.wrap (p13 + 1)))], [(256, [.own 257 0 1 (([] : List UInt8).map eU8), .own 258 0 2 (([] : List DSector).map eDSector)])], []⟩ (fgsk [] [(1984, 640)] rfl (by kernel_rfl)) rfl
      · refine seq_ ?_
        refine reg_ ?_
        refine st (mv_ rfl trivial ?_)
        obtain ⟨y36, e37, h1⟩ := bnd h1
        refine st (c_ (cidxL (e := eDSector) (y := y36) rfl rfl trivial rfl rfl trivial e37) ?_)
        refine st (c_ (v := .agg [.int .i64 y36.at_, .lst 1 (y36.data.map eU8)]) (cp_ ⟨trivial, trivial⟩ rfl (Nat.le_of_ble_eq_true rfl)) ?_)
        refine st (alloc_ ?_)
        refine st (mv_ rfl trivial ?_)
        refine st (stp_ rfl rfl trivial rfl rfl rfl (Nat.le_of_ble_eq_true rfl) ?_)
        refine oe_ ?_
        refine wk_ ⟨[(1, .lst 1 (a1.map eB)), (4, .ptr 256 0), (5, .own 640 0 1 (p12.map eU8)), (6, .int .i64 p13), (7, .ptr 448 0), (12, .lst 2 (a0.waiting.map eDSector)), (13, .int .i64 (a0.waiting.length : Int)), (14, .int .i64 p13)], [(256, [.own 257 0 1 (([] : List UInt8).map eU8), .own 258 0 2 (([] : List DSector).map eDSector)]), (448, [.int .i64 y36.at_, .lst 1 (y36.data.map eU8)])], []⟩ (fgk (by kernel_rfl)) ?_
        refine seq_ ?_
        refine reg_ ?_
        refine st (mv_ rfl trivial ?_)
        refine st (mv_ rfl trivial ?_)
        refine st (c_ (clenL (e := eB) (l0 := a1) rfl rfl trivial) ?_)
        refine st (c_ (cp_ ⟨trivial, trivial, trivial⟩ rfl trivial) ?_)
        refine st (mv_ rfl trivial ?_)
        refine st (pg_ (u := .lst 1 (a1.map eB)) rfl (fun hg => (cmv (v := .lst 1 (a1.map eB)) rfl trivial)) ?_)
        refine st (pg_ (u := .int .i64 p13) rfl (fun hg => (cmv (v := .int .i64 p13) rfl trivial)) ?_)
        obtain ⟨y38, e39, h1⟩ := bnd h1
        refine st (pg_ (u := .iptr [.bool y38]) rfl (fun hg => (cidxL (e := eB) (y := y38) rfl rfl (fun _ => hg) rfl rfl (fun _ => hg) (ip hg e39))) ?_)
        refine st (pg_ (u := .bool y38) rfl (fun hg => (cp_ ⟨(fun _ => hg), trivial⟩ rfl (Nat.le_of_ble_eq_true rfl))) ?_)
        refine st (pick_ rfl rfl rfl (fun h => eqt h) trivial rfl ?_)
        refine oe_ ?_
        refine wk_ ⟨[(1, .lst 1 (a1.map eB)), (4, .ptr 256 0), (5, .own 640 0 1 (p12.map eU8)), (7, .ptr 448 0), (12, .lst 2 (a0.waiting.map eDSector)), (13, .int .i64 (a0.waiting.length : Int)), (14, .int .i64 p13), (28, .bool (bif (decide (p13 < (a1.length : Int))) then y38 else false))], [(256, [.own 257 0 1 (([] : List UInt8).map eU8), .own 258 0 2 (([] : List DSector).map eDSector)]), (448, [.int .i64 y36.at_, .lst 1 (y36.data.map eU8)])], []⟩ (fgk (by kernel_rfl)) ?_
        refine ite_ (cb := (bif (decide (p13 < (a1.length : Int))) then y38 else false)) rfl (fun c40 => ?_) (fun c40 => ?_)
        · replace h1 := ip c40 h1
          refine reg_ ?_
          refine st (mv_ rfl trivial ?_)
          refine st (c_ (v := .agg [.int .i64 y36.at_, .lst 1 (y36.data.map eU8)]) (cp_ ⟨trivial, trivial⟩ rfl (Nat.le_of_ble_eq_true rfl)) ?_)
          obtain ⟨r41, e42, h1⟩ := bnd h1
          refine st (call1_ [] [] [640] false (H326 p12 y36 r41 e42) ⟨trivial, trivial, trivial⟩ (by kernel_rfl) (by kernel_rfl) (by kernel_rfl) (by kernel_rfl) (fun _ => and_ (and_ (fl1 (fun _ => rfl)) rfl) rfl) ?_)
          refine sw ⟨[(1, .lst 1 (a1.map eB)), (4, .ptr 256 0), (12, .lst 2 (a0.waiting.map eDSector)), (13, .int .i64 (a0.waiting.length : Int)), (14, .int .i64 p13), (31, .own 1984 0 1 (r41.map eU8))], [(256, [.own 257 0 1 (([] : List UInt8).map eU8), .own 258 0 2 (([] : List DSector).map eDSector)])], []⟩ (fgk (by kernel_rfl)) (mv_ rfl trivial ?_)
          refine oe_ ?_
          refine bn_ ?_
          exact J35 _ ⟨[(1, .lst 1 (a1.map eB)), (4, .ptr 256 0), (5, .own 1984 0 1 (r41.map eU8)), (12, .lst 2 (a0.waiting.map eDSector)), (13, .int .i64 (a0.waiting.length : Int)), (14, .int .i64 p13)], [(256, [.own 257 0 1 (([] : List UInt8).map eU8), .own 258 0 2 (([] : List DSector).map eDSector)])], []⟩ (fgk (by kernel_rfl)) ⟨_, rfl, h1⟩
        · replace h1 := inb c40 h1
          refine sk_ ?_
          refine bn_ ?_
          exact J35 _ ⟨[(1, .lst 1 (a1.map eB)), (4, .ptr 256 0), (5, .own 1984 0 1 (p12.map eU8)), (12, .lst 2 (a0.waiting.map eDSector)), (13, .int .i64 (a0.waiting.length : Int)), (14, .int .i64 p13)], [(256, [.own 257 0 1 (([] : List UInt8).map eU8), .own 258 0 2 (([] : List DSector).map eDSector)])], []⟩ (fgsk [] [(640, 1984)] rfl (by kernel_rfl)) ⟨_, rfl, h1⟩
    · replace h1 := inb c26 h1
      obtain rfl := Option.some.inj h1
      obtain rfl := hx1 _ rfl
      refine exQ rfl ?_
      exact hE1 _ ⟨[(4, .ptr 256 0), (5, .own 640 0 1 (p12.map eU8))], [(256, [.own 257 0 1 (([] : List UInt8).map eU8), .own 258 0 2 (([] : List DSector).map eDSector)])], []⟩ (fgk (by kernel_rfl)) ⟨_, rfl, rfl⟩

/- loop.example/g00149/impl.isList[bool] -/
def c305_r0 : List Ins := [⟨some 2, .p (.mv (.c (.bool false))), none⟩]
def c305_r1 : List Ins := [⟨some 3, .p (.mv (.t 0)), none⟩,
 ⟨some 4, .p (.len (.t 3)), none⟩,
 ⟨some 5, .p (.bin .leq (.t 4) (.c (.int .i64 4096))), none⟩,
 ⟨some 2, .p (.mv (.t 5)), none⟩]
def c305 : XFn := { np := 1, nt := 6, res := [.t 2], body := (.seq (.reg c305_r0) (.seq (.reg c305_r1) .ret)) }
def K305 (C : CRel) : Prop := ∀ (a0 : List Bool) (r : Bool), g305 a0 = some r → C 305 ⟨[.lst 1 (a0.map eB)], []⟩ ⟨.bool r, [], []⟩
theorem F305 {C : CRel}  (a0 : List Bool) (r : Bool) (h0 : g305 a0 = some r) : FnOK C c305 ⟨[.lst 1 (a0.map eB)], []⟩ ⟨.bool r, [], []⟩ := by
  refine fn_ (Nat.le_of_ble_eq_true rfl) ?_
  refine seq_ ?_
  refine reg_ ?_
  refine st (mvc_ trivial ?_)
  refine oe_ ?_
  refine wk_ ⟨[(0, .lst 1 (a0.map eB))], [], []⟩ (fgk (by kernel_rfl)) ?_
  refine seq_ ?_
  refine reg_ ?_
  refine st (mv_ rfl trivial ?_)
  refine st (c_ (clenL (e := eB) (l0 := a0) rfl rfl trivial) ?_)
  refine st (c_ (cp_ ⟨trivial, trivial, trivial⟩ rfl trivial) ?_)
  refine st (mv_ rfl trivial ?_)
  refine oe_ ?_
  refine wk_ ⟨[(2, .bool (decide ((a0.length : Int) ≤ 4096)))], [], []⟩ (fgk (by kernel_rfl)) ?_
  obtain rfl := Option.some.inj h0
  exact rt_ (ret_ rfl rfl rfl rfl rfl trivial)

/- loop.example/g00149/impl.DeviceCrash -/
def c242_r0 : List Ins := [⟨some 2, .box (.t 0), none⟩,
 ⟨some 4, .alloc [(.own 257 0 1 []), (.own 258 0 2 [])], none⟩,
 ⟨some 5, .p (.mv (.c (.int .i64 0))), none⟩]
def c242_r1 : List Ins := [⟨some 7, .p (.mv (.t 1)), none⟩,
 ⟨some 8, .call 305 [(.t 7)], none⟩,
 ⟨some 9, .p (.un .not (.t 8)), none⟩,
 ⟨some 6, .p (.mv (.t 9)), none⟩]
def c242_r2 : List Ins := [⟨some 10, .p (.build [(.own 641 0 1 []), (.own 642 0 2 [])] []), none⟩,
 ⟨none, .store (.t 4) (.t 10) 2, none⟩,
 ⟨some 5, .p (.mv (.c (.int .i64 2))), none⟩]
def c242_r3 : List Ins := [⟨some 12, .p (.load (.t 2) 2 true), none⟩,
 ⟨some 13, .call 216 [(.t 12)], none⟩,
 ⟨some 14, .p (.un .not (.t 13)), none⟩,
 ⟨some 11, .p (.mv (.t 14)), none⟩]
def c242_r4 : List Ins := [⟨some 15, .p (.build [(.own 961 0 1 []), (.own 962 0 2 [])] []), none⟩,
 ⟨none, .store (.t 4) (.t 15) 2, none⟩,
 ⟨some 5, .p (.mv (.c (.int .i64 1))), none⟩]
def c242_r5 : List Ins := [⟨some 16, .p (.load (.t 2) 2 true), none⟩,
 ⟨some 17, .p (.mv (.t 1)), none⟩,
 ⟨some 18, .call 268 [(.t 16), (.t 17)], none⟩,
 ⟨none, .store (.t 4) (.t 18) 2, none⟩,
 ⟨some 5, .p (.mv (.c (.int .i64 0))), none⟩]
def c242 : XFn := { np := 2, nt := 19, res := [.cell 4 2 true, .t 5], body := (.seq (.reg c242_r0) (.seq (.block 0 (.seq (.reg c242_r1) (.ite (.t 6) (.seq (.reg c242_r2) .ret) (.seq (.reg c242_r3) (.ite (.t 11) (.seq (.reg c242_r4) .ret) .skip))))) (.seq (.reg c242_r5) .ret))) }
def K242 (C : CRel) : Prop := ∀ (a0 : DDevice) (a1 : List Bool) (r : DDevice × Int), g242 a0 a1 = some r → C 242 ⟨[.agg [.lst 1 (a0.held.map eU8), .lst 2 (a0.waiting.map eDSector)], .lst 1 (a1.map eB)], []⟩ ⟨.tup [.agg [.own 0 0 1 (r.1.held.map eU8), .own 1 0 2 (r.1.waiting.map eDSector)], .int .i64 r.2], [], []⟩
theorem F242 {C : CRel} (H216 : K216 C) (H268 : K268 C) (H305 : K305 C) (a0 : DDevice) (a1 : List Bool) (r : DDevice × Int) (h0 : g242 a0 a1 = some r) : FnOK C c242 ⟨[.agg [.lst 1 (a0.held.map eU8), .lst 2 (a0.waiting.map eDSector)], .lst 1 (a1.map eB)], []⟩ ⟨.tup [.agg [.own 0 0 1 (r.1.held.map eU8), .own 1 0 2 (r.1.waiting.map eDSector)], .int .i64 r.2], [], []⟩ := by
  refine fn_ (Nat.le_of_ble_eq_true rfl) ?_
  refine seq_ ?_
  refine reg_ ?_
  refine st (box_ rfl trivial rfl ?_)
  refine st (alloc_ ?_)
  refine st (mvc_ trivial ?_)
  refine oe_ ?_
  refine wk_ ⟨[(1, .lst 1 (a1.map eB)), (2, .ptr 128 0), (4, .ptr 256 0)], [(128, [.lst 1 (a0.held.map eU8), .lst 2 (a0.waiting.map eDSector)]), (256, [.own 257 0 1 (([] : List UInt8).map eU8), .own 258 0 2 (([] : List DSector).map eDSector)])], []⟩ (fgk (by kernel_rfl)) ?_
  refine seq_ ?_
  refine block_ ?_
  refine seq_ ?_
  refine reg_ ?_
  refine st (mv_ rfl trivial ?_)
  obtain ⟨r1, e2, h0⟩ := bnd h0
  refine st (call0_ (r := .bool r1) false (H305 a1 r1 e2) ⟨trivial, trivial⟩ rfl rfl (fun _ => rfl) ?_)
  refine st (c_ (cp_ ⟨trivial, trivial⟩ rfl trivial) ?_)
  refine st (mv_ rfl trivial ?_)
  refine oe_ ?_
  refine wk_ ⟨[(1, .lst 1 (a1.map eB)), (2, .ptr 128 0), (4, .ptr 256 0), (6, .bool (!r1))], [(128, [.lst 1 (a0.held.map eU8), .lst 2 (a0.waiting.map eDSector)]), (256, [.own 257 0 1 (([] : List UInt8).map eU8), .own 258 0 2 (([] : List DSector).map eDSector)])], []⟩ (fgk (by kernel_rfl)) ?_
  refine ite_ (cb := (!r1)) rfl (fun c3 => ?_) (fun c3 => ?_)
  · replace h0 := ip c3 h0
    refine seq_ ?_
    refine reg_ ?_
    refine st (c_ (v := .agg [.own 641 0 1 (([] : List UInt8).map eU8), .own 642 0 2 (([] : List DSector).map eDSector)]) (cp_ trivial rfl trivial) ?_)
    refine st (stp_ rfl rfl trivial rfl rfl rfl (Nat.le_of_ble_eq_true rfl) ?_)
    refine st (mvc_ trivial ?_)
    refine oe_ ?_
    refine wk_ ⟨[(4, .ptr 256 0), (5, .int .i64 2)], [(256, [.own 641 0 1 (([] : List UInt8).map eU8), .own 642 0 2 (([] : List DSector).map eDSector)])], []⟩ (fgk (by kernel_rfl)) ?_
    obtain rfl := Option.some.inj h0
    exact rt_ (ret_ rfl rfl rfl rfl rfl trivial)
  · replace h0 := inb c3 h0
    refine seq_ ?_
    refine reg_ ?_
    refine st (c_ (v := .agg [.lst 1 (a0.held.map eU8), .lst 2 (a0.waiting.map eDSector)]) (cp_ ⟨trivial, trivial⟩ rfl (Nat.le_of_ble_eq_true rfl)) ?_)
    obtain ⟨r4, e5, h0⟩ := bnd h0
    refine st (call0_ (r := .bool r4) false (H216 a0 r4 e5) ⟨trivial, trivial⟩ rfl rfl (fun _ => rfl) ?_)
    refine st (c_ (cp_ ⟨trivial, trivial⟩ rfl trivial) ?_)
    refine st (mv_ rfl trivial ?_)
    refine oe_ ?_
    refine wk_ ⟨[(1, .lst 1 (a1.map eB)), (2, .ptr 128 0), (4, .ptr 256 0), (11, .bool (!r4))], [(128, [.lst 1 (a0.held.map eU8), .lst 2 (a0.waiting.map eDSector)]), (256, [.own 257 0 1 (([] : List UInt8).map eU8), .own 258 0 2 (([] : List DSector).map eDSector)])], []⟩ (fgk (by kernel_rfl)) ?_
    refine ite_ (cb := (!r4)) rfl (fun c6 => ?_) (fun c6 => ?_)
    · replace h0 := ip c6 h0
      refine seq_ ?_
      refine reg_ ?_
      refine st (c_ (v := .agg [.own 961 0 1 (([] : List UInt8).map eU8), .own 962 0 2 (([] : List DSector).map eDSector)]) (cp_ trivial rfl trivial) ?_)
      refine st (stp_ rfl rfl trivial rfl rfl rfl (Nat.le_of_ble_eq_true rfl) ?_)
      refine st (mvc_ trivial ?_)
      refine oe_ ?_
      refine wk_ ⟨[(4, .ptr 256 0), (5, .int .i64 1)], [(256, [.own 961 0 1 (([] : List UInt8).map eU8), .own 962 0 2 (([] : List DSector).map eDSector)])], []⟩ (fgk (by kernel_rfl)) ?_
      obtain rfl := Option.some.inj h0
      exact rt_ (ret_ rfl rfl rfl rfl rfl trivial)
    · replace h0 := inb c6 h0
      refine sk_ ?_
      refine bn_ ?_
      refine wk_ ⟨[(1, .lst 1 (a1.map eB)), (2, .ptr 128 0), (4, .ptr 256 0)], [(128, [.lst 1 (a0.held.map eU8), .lst 2 (a0.waiting.map eDSector)]), (256, [.own 257 0 1 (([] : List UInt8).map eU8), .own 258 0 2 (([] : List DSector).map eDSector)])], []⟩ (fgk (by kernel_rfl)) ?_
      refine seq_ ?_
      refine reg_ ?_
      refine st (c_ (v := .agg [.lst 1 (a0.held.map eU8), .lst 2 (a0.waiting.map eDSector)]) (cp_ ⟨trivial, trivial⟩ rfl (Nat.le_of_ble_eq_true rfl)) ?_)
      refine st (mv_ rfl trivial ?_)
      obtain ⟨r7, e8, h0⟩ := bnd h0
      refine st (call0_ (r := .agg [.own 0 0 1 (r7.held.map eU8), .own 1 0 2 (r7.waiting.map eDSector)]) true (H268 a0 a1 r7 e8) ⟨trivial, trivial, trivial⟩ rfl rfl (fun h => nomatch h) ?_)
      refine st (stp_ rfl rfl trivial rfl rfl rfl (Nat.le_of_ble_eq_true rfl) ?_)
      refine st (mvc_ trivial ?_)
      refine oe_ ?_
      refine wk_ ⟨[(4, .ptr 256 0), (5, .int .i64 0)], [(256, [.own 1152 0 1 (r7.held.map eU8), .own 1153 0 2 (r7.waiting.map eDSector)])], []⟩ (fgk (by kernel_rfl)) ?_
      obtain rfl := Option.some.inj h0
      exact rt_ (ret_ rfl rfl rfl rfl rfl trivial)

/- (*loop.example/g00149/spec.l00Src).chance -/
def c119_r0 : List Ins := [⟨some 4, .p (.mv (.c (.bool false))), none⟩]
def c119_r1 : List Ins := [⟨some 5, .p (.mv (.t 0)), none⟩,
 ⟨some 6, .p (.mv (.t 1)), none⟩,
 ⟨some 7, .call 117 [(.t 5), (.t 6)], none⟩,
 ⟨some 8, .p (.mv (.t 1)), none⟩,
 ⟨some 9, .p (.bin .sub (.t 8) (.c (.int .i64 1))), none⟩,
 ⟨some 10, .p (.bin .eql (.t 7) (.t 9)), none⟩,
 ⟨some 4, .p (.mv (.t 10)), none⟩]
def c119 : XFn := { np := 2, nt := 11, res := [.t 4], body := (.seq (.reg c119_r0) (.seq (.reg c119_r1) .ret)) }
def K119 (C : CRel) : Prop := ∀ (a0 : Dl00Src) (a1 : Int) (r : Bool × Dl00Src), g119 a0 a1 = some r → C 119 ⟨[.ptr 1048576 0, .int .i64 a1], [[.lst 1 (a0.code_.map eU8), .int .i64 a0.at_, .int .i64 a0.seed]]⟩ ⟨.bool r.1, [[.lst 1 (r.2.code_.map eU8), .int .i64 r.2.at_, .int .i64 r.2.seed]], []⟩
theorem F119 {C : CRel} (H117 : K117 C) (a0 : Dl00Src) (a1 : Int) (r : Bool × Dl00Src) (h0 : g119 a0 a1 = some r) : FnOK C c119 ⟨[.ptr 1048576 0, .int .i64 a1], [[.lst 1 (a0.code_.map eU8), .int .i64 a0.at_, .int .i64 a0.seed]]⟩ ⟨.bool r.1, [[.lst 1 (r.2.code_.map eU8), .int .i64 r.2.at_, .int .i64 r.2.seed]], []⟩ := by
  refine fn_ (Nat.le_of_ble_eq_true rfl) ?_
  refine seq_ ?_
  refine reg_ ?_
  refine st (mvc_ trivial ?_)
  refine oe_ ?_
  refine wk_ ⟨[(0, .ptr 1048576 0), (1, .int .i64 a1)], [(1048576, [.lst 1 (a0.code_.map eU8), .int .i64 a0.at_, .int .i64 a0.seed])], []⟩ (fgk (by kernel_rfl)) ?_
  refine seq_ ?_
  refine reg_ ?_
  refine st (mv_ rfl trivial ?_)
  refine st (mv_ rfl trivial ?_)
  obtain ⟨r1, e2, h0⟩ := bnd h0
  refine st (call1_ [1048576] [] [] true (H117 a0 a1 r1 e2) ⟨trivial, trivial, trivial⟩ (by kernel_rfl) (by kernel_rfl) (by kernel_rfl) (by kernel_rfl) (fun h => nomatch h) ?_)
  refine sw ⟨[(1, .int .i64 a1), (7, .int .i64 r1.1)], [(1048576, [.lst 1 (r1.2.code_.map eU8), .int .i64 r1.2.at_, .int .i64 r1.2.seed])], []⟩ (fgk (by kernel_rfl)) (mv_ rfl trivial ?_)
  refine st (c_ (cp_ ⟨trivial, trivial, trivial⟩ rfl trivial) ?_)
  refine st (c_ (cp_ ⟨trivial, trivial, trivial⟩ rfl trivial) ?_)
  refine st (mv_ rfl trivial ?_)
  refine oe_ ?_
  refine wk_ ⟨[(4, .bool (r1.1 == (IntKind.i64.wrap (a1 - 1))))], [(1048576, [.lst 1 (r1.2.code_.map eU8), .int .i64 r1.2.at_, .int .i64 r1.2.seed])], []⟩ (fgk (by kernel_rfl)) ?_
  obtain rfl := Option.some.inj h0
  exact rt_ (ret_ rfl rfl rfl rfl rfl trivial)

/- (*loop.example/g00149/spec.l00Src).flags -/
def c306_r0 : List Ins := [⟨some 4, .nilS 1, none⟩]
def c306_r1 : List Ins := [⟨some 7, .mkS 1 [(.bool false)] 0 [], none⟩,
 ⟨some 5, .p (.mv (.t 7)), none⟩]
def c306_r2 : List Ins := [⟨some 8, .p (.mv (.t 0)), none⟩,
 ⟨some 9, .p (.mv (.t 1)), none⟩,
 ⟨some 10, .p (.bin .add (.t 9) (.c (.int .i64 1))), none⟩,
 ⟨some 11, .call 117 [(.t 8), (.t 10)], none⟩,
 ⟨some 6, .p (.mv (.t 11)), none⟩]
def c306_r3 : List Ins := [⟨some 12, .p (.mv (.t 6)), none⟩,
 ⟨some 13, .p (.bin .gtr (.t 12) (.c (.int .i64 0))), none⟩]
def c306_r4 : List Ins := [⟨some 16, .p (.mv (.t 5)), none⟩,
 ⟨some 17, .p (.mv (.t 0)), none⟩,
 ⟨some 18, .call 119 [(.t 17), (.c (.int .i64 2))], none⟩,
 ⟨some 19, .mkS 1 [(.bool false)] 1 [(0, (.t 18))], none⟩,
 ⟨some 20, .app 1 1 (.t 16) (.t 19), none⟩,
 ⟨some 5, .p (.mv (.t 20)), none⟩]
def c306_r5 : List Ins := [⟨some 14, .p (.mv (.t 6)), none⟩,
 ⟨some 15, .p (.bin .sub (.t 14) (.c (.int .i64 1))), none⟩,
 ⟨some 6, .p (.mv (.t 15)), none⟩]
def c306_l0 : IR := (.seq (.seq (.reg c306_r3) (.ite (.t 13) .skip (.exit 0))) (.seq (.block 1 (.reg c306_r4)) (.reg c306_r5)))
def c306_r6 : List Ins := [⟨some 21, .p (.mv (.t 5)), none⟩,
 ⟨some 4, .p (.mv (.t 21)), none⟩]
def c306 : XFn := { np := 2, nt := 22, res := [.t 4], body := (.seq (.reg c306_r0) (.seq (.reg c306_r1) (.seq (.seq (.reg c306_r2) (.block 0 (.loop c306_l0))) (.seq (.reg c306_r6) .ret)))) }
def K306 (C : CRel) : Prop := ∀ (a0 : Dl00Src) (a1 : Int) (r : (List Bool) × Dl00Src), g306 a0 a1 = some r → C 306 ⟨[.ptr 1048576 0, .int .i64 a1], [[.lst 1 (a0.code_.map eU8), .int .i64 a0.at_, .int .i64 a0.seed]]⟩ ⟨.own 0 0 1 (r.1.map eB), [[.lst 1 (r.2.code_.map eU8), .int .i64 r.2.at_, .int .i64 r.2.seed]], []⟩
theorem F306 {C : CRel} (H117 : K117 C) (H119 : K119 C) (a0 : Dl00Src) (a1 : Int) (r : (List Bool) × Dl00Src) (h0 : g306 a0 a1 = some r) : FnOK C c306 ⟨[.ptr 1048576 0, .int .i64 a1], [[.lst 1 (a0.code_.map eU8), .int .i64 a0.at_, .int .i64 a0.seed]]⟩ ⟨.own 0 0 1 (r.1.map eB), [[.lst 1 (r.2.code_.map eU8), .int .i64 r.2.at_, .int .i64 r.2.seed]], []⟩ := by
  refine fn_ (Nat.le_of_ble_eq_true rfl) ?_
  refine seq_ ?_
  refine reg_ ?_
  refine st (nilS_ ?_)
  refine oe_ ?_
  refine wk_ ⟨[(0, .ptr 1048576 0), (1, .int .i64 a1)], [(1048576, [.lst 1 (a0.code_.map eU8), .int .i64 a0.at_, .int .i64 a0.seed])], []⟩ (fgk (by kernel_rfl)) ?_
  refine seq_ ?_
  refine reg_ ?_
  refine st (mkS_ trivial trivial ?_)
  refine st (mv_ rfl trivial ?_)
  refine oe_ ?_
  refine wk_ ⟨[(0, .ptr 1048576 0), (1, .int .i64 a1), (5, .own 448 0 1 (([] : List Bool).map eB))], [(1048576, [.lst 1 (a0.code_.map eU8), .int .i64 a0.at_, .int .i64 a0.seed])], []⟩ (fgk (by kernel_rfl)) ?_
  refine seq_ ?_
  refine seq_ ?_
  refine reg_ ?_
  refine st (mv_ rfl trivial ?_)
  refine st (mv_ rfl trivial ?_)
  refine st (c_ (cp_ ⟨trivial, trivial, trivial⟩ rfl trivial) ?_)
  obtain ⟨r1, e2, h0⟩ := bnd h0
  refine st (call1_ [1048576] [] [] true (H117 a0 (IntKind.i64.wrap (a1 + 1)) r1 e2) ⟨trivial, trivial, trivial⟩ (by kernel_rfl) (by kernel_rfl) (by kernel_rfl) (by kernel_rfl) (fun h => nomatch h) ?_)
  refine sw ⟨[(0, .ptr 1048576 0), (5, .own 448 0 1 (([] : List Bool).map eB)), (11, .int .i64 r1.1)], [(1048576, [.lst 1 (r1.2.code_.map eU8), .int .i64 r1.2.at_, .int .i64 r1.2.seed])], []⟩ (fgk (by kernel_rfl)) (mv_ rfl trivial ?_)
  refine oe_ ?_
  refine wk_ ⟨[(0, .ptr 1048576 0), (5, .own 448 0 1 (([] : List Bool).map eB)), (6, .int .i64 r1.1)], [(1048576, [.lst 1 (r1.2.code_.map eU8), .int .i64 r1.2.at_, .int .i64 r1.2.seed])], []⟩ (fgk (by kernel_rfl)) ?_
  refine block_ ?_
  obtain ⟨r29, e30, h0⟩ := bnd h0
  refine loop_ (R := (fun S => ∃ p21 : List Bool, ∃ p22 : List UInt8, ∃ p23 : Int, ∃ p24 : Int, (p21, p22, p23, p24) = r29 ∧ S = ⟨[(5, .own 448 0 1 (p21.map eB))], [(1048576, [.lst 1 (p22.map eU8), .int .i64 p23, .int .i64 p24])], []⟩)) (g306_l0) (fun s S => match s with | (p7, p8, p9, p10, p11) => S = ⟨[(0, .ptr 1048576 0), (5, .own 448 0 1 (p7.map eB)), (6, .int .i64 p8)], [(1048576, [.lst 1 (p9.map eU8), .int .i64 p10, .int .i64 p11])], []⟩) e30 ⟨[(0, .ptr 1048576 0), (5, .own 448 0 1 (([] : List Bool).map eB)), (6, .int .i64 r1.1)], [(1048576, [.lst 1 (r1.2.code_.map eU8), .int .i64 r1.2.at_, .int .i64 r1.2.seed])], []⟩ (fgk (by kernel_rfl)) rfl 0 (fun _ => rfl) ?_ ?_
  · rintro S _ hfg ⟨p21, p22, p23, p24, rfl, rfl⟩
    refine wk_ ⟨[(5, .own 448 0 1 (p21.map eB))], [(1048576, [.lst 1 (p22.map eU8), .int .i64 p23, .int .i64 p24])], []⟩ (fglk hfg (by kernel_rfl)) ?_
    refine seq_ ?_
    refine reg_ ?_
    refine st (mv_ rfl trivial ?_)
    refine st (mv_ rfl trivial ?_)
    refine oe_ ?_
    refine wk_ ⟨[(4, .own 448 0 1 (p21.map eB))], [(1048576, [.lst 1 (p22.map eU8), .int .i64 p23, .int .i64 p24])], []⟩ (fgk (by kernel_rfl)) ?_
    obtain rfl := Option.some.inj h0
    exact rt_ (ret_ rfl rfl rfl rfl rfl trivial)
  · rintro ⟨p7, p8, p9, p10, p11⟩ o1 _ K1 rfl h1 hx1 hK1 hE1 hR1
    refine seq_ ?_
    refine seq_ ?_
    refine reg_ ?_
    refine st (mv_ rfl trivial ?_)
    refine st (c_ (cp_ ⟨trivial, trivial, trivial⟩ rfl trivial) ?_)
    refine oe_ ?_
    refine wk_ ⟨[(0, .ptr 1048576 0), (5, .own 448 0 1 (p7.map eB)), (6, .int .i64 p8), (13, .bool (decide (p8 > 0)))], [(1048576, [.lst 1 (p9.map eU8), .int .i64 p10, .int .i64 p11])], []⟩ (fgk (by kernel_rfl)) ?_
    refine ite_ (cb := (decide (p8 > 0))) rfl (fun c25 => ?_) (fun c25 => ?_)
    · replace h1 := ip c25 h1
      refine sk_ ?_
      refine wk_ ⟨[(0, .ptr 1048576 0), (5, .own 448 0 1 (p7.map eB)), (6, .int .i64 p8)], [(1048576, [.lst 1 (p9.map eU8), .int .i64 p10, .int .i64 p11])], []⟩ (fgk (by kernel_rfl)) ?_
      refine seq_ ?_
      refine block_ ?_
      refine reg_ ?_
      refine st (mv_ rfl trivial ?_)
      refine st (mv_ rfl trivial ?_)
      obtain ⟨r26, e27, h1⟩ := bnd h1
      refine st (call1_ [1048576] [] [] true (H119 (Dl00Src.mk p9 p10 p11) 2 r26 e27) ⟨trivial, trivial, trivial⟩ (by kernel_rfl) (by kernel_rfl) (by kernel_rfl) (by kernel_rfl) (fun h => nomatch h) ?_)
      refine sw ⟨[(0, .ptr 1048576 0), (6, .int .i64 p8), (16, .own 448 0 1 (p7.map eB)), (18, .bool r26.1)], [(1048576, [.lst 1 (r26.2.code_.map eU8), .int .i64 r26.2.at_, .int .i64 r26.2.seed])], []⟩ (fgk (by kernel_rfl)) (mkS_ ⟨trivial, trivial⟩ ⟨⟨Nat.le_of_ble_eq_true rfl, rfl, rfl⟩, trivial⟩ ?_)
      obtain ⟨c28, h1⟩ := grd h1
      refine st (app_ (e := eB) (l0 := p7) (l1 := ([r26.1] : List Bool)) rfl rfl trivial rfl (by decide) c28 ?_)
      refine st (mv_ rfl trivial ?_)
      refine oe_ ?_
      refine bn_ ?_
      refine wk_ ⟨[(0, .ptr 1048576 0), (5, .own 448 0 1 ((p7 ++ ([r26.1] : List Bool)).map eB)), (6, .int .i64 p8)], [(1048576, [.lst 1 (r26.2.code_.map eU8), .int .i64 r26.2.at_, .int .i64 r26.2.seed])], []⟩ (fgk (by kernel_rfl)) ?_
      refine reg_ ?_
      refine st (mv_ rfl trivial ?_)
      refine st (c_ (cp_ ⟨trivial, trivial, trivial⟩ rfl trivial) ?_)
      refine st (mv_ rfl trivial ?_)
      refine oe_ ?_
      obtain rfl := Option.some.inj h1
      exact hK1 _ rfl _ ⟨[(0, .ptr 1048576 0), (5, .own 448 0 1 ((p7 ++ ([r26.1] : List Bool)).map eB)), (6, .int .i64 (IntKind.i64.wrap (p8 - 1)))], [(1048576, [.lst 1 (r26.2.code_.map eU8), .int .i64 r26.2.at_, .int .i64 r26.2.seed])], []⟩ (fgk (by kernel_rfl)) rfl
    · replace h1 := inb c25 h1
      obtain rfl := Option.some.inj h1
      obtain rfl := hx1 _ rfl
      refine exQ rfl ?_
      exact hE1 _ ⟨[(5, .own 448 0 1 (p7.map eB))], [(1048576, [.lst 1 (p9.map eU8), .int .i64 p10, .int .i64 p11])], []⟩ (fgk (by kernel_rfl)) ⟨_, _, _, _, rfl, rfl⟩

/- loop.example/g00149/spec.FlagsOf -/
def c243_r0 : List Ins := [⟨some 2, .nilS 1, none⟩]
def c243_r1 : List Ins := [⟨some 3, .p (.mv (.t 0)), none⟩,
 ⟨some 4, .call 83 [(.t 3)], none⟩,
 ⟨some 5, .call 306 [(.t 4), (.c (.int .i64 12))], none⟩,
 ⟨some 2, .p (.mv (.t 5)), none⟩]
def c243 : XFn := { np := 1, nt := 6, res := [.t 2], body := (.seq (.reg c243_r0) (.seq (.reg c243_r1) .ret)) }
def K243 (C : CRel) : Prop := ∀ (a0 : List UInt8) (r : (List Bool)), g243 a0 = some r → C 243 ⟨[.lst 1 (a0.map eU8)], []⟩ ⟨.own 0 0 1 (r.map eB), [], []⟩
theorem F243 {C : CRel} (H83 : K83 C) (H306 : K306 C) (a0 : List UInt8) (r : (List Bool)) (h0 : g243 a0 = some r) : FnOK C c243 ⟨[.lst 1 (a0.map eU8)], []⟩ ⟨.own 0 0 1 (r.map eB), [], []⟩ := by
  refine fn_ (Nat.le_of_ble_eq_true rfl) ?_
  refine seq_ ?_
  refine reg_ ?_
  refine st (nilS_ ?_)
  refine oe_ ?_
  refine wk_ ⟨[(0, .lst 1 (a0.map eU8))], [], []⟩ (fgk (by kernel_rfl)) ?_
  refine seq_ ?_
  refine reg_ ?_
  refine st (mv_ rfl trivial ?_)
  obtain ⟨r1, e2, h0⟩ := bnd h0
  refine st (call1_ [] [] [] true (H83 a0 r1 e2) ⟨trivial, trivial⟩ (by kernel_rfl) (by kernel_rfl) (by kernel_rfl) (by kernel_rfl) (fun h => nomatch h) ?_)
  obtain ⟨r3, e4, h0⟩ := bnd h0
  refine sw ⟨[(4, .ptr 256 0)], [(256, [.lst 1 (r1.code_.map eU8), .int .i64 r1.at_, .int .i64 r1.seed])], []⟩ (fgk (by kernel_rfl)) (call1_ [256] [] [] true (H306 r1 12 r3 e4) ⟨trivial, trivial, trivial⟩ (by kernel_rfl) (by kernel_rfl) (by kernel_rfl) (by kernel_rfl) (fun h => nomatch h) ?_)
  refine sw ⟨[(5, .own 320 0 1 (r3.1.map eB))], [], []⟩ (fgk (by kernel_rfl)) (mv_ rfl trivial ?_)
  refine oe_ ?_
  refine wk_ ⟨[(2, .own 320 0 1 (r3.1.map eB))], [], []⟩ (fgk (by kernel_rfl)) ?_
  obtain rfl := Option.some.inj h0
  exact rt_ (ret_ rfl rfl rfl rfl rfl trivial)
end Go.Ev
