/- The walks of functions: the code comes to the answers that QgD tells. Written by a program of ours. -/
import Derived.Test.YtdmclbbhhcpjfaaQgW0
set_option linter.all false
set_option maxHeartbeats 4000000
set_option linter.unusedVariables false
set_option maxRecDepth 100000
namespace Go.Ev

/- loop.example/g00149/impl.FrameOf -/
def c219_r0 : List Ins := [⟨some 2, .nilS 1, none⟩,
 ⟨some 3, .p (.mv (.c (.int .i64 0))), none⟩]
def c219_r1 : List Ins := [⟨some 5, .p (.mv (.t 0)), none⟩,
 ⟨some 6, .call 264 [(.t 5)], none⟩,
 ⟨some 7, .p (.un .not (.t 6)), none⟩,
 ⟨some 4, .p (.mv (.t 7)), none⟩]
def c219_r2 : List Ins := [⟨some 2, .nilS 1, none⟩,
 ⟨some 3, .p (.mv (.c (.int .i64 2))), none⟩]
def c219_r3 : List Ins := [⟨some 9, .p (.mv (.t 0)), none⟩,
 ⟨some 10, .p (.len (.t 9)), none⟩,
 ⟨some 11, .p (.bin .gtr (.t 10) (.c (.int .i64 2000))), none⟩,
 ⟨some 8, .p (.mv (.t 11)), none⟩]
def c219_r4 : List Ins := [⟨some 2, .nilS 1, none⟩,
 ⟨some 3, .p (.mv (.c (.int .i64 4))), none⟩]
def c219_r5 : List Ins := [⟨some 12, .p (.mv (.t 0)), none⟩,
 ⟨some 13, .call 274 [(.t 12)], none⟩,
 ⟨some 2, .p (.mv (.t 13)), none⟩,
 ⟨some 3, .p (.mv (.c (.int .i64 0))), none⟩]
def c219 : XFn := { np := 1, nt := 14, res := [.t 2, .t 3], body := (.seq (.reg c219_r0) (.seq (.block 0 (.seq (.reg c219_r1) (.ite (.t 4) (.seq (.reg c219_r2) .ret) (.seq (.reg c219_r3) (.ite (.t 8) (.seq (.reg c219_r4) .ret) .skip))))) (.seq (.reg c219_r5) .ret))) }
def K219 (C : CRel) : Prop := ∀ (a0 : List UInt8) (r : (List UInt8) × Int), g219 a0 = some r → C 219 ⟨[.lst 1 (a0.map eU8)], []⟩ ⟨.tup [.own 0 0 1 (r.1.map eU8), .int .i64 r.2], [], []⟩
theorem F219 {C : CRel} (H264 : K264 C) (H274 : K274 C) (a0 : List UInt8) (r : (List UInt8) × Int) (h0 : g219 a0 = some r) : FnOK C c219 ⟨[.lst 1 (a0.map eU8)], []⟩ ⟨.tup [.own 0 0 1 (r.1.map eU8), .int .i64 r.2], [], []⟩ := by
  refine fn_ (Nat.le_of_ble_eq_true rfl) ?_
  refine seq_ ?_
  refine reg_ ?_
  refine st (nilS_ ?_)
  refine st (mvc_ trivial ?_)
  refine oe_ ?_
  refine wk_ ⟨[(0, .lst 1 (a0.map eU8))], [], []⟩ (fgk (by kernel_rfl)) ?_
  refine seq_ ?_
  refine block_ ?_
  refine seq_ ?_
  refine reg_ ?_
  refine st (mv_ rfl trivial ?_)
  obtain ⟨r1, e2, h0⟩ := bnd h0
  refine st (call0_ (r := .bool r1) false (H264 a0 r1 e2) ⟨trivial, trivial⟩ rfl rfl (fun _ => rfl) ?_)
  refine st (c_ (cp_ ⟨trivial, trivial⟩ rfl trivial) ?_)
  refine st (mv_ rfl trivial ?_)
  refine oe_ ?_
  refine wk_ ⟨[(0, .lst 1 (a0.map eU8)), (4, .bool (!r1))], [], []⟩ (fgk (by kernel_rfl)) ?_
  refine ite_ (cb := (!r1)) rfl (fun c3 => ?_) (fun c3 => ?_)
  · replace h0 := ip c3 h0
    refine seq_ ?_
    refine reg_ ?_
    refine st (nilS_ ?_)
    refine st (mvc_ trivial ?_)
    refine oe_ ?_
    refine wk_ ⟨[(2, .own 128 0 1 ([].map eU8)), (3, .int .i64 2)], [], []⟩ (fgk (by kernel_rfl)) ?_
    obtain rfl := Option.some.inj h0
    exact rt_ (ret_ rfl rfl rfl rfl rfl trivial)
  · replace h0 := inb c3 h0
    refine seq_ ?_
    refine reg_ ?_
    refine st (mv_ rfl trivial ?_)
    refine st (c_ (clenL (e := eU8) (l0 := a0) rfl rfl trivial) ?_)
    refine st (c_ (cp_ ⟨trivial, trivial, trivial⟩ rfl trivial) ?_)
    refine st (mv_ rfl trivial ?_)
    refine oe_ ?_
    refine wk_ ⟨[(0, .lst 1 (a0.map eU8)), (8, .bool (decide ((a0.length : Int) > 2000)))], [], []⟩ (fgk (by kernel_rfl)) ?_
    refine ite_ (cb := (decide ((a0.length : Int) > 2000))) rfl (fun c4 => ?_) (fun c4 => ?_)
    · replace h0 := ip c4 h0
      refine seq_ ?_
      refine reg_ ?_
      refine st (nilS_ ?_)
      refine st (mvc_ trivial ?_)
      refine oe_ ?_
      refine wk_ ⟨[(2, .own 128 0 1 ([].map eU8)), (3, .int .i64 4)], [], []⟩ (fgk (by kernel_rfl)) ?_
      obtain rfl := Option.some.inj h0
      exact rt_ (ret_ rfl rfl rfl rfl rfl trivial)
    · replace h0 := inb c4 h0
      refine sk_ ?_
      refine bn_ ?_
      refine wk_ ⟨[(0, .lst 1 (a0.map eU8))], [], []⟩ (fgk (by kernel_rfl)) ?_
      refine seq_ ?_
      refine reg_ ?_
      refine st (mv_ rfl trivial ?_)
      obtain ⟨r5, e6, h0⟩ := bnd h0
      refine st (call0_ (r := .own 0 0 1 (r5.map eU8)) false (H274 a0 r5 e6) ⟨trivial, trivial⟩ rfl rfl (fun _ => (and_ (fl1 (fun _ => rfl)) rfl)) ?_)
      refine st (mv_ rfl trivial ?_)
      refine st (mvc_ trivial ?_)
      refine oe_ ?_
      refine wk_ ⟨[(2, .own 832 0 1 (r5.map eU8)), (3, .int .i64 0)], [], []⟩ (fgk (by kernel_rfl)) ?_
      obtain rfl := Option.some.inj h0
      exact rt_ (ret_ rfl rfl rfl rfl rfl trivial)

/- loop.example/g00149/impl.LogOf -/
def c220_r0 : List Ins := [⟨some 1, .box (.t 0), none⟩,
 ⟨some 2, .nilS 1, none⟩,
 ⟨some 3, .p (.mv (.c (.int .i64 0))), none⟩]
def c220_r1 : List Ins := [⟨some 6, .p (.load (.t 1) 2 true), none⟩,
 ⟨some 7, .call 216 [(.t 6)], none⟩,
 ⟨some 8, .p (.un .not (.t 7)), none⟩]
def c220_r2 : List Ins := [⟨some 2, .nilS 1, none⟩,
 ⟨some 3, .p (.mv (.c (.int .i64 1))), none⟩]
def c220_r3 : List Ins := [⟨some 10, .p (.load (.t 1) 2 true), none⟩,
 ⟨some 11, .call 263 [(.t 10)], none⟩,
 ⟨some 12, .call 275 [(.t 11)], none⟩,
 ⟨some 9, .p (.mv (.t 12)), none⟩,
 ⟨some 13, .p (.ext (.t 9) 0), none⟩,
 ⟨some 14, .p (.ext (.t 9) 1), none⟩,
 ⟨some 4, .p (.mv (.t 13)), none⟩,
 ⟨some 5, .p (.mv (.t 14)), none⟩]
def c220_r4 : List Ins := [⟨some 15, .p (.mv (.t 4)), none⟩,
 ⟨some 2, .p (.mv (.t 15)), none⟩,
 ⟨some 3, .p (.mv (.c (.int .i64 0))), none⟩]
def c220 : XFn := { np := 1, nt := 16, res := [.t 2, .t 3], body := (.seq (.reg c220_r0) (.seq (.seq (.reg c220_r1) (.ite (.t 8) (.seq (.reg c220_r2) .ret) .skip)) (.seq (.reg c220_r3) (.seq (.reg c220_r4) .ret)))) }
def K220 (C : CRel) : Prop := ∀ (a0 : DDevice) (r : (List (List UInt8)) × Int), g220 a0 = some r → C 220 ⟨[.agg [.lst 1 (a0.held.map eU8), .lst 2 (a0.waiting.map eDSector)]], []⟩ ⟨.tup [.own 0 0 1 (r.1.map (eL 1 eU8)), .int .i64 r.2], [], []⟩
theorem F220 {C : CRel} (H216 : K216 C) (H263 : K263 C) (H275 : K275 C) (a0 : DDevice) (r : (List (List UInt8)) × Int) (h0 : g220 a0 = some r) : FnOK C c220 ⟨[.agg [.lst 1 (a0.held.map eU8), .lst 2 (a0.waiting.map eDSector)]], []⟩ ⟨.tup [.own 0 0 1 (r.1.map (eL 1 eU8)), .int .i64 r.2], [], []⟩ := by
  refine fn_ (Nat.le_of_ble_eq_true rfl) ?_
  refine seq_ ?_
  refine reg_ ?_
  refine st (box_ rfl trivial rfl ?_)
  refine st (nilS_ ?_)
  refine st (mvc_ trivial ?_)
  refine oe_ ?_
  refine wk_ ⟨[(1, .ptr 64 0)], [(64, [.lst 1 (a0.held.map eU8), .lst 2 (a0.waiting.map eDSector)])], []⟩ (fgk (by kernel_rfl)) ?_
  refine seq_ ?_
  refine seq_ ?_
  refine reg_ ?_
  refine st (c_ (v := .agg [.lst 1 (a0.held.map eU8), .lst 2 (a0.waiting.map eDSector)]) (cp_ ⟨trivial, trivial⟩ rfl (Nat.le_of_ble_eq_true rfl)) ?_)
  obtain ⟨r1, e2, h0⟩ := bnd h0
  refine st (call0_ (r := .bool r1) false (H216 a0 r1 e2) ⟨trivial, trivial⟩ rfl rfl (fun _ => rfl) ?_)
  refine st (c_ (cp_ ⟨trivial, trivial⟩ rfl trivial) ?_)
  refine oe_ ?_
  refine wk_ ⟨[(1, .ptr 64 0), (8, .bool (!r1))], [(64, [.lst 1 (a0.held.map eU8), .lst 2 (a0.waiting.map eDSector)])], []⟩ (fgk (by kernel_rfl)) ?_
  refine ite_ (cb := (!r1)) rfl (fun c3 => ?_) (fun c3 => ?_)
  · replace h0 := ip c3 h0
    refine seq_ ?_
    refine reg_ ?_
    refine st (nilS_ ?_)
    refine st (mvc_ trivial ?_)
    refine oe_ ?_
    refine wk_ ⟨[(2, .own 128 0 1 ([].map (eL 1 eU8))), (3, .int .i64 1)], [], []⟩ (fgk (by kernel_rfl)) ?_
    obtain rfl := Option.some.inj h0
    exact rt_ (ret_ rfl rfl rfl rfl rfl trivial)
  · replace h0 := inb c3 h0
    refine sk_ ?_
    refine wk_ ⟨[(1, .ptr 64 0)], [(64, [.lst 1 (a0.held.map eU8), .lst 2 (a0.waiting.map eDSector)])], []⟩ (fgk (by kernel_rfl)) ?_
    refine seq_ ?_
    refine reg_ ?_
    refine st (c_ (v := .agg [.lst 1 (a0.held.map eU8), .lst 2 (a0.waiting.map eDSector)]) (cp_ ⟨trivial, trivial⟩ rfl (Nat.le_of_ble_eq_true rfl)) ?_)
    obtain ⟨r4, e5, h0⟩ := bnd h0
    refine st (call0_ (r := .own 0 0 1 (r4.map eU8)) false (H263 a0 r4 e5) ⟨trivial, trivial⟩ rfl rfl (fun _ => (and_ (fl1 (fun _ => rfl)) rfl)) ?_)
    obtain ⟨r6, e7, h0⟩ := bnd h0
    refine st (call0_ (r := .tup [.own 0 0 1 (r6.1.map (eL 1 eU8)), .int .i64 r6.2]) true (H275 r4 r6 e7) ⟨trivial, trivial⟩ rfl rfl (fun h => nomatch h) ?_)
    refine sw ⟨[(12, .tup [.own 768 0 1 (r6.1.map (eL 1 eU8)), .int .i64 r6.2])], [], []⟩ (fgk (by kernel_rfl)) (mv_ rfl trivial ?_)
    refine st (c_ (cp_ ⟨trivial, trivial⟩ rfl trivial) ?_)
    refine st (c_ (cp_ ⟨trivial, trivial⟩ rfl trivial) ?_)
    refine st (mv_ rfl trivial ?_)
    refine st (mv_ rfl trivial ?_)
    refine oe_ ?_
    refine wk_ ⟨[(4, .own 768 0 1 (r6.1.map (eL 1 eU8)))], [], []⟩ (fgk (by kernel_rfl)) ?_
    refine seq_ ?_
    refine reg_ ?_
    refine st (mv_ rfl trivial ?_)
    refine st (mv_ rfl trivial ?_)
    refine st (mvc_ trivial ?_)
    refine oe_ ?_
    refine wk_ ⟨[(2, .own 768 0 1 (r6.1.map (eL 1 eU8))), (3, .int .i64 0)], [], []⟩ (fgk (by kernel_rfl)) ?_
    obtain rfl := Option.some.inj h0
    exact rt_ (ret_ rfl rfl rfl rfl rfl trivial)

/- loop.example/g00149/impl.Scan -/
def c221_r0 : List Ins := [⟨some 2, .nilS 1, none⟩,
 ⟨some 3, .p (.mv (.c (.int .i64 0))), none⟩,
 ⟨some 4, .p (.mv (.c (.int .i64 0))), none⟩]
def c221_r1 : List Ins := [⟨some 7, .p (.mv (.t 0)), none⟩,
 ⟨some 8, .call 264 [(.t 7)], none⟩,
 ⟨some 9, .p (.un .not (.t 8)), none⟩]
def c221_r2 : List Ins := [⟨some 2, .nilS 1, none⟩,
 ⟨some 3, .p (.mv (.c (.int .i64 0))), none⟩,
 ⟨some 4, .p (.mv (.c (.int .i64 2))), none⟩]
def c221_r3 : List Ins := [⟨some 11, .p (.mv (.t 0)), none⟩,
 ⟨some 12, .call 275 [(.t 11)], none⟩,
 ⟨some 10, .p (.mv (.t 12)), none⟩,
 ⟨some 13, .p (.ext (.t 10) 0), none⟩,
 ⟨some 14, .p (.ext (.t 10) 1), none⟩,
 ⟨some 5, .p (.mv (.t 13)), none⟩,
 ⟨some 6, .p (.mv (.t 14)), none⟩]
def c221_r4 : List Ins := [⟨some 15, .p (.mv (.t 5)), none⟩,
 ⟨some 16, .p (.mv (.t 6)), none⟩,
 ⟨some 2, .p (.mv (.t 15)), none⟩,
 ⟨some 3, .p (.mv (.t 16)), none⟩,
 ⟨some 4, .p (.mv (.c (.int .i64 0))), none⟩]
def c221 : XFn := { np := 1, nt := 17, res := [.t 2, .t 3, .t 4], body := (.seq (.reg c221_r0) (.seq (.seq (.reg c221_r1) (.ite (.t 9) (.seq (.reg c221_r2) .ret) .skip)) (.seq (.reg c221_r3) (.seq (.reg c221_r4) .ret)))) }
def K221 (C : CRel) : Prop := ∀ (a0 : List UInt8) (r : (List (List UInt8)) × Int × Int), g221 a0 = some r → C 221 ⟨[.lst 1 (a0.map eU8)], []⟩ ⟨.tup [.own 0 0 1 (r.1.map (eL 1 eU8)), .int .i64 r.2.1, .int .i64 r.2.2], [], []⟩
theorem F221 {C : CRel} (H264 : K264 C) (H275 : K275 C) (a0 : List UInt8) (r : (List (List UInt8)) × Int × Int) (h0 : g221 a0 = some r) : FnOK C c221 ⟨[.lst 1 (a0.map eU8)], []⟩ ⟨.tup [.own 0 0 1 (r.1.map (eL 1 eU8)), .int .i64 r.2.1, .int .i64 r.2.2], [], []⟩ := by
  refine fn_ (Nat.le_of_ble_eq_true rfl) ?_
  refine seq_ ?_
  refine reg_ ?_
  refine st (nilS_ ?_)
  refine st (mvc_ trivial ?_)
  refine st (mvc_ trivial ?_)
  refine oe_ ?_
  refine wk_ ⟨[(0, .lst 1 (a0.map eU8))], [], []⟩ (fgk (by kernel_rfl)) ?_
  refine seq_ ?_
  refine seq_ ?_
  refine reg_ ?_
  refine st (mv_ rfl trivial ?_)
  obtain ⟨r1, e2, h0⟩ := bnd h0
  refine st (call0_ (r := .bool r1) false (H264 a0 r1 e2) ⟨trivial, trivial⟩ rfl rfl (fun _ => rfl) ?_)
  refine st (c_ (cp_ ⟨trivial, trivial⟩ rfl trivial) ?_)
  refine oe_ ?_
  refine wk_ ⟨[(0, .lst 1 (a0.map eU8)), (9, .bool (!r1))], [], []⟩ (fgk (by kernel_rfl)) ?_
  refine ite_ (cb := (!r1)) rfl (fun c3 => ?_) (fun c3 => ?_)
  · replace h0 := ip c3 h0
    refine seq_ ?_
    refine reg_ ?_
    refine st (nilS_ ?_)
    refine st (mvc_ trivial ?_)
    refine st (mvc_ trivial ?_)
    refine oe_ ?_
    refine wk_ ⟨[(2, .own 128 0 1 ([].map (eL 1 eU8))), (3, .int .i64 0), (4, .int .i64 2)], [], []⟩ (fgk (by kernel_rfl)) ?_
    obtain rfl := Option.some.inj h0
    exact rt_ (ret_ rfl rfl rfl rfl rfl trivial)
  · replace h0 := inb c3 h0
    refine sk_ ?_
    refine wk_ ⟨[(0, .lst 1 (a0.map eU8))], [], []⟩ (fgk (by kernel_rfl)) ?_
    refine seq_ ?_
    refine reg_ ?_
    refine st (mv_ rfl trivial ?_)
    obtain ⟨r4, e5, h0⟩ := bnd h0
    refine st (call0_ (r := .tup [.own 0 0 1 (r4.1.map (eL 1 eU8)), .int .i64 r4.2]) true (H275 a0 r4 e5) ⟨trivial, trivial⟩ rfl rfl (fun h => nomatch h) ?_)
    refine st (mv_ rfl trivial ?_)
    refine st (c_ (cp_ ⟨trivial, trivial⟩ rfl trivial) ?_)
    refine st (c_ (cp_ ⟨trivial, trivial⟩ rfl trivial) ?_)
    refine st (mv_ rfl trivial ?_)
    refine st (mv_ rfl trivial ?_)
    refine oe_ ?_
    refine wk_ ⟨[(5, .own 768 0 1 (r4.1.map (eL 1 eU8))), (6, .int .i64 r4.2)], [], []⟩ (fgk (by kernel_rfl)) ?_
    refine seq_ ?_
    refine reg_ ?_
    refine st (mv_ rfl trivial ?_)
    refine st (mv_ rfl trivial ?_)
    refine st (mv_ rfl trivial ?_)
    refine st (mv_ rfl trivial ?_)
    refine st (mvc_ trivial ?_)
    refine oe_ ?_
    refine wk_ ⟨[(2, .own 768 0 1 (r4.1.map (eL 1 eU8))), (3, .int .i64 r4.2), (4, .int .i64 0)], [], []⟩ (fgk (by kernel_rfl)) ?_
    obtain rfl := Option.some.inj h0
    exact rt_ (ret_ rfl rfl rfl rfl rfl trivial)

/- loop.example/g00149/laws.sameLists -/
def c222_r0 : List Ins := [⟨some 4, .p (.mv (.c (.bool false))), none⟩]
def c222_r1 : List Ins := [⟨some 6, .p (.mv (.t 0)), none⟩,
 ⟨some 7, .p (.len (.t 6)), none⟩,
 ⟨some 8, .p (.mv (.t 1)), none⟩,
 ⟨some 9, .p (.len (.t 8)), none⟩,
 ⟨some 10, .p (.bin .neq (.t 7) (.t 9)), none⟩]
def c222_r2 : List Ins := [⟨some 4, .p (.mv (.c (.bool false))), none⟩]
def c222_r3 : List Ins := [⟨some 5, .p (.mv (.c (.int .i64 0))), none⟩]
def c222_r4 : List Ins := [⟨some 11, .p (.mv (.t 5)), none⟩,
 ⟨some 12, .p (.mv (.t 0)), none⟩,
 ⟨some 13, .p (.len (.t 12)), none⟩,
 ⟨some 14, .p (.bin .lss (.t 11) (.t 13)), none⟩]
def c222_r5 : DP := (.take ⟨some 17, .p (.mv (.t 0)), none⟩
 (.take ⟨some 18, .p (.mv (.t 5)), none⟩
 (.take ⟨some 19, .p (.idxA (.t 17) (.t 18) 1), none⟩
 (.take ⟨some 20, .p (.load (.t 19) 1 false), none⟩
 (.take ⟨some 21, .p (.toStr (.t 20)), none⟩
 (.take ⟨some 22, .p (.mv (.t 1)), none⟩
 (.take ⟨some 23, .p (.mv (.t 5)), none⟩
 (.take ⟨some 24, .p (.idxA (.t 22) (.t 23) 1), none⟩
 (.take ⟨some 25, .p (.load (.t 24) 1 false), none⟩
 (.take ⟨some 26, .p (.toStr (.t 25)), none⟩
 (.take ⟨some 27, .p (.bin .neq (.t 21) (.t 26)), none⟩
 .fin)))))))))))
def c222_r6 : List Ins := [⟨some 4, .p (.mv (.c (.bool false))), none⟩]
def c222_r7 : List Ins := [⟨some 15, .p (.mv (.t 5)), none⟩,
 ⟨some 16, .p (.bin .add (.t 15) (.c (.int .i64 1))), none⟩,
 ⟨some 5, .p (.mv (.t 16)), none⟩]
def c222_l0 : IR := (.seq (.seq (.reg c222_r4) (.ite (.t 14) .skip (.exit 0))) (.seq (.block 1 (.seq (.draw c222_r5) (.ite (.t 27) (.seq (.reg c222_r6) .ret) .skip))) (.reg c222_r7)))
def c222_r8 : List Ins := [⟨some 4, .p (.mv (.c (.bool true))), none⟩]
def c222 : XFn := { np := 2, nt := 28, res := [.t 4], body := (.seq (.reg c222_r0) (.seq (.seq (.reg c222_r1) (.ite (.t 10) (.seq (.reg c222_r2) .ret) .skip)) (.seq (.seq (.reg c222_r3) (.block 0 (.loop c222_l0))) (.seq (.reg c222_r8) .ret)))) }
def K222 (C : CRel) : Prop := ∀ (a0 : List (List UInt8)) (a1 : List (List UInt8)) (r : Bool), g222 a0 a1 = some r → C 222 ⟨[.lst 1 (a0.map (eL 1 eU8)), .lst 1 (a1.map (eL 1 eU8))], []⟩ ⟨.bool r, [], []⟩
theorem F222 {C : CRel}  (a0 : List (List UInt8)) (a1 : List (List UInt8)) (r : Bool) (h0 : g222 a0 a1 = some r) : FnOK C c222 ⟨[.lst 1 (a0.map (eL 1 eU8)), .lst 1 (a1.map (eL 1 eU8))], []⟩ ⟨.bool r, [], []⟩ := by
  refine fn_ (Nat.le_of_ble_eq_true rfl) ?_
  refine seq_ ?_
  refine reg_ ?_
  refine st (mvc_ trivial ?_)
  refine oe_ ?_
  refine wk_ ⟨[(0, .lst 1 (a0.map (eL 1 eU8))), (1, .lst 1 (a1.map (eL 1 eU8)))], [], []⟩ (fgk (by kernel_rfl)) ?_
  refine seq_ ?_
  refine seq_ ?_
  refine reg_ ?_
  refine st (mv_ rfl trivial ?_)
  refine st (c_ (clenL (e := (eL 1 eU8)) (l0 := a0) rfl rfl trivial) ?_)
  refine st (mv_ rfl trivial ?_)
  refine st (c_ (clenL (e := (eL 1 eU8)) (l0 := a1) rfl rfl trivial) ?_)
  refine st (c_ (cp_ ⟨trivial, trivial, trivial⟩ rfl trivial) ?_)
  refine oe_ ?_
  refine wk_ ⟨[(0, .lst 1 (a0.map (eL 1 eU8))), (1, .lst 1 (a1.map (eL 1 eU8))), (10, .bool ((a0.length : Int) != (a1.length : Int)))], [], []⟩ (fgk (by kernel_rfl)) ?_
  refine ite_ (cb := ((a0.length : Int) != (a1.length : Int))) rfl (fun c1 => ?_) (fun c1 => ?_)
  · replace h0 := ip c1 h0
    refine seq_ ?_
    refine reg_ ?_
    refine st (mvc_ trivial ?_)
    refine oe_ ?_
    refine wk_ ⟨[(4, .bool false)], [], []⟩ (fgk (by kernel_rfl)) ?_
    obtain rfl := Option.some.inj h0
    exact rt_ (ret_ rfl rfl rfl rfl rfl trivial)
  · replace h0 := inb c1 h0
    refine sk_ ?_
    refine wk_ ⟨[(0, .lst 1 (a0.map (eL 1 eU8))), (1, .lst 1 (a1.map (eL 1 eU8)))], [], []⟩ (fgk (by kernel_rfl)) ?_
    refine seq_ ?_
    refine seq_ ?_
    refine reg_ ?_
    refine st (mvc_ trivial ?_)
    refine oe_ ?_
    refine wk_ ⟨[(0, .lst 1 (a0.map (eL 1 eU8))), (1, .lst 1 (a1.map (eL 1 eU8))), (5, .int .i64 0)], [], []⟩ (fgk (by kernel_rfl)) ?_
    refine block_ ?_
    obtain ⟨r22, e23, h0⟩ := bnd h0
    refine loop_ (R := (fun S => .inl () = r22 ∧ S = ⟨[], [], []⟩)) (g222_l0 a0 a1) (fun s S => match s with | p8 => S = ⟨[(0, .lst 1 (a0.map (eL 1 eU8))), (1, .lst 1 (a1.map (eL 1 eU8))), (5, .int .i64 p8)], [], []⟩) e23 ⟨[(0, .lst 1 (a0.map (eL 1 eU8))), (1, .lst 1 (a1.map (eL 1 eU8))), (5, .int .i64 0)], [], []⟩ (fgk (by kernel_rfl)) rfl 0 (fun _ => rfl) ?_ ?_
    · rintro S _ hfg ⟨rfl, rfl⟩
      refine wk_ ⟨[], [], []⟩ (fglk hfg (by kernel_rfl)) ?_
      refine seq_ ?_
      refine reg_ ?_
      refine st (mvc_ trivial ?_)
      refine oe_ ?_
      refine wk_ ⟨[(4, .bool true)], [], []⟩ (fgk (by kernel_rfl)) ?_
      obtain rfl := Option.some.inj h0
      exact rt_ (ret_ rfl rfl rfl rfl rfl trivial)
    · rintro p8 o1 _ K1 rfl h1 hx1 hK1 hE1 hR1
      refine seq_ ?_
      refine seq_ ?_
      refine reg_ ?_
      refine st (mv_ rfl trivial ?_)
      refine st (mv_ rfl trivial ?_)
      refine st (c_ (clenL (e := (eL 1 eU8)) (l0 := a0) rfl rfl trivial) ?_)
      refine st (c_ (cp_ ⟨trivial, trivial, trivial⟩ rfl trivial) ?_)
      refine oe_ ?_
      refine wk_ ⟨[(0, .lst 1 (a0.map (eL 1 eU8))), (1, .lst 1 (a1.map (eL 1 eU8))), (5, .int .i64 p8), (14, .bool (decide (p8 < (a0.length : Int))))], [], []⟩ (fgk (by kernel_rfl)) ?_
      refine ite_ (cb := (decide (p8 < (a0.length : Int)))) rfl (fun c16 => ?_) (fun c16 => ?_)
      · replace h1 := ip c16 h1
        refine sk_ ?_
        refine wk_ ⟨[(0, .lst 1 (a0.map (eL 1 eU8))), (1, .lst 1 (a1.map (eL 1 eU8))), (5, .int .i64 p8)], [], []⟩ (fgk (by kernel_rfl)) ?_
        refine seq_ ?_
        refine block_ ?_
        refine seq_ ?_
        obtain ⟨y17, e18, h1⟩ := bnd h1
        obtain ⟨y19, e20, h1⟩ := bnd h1
        refine draw_ ?_
        refine dtake trivial (mv_ rfl trivial ?_)
        refine ⟨trivial, ?_⟩
        refine dtake trivial (mv_ rfl trivial ?_)
        refine ⟨trivial, ?_⟩
        refine dtake trivial (c_ (cidxL (e := (eL 1 eU8)) (y := y17) rfl rfl trivial rfl rfl trivial e18) ?_)
        refine ⟨trivial, ?_⟩
        refine dtake trivial (c_ (cp_ ⟨trivial, trivial⟩ rfl (Nat.le_of_ble_eq_true rfl)) ?_)
        refine ⟨trivial, ?_⟩
        refine dtake trivial (c_ (ctoStrL (s := y17) rfl rfl trivial) ?_)
        refine ⟨trivial, ?_⟩
        refine dtake trivial (mv_ rfl trivial ?_)
        refine ⟨trivial, ?_⟩
        refine dtake trivial (mv_ rfl trivial ?_)
        refine ⟨trivial, ?_⟩
        refine dtake trivial (c_ (cidxL (e := (eL 1 eU8)) (y := y19) rfl rfl trivial rfl rfl trivial e20) ?_)
        refine ⟨trivial, ?_⟩
        refine dtake trivial (c_ (cp_ ⟨trivial, trivial⟩ rfl (Nat.le_of_ble_eq_true rfl)) ?_)
        refine ⟨trivial, ?_⟩
        refine dtake trivial (c_ (ctoStrL (s := y19) rfl rfl trivial) ?_)
        refine ⟨trivial, ?_⟩
        refine dtake trivial (c_ (cp_ ⟨trivial, trivial, trivial⟩ rfl trivial) ?_)
        refine ⟨trivial, ?_⟩
        refine dfin ?_
        refine wk_ ⟨[(0, .lst 1 (a0.map (eL 1 eU8))), (1, .lst 1 (a1.map (eL 1 eU8))), (5, .int .i64 p8), (27, .bool (!(y17 == y19)))], [], []⟩ (fgk (by kernel_rfl)) ?_
        refine ite_ (cb := (!(y17 == y19))) rfl (fun c21 => ?_) (fun c21 => ?_)
        · replace h1 := ip c21 h1
          refine seq_ ?_
          refine reg_ ?_
          refine st (mvc_ trivial ?_)
          refine oe_ ?_
          refine wk_ ⟨[(4, .bool false)], [], []⟩ (fgk (by kernel_rfl)) ?_
          obtain rfl := Option.some.inj h1
          obtain rfl := hx1 _ rfl
          obtain rfl := Option.some.inj h0
          exact rt_ (hR1 _ (ret_ rfl rfl rfl rfl rfl trivial))
        · replace h1 := inb c21 h1
          refine sk_ ?_
          refine bn_ ?_
          refine wk_ ⟨[(0, .lst 1 (a0.map (eL 1 eU8))), (1, .lst 1 (a1.map (eL 1 eU8))), (5, .int .i64 p8)], [], []⟩ (fgk (by kernel_rfl)) ?_
          refine reg_ ?_
          refine st (mv_ rfl trivial ?_)
          refine st (c_ (cp_ ⟨trivial, trivial, trivial⟩ rfl trivial) ?_)
          refine st (mv_ rfl trivial ?_)
          refine oe_ ?_
          obtain rfl := Option.some.inj h1
          exact hK1 _ rfl _ ⟨[(0, .lst 1 (a0.map (eL 1 eU8))), (1, .lst 1 (a1.map (eL 1 eU8))), (5, .int .i64 (IntKind.i64.wrap (p8 + 1)))], [], []⟩ (fgk (by kernel_rfl)) rfl
      · replace h1 := inb c16 h1
        obtain rfl := Option.some.inj h1
        obtain rfl := hx1 _ rfl
        refine exQ rfl ?_
        exact hE1 _ ⟨[], [], []⟩ (fgk (by kernel_rfl)) ⟨rfl, rfl⟩

/- loop.example/g00149/laws.FnLogs -/
def c202_r0 : List Ins := [⟨some 2, .p (.mv (.c (.bool false))), none⟩]
def c202_r1 : List Ins := [⟨some 16, .p (.mv (.t 0)), none⟩,
 ⟨some 17, .p (.len (.t 16)), none⟩,
 ⟨some 18, .p (.bin .gtr (.t 17) (.c (.int .i64 1048576))), none⟩]
def c202_r2 : List Ins := [⟨some 2, .p (.mv (.c (.bool true))), none⟩]
def c202_r3 : List Ins := [⟨some 19, .p (.mv (.t 0)), none⟩,
 ⟨some 20, .call 217 [(.t 19)], none⟩,
 ⟨some 3, .p (.mv (.t 20)), none⟩]
def c202_r4 : List Ins := [⟨some 21, .p (.build [(.own 1345 0 1 []), (.own 1346 0 2 [])] []), none⟩,
 ⟨some 4, .alloc [(.own 257 0 1 []), (.own 258 0 2 [])], none⟩,
 ⟨none, .store (.t 4) (.t 21) 2, none⟩]
def c202_r5 : List Ins := [⟨some 22, .mkS 1 [(.int .u8 0)] 0 [], none⟩,
 ⟨some 5, .p (.mv (.t 22)), none⟩]
def c202_r6 : List Ins := [⟨some 6, .p (.mv (.c (.int .i64 0))), none⟩]
def c202_r7 : List Ins := [⟨some 23, .p (.mv (.t 6)), none⟩,
 ⟨some 24, .p (.mv (.t 3)), none⟩,
 ⟨some 25, .p (.len (.t 24)), none⟩,
 ⟨some 26, .p (.bin .lss (.t 23) (.t 25)), none⟩]
def c202_r8 : DP := (.take ⟨some 30, .p (.load (.t 4) 2 true), none⟩
 (.take ⟨some 31, .p (.mv (.t 3)), none⟩
 (.take ⟨some 32, .p (.mv (.t 6)), none⟩
 (.take ⟨some 33, .p (.idxA (.t 31) (.t 32) 1), none⟩
 (.take ⟨some 34, .p (.load (.t 33) 1 false), none⟩
 (.alt [] ⟨some 35, .call 218 [(.t 30), (.t 34)], none⟩
 (.take ⟨some 29, .p (.mv (.t 35)), none⟩
 (.take ⟨some 36, .p (.ext (.t 29) 0), none⟩
 (.take ⟨some 37, .p (.ext (.t 29) 1), none⟩
 (.alt [⟨some 37, .p (.ext (.t 29) 1), none⟩, ⟨some 36, .p (.ext (.t 29) 0), none⟩, ⟨some 29, .p (.mv (.t 35)), none⟩] ⟨some 7, .alloc [(.own 449 0 1 []), (.own 450 0 2 [])], none⟩
 (.alt [⟨some 37, .p (.ext (.t 29) 1), none⟩] ⟨none, .store (.t 7) (.t 36) 2, none⟩
 (.take ⟨some 8, .p (.mv (.t 37)), none⟩
 .fin)
 .stop)
 .stop))))
 (.alt [⟨some 34, .p (.load (.t 33) 1 false), none⟩, ⟨some 33, .p (.idxA (.t 31) (.t 32) 1), none⟩, ⟨some 32, .p (.mv (.t 6)), none⟩, ⟨some 31, .p (.mv (.t 3)), none⟩, ⟨some 30, .p (.load (.t 4) 2 true), none⟩] ⟨some 7, .alloc [(.own 449 0 1 []), (.own 450 0 2 [])], none⟩
 (.alt [] ⟨some 35, .call 218 [(.t 30), (.t 34)], none⟩
 (.take ⟨some 29, .p (.mv (.t 35)), none⟩
 (.take ⟨some 36, .p (.ext (.t 29) 0), none⟩
 (.take ⟨some 37, .p (.ext (.t 29) 1), none⟩
 (.alt [⟨some 37, .p (.ext (.t 29) 1), none⟩] ⟨none, .store (.t 7) (.t 36) 2, none⟩
 (.take ⟨some 8, .p (.mv (.t 37)), none⟩
 .fin)
 .stop))))
 .stop)
 .stop)))))))
def c202_r9 : List Ins := [⟨some 39, .p (.mv (.t 3)), none⟩,
 ⟨some 40, .p (.mv (.t 6)), none⟩,
 ⟨some 41, .p (.idxA (.t 39) (.t 40) 1), none⟩,
 ⟨some 42, .p (.load (.t 41) 1 false), none⟩,
 ⟨some 43, .call 219 [(.t 42)], none⟩,
 ⟨some 38, .p (.mv (.t 43)), none⟩,
 ⟨some 44, .p (.ext (.t 38) 0), none⟩,
 ⟨some 45, .p (.ext (.t 38) 1), none⟩,
 ⟨some 9, .p (.mv (.t 44)), none⟩,
 ⟨some 10, .p (.mv (.t 45)), none⟩]
def c202_r10 : List Ins := [⟨some 46, .p (.mv (.t 10)), none⟩,
 ⟨some 47, .p (.bin .neq (.t 46) (.c (.int .i64 0))), none⟩,
 ⟨some 48, .p (.mv (.t 47)), none⟩,
 ⟨some 49, .p (.mv (.t 8)), some (48, false)⟩,
 ⟨some 50, .p (.bin .eql (.t 49) (.c (.int .i64 9))), some (48, false)⟩,
 ⟨some 51, .pick (.t 48) (.c (.bool true)) (.t 50), none⟩]
def c202_r11 : List Ins := [⟨some 52, .p (.mv (.t 10)), none⟩,
 ⟨some 53, .p (.bin .eql (.t 52) (.c (.int .i64 0))), none⟩,
 ⟨some 2, .p (.mv (.t 53)), none⟩]
def c202_r12 : List Ins := [⟨some 54, .p (.mv (.t 8)), none⟩,
 ⟨some 55, .p (.bin .neq (.t 54) (.c (.int .i64 0))), none⟩]
def c202_r13 : List Ins := [⟨some 2, .p (.mv (.c (.bool false))), none⟩]
def c202_r14 : List Ins := [⟨some 56, .p (.load (.t 7) 2 true), none⟩,
 ⟨none, .store (.t 4) (.t 56) 2, none⟩]
def c202_r15 : List Ins := [⟨some 57, .p (.mv (.t 5)), none⟩,
 ⟨some 58, .p (.mv (.t 9)), none⟩,
 ⟨some 59, .app 1 1 (.t 57) (.t 58), none⟩,
 ⟨some 5, .p (.mv (.t 59)), none⟩]
def c202_r16 : List Ins := [⟨some 27, .p (.mv (.t 6)), none⟩,
 ⟨some 28, .p (.bin .add (.t 27) (.c (.int .i64 1))), none⟩,
 ⟨some 6, .p (.mv (.t 28)), none⟩]
def c202_l0 : IR := (.seq (.seq (.reg c202_r7) (.ite (.t 26) .skip (.exit 0))) (.seq (.block 1 (.seq (.draw c202_r8) (.seq (.reg c202_r9) (.seq (.seq (.reg c202_r10) (.ite (.t 51) (.seq (.reg c202_r11) .ret) .skip)) (.seq (.seq (.reg c202_r12) (.ite (.t 55) (.seq (.reg c202_r13) .ret) .skip)) (.seq (.reg c202_r14) (.reg c202_r15))))))) (.reg c202_r16)))
def c202_r17 : List Ins := [⟨some 61, .p (.load (.t 4) 2 true), none⟩,
 ⟨some 62, .call 220 [(.t 61)], none⟩,
 ⟨some 60, .p (.mv (.t 62)), none⟩,
 ⟨some 63, .p (.ext (.t 60) 0), none⟩,
 ⟨some 64, .p (.ext (.t 60) 1), none⟩,
 ⟨some 11, .p (.mv (.t 63)), none⟩,
 ⟨some 12, .p (.mv (.t 64)), none⟩]
def c202_r18 : List Ins := [⟨some 66, .p (.mv (.t 5)), none⟩,
 ⟨some 67, .call 221 [(.t 66)], none⟩,
 ⟨some 65, .p (.mv (.t 67)), none⟩,
 ⟨some 68, .p (.ext (.t 65) 0), none⟩,
 ⟨some 69, .p (.ext (.t 65) 1), none⟩,
 ⟨some 70, .p (.ext (.t 65) 2), none⟩,
 ⟨some 13, .p (.mv (.t 68)), none⟩,
 ⟨some 14, .p (.mv (.t 69)), none⟩,
 ⟨some 15, .p (.mv (.t 70)), none⟩]
def c202_r19 : List Ins := [⟨some 71, .p (.mv (.t 12)), none⟩,
 ⟨some 72, .p (.bin .eql (.t 71) (.c (.int .i64 0))), none⟩,
 ⟨some 73, .p (.mv (.t 72)), none⟩,
 ⟨some 74, .p (.mv (.t 15)), some (73, true)⟩,
 ⟨some 75, .p (.bin .eql (.t 74) (.c (.int .i64 0))), some (73, true)⟩,
 ⟨some 76, .pick (.t 73) (.t 75) (.c (.bool false)), none⟩,
 ⟨some 77, .p (.mv (.t 76)), none⟩,
 ⟨some 78, .p (.mv (.t 14)), some (77, true)⟩,
 ⟨some 79, .p (.mv (.t 5)), some (77, true)⟩,
 ⟨some 80, .p (.len (.t 79)), some (77, true)⟩,
 ⟨some 81, .p (.bin .eql (.t 78) (.t 80)), some (77, true)⟩,
 ⟨some 82, .pick (.t 77) (.t 81) (.c (.bool false)), none⟩,
 ⟨some 83, .p (.mv (.t 82)), none⟩,
 ⟨some 84, .p (.mv (.t 11)), some (83, true)⟩,
 ⟨some 85, .p (.mv (.t 3)), some (83, true)⟩,
 ⟨some 86, .call 222 [(.t 84), (.t 85)], some (83, true)⟩,
 ⟨some 87, .pick (.t 83) (.t 86) (.c (.bool false)), none⟩,
 ⟨some 88, .p (.mv (.t 87)), none⟩,
 ⟨some 89, .p (.mv (.t 13)), some (88, true)⟩,
 ⟨some 90, .p (.mv (.t 3)), some (88, true)⟩,
 ⟨some 91, .call 222 [(.t 89), (.t 90)], some (88, true)⟩,
 ⟨some 92, .pick (.t 88) (.t 91) (.c (.bool false)), none⟩,
 ⟨some 2, .p (.mv (.t 92)), none⟩]
def c202 : XFn := { np := 1, nt := 93, res := [.t 2], body := (.seq (.reg c202_r0) (.seq (.seq (.reg c202_r1) (.ite (.t 18) (.seq (.reg c202_r2) .ret) .skip)) (.seq (.reg c202_r3) (.seq (.reg c202_r4) (.seq (.reg c202_r5) (.seq (.seq (.reg c202_r6) (.block 0 (.loop c202_l0))) (.seq (.reg c202_r17) (.seq (.reg c202_r18) (.seq (.reg c202_r19) .ret))))))))) }
def K202 (C : CRel) : Prop := ∀ (a0 : List UInt8) (r : Bool), g202 a0 = some r → C 202 ⟨[.lst 1 (a0.map eU8)], []⟩ ⟨.bool r, [], []⟩
theorem F202 {C : CRel} (H217 : K217 C) (H218 : K218 C) (H219 : K219 C) (H220 : K220 C) (H221 : K221 C) (H222 : K222 C) (a0 : List UInt8) (r : Bool) (h0 : g202 a0 = some r) : FnOK C c202 ⟨[.lst 1 (a0.map eU8)], []⟩ ⟨.bool r, [], []⟩ := by
  refine fn_ (Nat.le_of_ble_eq_true rfl) ?_
  refine seq_ ?_
  refine reg_ ?_
  refine st (mvc_ trivial ?_)
  refine oe_ ?_
  refine wk_ ⟨[(0, .lst 1 (a0.map eU8))], [], []⟩ (fgk (by kernel_rfl)) ?_
  refine seq_ ?_
  refine seq_ ?_
  refine reg_ ?_
  refine st (mv_ rfl trivial ?_)
  refine st (c_ (clenL (e := eU8) (l0 := a0) rfl rfl trivial) ?_)
  refine st (c_ (cp_ ⟨trivial, trivial, trivial⟩ rfl trivial) ?_)
  refine oe_ ?_
  refine wk_ ⟨[(0, .lst 1 (a0.map eU8)), (18, .bool (decide ((a0.length : Int) > 1048576)))], [], []⟩ (fgk (by kernel_rfl)) ?_
  refine ite_ (cb := (decide ((a0.length : Int) > 1048576))) rfl (fun c1 => ?_) (fun c1 => ?_)
  · replace h0 := ip c1 h0
    refine seq_ ?_
    refine reg_ ?_
    refine st (mvc_ trivial ?_)
    refine oe_ ?_
    refine wk_ ⟨[(2, .bool true)], [], []⟩ (fgk (by kernel_rfl)) ?_
    obtain rfl := Option.some.inj h0
    exact rt_ (ret_ rfl rfl rfl rfl rfl trivial)
  · replace h0 := inb c1 h0
    refine sk_ ?_
    refine wk_ ⟨[(0, .lst 1 (a0.map eU8))], [], []⟩ (fgk (by kernel_rfl)) ?_
    refine seq_ ?_
    refine reg_ ?_
    refine st (mv_ rfl trivial ?_)
    obtain ⟨r2, e3, h0⟩ := bnd h0
    refine st (call0_ (r := .own 0 0 1 (r2.map (eL 1 eU8))) true (H217 a0 r2 e3) ⟨trivial, trivial⟩ rfl rfl (fun h => nomatch h) ?_)
    refine st (mv_ rfl trivial ?_)
    refine oe_ ?_
    refine wk_ ⟨[(3, .own 1280 0 1 (r2.map (eL 1 eU8)))], [], []⟩ (fgk (by kernel_rfl)) ?_
    refine seq_ ?_
    refine reg_ ?_
    refine st (c_ (v := .agg [.own 1345 0 1 (([] : List UInt8).map eU8), .own 1346 0 2 (([] : List DSector).map eDSector)]) (cp_ trivial rfl trivial) ?_)
    refine st (alloc_ ?_)
    refine st (stp_ rfl rfl trivial rfl rfl rfl (Nat.le_of_ble_eq_true rfl) ?_)
    refine oe_ ?_
    refine wk_ ⟨[(3, .own 1280 0 1 (r2.map (eL 1 eU8))), (4, .ptr 256 0)], [(256, [.own 1345 0 1 (([] : List UInt8).map eU8), .own 1346 0 2 (([] : List DSector).map eDSector)])], []⟩ (fgk (by kernel_rfl)) ?_
    refine seq_ ?_
    refine reg_ ?_
    refine st (mkS_ trivial trivial ?_)
    refine st (mv_ rfl trivial ?_)
    refine oe_ ?_
    refine wk_ ⟨[(3, .own 1280 0 1 (r2.map (eL 1 eU8))), (4, .ptr 256 0), (5, .own 1408 0 1 (([] : List UInt8).map eU8))], [(256, [.own 1345 0 1 (([] : List UInt8).map eU8), .own 1346 0 2 (([] : List DSector).map eDSector)])], []⟩ (fgk (by kernel_rfl)) ?_
    refine seq_ ?_
    refine seq_ ?_
    refine reg_ ?_
    refine st (mvc_ trivial ?_)
    refine oe_ ?_
    refine wk_ ⟨[(3, .own 1280 0 1 (r2.map (eL 1 eU8))), (4, .ptr 256 0), (5, .own 1408 0 1 (([] : List UInt8).map eU8)), (6, .int .i64 0)], [(256, [.own 1345 0 1 (([] : List UInt8).map eU8), .own 1346 0 2 (([] : List DSector).map eDSector)])], []⟩ (fgk (by kernel_rfl)) ?_
    refine block_ ?_
    obtain ⟨r66, e67, h0⟩ := bnd h0
    refine loop_ (R := (fun S => ∃ p46 : List UInt8, ∃ p47 : List UInt8, ∃ p48 : List DSector, .inl (p46, p47, p48) = r66 ∧ S = ⟨[(3, .own 1280 0 1 (r2.map (eL 1 eU8))), (4, .ptr 256 0), (5, .own 1408 0 1 (p46.map eU8))], [(256, [.own 1345 0 1 (p47.map eU8), .own 1346 0 2 (p48.map eDSector)])], []⟩)) (g202_l0 r2) (fun s S => match s with | (p21, p22, p23, p24) => S = ⟨[(3, .own 1280 0 1 (r2.map (eL 1 eU8))), (4, .ptr 256 0), (5, .own 1408 0 1 (p21.map eU8)), (6, .int .i64 p22)], [(256, [.own 1345 0 1 (p23.map eU8), .own 1346 0 2 (p24.map eDSector)])], []⟩) e67 ⟨[(3, .own 1280 0 1 (r2.map (eL 1 eU8))), (4, .ptr 256 0), (5, .own 1408 0 1 (([] : List UInt8).map eU8)), (6, .int .i64 0)], [(256, [.own 1345 0 1 (([] : List UInt8).map eU8), .own 1346 0 2 (([] : List DSector).map eDSector)])], []⟩ (fgk (by kernel_rfl)) rfl 0 (fun _ => rfl) ?_ ?_
    · rintro S _ hfg ⟨p46, p47, p48, rfl, rfl⟩
      refine wk_ ⟨[(3, .own 1280 0 1 (r2.map (eL 1 eU8))), (4, .ptr 256 0), (5, .own 1408 0 1 (p46.map eU8))], [(256, [.own 1345 0 1 (p47.map eU8), .own 1346 0 2 (p48.map eDSector)])], []⟩ (fglk hfg (by kernel_rfl)) ?_
      refine seq_ ?_
      refine reg_ ?_
      refine st (c_ (v := .agg [.own 1345 0 1 (p47.map eU8), .own 1346 0 2 (p48.map eDSector)]) (cp_ ⟨trivial, trivial⟩ rfl (Nat.le_of_ble_eq_true rfl)) ?_)
      obtain ⟨r68, e69, h0⟩ := bnd h0
      refine st (call0_ (r := .tup [.own 0 0 1 (r68.1.map (eL 1 eU8)), .int .i64 r68.2]) true (H220 (DDevice.mk p47 p48) r68 e69) ⟨trivial, trivial⟩ rfl rfl (fun h => nomatch h) ?_)
      refine sw ⟨[(3, .own 1280 0 1 (r2.map (eL 1 eU8))), (5, .own 1408 0 1 (p46.map eU8)), (62, .tup [.own 3968 0 1 (r68.1.map (eL 1 eU8)), .int .i64 r68.2])], [], []⟩ (fgk (by kernel_rfl)) (mv_ rfl trivial ?_)
      refine st (c_ (cp_ ⟨trivial, trivial⟩ rfl trivial) ?_)
      refine st (c_ (cp_ ⟨trivial, trivial⟩ rfl trivial) ?_)
      refine st (mv_ rfl trivial ?_)
      refine st (mv_ rfl trivial ?_)
      refine oe_ ?_
      refine wk_ ⟨[(3, .own 1280 0 1 (r2.map (eL 1 eU8))), (5, .own 1408 0 1 (p46.map eU8)), (11, .own 3968 0 1 (r68.1.map (eL 1 eU8))), (12, .int .i64 r68.2)], [], []⟩ (fgk (by kernel_rfl)) ?_
      refine seq_ ?_
      refine reg_ ?_
      refine st (mv_ rfl trivial ?_)
      obtain ⟨r70, e71, h0⟩ := bnd h0
      refine st (call0_ (r := .tup [.own 0 0 1 (r70.1.map (eL 1 eU8)), .int .i64 r70.2.1, .int .i64 r70.2.2]) true (H221 p46 r70 e71) ⟨trivial, trivial⟩ rfl rfl (fun h => nomatch h) ?_)
      refine sw ⟨[(3, .own 1280 0 1 (r2.map (eL 1 eU8))), (5, .lst 1 (p46.map eU8)), (11, .own 3968 0 1 (r68.1.map (eL 1 eU8))), (12, .int .i64 r68.2), (67, .tup [.own 4288 0 1 (r70.1.map (eL 1 eU8)), .int .i64 r70.2.1, .int .i64 r70.2.2])], [], []⟩ (fgk (by kernel_rfl)) (mv_ rfl trivial ?_)
      refine st (c_ (cp_ ⟨trivial, trivial⟩ rfl trivial) ?_)
      refine st (c_ (cp_ ⟨trivial, trivial⟩ rfl trivial) ?_)
      refine st (c_ (cp_ ⟨trivial, trivial⟩ rfl trivial) ?_)
      refine st (mv_ rfl trivial ?_)
      refine st (mv_ rfl trivial ?_)
      refine st (mv_ rfl trivial ?_)
      refine oe_ ?_
      refine wk_ ⟨[(3, .own 1280 0 1 (r2.map (eL 1 eU8))), (5, .lst 1 (p46.map eU8)), (11, .own 3968 0 1 (r68.1.map (eL 1 eU8))), (12, .int .i64 r68.2), (13, .own 4288 0 1 (r70.1.map (eL 1 eU8))), (14, .int .i64 r70.2.1), (15, .int .i64 r70.2.2)], [], []⟩ (fgk (by kernel_rfl)) ?_
      refine seq_ ?_
      refine reg_ ?_
      refine st (mv_ rfl trivial ?_)
      refine st (c_ (cp_ ⟨trivial, trivial, trivial⟩ rfl trivial) ?_)
      refine st (mv_ rfl trivial ?_)
      refine st (pg_ (u := .int .i64 r70.2.2) rfl (fun hg => (cmv (v := .int .i64 r70.2.2) rfl trivial)) ?_)
      refine st (pg_ (u := .bool (r70.2.2 == 0)) rfl (fun hg => (cp_ ⟨(fun _ => hg), trivial, trivial⟩ rfl trivial)) ?_)
      refine st (pick_ rfl rfl rfl (fun h => eqt h) trivial rfl ?_)
      refine st (mv_ rfl trivial ?_)
      refine st (pg_ (u := .int .i64 r70.2.1) rfl (fun hg => (cmv (v := .int .i64 r70.2.1) rfl trivial)) ?_)
      refine st (pg_ (u := .lst 1 (p46.map eU8)) rfl (fun hg => (cmv (v := .lst 1 (p46.map eU8)) rfl trivial)) ?_)
      refine st (pg_ (u := .int .i64 (p46.length : Int)) rfl (fun hg => (clenL (e := eU8) (l0 := p46) rfl rfl (fun _ => hg))) ?_)
      refine st (pg_ (u := .bool (r70.2.1 == (p46.length : Int))) rfl (fun hg => (cp_ ⟨(fun _ => hg), (fun _ => hg), trivial⟩ rfl trivial)) ?_)
      refine st (pick_ rfl rfl rfl (fun h => eqt h) trivial rfl ?_)
      refine st (mv_ rfl trivial ?_)
      refine st (pg_ (u := .own 3968 0 1 (r68.1.map (eL 1 eU8))) rfl (fun hg => (cmv (v := .own 3968 0 1 (r68.1.map (eL 1 eU8))) rfl trivial)) ?_)
      refine st (pg_ (u := .own 1280 0 1 (r2.map (eL 1 eU8))) rfl (fun hg => (cmv (v := .own 1280 0 1 (r2.map (eL 1 eU8))) rfl trivial)) ?_)
      obtain ⟨r72, e73, h0⟩ := bnd h0
      refine sw ⟨[(3, .own 1280 0 1 (r2.map (eL 1 eU8))), (13, .own 4288 0 1 (r70.1.map (eL 1 eU8))), (83, .bool (bif (bif (r68.2 == 0) then (r70.2.2 == 0) else false) then (r70.2.1 == (p46.length : Int)) else false)), (84, .may ((bif (bif (r68.2 == 0) then (r70.2.2 == 0) else false) then (r70.2.1 == (p46.length : Int)) else false) == true) (.own 3968 0 1 (r68.1.map (eL 1 eU8)))), (85, .may ((bif (bif (r68.2 == 0) then (r70.2.2 == 0) else false) then (r70.2.1 == (p46.length : Int)) else false) == true) (.own 1280 0 1 (r2.map (eL 1 eU8))))], [], []⟩ (fgk (by kernel_rfl)) (callg_ (r := .bool r72) rfl false (fun hg => H222 r68.1 r2 r72 (ip hg e73)) ⟨(fun hg => hg), (fun hg => hg), trivial⟩ (fun _ => rfl) (fun _ => rfl) (fun _ => rfl) (fun h => nomatch h) ?_)
      refine st (pick_ rfl rfl rfl (fun h => eqt h) trivial rfl ?_)
      refine st (mv_ rfl trivial ?_)
      refine st (pg_ (u := .own 4288 0 1 (r70.1.map (eL 1 eU8))) rfl (fun hg => (cmv (v := .own 4288 0 1 (r70.1.map (eL 1 eU8))) rfl trivial)) ?_)
      refine st (pg_ (u := .own 1280 0 1 (r2.map (eL 1 eU8))) rfl (fun hg => (cmv (v := .own 1280 0 1 (r2.map (eL 1 eU8))) rfl trivial)) ?_)
      obtain ⟨r74, e75, h0⟩ := bnd h0
      refine sw ⟨[(88, .bool (bif (bif (bif (r68.2 == 0) then (r70.2.2 == 0) else false) then (r70.2.1 == (p46.length : Int)) else false) then r72 else false)), (89, .may ((bif (bif (bif (r68.2 == 0) then (r70.2.2 == 0) else false) then (r70.2.1 == (p46.length : Int)) else false) then r72 else false) == true) (.own 4288 0 1 (r70.1.map (eL 1 eU8)))), (90, .may ((bif (bif (bif (r68.2 == 0) then (r70.2.2 == 0) else false) then (r70.2.1 == (p46.length : Int)) else false) then r72 else false) == true) (.own 1280 0 1 (r2.map (eL 1 eU8))))], [], []⟩ (fgk (by kernel_rfl)) (callg_ (r := .bool r74) rfl false (fun hg => H222 r70.1 r2 r74 (ip hg e75)) ⟨(fun hg => hg), (fun hg => hg), trivial⟩ (fun _ => rfl) (fun _ => rfl) (fun _ => rfl) (fun h => nomatch h) ?_)
      refine st (pick_ rfl rfl rfl (fun h => eqt h) trivial rfl ?_)
      refine st (mv_ rfl trivial ?_)
      refine oe_ ?_
      obtain ⟨v76, e77, h0⟩ := bl h0
      refine wk_ ⟨[(2, .bool v76)], [], []⟩ (fgk (by subst e77; kernel_rfl)) ?_
      obtain rfl := Option.some.inj h0
      exact rt_ (ret_ rfl rfl rfl rfl rfl trivial)
    · rintro ⟨p21, p22, p23, p24⟩ o1 _ K1 rfl h1 hx1 hK1 hE1 hR1
      refine seq_ ?_
      refine seq_ ?_
      refine reg_ ?_
      refine st (mv_ rfl trivial ?_)
      refine st (mv_ rfl trivial ?_)
      refine st (c_ (clenO (e := (eL 1 eU8)) (l0 := r2) rfl rfl trivial) ?_)
      refine st (c_ (cp_ ⟨trivial, trivial, trivial⟩ rfl trivial) ?_)
      refine oe_ ?_
      refine wk_ ⟨[(3, .own 1280 0 1 (r2.map (eL 1 eU8))), (4, .ptr 256 0), (5, .own 1408 0 1 (p21.map eU8)), (6, .int .i64 p22), (26, .bool (decide (p22 < (r2.length : Int))))], [(256, [.own 1345 0 1 (p23.map eU8), .own 1346 0 2 (p24.map eDSector)])], []⟩ (fgk (by kernel_rfl)) ?_
      refine ite_ (cb := (decide (p22 < (r2.length : Int)))) rfl (fun c49 => ?_) (fun c49 => ?_)
      · replace h1 := ip c49 h1
        refine sk_ ?_
        refine wk_ ⟨[(3, .own 1280 0 1 (r2.map (eL 1 eU8))), (4, .ptr 256 0), (5, .own 1408 0 1 (p21.map eU8)), (6, .int .i64 p22)], [(256, [.own 1345 0 1 (p23.map eU8), .own 1346 0 2 (p24.map eDSector)])], []⟩ (fgk (by kernel_rfl)) ?_
        refine seq_ ?_
        refine block_ ?_
        refine seq_ ?_
        obtain ⟨y50, e51, h1⟩ := bnd h1
        obtain ⟨y52, e53, h1⟩ := bnd h1
        obtain ⟨r54, e55, h1⟩ := bnd h1
        refine drawJ (fun S => S = ⟨[(3, .own 1280 0 1 (r2.map (eL 1 eU8))), (4, .ptr 256 0), (5, .own 1408 0 1 (p21.map eU8)), (6, .int .i64 p22), (7, .ptr 448 0), (8, .int .i64 r54.2)], [(256, [.lst 1 (p23.map eU8), .lst 2 (p24.map eDSector)]), (448, [.own 2240 0 1 (r54.1.held.map eU8), .own 2241 0 2 (r54.1.waiting.map eDSector)])], []⟩) ?_ (fun J56 => ?_)
        · rintro _ rfl
          refine seq_ ?_
          refine reg_ ?_
          refine st (mv_ rfl trivial ?_)
          refine st (mv_ rfl trivial ?_)
          obtain ⟨y57, e58, h1⟩ := bnd h1
          refine st (c_ (cidxO (e := (eL 1 eU8)) (y := y57) rfl rfl trivial rfl rfl trivial e58) ?_)
          obtain ⟨y59, e60, h1⟩ := bnd h1
          refine st (c_ (cloadO (e := (eL 1 eU8)) (y := y59) (v := .lst 1 (y59.map eU8)) rfl rfl trivial rfl rfl e60 rfl (Nat.le_of_ble_eq_true rfl) rfl) ?_)
          obtain ⟨r61, e62, h1⟩ := bnd h1
          refine st (call0_ (r := .tup [.own 0 0 1 (r61.1.map eU8), .int .i64 r61.2]) false (H219 y59 r61 e62) ⟨trivial, trivial⟩ rfl rfl (fun _ => (and_ (fl1 (fun _ => rfl)) (and_ rfl rfl))) ?_)
          refine st (mv_ rfl trivial ?_)
          refine st (c_ (cp_ ⟨trivial, trivial⟩ rfl trivial) ?_)
          refine st (c_ (cp_ ⟨trivial, trivial⟩ rfl trivial) ?_)
          refine st (mv_ rfl trivial ?_)
          refine st (mv_ rfl trivial ?_)
          refine oe_ ?_
          refine wk_ ⟨[(3, .own 1280 0 1 (r2.map (eL 1 eU8))), (4, .ptr 256 0), (5, .own 1408 0 1 (p21.map eU8)), (6, .int .i64 p22), (7, .ptr 448 0), (8, .int .i64 r54.2), (9, .own 2752 0 1 (r61.1.map eU8)), (10, .int .i64 r61.2)], [(256, [.lst 1 (p23.map eU8), .lst 2 (p24.map eDSector)]), (448, [.own 2240 0 1 (r54.1.held.map eU8), .own 2241 0 2 (r54.1.waiting.map eDSector)])], []⟩ (fgk (by kernel_rfl)) ?_
          refine seq_ ?_
          refine seq_ ?_
          refine reg_ ?_
          refine st (mv_ rfl trivial ?_)
          refine st (c_ (cp_ ⟨trivial, trivial, trivial⟩ rfl trivial) ?_)
          refine st (mv_ rfl trivial ?_)
          refine st (pg_ (u := .int .i64 r54.2) rfl (fun hg => (cmv (v := .int .i64 r54.2) rfl trivial)) ?_)
          refine st (pg_ (u := .bool (r54.2 == 9)) rfl (fun hg => (cp_ ⟨(fun _ => hg), trivial, trivial⟩ rfl trivial)) ?_)
          refine st (pick_ rfl rfl rfl trivial (fun h => eqf h) rfl ?_)
          refine oe_ ?_
          refine wk_ ⟨[(3, .own 1280 0 1 (r2.map (eL 1 eU8))), (4, .ptr 256 0), (5, .own 1408 0 1 (p21.map eU8)), (6, .int .i64 p22), (7, .ptr 448 0), (8, .int .i64 r54.2), (9, .own 2752 0 1 (r61.1.map eU8)), (10, .int .i64 r61.2), (51, .bool (bif (r61.2 != 0) then true else (r54.2 == 9)))], [(256, [.lst 1 (p23.map eU8), .lst 2 (p24.map eDSector)]), (448, [.own 2240 0 1 (r54.1.held.map eU8), .own 2241 0 2 (r54.1.waiting.map eDSector)])], []⟩ (fgk (by kernel_rfl)) ?_
          refine ite_ (cb := (bif (r61.2 != 0) then true else (r54.2 == 9))) rfl (fun c63 => ?_) (fun c63 => ?_)
          · replace h1 := ip c63 h1
            refine seq_ ?_
            refine reg_ ?_
            refine st (mv_ rfl trivial ?_)
            refine st (c_ (cp_ ⟨trivial, trivial, trivial⟩ rfl trivial) ?_)
            refine st (mv_ rfl trivial ?_)
            refine oe_ ?_
            refine wk_ ⟨[(2, .bool (r61.2 == 0))], [], []⟩ (fgk (by kernel_rfl)) ?_
            obtain rfl := Option.some.inj h1
            obtain rfl := hx1 _ rfl
            obtain rfl := Option.some.inj h0
            exact rt_ (hR1 _ (ret_ rfl rfl rfl rfl rfl trivial))
          · replace h1 := inb c63 h1
            refine sk_ ?_
            refine wk_ ⟨[(3, .own 1280 0 1 (r2.map (eL 1 eU8))), (4, .ptr 256 0), (5, .own 1408 0 1 (p21.map eU8)), (6, .int .i64 p22), (7, .ptr 448 0), (8, .int .i64 r54.2), (9, .own 2752 0 1 (r61.1.map eU8))], [(256, [.lst 1 (p23.map eU8), .lst 2 (p24.map eDSector)]), (448, [.own 2240 0 1 (r54.1.held.map eU8), .own 2241 0 2 (r54.1.waiting.map eDSector)])], []⟩ (fgk (by kernel_rfl)) ?_
            refine seq_ ?_
            refine seq_ ?_
            refine reg_ ?_
            refine st (mv_ rfl trivial ?_)
            refine st (c_ (cp_ ⟨trivial, trivial, trivial⟩ rfl trivial) ?_)
            refine oe_ ?_
            refine wk_ ⟨[(3, .own 1280 0 1 (r2.map (eL 1 eU8))), (4, .ptr 256 0), (5, .own 1408 0 1 (p21.map eU8)), (6, .int .i64 p22), (7, .ptr 448 0), (9, .own 2752 0 1 (r61.1.map eU8)), (55, .bool (r54.2 != 0))], [(256, [.lst 1 (p23.map eU8), .lst 2 (p24.map eDSector)]), (448, [.own 2240 0 1 (r54.1.held.map eU8), .own 2241 0 2 (r54.1.waiting.map eDSector)])], []⟩ (fgk (by kernel_rfl)) ?_
            refine ite_ (cb := (r54.2 != 0)) rfl (fun c64 => ?_) (fun c64 => ?_)
            · replace h1 := ip c64 h1
              refine seq_ ?_
              refine reg_ ?_
              refine st (mvc_ trivial ?_)
              refine oe_ ?_
              refine wk_ ⟨[(2, .bool false)], [], []⟩ (fgk (by kernel_rfl)) ?_
              obtain rfl := Option.some.inj h1
              obtain rfl := hx1 _ rfl
              obtain rfl := Option.some.inj h0
              exact rt_ (hR1 _ (ret_ rfl rfl rfl rfl rfl trivial))
            · replace h1 := inb c64 h1
              refine sk_ ?_
              refine wk_ ⟨[(3, .own 1280 0 1 (r2.map (eL 1 eU8))), (4, .ptr 256 0), (5, .own 1408 0 1 (p21.map eU8)), (6, .int .i64 p22), (7, .ptr 448 0), (9, .own 2752 0 1 (r61.1.map eU8))], [(256, [.lst 1 (p23.map eU8), .lst 2 (p24.map eDSector)]), (448, [.own 2240 0 1 (r54.1.held.map eU8), .own 2241 0 2 (r54.1.waiting.map eDSector)])], []⟩ (fgk (by kernel_rfl)) ?_
              refine seq_ ?_
              refine reg_ ?_
              refine st (c_ (v := .agg [.own 2240 0 1 (r54.1.held.map eU8), .own 2241 0 2 (r54.1.waiting.map eDSector)]) (cp_ ⟨trivial, trivial⟩ rfl (Nat.le_of_ble_eq_true rfl)) ?_)
              refine st (stp_ rfl rfl trivial rfl rfl rfl (Nat.le_of_ble_eq_true rfl) ?_)
              refine oe_ ?_
              refine wk_ ⟨[(3, .own 1280 0 1 (r2.map (eL 1 eU8))), (4, .ptr 256 0), (5, .own 1408 0 1 (p21.map eU8)), (6, .int .i64 p22), (9, .own 2752 0 1 (r61.1.map eU8))], [(256, [.own 2240 0 1 (r54.1.held.map eU8), .own 2241 0 2 (r54.1.waiting.map eDSector)])], []⟩ (fgk (by kernel_rfl)) ?_
              refine reg_ ?_
              refine st (mv_ rfl trivial ?_)
              refine st (mv_ rfl trivial ?_)
              obtain ⟨c65, h1⟩ := grd h1
              refine st (app_ (e := eU8) (l0 := p21) (l1 := r61.1) rfl rfl trivial rfl (by decide) c65 ?_)
              refine st (mv_ rfl trivial ?_)
              refine oe_ ?_
              refine bn_ ?_
              refine wk_ ⟨[(3, .own 1280 0 1 (r2.map (eL 1 eU8))), (4, .ptr 256 0), (5, .own 1408 0 1 ((p21 ++ r61.1).map eU8)), (6, .int .i64 p22)], [(256, [.own 2240 0 1 (r54.1.held.map eU8), .own 2241 0 2 (r54.1.waiting.map eDSector)])], []⟩ (fgk (by kernel_rfl)) ?_
              refine reg_ ?_
              refine st (mv_ rfl trivial ?_)
              refine st (c_ (cp_ ⟨trivial, trivial, trivial⟩ rfl trivial) ?_)
              refine st (mv_ rfl trivial ?_)
              refine oe_ ?_
              obtain rfl := Option.some.inj h1
              exact hK1 _ rfl _ ⟨[(3, .own 1280 0 1 (r2.map (eL 1 eU8))), (4, .ptr 256 0), (5, .own 1408 0 1 ((p21 ++ r61.1).map eU8)), (6, .int .i64 (IntKind.i64.wrap (p22 + 1)))], [(256, [.own 1345 0 1 (r54.1.held.map eU8), .own 1346 0 2 (r54.1.waiting.map eDSector)])], []⟩ (fgsk [] [(2240, 1345), (2241, 1346)] rfl (by kernel_rfl)) rfl
        · refine dtake trivial (c_ (v := .agg [.own 1345 0 1 (p23.map eU8), .own 1346 0 2 (p24.map eDSector)]) (cp_ ⟨trivial, trivial⟩ rfl (Nat.le_of_ble_eq_true rfl)) ?_)
          refine ⟨trivial, ?_⟩
          refine dtake trivial (mv_ rfl trivial ?_)
          refine ⟨trivial, ?_⟩
          refine dtake trivial (mv_ rfl trivial ?_)
          refine ⟨trivial, ?_⟩
          refine dtake trivial (c_ (cidxO (e := (eL 1 eU8)) (y := y50) rfl rfl trivial rfl rfl trivial e51) ?_)
          refine ⟨trivial, ?_⟩
          refine dtakeO (c_ (cloadO (e := (eL 1 eU8)) (y := y52) (v := .lst 1 (y52.map eU8)) rfl rfl trivial rfl rfl e53 rfl (Nat.le_of_ble_eq_true rfl) rfl) ?_)
          refine ⟨⟨(again1 (cloadO (e := (eL 1 eU8)) (y := y52) (v := .lst 1 (y52.map eU8)) rfl rfl trivial rfl rfl e53 rfl (Nat.le_of_ble_eq_true rfl) rfl) rfl), trivial⟩, ?_⟩
          refine dalt (call0_ (r := .tup [.agg [.own 0 0 1 (r54.1.held.map eU8), .own 1 0 2 (r54.1.waiting.map eDSector)], .int .i64 r54.2]) true (H218 (DDevice.mk p23 p24) y52 r54 e55) ⟨trivial, trivial, trivial⟩ rfl rfl (fun h => nomatch h) ?_) ?_
          · refine dkw ⟨[(3, .own 1280 0 1 (r2.map (eL 1 eU8))), (4, .ptr 256 0), (5, .own 1408 0 1 (p21.map eU8)), (6, .int .i64 p22), (35, .tup [.agg [.own 2240 0 1 (r54.1.held.map eU8), .own 2241 0 2 (r54.1.waiting.map eDSector)], .int .i64 r54.2])], [(256, [.lst 1 (p23.map eU8), .lst 2 (p24.map eDSector)])], []⟩ (fgk (by kernel_rfl)) ⟨[], trivial, trivial, ?_⟩
            refine dtake trivial (mv_ rfl trivial ?_)
            refine ⟨trivial, ?_⟩
            refine dtake trivial (c_ (cp_ ⟨trivial, trivial⟩ rfl trivial) ?_)
            refine ⟨trivial, ?_⟩
            refine dtake trivial (c_ (cp_ ⟨trivial, trivial⟩ rfl trivial) ?_)
            refine ⟨trivial, ?_⟩
            refine dalt (alloc_ ?_) dstop
            refine dk0 ⟨[], ⟨⟨.inl trivial, (again1 (cp_ ⟨trivial, trivial⟩ rfl trivial) rfl)⟩, ⟨.inl trivial, (again1 (cp_ ⟨trivial, trivial⟩ rfl trivial) rfl)⟩, ⟨.inl trivial, (again1 (cmv (v := .tup [.agg [.own 2240 0 1 (r54.1.held.map eU8), .own 2241 0 2 (r54.1.waiting.map eDSector)], .int .i64 r54.2]) rfl trivial) rfl)⟩, trivial⟩, trivial, ?_⟩
            refine dalt (stp_ rfl rfl trivial rfl rfl rfl (Nat.le_of_ble_eq_true rfl) ?_) dstop
            refine dk0 ⟨[], ⟨⟨.inl trivial, (again1 (cp_ ⟨trivial, trivial⟩ rfl trivial) rfl)⟩, trivial⟩, trivial, ?_⟩
            refine dtake trivial (mv_ rfl trivial ?_)
            refine ⟨trivial, ?_⟩
            refine dfin ?_
            exact J56 _ ⟨[(3, .own 1280 0 1 (r2.map (eL 1 eU8))), (4, .ptr 256 0), (5, .own 1408 0 1 (p21.map eU8)), (6, .int .i64 p22), (7, .ptr 448 0), (8, .int .i64 r54.2)], [(256, [.lst 1 (p23.map eU8), .lst 2 (p24.map eDSector)]), (448, [.own 2240 0 1 (r54.1.held.map eU8), .own 2241 0 2 (r54.1.waiting.map eDSector)])], []⟩ (fgk (by kernel_rfl)) rfl
          · refine dalt (alloc_ ?_) dstop
            refine dk0 ⟨[⟨some 34, .p (.load (.t 33) 1 false), none⟩], ⟨⟨.inr (.head _), (again1 (cloadO (e := (eL 1 eU8)) (y := y52) (v := .lst 1 (y52.map eU8)) rfl rfl trivial rfl rfl e53 rfl (Nat.le_of_ble_eq_true rfl) rfl) rfl)⟩, ⟨.inl trivial, (again1 (cidxO (e := (eL 1 eU8)) (y := y50) rfl rfl trivial rfl rfl trivial e51) rfl)⟩, ⟨.inl trivial, (again1 (cmv (v := .int .i64 p22) rfl trivial) rfl)⟩, ⟨.inl trivial, (again1 (cmv (v := .own 1280 0 1 (r2.map (eL 1 eU8))) rfl trivial) rfl)⟩, ⟨.inl trivial, (again1 (cp_ ⟨trivial, trivial⟩ rfl (Nat.le_of_ble_eq_true rfl)) rfl)⟩, trivial⟩, ⟨(again1 (cloadO (e := (eL 1 eU8)) (y := y52) (v := .lst 1 (y52.map eU8)) rfl rfl trivial rfl rfl e53 rfl (Nat.le_of_ble_eq_true rfl) rfl) rfl), trivial⟩, ?_⟩
            refine dalt (call0_ (r := .tup [.agg [.own 0 0 1 (r54.1.held.map eU8), .own 1 0 2 (r54.1.waiting.map eDSector)], .int .i64 r54.2]) true (H218 (DDevice.mk p23 p24) y52 r54 e55) ⟨trivial, trivial, trivial⟩ rfl rfl (fun h => nomatch h) ?_) dstop
            refine dkw ⟨[(3, .own 1280 0 1 (r2.map (eL 1 eU8))), (4, .ptr 256 0), (5, .own 1408 0 1 (p21.map eU8)), (6, .int .i64 p22), (7, .ptr 448 0), (35, .tup [.agg [.own 2240 0 1 (r54.1.held.map eU8), .own 2241 0 2 (r54.1.waiting.map eDSector)], .int .i64 r54.2])], [(256, [.lst 1 (p23.map eU8), .lst 2 (p24.map eDSector)]), (448, [.own 449 0 1 (([] : List UInt8).map eU8), .own 450 0 2 (([] : List DSector).map eDSector)])], []⟩ (fgk (by kernel_rfl)) ⟨[], trivial, trivial, ?_⟩
            refine dtake trivial (mv_ rfl trivial ?_)
            refine ⟨trivial, ?_⟩
            refine dtake trivial (c_ (cp_ ⟨trivial, trivial⟩ rfl trivial) ?_)
            refine ⟨trivial, ?_⟩
            refine dtake trivial (c_ (cp_ ⟨trivial, trivial⟩ rfl trivial) ?_)
            refine ⟨trivial, ?_⟩
            refine dalt (stp_ rfl rfl trivial rfl rfl rfl (Nat.le_of_ble_eq_true rfl) ?_) dstop
            refine dk0 ⟨[], ⟨⟨.inl trivial, (again1 (cp_ ⟨trivial, trivial⟩ rfl trivial) rfl)⟩, trivial⟩, trivial, ?_⟩
            refine dtake trivial (mv_ rfl trivial ?_)
            refine ⟨trivial, ?_⟩
            refine dfin ?_
            exact J56 _ ⟨[(3, .own 1280 0 1 (r2.map (eL 1 eU8))), (4, .ptr 256 0), (5, .own 1408 0 1 (p21.map eU8)), (6, .int .i64 p22), (7, .ptr 448 0), (8, .int .i64 r54.2)], [(256, [.lst 1 (p23.map eU8), .lst 2 (p24.map eDSector)]), (448, [.own 2240 0 1 (r54.1.held.map eU8), .own 2241 0 2 (r54.1.waiting.map eDSector)])], []⟩ (fgk (by kernel_rfl)) rfl
      · replace h1 := inb c49 h1
        obtain rfl := Option.some.inj h1
        obtain rfl := hx1 _ rfl
        refine exQ rfl ?_
        exact hE1 _ ⟨[(3, .own 1280 0 1 (r2.map (eL 1 eU8))), (4, .ptr 256 0), (5, .own 1408 0 1 (p21.map eU8))], [(256, [.own 1345 0 1 (p23.map eU8), .own 1346 0 2 (p24.map eDSector)])], []⟩ (fgk (by kernel_rfl)) ⟨_, _, _, rfl, rfl⟩
end Go.Ev
