/- The walks of functions: the code comes to the answers that QgD tells. Written by a program of ours. -/
import Derived.Test.YtdmclbbhhcpjfaaQgW0
set_option linter.all false
set_option maxHeartbeats 4000000
set_option linter.unusedVariables false
set_option maxRecDepth 100000
namespace Go.Ev

/- (loop.example/g00149/impl.Device).written -/
def c265_r0 : List Ins := [⟨some 3, .box (.t 0), none⟩,
 ⟨some 6, .alloc [(.own 385 0 1 []), (.own 386 0 2 [])], none⟩,
 ⟨some 7, .p (.mv (.c (.int .i64 0))), none⟩]
def c265_r1 : List Ins := [⟨some 9, .p (.mv (.t 1)), none⟩,
 ⟨some 10, .p (.mv (.t 2)), none⟩,
 ⟨some 11, .p (.len (.t 10)), none⟩,
 ⟨some 12, .call 327 [(.t 9), (.t 11)], none⟩,
 ⟨some 13, .p (.un .not (.t 12)), none⟩]
def c265_r2 : List Ins := [⟨some 14, .p (.build [(.own 897 0 1 []), (.own 898 0 2 [])] []), none⟩,
 ⟨none, .store (.t 6) (.t 14) 2, none⟩,
 ⟨some 7, .p (.mv (.c (.int .i64 9))), none⟩]
def c265_r3 : List Ins := [⟨some 15, .p (.load (.t 3) 2 true), none⟩,
 ⟨some 16, .p (.mv (.t 1)), none⟩,
 ⟨some 17, .p (.mv (.t 2)), none⟩,
 ⟨some 18, .call 328 [(.t 15), (.t 16), (.t 17)], none⟩,
 ⟨some 8, .alloc [(.own 513 0 1 []), (.own 514 0 2 [])], none⟩,
 ⟨none, .store (.t 8) (.t 18) 2, none⟩]
def c265_r4 : List Ins := [⟨some 19, .p (.fieldA (.t 8) 1), none⟩,
 ⟨some 20, .p (.load (.t 19) 1 false), none⟩,
 ⟨some 21, .call 269 [(.t 20)], none⟩,
 ⟨some 22, .p (.un .not (.t 21)), none⟩]
def c265_r5 : List Ins := [⟨some 23, .p (.build [(.own 1473 0 1 []), (.own 1474 0 2 [])] []), none⟩,
 ⟨none, .store (.t 6) (.t 23) 2, none⟩,
 ⟨some 7, .p (.mv (.c (.int .i64 6))), none⟩]
def c265_r6 : List Ins := [⟨some 24, .p (.load (.t 8) 2 true), none⟩,
 ⟨none, .store (.t 6) (.t 24) 2, none⟩,
 ⟨some 7, .p (.mv (.c (.int .i64 0))), none⟩]
def c265 : XFn := { np := 3, nt := 25, res := [.cell 6 2 true, .t 7], body := (.seq (.reg c265_r0) (.seq (.seq (.reg c265_r1) (.ite (.t 13) (.seq (.reg c265_r2) .ret) .skip)) (.seq (.reg c265_r3) (.seq (.seq (.reg c265_r4) (.ite (.t 22) (.seq (.reg c265_r5) .ret) .skip)) (.seq (.reg c265_r6) .ret))))) }
def K265 (C : CRel) : Prop := ∀ (a0 : DDevice) (a1 : Int) (a2 : List UInt8) (r : DDevice × Int), g265 a0 a1 a2 = some r → C 265 ⟨[.agg [.lst 1 (a0.held.map eU8), .lst 2 (a0.waiting.map eDSector)], .int .i64 a1, .lst 1 (a2.map eU8)], []⟩ ⟨.tup [.agg [.own 0 0 1 (r.1.held.map eU8), .own 1 0 2 (r.1.waiting.map eDSector)], .int .i64 r.2], [], []⟩
theorem F265 {C : CRel} (H269 : K269 C) (H327 : K327 C) (H328 : K328 C) (a0 : DDevice) (a1 : Int) (a2 : List UInt8) (r : DDevice × Int) (h0 : g265 a0 a1 a2 = some r) : FnOK C c265 ⟨[.agg [.lst 1 (a0.held.map eU8), .lst 2 (a0.waiting.map eDSector)], .int .i64 a1, .lst 1 (a2.map eU8)], []⟩ ⟨.tup [.agg [.own 0 0 1 (r.1.held.map eU8), .own 1 0 2 (r.1.waiting.map eDSector)], .int .i64 r.2], [], []⟩ := by
  refine fn_ (Nat.le_of_ble_eq_true rfl) ?_
  refine seq_ ?_
  refine reg_ ?_
  refine st (box_ rfl trivial rfl ?_)
  refine st (alloc_ ?_)
  refine st (mvc_ trivial ?_)
  refine oe_ ?_
  refine wk_ ⟨[(1, .int .i64 a1), (2, .lst 1 (a2.map eU8)), (3, .ptr 192 0), (6, .ptr 384 0)], [(192, [.lst 1 (a0.held.map eU8), .lst 2 (a0.waiting.map eDSector)]), (384, [.own 385 0 1 (([] : List UInt8).map eU8), .own 386 0 2 (([] : List DSector).map eDSector)])], []⟩ (fgk (by kernel_rfl)) ?_
  refine seq_ ?_
  refine seq_ ?_
  refine reg_ ?_
  refine st (mv_ rfl trivial ?_)
  refine st (mv_ rfl trivial ?_)
  refine st (c_ (clenL (e := eU8) (l0 := a2) rfl rfl trivial) ?_)
  obtain ⟨r1, e2, h0⟩ := bnd h0
  refine st (call0_ (r := .bool r1) false (H327 a1 (a2.length : Int) r1 e2) ⟨trivial, trivial, trivial⟩ rfl rfl (fun _ => rfl) ?_)
  refine st (c_ (cp_ ⟨trivial, trivial⟩ rfl trivial) ?_)
  refine oe_ ?_
  refine wk_ ⟨[(1, .int .i64 a1), (2, .lst 1 (a2.map eU8)), (3, .ptr 192 0), (6, .ptr 384 0), (13, .bool (!r1))], [(192, [.lst 1 (a0.held.map eU8), .lst 2 (a0.waiting.map eDSector)]), (384, [.own 385 0 1 (([] : List UInt8).map eU8), .own 386 0 2 (([] : List DSector).map eDSector)])], []⟩ (fgk (by kernel_rfl)) ?_
  refine ite_ (cb := (!r1)) rfl (fun c3 => ?_) (fun c3 => ?_)
  · replace h0 := ip c3 h0
    refine seq_ ?_
    refine reg_ ?_
    refine st (c_ (v := .agg [.own 897 0 1 (([] : List UInt8).map eU8), .own 898 0 2 (([] : List DSector).map eDSector)]) (cp_ trivial rfl trivial) ?_)
    refine st (stp_ rfl rfl trivial rfl rfl rfl (Nat.le_of_ble_eq_true rfl) ?_)
    refine st (mvc_ trivial ?_)
    refine oe_ ?_
    refine wk_ ⟨[(6, .ptr 384 0), (7, .int .i64 9)], [(384, [.own 897 0 1 (([] : List UInt8).map eU8), .own 898 0 2 (([] : List DSector).map eDSector)])], []⟩ (fgk (by kernel_rfl)) ?_
    obtain rfl := Option.some.inj h0
    exact rt_ (ret_ rfl rfl rfl rfl rfl trivial)
  · replace h0 := inb c3 h0
    refine sk_ ?_
    refine wk_ ⟨[(1, .int .i64 a1), (2, .lst 1 (a2.map eU8)), (3, .ptr 192 0), (6, .ptr 384 0)], [(192, [.lst 1 (a0.held.map eU8), .lst 2 (a0.waiting.map eDSector)]), (384, [.own 385 0 1 (([] : List UInt8).map eU8), .own 386 0 2 (([] : List DSector).map eDSector)])], []⟩ (fgk (by kernel_rfl)) ?_
    refine seq_ ?_
    refine reg_ ?_
    refine st (c_ (v := .agg [.lst 1 (a0.held.map eU8), .lst 2 (a0.waiting.map eDSector)]) (cp_ ⟨trivial, trivial⟩ rfl (Nat.le_of_ble_eq_true rfl)) ?_)
    refine st (mv_ rfl trivial ?_)
    refine st (mv_ rfl trivial ?_)
    obtain ⟨r4, e5, h0⟩ := bnd h0
    refine st (call0_ (r := .agg [.own 0 0 1 (r4.held.map eU8), .own 1 0 2 (r4.waiting.map eDSector)]) true (H328 a0 a1 a2 r4 e5) ⟨trivial, trivial, trivial, trivial⟩ rfl rfl (fun h => nomatch h) ?_)
    refine st (alloc_ ?_)
    refine st (stp_ rfl rfl trivial rfl rfl rfl (Nat.le_of_ble_eq_true rfl) ?_)
    refine oe_ ?_
    refine wk_ ⟨[(6, .ptr 384 0), (8, .ptr 512 0)], [(384, [.own 385 0 1 (([] : List UInt8).map eU8), .own 386 0 2 (([] : List DSector).map eDSector)]), (512, [.own 1152 0 1 (r4.held.map eU8), .own 1153 0 2 (r4.waiting.map eDSector)])], []⟩ (fgk (by kernel_rfl)) ?_
    refine seq_ ?_
    refine seq_ ?_
    refine reg_ ?_
    refine st (c_ (cp_ ⟨trivial, trivial⟩ rfl trivial) ?_)
    refine st (c_ (cp_ ⟨trivial, trivial⟩ rfl (Nat.le_of_ble_eq_true rfl)) ?_)
    obtain ⟨r6, e7, h0⟩ := bnd h0
    refine st (call0_ (r := .bool r6) false (H269 r4.waiting r6 e7) ⟨trivial, trivial⟩ rfl rfl (fun _ => rfl) ?_)
    refine st (c_ (cp_ ⟨trivial, trivial⟩ rfl trivial) ?_)
    refine oe_ ?_
    refine wk_ ⟨[(6, .ptr 384 0), (8, .ptr 512 0), (22, .bool (!r6))], [(384, [.own 385 0 1 (([] : List UInt8).map eU8), .own 386 0 2 (([] : List DSector).map eDSector)]), (512, [.own 1152 0 1 (r4.held.map eU8), .own 1153 0 2 (r4.waiting.map eDSector)])], []⟩ (fgk (by kernel_rfl)) ?_
    refine ite_ (cb := (!r6)) rfl (fun c8 => ?_) (fun c8 => ?_)
    · replace h0 := ip c8 h0
      refine seq_ ?_
      refine reg_ ?_
      refine st (c_ (v := .agg [.own 1473 0 1 (([] : List UInt8).map eU8), .own 1474 0 2 (([] : List DSector).map eDSector)]) (cp_ trivial rfl trivial) ?_)
      refine st (stp_ rfl rfl trivial rfl rfl rfl (Nat.le_of_ble_eq_true rfl) ?_)
      refine st (mvc_ trivial ?_)
      refine oe_ ?_
      refine wk_ ⟨[(6, .ptr 384 0), (7, .int .i64 6)], [(384, [.own 1473 0 1 (([] : List UInt8).map eU8), .own 1474 0 2 (([] : List DSector).map eDSector)])], []⟩ (fgk (by kernel_rfl)) ?_
      obtain rfl := Option.some.inj h0
      exact rt_ (ret_ rfl rfl rfl rfl rfl trivial)
    · replace h0 := inb c8 h0
      refine sk_ ?_
      refine wk_ ⟨[(6, .ptr 384 0), (8, .ptr 512 0)], [(384, [.own 385 0 1 (([] : List UInt8).map eU8), .own 386 0 2 (([] : List DSector).map eDSector)]), (512, [.own 1152 0 1 (r4.held.map eU8), .own 1153 0 2 (r4.waiting.map eDSector)])], []⟩ (fgk (by kernel_rfl)) ?_
      refine seq_ ?_
      refine reg_ ?_
      refine st (c_ (v := .agg [.own 1152 0 1 (r4.held.map eU8), .own 1153 0 2 (r4.waiting.map eDSector)]) (cp_ ⟨trivial, trivial⟩ rfl (Nat.le_of_ble_eq_true rfl)) ?_)
      refine st (stp_ rfl rfl trivial rfl rfl rfl (Nat.le_of_ble_eq_true rfl) ?_)
      refine st (mvc_ trivial ?_)
      refine oe_ ?_
      refine wk_ ⟨[(6, .ptr 384 0), (7, .int .i64 0)], [(384, [.own 1152 0 1 (r4.held.map eU8), .own 1153 0 2 (r4.waiting.map eDSector)])], []⟩ (fgk (by kernel_rfl)) ?_
      obtain rfl := Option.some.inj h0
      exact rt_ (ret_ rfl rfl rfl rfl rfl trivial)

/- loop.example/g00149/impl.DeviceWrite -/
def c214_r0 : List Ins := [⟨some 3, .box (.t 0), none⟩,
 ⟨some 6, .alloc [(.own 385 0 1 []), (.own 386 0 2 [])], none⟩,
 ⟨some 7, .p (.mv (.c (.int .i64 0))), none⟩]
def c214_r1 : List Ins := [⟨some 9, .p (.mv (.t 2)), none⟩,
 ⟨some 10, .call 264 [(.t 9)], none⟩,
 ⟨some 11, .p (.un .not (.t 10)), none⟩,
 ⟨some 8, .p (.mv (.t 11)), none⟩]
def c214_r2 : List Ins := [⟨some 12, .p (.build [(.own 769 0 1 []), (.own 770 0 2 [])] []), none⟩,
 ⟨none, .store (.t 6) (.t 12) 2, none⟩,
 ⟨some 7, .p (.mv (.c (.int .i64 2))), none⟩]
def c214_r3 : List Ins := [⟨some 14, .p (.load (.t 3) 2 true), none⟩,
 ⟨some 15, .call 216 [(.t 14)], none⟩,
 ⟨some 16, .p (.un .not (.t 15)), none⟩,
 ⟨some 13, .p (.mv (.t 16)), none⟩]
def c214_r4 : List Ins := [⟨some 17, .p (.build [(.own 1089 0 1 []), (.own 1090 0 2 [])] []), none⟩,
 ⟨none, .store (.t 6) (.t 17) 2, none⟩,
 ⟨some 7, .p (.mv (.c (.int .i64 1))), none⟩]
def c214_r5 : List Ins := [⟨some 18, .p (.load (.t 3) 2 true), none⟩,
 ⟨some 19, .p (.mv (.t 1)), none⟩,
 ⟨some 20, .p (.mv (.t 2)), none⟩,
 ⟨some 21, .call 265 [(.t 18), (.t 19), (.t 20)], none⟩,
 ⟨some 22, .p (.ext (.t 21) 0), none⟩,
 ⟨some 23, .p (.ext (.t 21) 1), none⟩,
 ⟨none, .store (.t 6) (.t 22) 2, none⟩,
 ⟨some 7, .p (.mv (.t 23)), none⟩]
def c214 : XFn := { np := 3, nt := 24, res := [.cell 6 2 true, .t 7], body := (.seq (.reg c214_r0) (.seq (.block 0 (.seq (.reg c214_r1) (.ite (.t 8) (.seq (.reg c214_r2) .ret) (.seq (.reg c214_r3) (.ite (.t 13) (.seq (.reg c214_r4) .ret) .skip))))) (.seq (.reg c214_r5) .ret))) }
def K214 (C : CRel) : Prop := ∀ (a0 : DDevice) (a1 : Int) (a2 : List UInt8) (r : DDevice × Int), g214 a0 a1 a2 = some r → C 214 ⟨[.agg [.lst 1 (a0.held.map eU8), .lst 2 (a0.waiting.map eDSector)], .int .i64 a1, .lst 1 (a2.map eU8)], []⟩ ⟨.tup [.agg [.own 0 0 1 (r.1.held.map eU8), .own 1 0 2 (r.1.waiting.map eDSector)], .int .i64 r.2], [], []⟩
theorem F214 {C : CRel} (H216 : K216 C) (H264 : K264 C) (H265 : K265 C) (a0 : DDevice) (a1 : Int) (a2 : List UInt8) (r : DDevice × Int) (h0 : g214 a0 a1 a2 = some r) : FnOK C c214 ⟨[.agg [.lst 1 (a0.held.map eU8), .lst 2 (a0.waiting.map eDSector)], .int .i64 a1, .lst 1 (a2.map eU8)], []⟩ ⟨.tup [.agg [.own 0 0 1 (r.1.held.map eU8), .own 1 0 2 (r.1.waiting.map eDSector)], .int .i64 r.2], [], []⟩ := by
  refine fn_ (Nat.le_of_ble_eq_true rfl) ?_
  refine seq_ ?_
  refine reg_ ?_
  refine st (box_ rfl trivial rfl ?_)
  refine st (alloc_ ?_)
  refine st (mvc_ trivial ?_)
  refine oe_ ?_
  refine wk_ ⟨[(1, .int .i64 a1), (2, .lst 1 (a2.map eU8)), (3, .ptr 192 0), (6, .ptr 384 0)], [(192, [.lst 1 (a0.held.map eU8), .lst 2 (a0.waiting.map eDSector)]), (384, [.own 385 0 1 (([] : List UInt8).map eU8), .own 386 0 2 (([] : List DSector).map eDSector)])], []⟩ (fgk (by kernel_rfl)) ?_
  refine seq_ ?_
  refine block_ ?_
  refine seq_ ?_
  refine reg_ ?_
  refine st (mv_ rfl trivial ?_)
  obtain ⟨r1, e2, h0⟩ := bnd h0
  refine st (call0_ (r := .bool r1) false (H264 a2 r1 e2) ⟨trivial, trivial⟩ rfl rfl (fun _ => rfl) ?_)
  refine st (c_ (cp_ ⟨trivial, trivial⟩ rfl trivial) ?_)
  refine st (mv_ rfl trivial ?_)
  refine oe_ ?_
  refine wk_ ⟨[(1, .int .i64 a1), (2, .lst 1 (a2.map eU8)), (3, .ptr 192 0), (6, .ptr 384 0), (8, .bool (!r1))], [(192, [.lst 1 (a0.held.map eU8), .lst 2 (a0.waiting.map eDSector)]), (384, [.own 385 0 1 (([] : List UInt8).map eU8), .own 386 0 2 (([] : List DSector).map eDSector)])], []⟩ (fgk (by kernel_rfl)) ?_
  refine ite_ (cb := (!r1)) rfl (fun c3 => ?_) (fun c3 => ?_)
  · replace h0 := ip c3 h0
    refine seq_ ?_
    refine reg_ ?_
    refine st (c_ (v := .agg [.own 769 0 1 (([] : List UInt8).map eU8), .own 770 0 2 (([] : List DSector).map eDSector)]) (cp_ trivial rfl trivial) ?_)
    refine st (stp_ rfl rfl trivial rfl rfl rfl (Nat.le_of_ble_eq_true rfl) ?_)
    refine st (mvc_ trivial ?_)
    refine oe_ ?_
    refine wk_ ⟨[(6, .ptr 384 0), (7, .int .i64 2)], [(384, [.own 769 0 1 (([] : List UInt8).map eU8), .own 770 0 2 (([] : List DSector).map eDSector)])], []⟩ (fgk (by kernel_rfl)) ?_
    obtain rfl := Option.some.inj h0
    exact rt_ (ret_ rfl rfl rfl rfl rfl trivial)
  · replace h0 := inb c3 h0
    refine seq_ ?_
    refine reg_ ?_
    refine st (c_ (v := .agg [.lst 1 (a0.held.map eU8), .lst 2 (a0.waiting.map eDSector)]) (cp_ ⟨trivial, trivial⟩ rfl (Nat.le_of_ble_eq_true rfl)) ?_)
    obtain ⟨r4, e5, h0⟩ := bnd h0
    refine st (call0_ (r := .bool r4) false (H216 a0 r4 e5) ⟨trivial, trivial⟩ rfl rfl (fun _ => rfl) ?_)
    refine st (c_ (cp_ ⟨trivial, trivial⟩ rfl trivial) ?_)
    refine st (mv_ rfl trivial ?_)
    refine oe_ ?_
    refine wk_ ⟨[(1, .int .i64 a1), (2, .lst 1 (a2.map eU8)), (3, .ptr 192 0), (6, .ptr 384 0), (13, .bool (!r4))], [(192, [.lst 1 (a0.held.map eU8), .lst 2 (a0.waiting.map eDSector)]), (384, [.own 385 0 1 (([] : List UInt8).map eU8), .own 386 0 2 (([] : List DSector).map eDSector)])], []⟩ (fgk (by kernel_rfl)) ?_
    refine ite_ (cb := (!r4)) rfl (fun c6 => ?_) (fun c6 => ?_)
    · replace h0 := ip c6 h0
      refine seq_ ?_
      refine reg_ ?_
      refine st (c_ (v := .agg [.own 1089 0 1 (([] : List UInt8).map eU8), .own 1090 0 2 (([] : List DSector).map eDSector)]) (cp_ trivial rfl trivial) ?_)
      refine st (stp_ rfl rfl trivial rfl rfl rfl (Nat.le_of_ble_eq_true rfl) ?_)
      refine st (mvc_ trivial ?_)
      refine oe_ ?_
      refine wk_ ⟨[(6, .ptr 384 0), (7, .int .i64 1)], [(384, [.own 1089 0 1 (([] : List UInt8).map eU8), .own 1090 0 2 (([] : List DSector).map eDSector)])], []⟩ (fgk (by kernel_rfl)) ?_
      obtain rfl := Option.some.inj h0
      exact rt_ (ret_ rfl rfl rfl rfl rfl trivial)
    · replace h0 := inb c6 h0
      refine sk_ ?_
      refine bn_ ?_
      refine wk_ ⟨[(1, .int .i64 a1), (2, .lst 1 (a2.map eU8)), (3, .ptr 192 0), (6, .ptr 384 0)], [(192, [.lst 1 (a0.held.map eU8), .lst 2 (a0.waiting.map eDSector)]), (384, [.own 385 0 1 (([] : List UInt8).map eU8), .own 386 0 2 (([] : List DSector).map eDSector)])], []⟩ (fgk (by kernel_rfl)) ?_
      refine seq_ ?_
      refine reg_ ?_
      refine st (c_ (v := .agg [.lst 1 (a0.held.map eU8), .lst 2 (a0.waiting.map eDSector)]) (cp_ ⟨trivial, trivial⟩ rfl (Nat.le_of_ble_eq_true rfl)) ?_)
      refine st (mv_ rfl trivial ?_)
      refine st (mv_ rfl trivial ?_)
      obtain ⟨r7, e8, h0⟩ := bnd h0
      refine st (call0_ (r := .tup [.agg [.own 0 0 1 (r7.1.held.map eU8), .own 1 0 2 (r7.1.waiting.map eDSector)], .int .i64 r7.2]) true (H265 a0 a1 a2 r7 e8) ⟨trivial, trivial, trivial, trivial⟩ rfl rfl (fun h => nomatch h) ?_)
      refine st (c_ (cp_ ⟨trivial, trivial⟩ rfl trivial) ?_)
      refine st (c_ (cp_ ⟨trivial, trivial⟩ rfl trivial) ?_)
      refine st (stp_ rfl rfl trivial rfl rfl rfl (Nat.le_of_ble_eq_true rfl) ?_)
      refine st (mv_ rfl trivial ?_)
      refine oe_ ?_
      refine wk_ ⟨[(6, .ptr 384 0), (7, .int .i64 r7.2)], [(384, [.own 1344 0 1 (r7.1.held.map eU8), .own 1345 0 2 (r7.1.waiting.map eDSector)])], []⟩ (fgk (by kernel_rfl)) ?_
      obtain rfl := Option.some.inj h0
      exact rt_ (ret_ rfl rfl rfl rfl rfl trivial)

/- loop.example/g00149/impl.isList[loop.example/g00149/impl.DevAct] -/
def c266_r0 : List Ins := [⟨some 2, .p (.mv (.c (.bool false))), none⟩]
def c266_r1 : List Ins := [⟨some 3, .p (.mv (.t 0)), none⟩,
 ⟨some 4, .p (.len (.t 3)), none⟩,
 ⟨some 5, .p (.bin .leq (.t 4) (.c (.int .i64 4096))), none⟩,
 ⟨some 2, .p (.mv (.t 5)), none⟩]
def c266 : XFn := { np := 1, nt := 6, res := [.t 2], body := (.seq (.reg c266_r0) (.seq (.reg c266_r1) .ret)) }
def K266 (C : CRel) : Prop := ∀ (a0 : List DDevAct) (r : Bool), g266 a0 = some r → C 266 ⟨[.lst 4 (a0.map eDDevAct)], []⟩ ⟨.bool r, [], []⟩
theorem F266 {C : CRel}  (a0 : List DDevAct) (r : Bool) (h0 : g266 a0 = some r) : FnOK C c266 ⟨[.lst 4 (a0.map eDDevAct)], []⟩ ⟨.bool r, [], []⟩ := by
  refine fn_ (Nat.le_of_ble_eq_true rfl) ?_
  refine seq_ ?_
  refine reg_ ?_
  refine st (mvc_ trivial ?_)
  refine oe_ ?_
  refine wk_ ⟨[(0, .lst 4 (a0.map eDDevAct))], [], []⟩ (fgk (by kernel_rfl)) ?_
  refine seq_ ?_
  refine reg_ ?_
  refine st (mv_ rfl trivial ?_)
  refine st (c_ (clenL (e := eDDevAct) (l0 := a0) rfl rfl trivial) ?_)
  refine st (c_ (cp_ ⟨trivial, trivial, trivial⟩ rfl trivial) ?_)
  refine st (mv_ rfl trivial ?_)
  refine oe_ ?_
  refine wk_ ⟨[(2, .bool (decide ((a0.length : Int) ≤ 4096)))], [], []⟩ (fgk (by kernel_rfl)) ?_
  obtain rfl := Option.some.inj h0
  exact rt_ (ret_ rfl rfl rfl rfl rfl trivial)

/- (loop.example/g00149/impl.Device).flush -/
def c267_r0 : List Ins := [⟨some 1, .box (.t 0), none⟩,
 ⟨some 2, .alloc [(.own 129 0 1 []), (.own 130 0 2 [])], none⟩]
def c267_r1 : List Ins := [⟨some 3, .p (.load (.t 1) 2 true), none⟩,
 ⟨some 4, .call 263 [(.t 3)], none⟩,
 ⟨some 5, .p (.build [(.own 321 0 1 []), (.own 322 0 2 [])] [(0, 1, (.t 4))]), none⟩,
 ⟨none, .store (.t 2) (.t 5) 2, none⟩]
def c267 : XFn := { np := 1, nt := 6, res := [.cell 2 2 true], body := (.seq (.reg c267_r0) (.seq (.reg c267_r1) .ret)) }
def K267 (C : CRel) : Prop := ∀ (a0 : DDevice) (r : DDevice), g267 a0 = some r → C 267 ⟨[.agg [.lst 1 (a0.held.map eU8), .lst 2 (a0.waiting.map eDSector)]], []⟩ ⟨.agg [.own 0 0 1 (r.held.map eU8), .own 1 0 2 (r.waiting.map eDSector)], [], []⟩
theorem F267 {C : CRel} (H263 : K263 C) (a0 : DDevice) (r : DDevice) (h0 : g267 a0 = some r) : FnOK C c267 ⟨[.agg [.lst 1 (a0.held.map eU8), .lst 2 (a0.waiting.map eDSector)]], []⟩ ⟨.agg [.own 0 0 1 (r.held.map eU8), .own 1 0 2 (r.waiting.map eDSector)], [], []⟩ := by
  refine fn_ (Nat.le_of_ble_eq_true rfl) ?_
  refine seq_ ?_
  refine reg_ ?_
  refine st (box_ rfl trivial rfl ?_)
  refine st (alloc_ ?_)
  refine oe_ ?_
  refine wk_ ⟨[(1, .ptr 64 0), (2, .ptr 128 0)], [(64, [.lst 1 (a0.held.map eU8), .lst 2 (a0.waiting.map eDSector)]), (128, [.own 129 0 1 (([] : List UInt8).map eU8), .own 130 0 2 (([] : List DSector).map eDSector)])], []⟩ (fgk (by kernel_rfl)) ?_
  refine seq_ ?_
  refine reg_ ?_
  refine st (c_ (v := .agg [.lst 1 (a0.held.map eU8), .lst 2 (a0.waiting.map eDSector)]) (cp_ ⟨trivial, trivial⟩ rfl (Nat.le_of_ble_eq_true rfl)) ?_)
  obtain ⟨r1, e2, h0⟩ := bnd h0
  refine st (call0_ (r := .own 0 0 1 (r1.map eU8)) false (H263 a0 r1 e2) ⟨trivial, trivial⟩ rfl rfl (fun _ => (and_ (fl1 (fun _ => rfl)) rfl)) ?_)
  refine st (c_ (v := .agg [.own 256 0 1 (r1.map eU8), .own 322 0 2 (([] : List DSector).map eDSector)]) (cp_ ⟨trivial, trivial⟩ rfl ⟨⟨rfl, rfl, Nat.le_of_ble_eq_true rfl⟩, trivial⟩) ?_)
  refine st (stp_ rfl rfl trivial rfl rfl rfl (Nat.le_of_ble_eq_true rfl) ?_)
  refine oe_ ?_
  refine wk_ ⟨[(2, .ptr 128 0)], [(128, [.own 256 0 1 (r1.map eU8), .own 322 0 2 (([] : List DSector).map eDSector)])], []⟩ (fgk (by kernel_rfl)) ?_
  obtain rfl := Option.some.inj h0
  exact rt_ (ret_ rfl rfl rfl rfl rfl trivial)

/- (loop.example/g00149/impl.Device).crash -/
def c268_r0 : List Ins := [⟨some 2, .box (.t 0), none⟩,
 ⟨some 4, .alloc [(.own 257 0 1 []), (.own 258 0 2 [])], none⟩]
def c268_r1 : List Ins := [⟨some 8, .p (.fieldA (.t 2) 0), none⟩,
 ⟨some 9, .p (.load (.t 8) 1 false), none⟩,
 ⟨some 10, .call 325 [(.t 9)], none⟩,
 ⟨some 5, .p (.mv (.t 10)), none⟩]
def c268_r2 : List Ins := [⟨some 11, .p (.fieldA (.t 2) 1), none⟩,
 ⟨some 12, .p (.load (.t 11) 1 false), none⟩,
 ⟨some 13, .p (.len (.t 12)), none⟩,
 ⟨some 14, .p (.mv (.c (.int .i64 0))), none⟩]
def c268_r3 : List Ins := [⟨some 15, .p (.bin .lss (.t 14) (.t 13)), none⟩]
def c268_r4 : List Ins := [⟨some 16, .p (.mv (.t 14)), none⟩,
 ⟨some 17, .p (.idxA (.t 12) (.t 14) 2), none⟩,
 ⟨some 18, .p (.load (.t 17) 2 true), none⟩,
 ⟨some 7, .alloc [(.int .i64 0), (.own 450 0 1 [])], none⟩,
 ⟨some 6, .p (.mv (.t 16)), none⟩,
 ⟨none, .store (.t 7) (.t 18) 2, none⟩]
def c268_r5 : List Ins := [⟨some 19, .p (.mv (.t 6)), none⟩,
 ⟨some 20, .p (.mv (.t 1)), none⟩,
 ⟨some 21, .p (.len (.t 20)), none⟩,
 ⟨some 22, .p (.bin .lss (.t 19) (.t 21)), none⟩,
 ⟨some 23, .p (.mv (.t 22)), none⟩,
 ⟨some 24, .p (.mv (.t 1)), some (23, true)⟩,
 ⟨some 25, .p (.mv (.t 6)), some (23, true)⟩,
 ⟨some 26, .p (.idxA (.t 24) (.t 25) 1), some (23, true)⟩,
 ⟨some 27, .p (.load (.t 26) 1 false), some (23, true)⟩,
 ⟨some 28, .pick (.t 23) (.t 27) (.c (.bool false)), none⟩]
def c268_r6 : List Ins := [⟨some 29, .p (.mv (.t 5)), none⟩,
 ⟨some 30, .p (.load (.t 7) 2 true), none⟩,
 ⟨some 31, .call 326 [(.t 29), (.t 30)], none⟩,
 ⟨some 5, .p (.mv (.t 31)), none⟩]
def c268_r7 : List Ins := [⟨some 32, .p (.bin .add (.t 14) (.c (.int .i64 1))), none⟩,
 ⟨some 14, .p (.mv (.t 32)), none⟩]
def c268_l0 : IR := (.seq (.reg c268_r3) (.seq (.ite (.t 15) .skip (.exit 0)) (.seq (.block 1 (.seq (.reg c268_r4) (.seq (.reg c268_r5) (.ite (.t 28) (.reg c268_r6) .skip)))) (.reg c268_r7))))
def c268_r8 : List Ins := [⟨some 33, .p (.mv (.t 5)), none⟩,
 ⟨some 34, .p (.build [(.own 2177 0 1 []), (.own 2178 0 2 [])] [(0, 1, (.t 33))]), none⟩,
 ⟨none, .store (.t 4) (.t 34) 2, none⟩]
def c268 : XFn := { np := 2, nt := 35, res := [.cell 4 2 true], body := (.seq (.reg c268_r0) (.seq (.reg c268_r1) (.seq (.seq (.reg c268_r2) (.block 0 (.loop c268_l0))) (.seq (.reg c268_r8) .ret)))) }
def K268 (C : CRel) : Prop := ∀ (a0 : DDevice) (a1 : List Bool) (r : DDevice), g268 a0 a1 = some r → C 268 ⟨[.agg [.lst 1 (a0.held.map eU8), .lst 2 (a0.waiting.map eDSector)], .lst 1 (a1.map eB)], []⟩ ⟨.agg [.own 0 0 1 (r.held.map eU8), .own 1 0 2 (r.waiting.map eDSector)], [], []⟩
theorem F268 {C : CRel} (H325 : K325 C) (H326 : K326 C) (a0 : DDevice) (a1 : List Bool) (r : DDevice) (h0 : g268 a0 a1 = some r) : FnOK C c268 ⟨[.agg [.lst 1 (a0.held.map eU8), .lst 2 (a0.waiting.map eDSector)], .lst 1 (a1.map eB)], []⟩ ⟨.agg [.own 0 0 1 (r.held.map eU8), .own 1 0 2 (r.waiting.map eDSector)], [], []⟩ := by
  refine fn_ (Nat.le_of_ble_eq_true rfl) ?_
  refine seq_ ?_
  refine reg_ ?_
  refine st (box_ rfl trivial rfl ?_)
  refine st (alloc_ ?_)
  refine oe_ ?_
  refine wk_ ⟨[(1, .lst 1 (a1.map eB)), (2, .ptr 128 0), (4, .ptr 256 0)], [(128, [.lst 1 (a0.held.map eU8), .lst 2 (a0.waiting.map eDSector)]), (256, [.own 257 0 1 (([] : List UInt8).map eU8), .own 258 0 2 (([] : List DSector).map eDSector)])], []⟩ (fgk (by kernel_rfl)) ?_
  refine seq_ ?_
  refine reg_ ?_
  refine st (c_ (cp_ ⟨trivial, trivial⟩ rfl trivial) ?_)
  refine st (c_ (cp_ ⟨trivial, trivial⟩ rfl (Nat.le_of_ble_eq_true rfl)) ?_)
  obtain ⟨r1, e2, h0⟩ := bnd h0
  refine st (call0_ (r := .own 0 0 1 (r1.map eU8)) false (H325 a0.held r1 e2) ⟨trivial, trivial⟩ rfl rfl (fun _ => (and_ (fl1 (fun _ => rfl)) rfl)) ?_)
  refine st (mv_ rfl trivial ?_)
  refine oe_ ?_
  refine wk_ ⟨[(1, .lst 1 (a1.map eB)), (2, .ptr 128 0), (4, .ptr 256 0), (5, .own 640 0 1 (r1.map eU8))], [(128, [.lst 1 (a0.held.map eU8), .lst 2 (a0.waiting.map eDSector)]), (256, [.own 257 0 1 (([] : List UInt8).map eU8), .own 258 0 2 (([] : List DSector).map eDSector)])], []⟩ (fgk (by kernel_rfl)) ?_
  refine seq_ ?_
  refine seq_ ?_
  refine reg_ ?_
  refine st (c_ (cp_ ⟨trivial, trivial⟩ rfl trivial) ?_)
  refine st (c_ (cp_ ⟨trivial, trivial⟩ rfl (Nat.le_of_ble_eq_true rfl)) ?_)
  refine st (c_ (clenL (e := eDSector) (l0 := a0.waiting) rfl rfl trivial) ?_)
  refine st (mvc_ trivial ?_)
  refine oe_ ?_
  refine wk_ ⟨[(1, .lst 1 (a1.map eB)), (4, .ptr 256 0), (5, .own 640 0 1 (r1.map eU8)), (12, .lst 2 (a0.waiting.map eDSector)), (13, .int .i64 (a0.waiting.length : Int)), (14, .int .i64 0)], [(256, [.own 257 0 1 (([] : List UInt8).map eU8), .own 258 0 2 (([] : List DSector).map eDSector)])], []⟩ (fgk (by kernel_rfl)) ?_
  refine block_ ?_
  obtain ⟨r43, e44, h0⟩ := bnd h0
  refine loop_ (R := (fun S => ∃ p25 : List UInt8, p25 = r43 ∧ S = ⟨[(4, .ptr 256 0), (5, .own 640 0 1 (p25.map eU8))], [(256, [.own 257 0 1 (([] : List UInt8).map eU8), .own 258 0 2 (([] : List DSector).map eDSector)])], []⟩)) (g268_l0 a0 a1) (fun s S => match s with | (p12, p13) => S = ⟨[(1, .lst 1 (a1.map eB)), (4, .ptr 256 0), (5, .own 640 0 1 (p12.map eU8)), (12, .lst 2 (a0.waiting.map eDSector)), (13, .int .i64 (a0.waiting.length : Int)), (14, .int .i64 p13)], [(256, [.own 257 0 1 (([] : List UInt8).map eU8), .own 258 0 2 (([] : List DSector).map eDSector)])], []⟩) e44 ⟨[(1, .lst 1 (a1.map eB)), (4, .ptr 256 0), (5, .own 640 0 1 (r1.map eU8)), (12, .lst 2 (a0.waiting.map eDSector)), (13, .int .i64 (a0.waiting.length : Int)), (14, .int .i64 0)], [(256, [.own 257 0 1 (([] : List UInt8).map eU8), .own 258 0 2 (([] : List DSector).map eDSector)])], []⟩ (fgk (by kernel_rfl)) rfl 0 (fun _ => rfl) ?_ ?_
  · rintro S _ hfg ⟨p25, rfl, rfl⟩
    refine wk_ ⟨[(4, .ptr 256 0), (5, .own 640 0 1 (p25.map eU8))], [(256, [.own 257 0 1 (([] : List UInt8).map eU8), .own 258 0 2 (([] : List DSector).map eDSector)])], []⟩ (fglk hfg (by kernel_rfl)) ?_
    refine seq_ ?_
    refine reg_ ?_
    refine st (mv_ rfl trivial ?_)
    refine st (c_ (v := .agg [.own 640 0 1 (p25.map eU8), .own 2178 0 2 (([] : List DSector).map eDSector)]) (cp_ ⟨trivial, trivial⟩ rfl ⟨⟨rfl, rfl, Nat.le_of_ble_eq_true rfl⟩, trivial⟩) ?_)
    refine st (stp_ rfl rfl trivial rfl rfl rfl (Nat.le_of_ble_eq_true rfl) ?_)
    refine oe_ ?_
    refine wk_ ⟨[(4, .ptr 256 0)], [(256, [.own 640 0 1 (p25.map eU8), .own 2178 0 2 (([] : List DSector).map eDSector)])], []⟩ (fgk (by kernel_rfl)) ?_
    obtain rfl := Option.some.inj h0
    exact rt_ (ret_ rfl rfl rfl rfl rfl trivial)
  · rintro ⟨p12, p13⟩ o1 _ K1 rfl h1 hx1 hK1 hE1 hR1
    refine seq_ ?_
    refine reg_ ?_
    refine st (c_ (cp_ ⟨trivial, trivial, trivial⟩ rfl trivial) ?_)
    refine oe_ ?_
    refine wk_ ⟨[(1, .lst 1 (a1.map eB)), (4, .ptr 256 0), (5, .own 640 0 1 (p12.map eU8)), (12, .lst 2 (a0.waiting.map eDSector)), (13, .int .i64 (a0.waiting.length : Int)), (14, .int .i64 p13), (15, .bool (decide (p13 < (a0.waiting.length : Int))))], [(256, [.own 257 0 1 (([] : List UInt8).map eU8), .own 258 0 2 (([] : List DSector).map eDSector)])], []⟩ (fgk (by kernel_rfl)) ?_
    refine seq_ ?_
    refine ite_ (cb := (decide (p13 < (a0.waiting.length : Int)))) rfl (fun c26 => ?_) (fun c26 => ?_)
    · replace h1 := ip c26 h1
      refine sk_ ?_
      refine wk_ ⟨[(1, .lst 1 (a1.map eB)), (4, .ptr 256 0), (5, .own 640 0 1 (p12.map eU8)), (12, .lst 2 (a0.waiting.map eDSector)), (13, .int .i64 (a0.waiting.length : Int)), (14, .int .i64 p13)], [(256, [.own 257 0 1 (([] : List UInt8).map eU8), .own 258 0 2 (([] : List DSector).map eDSector)])], []⟩ (fgk (by kernel_rfl)) ?_
      refine seq_ ?_
      refine blockJ (fun S => ∃ p34 : List UInt8, S = ⟨[(1, .lst 1 (a1.map eB)), (4, .ptr 256 0), (5, .own 1984 0 1 (p34.map eU8)), (12, .lst 2 (a0.waiting.map eDSector)), (13, .int .i64 (a0.waiting.length : Int)), (14, .int .i64 p13)], [(256, [.own 257 0 1 (([] : List UInt8).map eU8), .own 258 0 2 (([] : List DSector).map eDSector)])], []⟩ ∧ g268_j0 p13 p34 = some o1) ?_ (fun J35 => ?_)
      · rintro _ ⟨p34, rfl, h1⟩
        refine wk_ ⟨[(1, .lst 1 (a1.map eB)), (4, .ptr 256 0), (5, .own 1984 0 1 (p34.map eU8)), (12, .lst 2 (a0.waiting.map eDSector)), (13, .int .i64 (a0.waiting.length : Int)), (14, .int .i64 p13)], [(256, [.own 257 0 1 (([] : List UInt8).map eU8), .own 258 0 2 (([] : List DSector).map eDSector)])], []⟩ (fgk (by kernel_rfl)) ?_
        refine reg_ ?_
        refine st (c_ (cp_ ⟨trivial, trivial, trivial⟩ rfl trivial) ?_)
        refine st (mv_ rfl trivial ?_)
        refine oe_ ?_
        obtain rfl := Option.some.inj h1
        exact hK1 _ rfl _ ⟨[(1, .lst 1 (a1.map eB)), (4, .ptr 256 0), (5, .own 640 0 1 (p34.map eU8)), (12, .lst 2 (a0.waiting.map eDSector)), (13, .int .i64 (a0.waiting.length : Int)), (14, .int .i64 (IntKind.i64.wrap (p13 + 1)))], [(256, [.own 257 0 1 (([] : List UInt8).map eU8), .own 258 0 2 (([] : List DSector).map eDSector)])], []⟩ (fgsk [] [(1984, 640)] rfl (by kernel_rfl)) rfl
      · refine seq_ ?_
        refine reg_ ?_
        refine st (mv_ rfl trivial ?_)
        obtain ⟨y36, e37, h1⟩ := bnd h1
        refine st (c_ (cidxL (e := eDSector) (y := y36) rfl rfl trivial rfl rfl trivial e37) ?_)
        refine st (c_ (v := .agg [.int .i64 y36.at_, .lst 1 (y36.data.map eU8)]) (cp_ ⟨trivial, trivial⟩ rfl (Nat.le_of_ble_eq_true rfl)) ?_)
        refine st (alloc_ ?_)
        refine st (mv_ rfl trivial ?_)
        refine st (stp_ rfl rfl trivial rfl rfl rfl (Nat.le_of_ble_eq_true rfl) ?_)
        refine oe_ ?_
        refine wk_ ⟨[(1, .lst 1 (a1.map eB)), (4, .ptr 256 0), (5, .own 640 0 1 (p12.map eU8)), (6, .int .i64 p13), (7, .ptr 448 0), (12, .lst 2 (a0.waiting.map eDSector)), (13, .int .i64 (a0.waiting.length : Int)), (14, .int .i64 p13)], [(256, [.own 257 0 1 (([] : List UInt8).map eU8), .own 258 0 2 (([] : List DSector).map eDSector)]), (448, [.int .i64 y36.at_, .lst 1 (y36.data.map eU8)])], []⟩ (fgk (by kernel_rfl)) ?_
        refine seq_ ?_
        refine reg_ ?_
        refine st (mv_ rfl trivial ?_)
        refine st (mv_ rfl trivial ?_)
        refine st (c_ (clenL (e := eB) (l0 := a1) rfl rfl trivial) ?_)
        refine st (c_ (cp_ ⟨trivial, trivial, trivial⟩ rfl trivial) ?_)
        refine st (mv_ rfl trivial ?_)
        refine st (pg_ (u := .lst 1 (a1.map eB)) rfl (fun hg => (cmv (v := .lst 1 (a1.map eB)) rfl trivial)) ?_)
        refine st (pg_ (u := .int .i64 p13) rfl (fun hg => (cmv (v := .int .i64 p13) rfl trivial)) ?_)
        obtain ⟨y38, e39, h1⟩ := bnd h1
        refine st (pg_ (u := .iptr [.bool y38]) rfl (fun hg => (cidxL (e := eB) (y := y38) rfl rfl (fun _ => hg) rfl rfl (fun _ => hg) (ip hg e39))) ?_)
        refine st (pg_ (u := .bool y38) rfl (fun hg => (cp_ ⟨(fun _ => hg), trivial⟩ rfl (Nat.le_of_ble_eq_true rfl))) ?_)
        refine st (pick_ rfl rfl rfl (fun h => eqt h) trivial rfl ?_)
        refine oe_ ?_
        refine wk_ ⟨[(1, .lst 1 (a1.map eB)), (4, .ptr 256 0), (5, .own 640 0 1 (p12.map eU8)), (7, .ptr 448 0), (12, .lst 2 (a0.waiting.map eDSector)), (13, .int .i64 (a0.waiting.length : Int)), (14, .int .i64 p13), (28, .bool (bif (decide (p13 < (a1.length : Int))) then y38 else false))], [(256, [.own 257 0 1 (([] : List UInt8).map eU8), .own 258 0 2 (([] : List DSector).map eDSector)]), (448, [.int .i64 y36.at_, .lst 1 (y36.data.map eU8)])], []⟩ (fgk (by kernel_rfl)) ?_
        refine ite_ (cb := (bif (decide (p13 < (a1.length : Int))) then y38 else false)) rfl (fun c40 => ?_) (fun c40 => ?_)
        · replace h1 := ip c40 h1
          refine reg_ ?_
          refine st (mv_ rfl trivial ?_)
          refine st (c_ (v := .agg [.int .i64 y36.at_, .lst 1 (y36.data.map eU8)]) (cp_ ⟨trivial, trivial⟩ rfl (Nat.le_of_ble_eq_true rfl)) ?_)
          obtain ⟨r41, e42, h1⟩ := bnd h1
          refine st (call1_ [] [] [640] false (H326 p12 y36 r41 e42) ⟨trivial, trivial, trivial⟩ (by kernel_rfl) (by kernel_rfl) (by kernel_rfl) (by kernel_rfl) (fun _ => and_ (and_ (fl1 (fun _ => rfl)) rfl) rfl) ?_)
          refine sw ⟨[(1, .lst 1 (a1.map eB)), (4, .ptr 256 0), (12, .lst 2 (a0.waiting.map eDSector)), (13, .int .i64 (a0.waiting.length : Int)), (14, .int .i64 p13), (31, .own 1984 0 1 (r41.map eU8))], [(256, [.own 257 0 1 (([] : List UInt8).map eU8), .own 258 0 2 (([] : List DSector).map eDSector)])], []⟩ (fgk (by kernel_rfl)) (mv_ rfl trivial ?_)
          refine oe_ ?_
          refine bn_ ?_
          exact J35 _ ⟨[(1, .lst 1 (a1.map eB)), (4, .ptr 256 0), (5, .own 1984 0 1 (r41.map eU8)), (12, .lst 2 (a0.waiting.map eDSector)), (13, .int .i64 (a0.waiting.length : Int)), (14, .int .i64 p13)], [(256, [.own 257 0 1 (([] : List UInt8).map eU8), .own 258 0 2 (([] : List DSector).map eDSector)])], []⟩ (fgk (by kernel_rfl)) ⟨_, rfl, h1⟩
        · replace h1 := inb c40 h1
          refine sk_ ?_
          refine bn_ ?_
          exact J35 _ ⟨[(1, .lst 1 (a1.map eB)), (4, .ptr 256 0), (5, .own 1984 0 1 (p12.map eU8)), (12, .lst 2 (a0.waiting.map eDSector)), (13, .int .i64 (a0.waiting.length : Int)), (14, .int .i64 p13)], [(256, [.own 257 0 1 (([] : List UInt8).map eU8), .own 258 0 2 (([] : List DSector).map eDSector)])], []⟩ (fgsk [] [(640, 1984)] rfl (by kernel_rfl)) ⟨_, rfl, h1⟩
    · replace h1 := inb c26 h1
      obtain rfl := Option.some.inj h1
      obtain rfl := hx1 _ rfl
      refine exQ rfl ?_
      exact hE1 _ ⟨[(4, .ptr 256 0), (5, .own 640 0 1 (p12.map eU8))], [(256, [.own 257 0 1 (([] : List UInt8).map eU8), .own 258 0 2 (([] : List DSector).map eDSector)])], []⟩ (fgk (by kernel_rfl)) ⟨_, rfl, rfl⟩

/- loop.example/g00149/impl.DeviceRun -/
def c215_r0 : List Ins := [⟨some 2, .nilS 1, none⟩,
 ⟨some 3, .alloc [(.own 193 0 1 []), (.own 194 0 2 [])], none⟩,
 ⟨some 4, .p (.mv (.c (.int .i64 0))), none⟩]
def c215_r1 : List Ins := [⟨some 12, .p (.mv (.t 0)), none⟩,
 ⟨some 13, .call 266 [(.t 12)], none⟩,
 ⟨some 14, .p (.un .not (.t 13)), none⟩,
 ⟨some 11, .p (.mv (.t 14)), none⟩]
def c215_r2 : List Ins := [⟨some 15, .p (.build [(.own 961 0 1 []), (.own 962 0 2 [])] []), none⟩,
 ⟨some 2, .nilS 1, none⟩,
 ⟨none, .store (.t 3) (.t 15) 2, none⟩,
 ⟨some 4, .p (.mv (.c (.int .i64 2))), none⟩]
def c215_r3 : List Ins := [⟨some 17, .p (.mv (.t 0)), none⟩,
 ⟨some 18, .p (.len (.t 17)), none⟩,
 ⟨some 19, .p (.bin .gtr (.t 18) (.c (.int .i64 200))), none⟩,
 ⟨some 16, .p (.mv (.t 19)), none⟩]
def c215_r4 : List Ins := [⟨some 20, .p (.build [(.own 1281 0 1 []), (.own 1282 0 2 [])] []), none⟩,
 ⟨some 2, .nilS 1, none⟩,
 ⟨none, .store (.t 3) (.t 20) 2, none⟩,
 ⟨some 4, .p (.mv (.c (.int .i64 6))), none⟩]
def c215_r5 : List Ins := [⟨some 5, .alloc [(.own 321 0 1 []), (.own 322 0 2 [])], none⟩]
def c215_r6 : List Ins := [⟨some 6, .nilS 1, none⟩]
def c215_r7 : List Ins := [⟨some 21, .p (.mv (.t 0)), none⟩,
 ⟨some 22, .p (.len (.t 21)), none⟩,
 ⟨some 23, .p (.mv (.c (.int .i64 0))), none⟩]
def c215_r8 : List Ins := [⟨some 24, .p (.bin .lss (.t 23) (.t 22)), none⟩]
def c215_r9 : List Ins := [⟨some 25, .p (.idxA (.t 21) (.t 23) 4), none⟩,
 ⟨some 26, .p (.load (.t 25) 4 true), none⟩,
 ⟨some 8, .alloc [(.int .i64 0), (.int .i64 0), (.own 515 0 1 []), (.own 516 0 1 [])], none⟩,
 ⟨none, .store (.t 8) (.t 26) 4, none⟩]
def c215_r10 : List Ins := [⟨some 9, .p (.mv (.c (.int .i64 0))), none⟩]
def c215_r11 : List Ins := [⟨some 27, .p (.fieldA (.t 8) 0), none⟩,
 ⟨some 28, .p (.load (.t 27) 1 false), none⟩]
def c215_r12 : List Ins := [⟨some 30, .p (.bin .eql (.t 28) (.c (.int .i64 1))), none⟩,
 ⟨some 29, .p (.mv (.t 30)), none⟩]
def c215_r13 : List Ins := [⟨some 10, .alloc [(.own 641 0 1 []), (.own 642 0 2 [])], none⟩]
def c215_r14 : List Ins := [⟨some 32, .p (.load (.t 5) 2 true), none⟩,
 ⟨some 33, .p (.fieldA (.t 8) 1), none⟩,
 ⟨some 34, .p (.load (.t 33) 1 false), none⟩,
 ⟨some 35, .p (.fieldA (.t 8) 2), none⟩,
 ⟨some 36, .p (.load (.t 35) 1 false), none⟩,
 ⟨some 37, .call 265 [(.t 32), (.t 34), (.t 36)], none⟩,
 ⟨some 31, .p (.mv (.t 37)), none⟩,
 ⟨some 38, .p (.ext (.t 31) 0), none⟩,
 ⟨some 39, .p (.ext (.t 31) 1), none⟩,
 ⟨none, .store (.t 10) (.t 38) 2, none⟩,
 ⟨some 9, .p (.mv (.t 39)), none⟩]
def c215_r15 : List Ins := [⟨some 40, .p (.mv (.t 9)), none⟩,
 ⟨some 41, .p (.bin .eql (.t 40) (.c (.int .i64 0))), none⟩]
def c215_r16 : List Ins := [⟨some 42, .p (.load (.t 10) 2 true), none⟩,
 ⟨none, .store (.t 5) (.t 42) 2, none⟩]
def c215_r17 : List Ins := [⟨some 44, .p (.bin .eql (.t 28) (.c (.int .i64 2))), none⟩,
 ⟨some 43, .p (.mv (.t 44)), none⟩]
def c215_r18 : List Ins := [⟨some 45, .p (.load (.t 5) 2 true), none⟩,
 ⟨some 46, .call 267 [(.t 45)], none⟩,
 ⟨none, .store (.t 5) (.t 46) 2, none⟩]
def c215_r19 : List Ins := [⟨some 48, .p (.bin .eql (.t 28) (.c (.int .i64 3))), none⟩,
 ⟨some 47, .p (.mv (.t 48)), none⟩]
def c215_r20 : List Ins := [⟨some 49, .p (.load (.t 5) 2 true), none⟩,
 ⟨some 50, .p (.fieldA (.t 8) 3), none⟩,
 ⟨some 51, .p (.load (.t 50) 1 false), none⟩,
 ⟨some 52, .call 268 [(.t 49), (.t 51)], none⟩,
 ⟨none, .store (.t 5) (.t 52) 2, none⟩]
def c215_r21 : List Ins := [⟨some 9, .p (.mv (.c (.int .i64 16))), none⟩]
def c215_r22 : List Ins := [⟨some 53, .p (.mv (.t 6)), none⟩,
 ⟨some 54, .p (.mv (.t 9)), none⟩,
 ⟨some 55, .mkS 1 [(.int .i64 0)] 1 [(0, (.t 54))], none⟩,
 ⟨some 56, .app 1 8 (.t 53) (.t 55), none⟩,
 ⟨some 6, .p (.mv (.t 56)), none⟩]
def c215_r23 : List Ins := [⟨some 57, .p (.bin .add (.t 23) (.c (.int .i64 1))), none⟩,
 ⟨some 23, .p (.mv (.t 57)), none⟩]
def c215_l0 : IR := (.seq (.reg c215_r8) (.seq (.ite (.t 24) .skip (.exit 1)) (.seq (.block 2 (.seq (.reg c215_r9) (.seq (.reg c215_r10) (.seq (.seq (.reg c215_r11) (.block 3 (.seq (.reg c215_r12) (.ite (.t 29) (.seq (.reg c215_r13) (.seq (.reg c215_r14) (.seq (.reg c215_r15) (.ite (.t 41) (.reg c215_r16) .skip)))) (.seq (.reg c215_r17) (.ite (.t 43) (.reg c215_r18) (.seq (.reg c215_r19) (.ite (.t 47) (.reg c215_r20) (.reg c215_r21))))))))) (.reg c215_r22))))) (.reg c215_r23))))
def c215_r24 : DP := (.take ⟨some 58, .p (.mv (.t 6)), none⟩
 (.take ⟨some 59, .p (.load (.t 5) 2 true), none⟩
 (.take ⟨some 2, .p (.mv (.t 58)), none⟩
 (.alt [] ⟨none, .store (.t 3) (.t 59) 2, none⟩
 (.take ⟨some 4, .p (.mv (.c (.int .i64 0))), none⟩
 .fin)
 .stop))))
def c215 : XFn := { np := 1, nt := 60, res := [.t 2, .cell 3 2 true, .t 4], body := (.seq (.reg c215_r0) (.seq (.block 0 (.seq (.reg c215_r1) (.ite (.t 11) (.seq (.reg c215_r2) .ret) (.seq (.reg c215_r3) (.ite (.t 16) (.seq (.reg c215_r4) .ret) .skip))))) (.seq (.reg c215_r5) (.seq (.reg c215_r6) (.seq (.seq (.reg c215_r7) (.block 1 (.loop c215_l0))) (.seq (.draw c215_r24) .ret)))))) }
def K215 (C : CRel) : Prop := ∀ (a0 : List DDevAct) (r : (List Int) × DDevice × Int), g215 a0 = some r → C 215 ⟨[.lst 4 (a0.map eDDevAct)], []⟩ ⟨.tup [.own 0 0 1 (r.1.map eI), .agg [.lst 1 (r.2.1.held.map eU8), .lst 2 (r.2.1.waiting.map eDSector)], .int .i64 r.2.2], [], []⟩
theorem F215 {C : CRel} (H265 : K265 C) (H266 : K266 C) (H267 : K267 C) (H268 : K268 C) (a0 : List DDevAct) (r : (List Int) × DDevice × Int) (h0 : g215 a0 = some r) : FnOK C c215 ⟨[.lst 4 (a0.map eDDevAct)], []⟩ ⟨.tup [.own 0 0 1 (r.1.map eI), .agg [.lst 1 (r.2.1.held.map eU8), .lst 2 (r.2.1.waiting.map eDSector)], .int .i64 r.2.2], [], []⟩ := by
  refine fn_ (Nat.le_of_ble_eq_true rfl) ?_
  refine seq_ ?_
  refine reg_ ?_
  refine st (nilS_ ?_)
  refine st (alloc_ ?_)
  refine st (mvc_ trivial ?_)
  refine oe_ ?_
  refine wk_ ⟨[(0, .lst 4 (a0.map eDDevAct)), (3, .ptr 192 0)], [(192, [.own 193 0 1 (([] : List UInt8).map eU8), .own 194 0 2 (([] : List DSector).map eDSector)])], []⟩ (fgk (by kernel_rfl)) ?_
  refine seq_ ?_
  refine block_ ?_
  refine seq_ ?_
  refine reg_ ?_
  refine st (mv_ rfl trivial ?_)
  obtain ⟨r1, e2, h0⟩ := bnd h0
  refine st (call0_ (r := .bool r1) false (H266 a0 r1 e2) ⟨trivial, trivial⟩ rfl rfl (fun _ => rfl) ?_)
  refine st (c_ (cp_ ⟨trivial, trivial⟩ rfl trivial) ?_)
  refine st (mv_ rfl trivial ?_)
  refine oe_ ?_
  refine wk_ ⟨[(0, .lst 4 (a0.map eDDevAct)), (3, .ptr 192 0), (11, .bool (!r1))], [(192, [.own 193 0 1 (([] : List UInt8).map eU8), .own 194 0 2 (([] : List DSector).map eDSector)])], []⟩ (fgk (by kernel_rfl)) ?_
  refine ite_ (cb := (!r1)) rfl (fun c3 => ?_) (fun c3 => ?_)
  · replace h0 := ip c3 h0
    refine seq_ ?_
    refine reg_ ?_
    refine st (c_ (v := .agg [.own 961 0 1 (([] : List UInt8).map eU8), .own 962 0 2 (([] : List DSector).map eDSector)]) (cp_ trivial rfl trivial) ?_)
    refine st (nilS_ ?_)
    refine st (stp_ rfl rfl trivial rfl rfl rfl (Nat.le_of_ble_eq_true rfl) ?_)
    refine st (mvc_ trivial ?_)
    refine oe_ ?_
    refine wk_ ⟨[(2, .own 128 0 1 ([].map eI)), (3, .ptr 192 0), (4, .int .i64 2)], [(192, [.lst 1 (([] : List UInt8).map eU8), .lst 2 (([] : List DSector).map eDSector)])], []⟩ (fgzk [961, 962] (by kernel_rfl)) ?_
    obtain rfl := Option.some.inj h0
    exact rt_ (ret_ rfl rfl rfl rfl rfl trivial)
  · replace h0 := inb c3 h0
    refine seq_ ?_
    refine reg_ ?_
    refine st (mv_ rfl trivial ?_)
    refine st (c_ (clenL (e := eDDevAct) (l0 := a0) rfl rfl trivial) ?_)
    refine st (c_ (cp_ ⟨trivial, trivial, trivial⟩ rfl trivial) ?_)
    refine st (mv_ rfl trivial ?_)
    refine oe_ ?_
    refine wk_ ⟨[(0, .lst 4 (a0.map eDDevAct)), (3, .ptr 192 0), (16, .bool (decide ((a0.length : Int) > 200)))], [(192, [.own 193 0 1 (([] : List UInt8).map eU8), .own 194 0 2 (([] : List DSector).map eDSector)])], []⟩ (fgk (by kernel_rfl)) ?_
    refine ite_ (cb := (decide ((a0.length : Int) > 200))) rfl (fun c4 => ?_) (fun c4 => ?_)
    · replace h0 := ip c4 h0
      refine seq_ ?_
      refine reg_ ?_
      refine st (c_ (v := .agg [.own 1281 0 1 (([] : List UInt8).map eU8), .own 1282 0 2 (([] : List DSector).map eDSector)]) (cp_ trivial rfl trivial) ?_)
      refine st (nilS_ ?_)
      refine st (stp_ rfl rfl trivial rfl rfl rfl (Nat.le_of_ble_eq_true rfl) ?_)
      refine st (mvc_ trivial ?_)
      refine oe_ ?_
      refine wk_ ⟨[(2, .own 128 0 1 ([].map eI)), (3, .ptr 192 0), (4, .int .i64 6)], [(192, [.lst 1 (([] : List UInt8).map eU8), .lst 2 (([] : List DSector).map eDSector)])], []⟩ (fgzk [1281, 1282] (by kernel_rfl)) ?_
      obtain rfl := Option.some.inj h0
      exact rt_ (ret_ rfl rfl rfl rfl rfl trivial)
    · replace h0 := inb c4 h0
      refine sk_ ?_
      refine bn_ ?_
      refine wk_ ⟨[(0, .lst 4 (a0.map eDDevAct)), (3, .ptr 192 0)], [(192, [.own 193 0 1 (([] : List UInt8).map eU8), .own 194 0 2 (([] : List DSector).map eDSector)])], []⟩ (fgk (by kernel_rfl)) ?_
      refine seq_ ?_
      refine reg_ ?_
      refine st (alloc_ ?_)
      refine oe_ ?_
      refine wk_ ⟨[(0, .lst 4 (a0.map eDDevAct)), (3, .ptr 192 0), (5, .ptr 320 0)], [(192, [.own 193 0 1 (([] : List UInt8).map eU8), .own 194 0 2 (([] : List DSector).map eDSector)]), (320, [.own 321 0 1 (([] : List UInt8).map eU8), .own 322 0 2 (([] : List DSector).map eDSector)])], []⟩ (fgk (by kernel_rfl)) ?_
      refine seq_ ?_
      refine reg_ ?_
      refine st (nilS_ ?_)
      refine oe_ ?_
      refine wk_ ⟨[(0, .lst 4 (a0.map eDDevAct)), (3, .ptr 192 0), (5, .ptr 320 0), (6, .own 384 0 1 ([].map eI))], [(192, [.own 193 0 1 (([] : List UInt8).map eU8), .own 194 0 2 (([] : List DSector).map eDSector)]), (320, [.own 321 0 1 (([] : List UInt8).map eU8), .own 322 0 2 (([] : List DSector).map eDSector)])], []⟩ (fgk (by kernel_rfl)) ?_
      refine seq_ ?_
      refine seq_ ?_
      refine reg_ ?_
      refine st (mv_ rfl trivial ?_)
      refine st (c_ (clenL (e := eDDevAct) (l0 := a0) rfl rfl trivial) ?_)
      refine st (mvc_ trivial ?_)
      refine oe_ ?_
      refine wk_ ⟨[(3, .ptr 192 0), (5, .ptr 320 0), (6, .own 384 0 1 ([].map eI)), (21, .lst 4 (a0.map eDDevAct)), (22, .int .i64 (a0.length : Int)), (23, .int .i64 0)], [(192, [.own 193 0 1 (([] : List UInt8).map eU8), .own 194 0 2 (([] : List DSector).map eDSector)]), (320, [.own 321 0 1 (([] : List UInt8).map eU8), .own 322 0 2 (([] : List DSector).map eDSector)])], []⟩ (fgk (by kernel_rfl)) ?_
      refine block_ ?_
      obtain ⟨r78, e79, h0⟩ := bnd h0
      refine loop_ (R := (fun S => ∃ p47 : List Int, ∃ p48 : List UInt8, ∃ p49 : List DSector, (p47, p48, p49) = r78 ∧ S = ⟨[(3, .ptr 192 0), (5, .ptr 320 0), (6, .own 384 0 1 (p47.map eI))], [(192, [.own 193 0 1 (([] : List UInt8).map eU8), .own 194 0 2 (([] : List DSector).map eDSector)]), (320, [.lst 1 (p48.map eU8), .lst 2 (p49.map eDSector)])], []⟩)) (g215_l0 a0) (fun s S => match s with | (p22, p23, p24, p25) => S = ⟨[(3, .ptr 192 0), (5, .ptr 320 0), (6, .own 384 0 1 (p22.map eI)), (21, .lst 4 (a0.map eDDevAct)), (22, .int .i64 (a0.length : Int)), (23, .int .i64 p23)], [(192, [.own 193 0 1 (([] : List UInt8).map eU8), .own 194 0 2 (([] : List DSector).map eDSector)]), (320, [.lst 1 (p24.map eU8), .lst 2 (p25.map eDSector)])], []⟩) e79 ⟨[(3, .ptr 192 0), (5, .ptr 320 0), (6, .own 384 0 1 ([].map eI)), (21, .lst 4 (a0.map eDDevAct)), (22, .int .i64 (a0.length : Int)), (23, .int .i64 0)], [(192, [.own 193 0 1 (([] : List UInt8).map eU8), .own 194 0 2 (([] : List DSector).map eDSector)]), (320, [.lst 1 (([] : List UInt8).map eU8), .lst 2 (([] : List DSector).map eDSector)])], []⟩ (fgzk [321, 322] (by kernel_rfl)) rfl 1 (fun _ => rfl) ?_ ?_
      · rintro S _ hfg ⟨p47, p48, p49, rfl, rfl⟩
        refine wk_ ⟨[(3, .ptr 192 0), (5, .ptr 320 0), (6, .own 384 0 1 (p47.map eI))], [(192, [.own 193 0 1 (([] : List UInt8).map eU8), .own 194 0 2 (([] : List DSector).map eDSector)]), (320, [.lst 1 (p48.map eU8), .lst 2 (p49.map eDSector)])], []⟩ (fglk hfg (by kernel_rfl)) ?_
        refine seq_ ?_
        refine draw_ ?_
        refine dtake trivial (mv_ rfl trivial ?_)
        refine ⟨trivial, ?_⟩
        refine dtake trivial (c_ (v := .agg [.lst 1 (p48.map eU8), .lst 2 (p49.map eDSector)]) (cp_ ⟨trivial, trivial⟩ rfl (Nat.le_of_ble_eq_true rfl)) ?_)
        refine ⟨trivial, ?_⟩
        refine dtake trivial (mv_ rfl trivial ?_)
        refine ⟨trivial, ?_⟩
        refine dalt (stp_ rfl rfl trivial rfl rfl rfl (Nat.le_of_ble_eq_true rfl) ?_) dstop
        refine dk0 ⟨[], trivial, trivial, ?_⟩
        refine dtake trivial (mvc_ trivial ?_)
        refine ⟨trivial, ?_⟩
        refine dfin ?_
        refine wk_ ⟨[(2, .own 384 0 1 (p47.map eI)), (3, .ptr 192 0), (4, .int .i64 0)], [(192, [.lst 1 (p48.map eU8), .lst 2 (p49.map eDSector)])], []⟩ (fgk (by kernel_rfl)) ?_
        obtain rfl := Option.some.inj h0
        exact rt_ (ret_ rfl rfl rfl rfl rfl trivial)
      · rintro ⟨p22, p23, p24, p25⟩ o1 _ K1 rfl h1 hx1 hK1 hE1 hR1
        refine seq_ ?_
        refine reg_ ?_
        refine st (c_ (cp_ ⟨trivial, trivial, trivial⟩ rfl trivial) ?_)
        refine oe_ ?_
        refine wk_ ⟨[(3, .ptr 192 0), (5, .ptr 320 0), (6, .own 384 0 1 (p22.map eI)), (21, .lst 4 (a0.map eDDevAct)), (22, .int .i64 (a0.length : Int)), (23, .int .i64 p23), (24, .bool (decide (p23 < (a0.length : Int))))], [(192, [.own 193 0 1 (([] : List UInt8).map eU8), .own 194 0 2 (([] : List DSector).map eDSector)]), (320, [.lst 1 (p24.map eU8), .lst 2 (p25.map eDSector)])], []⟩ (fgk (by kernel_rfl)) ?_
        refine seq_ ?_
        refine ite_ (cb := (decide (p23 < (a0.length : Int)))) rfl (fun c50 => ?_) (fun c50 => ?_)
        · replace h1 := ip c50 h1
          refine sk_ ?_
          refine wk_ ⟨[(3, .ptr 192 0), (5, .ptr 320 0), (6, .own 384 0 1 (p22.map eI)), (21, .lst 4 (a0.map eDDevAct)), (22, .int .i64 (a0.length : Int)), (23, .int .i64 p23)], [(192, [.own 193 0 1 (([] : List UInt8).map eU8), .own 194 0 2 (([] : List DSector).map eDSector)]), (320, [.lst 1 (p24.map eU8), .lst 2 (p25.map eDSector)])], []⟩ (fgk (by kernel_rfl)) ?_
          refine seq_ ?_
          refine block_ ?_
          refine seq_ ?_
          refine reg_ ?_
          obtain ⟨y51, e52, h1⟩ := bnd h1
          refine st (c_ (cidxL (e := eDDevAct) (y := y51) rfl rfl trivial rfl rfl trivial e52) ?_)
          refine st (c_ (v := .agg [.int .i64 y51.kind, .int .i64 y51.at_, .lst 1 (y51.data.map eU8), .lst 1 (y51.keep.map eB)]) (cp_ ⟨trivial, trivial⟩ rfl (Nat.le_of_ble_eq_true rfl)) ?_)
          refine st (alloc_ ?_)
          refine st (stp_ rfl rfl trivial rfl rfl rfl (Nat.le_of_ble_eq_true rfl) ?_)
          refine oe_ ?_
          refine wk_ ⟨[(3, .ptr 192 0), (5, .ptr 320 0), (6, .own 384 0 1 (p22.map eI)), (8, .ptr 512 0), (21, .lst 4 (a0.map eDDevAct)), (22, .int .i64 (a0.length : Int)), (23, .int .i64 p23)], [(192, [.own 193 0 1 (([] : List UInt8).map eU8), .own 194 0 2 (([] : List DSector).map eDSector)]), (320, [.lst 1 (p24.map eU8), .lst 2 (p25.map eDSector)]), (512, [.int .i64 y51.kind, .int .i64 y51.at_, .lst 1 (y51.data.map eU8), .lst 1 (y51.keep.map eB)])], []⟩ (fgk (by kernel_rfl)) ?_
          refine seq_ ?_
          refine reg_ ?_
          refine st (mvc_ trivial ?_)
          refine oe_ ?_
          refine wk_ ⟨[(3, .ptr 192 0), (5, .ptr 320 0), (6, .own 384 0 1 (p22.map eI)), (8, .ptr 512 0), (9, .int .i64 0), (21, .lst 4 (a0.map eDDevAct)), (22, .int .i64 (a0.length : Int)), (23, .int .i64 p23)], [(192, [.own 193 0 1 (([] : List UInt8).map eU8), .own 194 0 2 (([] : List DSector).map eDSector)]), (320, [.lst 1 (p24.map eU8), .lst 2 (p25.map eDSector)]), (512, [.int .i64 y51.kind, .int .i64 y51.at_, .lst 1 (y51.data.map eU8), .lst 1 (y51.keep.map eB)])], []⟩ (fgk (by kernel_rfl)) ?_
          refine seq_ ?_
          refine seq_ ?_
          refine reg_ ?_
          refine st (c_ (cp_ ⟨trivial, trivial⟩ rfl trivial) ?_)
          refine st (c_ (cp_ ⟨trivial, trivial⟩ rfl (Nat.le_of_ble_eq_true rfl)) ?_)
          refine oe_ ?_
          refine wk_ ⟨[(3, .ptr 192 0), (5, .ptr 320 0), (6, .own 384 0 1 (p22.map eI)), (8, .ptr 512 0), (9, .int .i64 0), (21, .lst 4 (a0.map eDDevAct)), (22, .int .i64 (a0.length : Int)), (23, .int .i64 p23), (28, .int .i64 y51.kind)], [(192, [.own 193 0 1 (([] : List UInt8).map eU8), .own 194 0 2 (([] : List DSector).map eDSector)]), (320, [.lst 1 (p24.map eU8), .lst 2 (p25.map eDSector)]), (512, [.int .i64 y51.kind, .int .i64 y51.at_, .lst 1 (y51.data.map eU8), .lst 1 (y51.keep.map eB)])], []⟩ (fgk (by kernel_rfl)) ?_
          refine blockJ (fun S => ∃ p63 : Int, ∃ p64 : List UInt8, ∃ p65 : List DSector, S = ⟨[(3, .ptr 192 0), (5, .ptr 320 0), (6, .own 384 0 1 (p22.map eI)), (9, .int .i64 p63), (21, .lst 4 (a0.map eDDevAct)), (22, .int .i64 (a0.length : Int)), (23, .int .i64 p23)], [(192, [.own 193 0 1 (([] : List UInt8).map eU8), .own 194 0 2 (([] : List DSector).map eDSector)]), (320, [.lst 1 (p64.map eU8), .lst 2 (p65.map eDSector)])], []⟩ ∧ g215_j0 p22 p23 p63 p64 p65 = some o1) ?_ (fun J67 => ?_)
          · rintro _ ⟨p63, p64, p65, rfl, h1⟩
            refine wk_ ⟨[(3, .ptr 192 0), (5, .ptr 320 0), (6, .own 384 0 1 (p22.map eI)), (9, .int .i64 p63), (21, .lst 4 (a0.map eDDevAct)), (22, .int .i64 (a0.length : Int)), (23, .int .i64 p23)], [(192, [.own 193 0 1 (([] : List UInt8).map eU8), .own 194 0 2 (([] : List DSector).map eDSector)]), (320, [.lst 1 (p64.map eU8), .lst 2 (p65.map eDSector)])], []⟩ (fgk (by kernel_rfl)) ?_
            refine reg_ ?_
            refine st (mv_ rfl trivial ?_)
            refine st (mv_ rfl trivial ?_)
            refine st (mkS_ ⟨trivial, trivial⟩ ⟨⟨Nat.le_of_ble_eq_true rfl, rfl, rfl⟩, trivial⟩ ?_)
            obtain ⟨c66, h1⟩ := grd h1
            refine st (app_ (e := eI) (l0 := p22) (l1 := ([p63] : List Int)) rfl rfl trivial rfl (by decide) c66 ?_)
            refine st (mv_ rfl trivial ?_)
            refine oe_ ?_
            refine bn_ ?_
            refine wk_ ⟨[(3, .ptr 192 0), (5, .ptr 320 0), (6, .own 384 0 1 ((p22 ++ ([p63] : List Int)).map eI)), (21, .lst 4 (a0.map eDDevAct)), (22, .int .i64 (a0.length : Int)), (23, .int .i64 p23)], [(192, [.own 193 0 1 (([] : List UInt8).map eU8), .own 194 0 2 (([] : List DSector).map eDSector)]), (320, [.lst 1 (p64.map eU8), .lst 2 (p65.map eDSector)])], []⟩ (fgk (by kernel_rfl)) ?_
            refine reg_ ?_
            refine st (c_ (cp_ ⟨trivial, trivial, trivial⟩ rfl trivial) ?_)
            refine st (mv_ rfl trivial ?_)
            refine oe_ ?_
            obtain rfl := Option.some.inj h1
            exact hK1 _ rfl _ ⟨[(3, .ptr 192 0), (5, .ptr 320 0), (6, .own 384 0 1 ((p22 ++ ([p63] : List Int)).map eI)), (21, .lst 4 (a0.map eDDevAct)), (22, .int .i64 (a0.length : Int)), (23, .int .i64 (IntKind.i64.wrap (p23 + 1)))], [(192, [.own 193 0 1 (([] : List UInt8).map eU8), .own 194 0 2 (([] : List DSector).map eDSector)]), (320, [.lst 1 (p64.map eU8), .lst 2 (p65.map eDSector)])], []⟩ (fgk (by kernel_rfl)) rfl
          · refine seq_ ?_
            refine reg_ ?_
            refine st (c_ (cp_ ⟨trivial, trivial, trivial⟩ rfl trivial) ?_)
            refine st (mv_ rfl trivial ?_)
            refine oe_ ?_
            refine wk_ ⟨[(3, .ptr 192 0), (5, .ptr 320 0), (6, .own 384 0 1 (p22.map eI)), (8, .ptr 512 0), (9, .int .i64 0), (21, .lst 4 (a0.map eDDevAct)), (22, .int .i64 (a0.length : Int)), (23, .int .i64 p23), (28, .int .i64 y51.kind), (29, .bool (y51.kind == 1))], [(192, [.own 193 0 1 (([] : List UInt8).map eU8), .own 194 0 2 (([] : List DSector).map eDSector)]), (320, [.lst 1 (p24.map eU8), .lst 2 (p25.map eDSector)]), (512, [.int .i64 y51.kind, .int .i64 y51.at_, .lst 1 (y51.data.map eU8), .lst 1 (y51.keep.map eB)])], []⟩ (fgk (by kernel_rfl)) ?_
            refine ite_ (cb := (y51.kind == 1)) rfl (fun c68 => ?_) (fun c68 => ?_)
            · replace h1 := ip c68 h1
              refine seq_ ?_
              refine reg_ ?_
              refine st (alloc_ ?_)
              refine oe_ ?_
              refine wk_ ⟨[(3, .ptr 192 0), (5, .ptr 320 0), (6, .own 384 0 1 (p22.map eI)), (8, .ptr 512 0), (10, .ptr 640 0), (21, .lst 4 (a0.map eDDevAct)), (22, .int .i64 (a0.length : Int)), (23, .int .i64 p23)], [(192, [.own 193 0 1 (([] : List UInt8).map eU8), .own 194 0 2 (([] : List DSector).map eDSector)]), (320, [.lst 1 (p24.map eU8), .lst 2 (p25.map eDSector)]), (512, [.int .i64 y51.kind, .int .i64 y51.at_, .lst 1 (y51.data.map eU8), .lst 1 (y51.keep.map eB)]), (640, [.own 641 0 1 (([] : List UInt8).map eU8), .own 642 0 2 (([] : List DSector).map eDSector)])], []⟩ (fgk (by kernel_rfl)) ?_
              refine seq_ ?_
              refine reg_ ?_
              refine st (c_ (v := .agg [.lst 1 (p24.map eU8), .lst 2 (p25.map eDSector)]) (cp_ ⟨trivial, trivial⟩ rfl (Nat.le_of_ble_eq_true rfl)) ?_)
              refine st (c_ (cp_ ⟨trivial, trivial⟩ rfl trivial) ?_)
              refine st (c_ (cp_ ⟨trivial, trivial⟩ rfl (Nat.le_of_ble_eq_true rfl)) ?_)
              refine st (c_ (cp_ ⟨trivial, trivial⟩ rfl trivial) ?_)
              refine st (c_ (cp_ ⟨trivial, trivial⟩ rfl (Nat.le_of_ble_eq_true rfl)) ?_)
              obtain ⟨r69, e70, h1⟩ := bnd h1
              refine st (call0_ (r := .tup [.agg [.own 0 0 1 (r69.1.held.map eU8), .own 1 0 2 (r69.1.waiting.map eDSector)], .int .i64 r69.2]) true (H265 (DDevice.mk p24 p25) y51.at_ y51.data r69 e70) ⟨trivial, trivial, trivial, trivial⟩ rfl rfl (fun h => nomatch h) ?_)
              refine st (mv_ rfl trivial ?_)
              refine st (c_ (cp_ ⟨trivial, trivial⟩ rfl trivial) ?_)
              refine st (c_ (cp_ ⟨trivial, trivial⟩ rfl trivial) ?_)
              refine st (stp_ rfl rfl trivial rfl rfl rfl (Nat.le_of_ble_eq_true rfl) ?_)
              refine sw ⟨[(3, .ptr 192 0), (5, .ptr 320 0), (6, .own 384 0 1 (p22.map eI)), (10, .ptr 640 0), (21, .lst 4 (a0.map eDDevAct)), (22, .int .i64 (a0.length : Int)), (23, .int .i64 p23), (39, .int .i64 r69.2)], [(192, [.own 193 0 1 (([] : List UInt8).map eU8), .own 194 0 2 (([] : List DSector).map eDSector)]), (320, [.lst 1 (p24.map eU8), .lst 2 (p25.map eDSector)]), (640, [.own 2368 0 1 (r69.1.held.map eU8), .own 2369 0 2 (r69.1.waiting.map eDSector)])], []⟩ (fgk (by kernel_rfl)) (mv_ rfl trivial ?_)
              refine oe_ ?_
              refine wk_ ⟨[(3, .ptr 192 0), (5, .ptr 320 0), (6, .own 384 0 1 (p22.map eI)), (9, .int .i64 r69.2), (10, .ptr 640 0), (21, .lst 4 (a0.map eDDevAct)), (22, .int .i64 (a0.length : Int)), (23, .int .i64 p23)], [(192, [.own 193 0 1 (([] : List UInt8).map eU8), .own 194 0 2 (([] : List DSector).map eDSector)]), (320, [.lst 1 (p24.map eU8), .lst 2 (p25.map eDSector)]), (640, [.own 2368 0 1 (r69.1.held.map eU8), .own 2369 0 2 (r69.1.waiting.map eDSector)])], []⟩ (fgk (by kernel_rfl)) ?_
              refine seq_ ?_
              refine reg_ ?_
              refine st (mv_ rfl trivial ?_)
              refine st (c_ (cp_ ⟨trivial, trivial, trivial⟩ rfl trivial) ?_)
              refine oe_ ?_
              refine wk_ ⟨[(3, .ptr 192 0), (5, .ptr 320 0), (6, .own 384 0 1 (p22.map eI)), (9, .int .i64 r69.2), (10, .ptr 640 0), (21, .lst 4 (a0.map eDDevAct)), (22, .int .i64 (a0.length : Int)), (23, .int .i64 p23), (41, .bool (r69.2 == 0))], [(192, [.own 193 0 1 (([] : List UInt8).map eU8), .own 194 0 2 (([] : List DSector).map eDSector)]), (320, [.lst 1 (p24.map eU8), .lst 2 (p25.map eDSector)]), (640, [.own 2368 0 1 (r69.1.held.map eU8), .own 2369 0 2 (r69.1.waiting.map eDSector)])], []⟩ (fgk (by kernel_rfl)) ?_
              refine ite_ (cb := (r69.2 == 0)) rfl (fun c71 => ?_) (fun c71 => ?_)
              · replace h1 := ip c71 h1
                refine reg_ ?_
                refine st (c_ (v := .agg [.own 2368 0 1 (r69.1.held.map eU8), .own 2369 0 2 (r69.1.waiting.map eDSector)]) (cp_ ⟨trivial, trivial⟩ rfl (Nat.le_of_ble_eq_true rfl)) ?_)
                refine st (stp_ rfl rfl trivial rfl rfl rfl (Nat.le_of_ble_eq_true rfl) ?_)
                refine oe_ ?_
                refine bn_ ?_
                exact J67 _ ⟨[(3, .ptr 192 0), (5, .ptr 320 0), (6, .own 384 0 1 (p22.map eI)), (9, .int .i64 r69.2), (21, .lst 4 (a0.map eDDevAct)), (22, .int .i64 (a0.length : Int)), (23, .int .i64 p23)], [(192, [.own 193 0 1 (([] : List UInt8).map eU8), .own 194 0 2 (([] : List DSector).map eDSector)]), (320, [.lst 1 (r69.1.held.map eU8), .lst 2 (r69.1.waiting.map eDSector)])], []⟩ (fgzk [2368, 2369] (by kernel_rfl)) ⟨_, _, _, rfl, h1⟩
              · replace h1 := inb c71 h1
                refine sk_ ?_
                refine bn_ ?_
                exact J67 _ ⟨[(3, .ptr 192 0), (5, .ptr 320 0), (6, .own 384 0 1 (p22.map eI)), (9, .int .i64 r69.2), (21, .lst 4 (a0.map eDDevAct)), (22, .int .i64 (a0.length : Int)), (23, .int .i64 p23)], [(192, [.own 193 0 1 (([] : List UInt8).map eU8), .own 194 0 2 (([] : List DSector).map eDSector)]), (320, [.lst 1 (p24.map eU8), .lst 2 (p25.map eDSector)])], []⟩ (fgk (by kernel_rfl)) ⟨_, _, _, rfl, h1⟩
            · replace h1 := inb c68 h1
              refine seq_ ?_
              refine reg_ ?_
              refine st (c_ (cp_ ⟨trivial, trivial, trivial⟩ rfl trivial) ?_)
              refine st (mv_ rfl trivial ?_)
              refine oe_ ?_
              refine wk_ ⟨[(3, .ptr 192 0), (5, .ptr 320 0), (6, .own 384 0 1 (p22.map eI)), (8, .ptr 512 0), (9, .int .i64 0), (21, .lst 4 (a0.map eDDevAct)), (22, .int .i64 (a0.length : Int)), (23, .int .i64 p23), (28, .int .i64 y51.kind), (43, .bool (y51.kind == 2))], [(192, [.own 193 0 1 (([] : List UInt8).map eU8), .own 194 0 2 (([] : List DSector).map eDSector)]), (320, [.lst 1 (p24.map eU8), .lst 2 (p25.map eDSector)]), (512, [.int .i64 y51.kind, .int .i64 y51.at_, .lst 1 (y51.data.map eU8), .lst 1 (y51.keep.map eB)])], []⟩ (fgk (by kernel_rfl)) ?_
              refine ite_ (cb := (y51.kind == 2)) rfl (fun c72 => ?_) (fun c72 => ?_)
              · replace h1 := ip c72 h1
                refine reg_ ?_
                refine st (c_ (v := .agg [.lst 1 (p24.map eU8), .lst 2 (p25.map eDSector)]) (cp_ ⟨trivial, trivial⟩ rfl (Nat.le_of_ble_eq_true rfl)) ?_)
                obtain ⟨r73, e74, h1⟩ := bnd h1
                refine st (call0_ (r := .agg [.own 0 0 1 (r73.held.map eU8), .own 1 0 2 (r73.waiting.map eDSector)]) true (H267 (DDevice.mk p24 p25) r73 e74) ⟨trivial, trivial⟩ rfl rfl (fun h => nomatch h) ?_)
                refine st (stp_ rfl rfl trivial rfl rfl rfl (Nat.le_of_ble_eq_true rfl) ?_)
                refine oe_ ?_
                refine bn_ ?_
                exact J67 _ ⟨[(3, .ptr 192 0), (5, .ptr 320 0), (6, .own 384 0 1 (p22.map eI)), (9, .int .i64 0), (21, .lst 4 (a0.map eDDevAct)), (22, .int .i64 (a0.length : Int)), (23, .int .i64 p23)], [(192, [.own 193 0 1 (([] : List UInt8).map eU8), .own 194 0 2 (([] : List DSector).map eDSector)]), (320, [.lst 1 (r73.held.map eU8), .lst 2 (r73.waiting.map eDSector)])], []⟩ (fgzk [2944, 2945] (by kernel_rfl)) ⟨_, _, _, rfl, h1⟩
              · replace h1 := inb c72 h1
                refine seq_ ?_
                refine reg_ ?_
                refine st (c_ (cp_ ⟨trivial, trivial, trivial⟩ rfl trivial) ?_)
                refine st (mv_ rfl trivial ?_)
                refine oe_ ?_
                refine wk_ ⟨[(3, .ptr 192 0), (5, .ptr 320 0), (6, .own 384 0 1 (p22.map eI)), (8, .ptr 512 0), (9, .int .i64 0), (21, .lst 4 (a0.map eDDevAct)), (22, .int .i64 (a0.length : Int)), (23, .int .i64 p23), (47, .bool (y51.kind == 3))], [(192, [.own 193 0 1 (([] : List UInt8).map eU8), .own 194 0 2 (([] : List DSector).map eDSector)]), (320, [.lst 1 (p24.map eU8), .lst 2 (p25.map eDSector)]), (512, [.int .i64 y51.kind, .int .i64 y51.at_, .lst 1 (y51.data.map eU8), .lst 1 (y51.keep.map eB)])], []⟩ (fgk (by kernel_rfl)) ?_
                refine ite_ (cb := (y51.kind == 3)) rfl (fun c75 => ?_) (fun c75 => ?_)
                · replace h1 := ip c75 h1
                  refine reg_ ?_
                  refine st (c_ (v := .agg [.lst 1 (p24.map eU8), .lst 2 (p25.map eDSector)]) (cp_ ⟨trivial, trivial⟩ rfl (Nat.le_of_ble_eq_true rfl)) ?_)
                  refine st (c_ (cp_ ⟨trivial, trivial⟩ rfl trivial) ?_)
                  refine st (c_ (cp_ ⟨trivial, trivial⟩ rfl (Nat.le_of_ble_eq_true rfl)) ?_)
                  obtain ⟨r76, e77, h1⟩ := bnd h1
                  refine st (call0_ (r := .agg [.own 0 0 1 (r76.held.map eU8), .own 1 0 2 (r76.waiting.map eDSector)]) true (H268 (DDevice.mk p24 p25) y51.keep r76 e77) ⟨trivial, trivial, trivial⟩ rfl rfl (fun h => nomatch h) ?_)
                  refine st (stp_ rfl rfl trivial rfl rfl rfl (Nat.le_of_ble_eq_true rfl) ?_)
                  refine oe_ ?_
                  refine bn_ ?_
                  exact J67 _ ⟨[(3, .ptr 192 0), (5, .ptr 320 0), (6, .own 384 0 1 (p22.map eI)), (9, .int .i64 0), (21, .lst 4 (a0.map eDDevAct)), (22, .int .i64 (a0.length : Int)), (23, .int .i64 p23)], [(192, [.own 193 0 1 (([] : List UInt8).map eU8), .own 194 0 2 (([] : List DSector).map eDSector)]), (320, [.lst 1 (r76.held.map eU8), .lst 2 (r76.waiting.map eDSector)])], []⟩ (fgzk [3328, 3329] (by kernel_rfl)) ⟨_, _, _, rfl, h1⟩
                · replace h1 := inb c75 h1
                  refine reg_ ?_
                  refine st (mvc_ trivial ?_)
                  refine oe_ ?_
                  refine bn_ ?_
                  exact J67 _ ⟨[(3, .ptr 192 0), (5, .ptr 320 0), (6, .own 384 0 1 (p22.map eI)), (9, .int .i64 16), (21, .lst 4 (a0.map eDDevAct)), (22, .int .i64 (a0.length : Int)), (23, .int .i64 p23)], [(192, [.own 193 0 1 (([] : List UInt8).map eU8), .own 194 0 2 (([] : List DSector).map eDSector)]), (320, [.lst 1 (p24.map eU8), .lst 2 (p25.map eDSector)])], []⟩ (fgk (by kernel_rfl)) ⟨_, _, _, rfl, h1⟩
        · replace h1 := inb c50 h1
          obtain rfl := Option.some.inj h1
          obtain rfl := hx1 _ rfl
          refine exQ rfl ?_
          exact hE1 _ ⟨[(3, .ptr 192 0), (5, .ptr 320 0), (6, .own 384 0 1 (p22.map eI))], [(192, [.own 193 0 1 (([] : List UInt8).map eU8), .own 194 0 2 (([] : List DSector).map eDSector)]), (320, [.lst 1 (p24.map eU8), .lst 2 (p25.map eDSector)])], []⟩ (fgk (by kernel_rfl)) ⟨_, _, _, rfl, rfl⟩

/- loop.example/g00149/laws.FnDevice -/
def c201_r0 : List Ins := [⟨some 4, .p (.mv (.c (.bool false))), none⟩]
def c201_r1 : List Ins := [⟨some 20, .p (.mv (.t 0)), none⟩,
 ⟨some 21, .p (.len (.t 20)), none⟩,
 ⟨some 22, .p (.bin .gtr (.t 21) (.c (.int .i64 1048576))), none⟩,
 ⟨some 23, .p (.mv (.t 22)), none⟩,
 ⟨some 24, .p (.mv (.t 1)), some (23, false)⟩,
 ⟨some 25, .p (.len (.t 24)), some (23, false)⟩,
 ⟨some 26, .p (.bin .gtr (.t 25) (.c (.int .i64 200))), some (23, false)⟩,
 ⟨some 27, .pick (.t 23) (.c (.bool true)) (.t 26), none⟩]
def c201_r2 : List Ins := [⟨some 4, .p (.mv (.c (.bool true))), none⟩]
def c201_r3 : List Ins := [⟨some 28, .p (.mv (.t 0)), none⟩,
 ⟨some 29, .call 212 [(.t 28)], none⟩,
 ⟨some 5, .alloc [(.own 321 0 1 []), (.own 322 0 2 [])], none⟩,
 ⟨none, .store (.t 5) (.t 29) 2, none⟩]
def c201_r4 : List Ins := [⟨some 31, .p (.load (.t 5) 2 true), none⟩,
 ⟨some 32, .call 213 [(.t 31)], none⟩,
 ⟨some 30, .p (.mv (.t 32)), none⟩,
 ⟨some 33, .p (.ext (.t 30) 0), none⟩,
 ⟨some 34, .p (.ext (.t 30) 1), none⟩,
 ⟨some 6, .p (.mv (.t 33)), none⟩,
 ⟨some 7, .p (.mv (.t 34)), none⟩]
def c201_r5 : List Ins := [⟨some 35, .p (.mv (.t 1)), none⟩,
 ⟨some 36, .call 40 [(.t 35), (.c (.int .i64 0)), (.c (.int .i64 200))], none⟩,
 ⟨some 8, .p (.mv (.t 36)), none⟩]
def c201_r6 : List Ins := [⟨some 38, .p (.load (.t 5) 2 true), none⟩,
 ⟨some 39, .p (.mv (.t 8)), none⟩,
 ⟨some 40, .p (.mv (.t 1)), none⟩,
 ⟨some 41, .call 214 [(.t 38), (.t 39), (.t 40)], none⟩,
 ⟨some 37, .p (.mv (.t 41)), none⟩,
 ⟨some 42, .p (.ext (.t 37) 0), none⟩,
 ⟨some 43, .p (.ext (.t 37) 1), none⟩,
 ⟨some 9, .alloc [(.own 577 0 1 []), (.own 578 0 2 [])], none⟩,
 ⟨none, .store (.t 9) (.t 42) 2, none⟩,
 ⟨some 10, .p (.mv (.t 43)), none⟩]
def c201_r7 : List Ins := [⟨some 45, .p (.load (.t 9) 2 true), none⟩,
 ⟨some 46, .call 213 [(.t 45)], none⟩,
 ⟨some 44, .p (.mv (.t 46)), none⟩,
 ⟨some 47, .p (.ext (.t 44) 0), none⟩,
 ⟨some 48, .p (.ext (.t 44) 1), none⟩,
 ⟨some 11, .p (.mv (.t 47)), none⟩,
 ⟨some 12, .p (.mv (.t 48)), none⟩]
def c201_r8 : List Ins := [⟨some 50, .p (.mv (.t 8)), none⟩,
 ⟨some 51, .p (.mv (.t 1)), none⟩,
 ⟨some 52, .p (.build [(.int .i64 0), (.int .i64 0), (.own 3331 0 1 []), (.own 3332 0 1 [])] [(0, 1, (.c (.int .i64 1))), (1, 1, (.t 50)), (2, 1, (.t 51))]), none⟩,
 ⟨some 53, .p (.build [(.int .i64 0), (.int .i64 0), (.own 3395 0 1 []), (.own 3396 0 1 [])] [(0, 1, (.c (.int .i64 2)))]), none⟩,
 ⟨some 54, .mkS 4 [(.int .i64 0), (.int .i64 0), (.lst 1 []), (.lst 1 [])] 2 [(0, (.t 52)), (1, (.t 53))], none⟩,
 ⟨some 55, .call 215 [(.t 54)], none⟩,
 ⟨some 49, .p (.mv (.t 55)), none⟩,
 ⟨some 56, .p (.ext (.t 49) 0), none⟩,
 ⟨some 57, .p (.ext (.t 49) 1), none⟩,
 ⟨some 58, .p (.ext (.t 49) 2), none⟩,
 ⟨some 14, .alloc [(.own 897 0 1 []), (.own 898 0 2 [])], none⟩,
 ⟨some 13, .p (.mv (.t 56)), none⟩,
 ⟨none, .store (.t 14) (.t 57) 2, none⟩,
 ⟨some 15, .p (.mv (.t 58)), none⟩]
def c201_r9 : List Ins := [⟨some 60, .p (.load (.t 14) 2 true), none⟩,
 ⟨some 61, .call 213 [(.t 60)], none⟩,
 ⟨some 59, .p (.mv (.t 61)), none⟩,
 ⟨some 62, .p (.ext (.t 59) 0), none⟩,
 ⟨some 63, .p (.ext (.t 59) 1), none⟩,
 ⟨some 16, .p (.mv (.t 62)), none⟩,
 ⟨some 17, .p (.mv (.t 63)), none⟩]
def c201_r10 : List Ins := [⟨some 64, .p (.mv (.t 7)), none⟩,
 ⟨some 65, .p (.bin .neq (.t 64) (.c (.int .i64 0))), none⟩,
 ⟨some 66, .p (.mv (.t 65)), none⟩,
 ⟨some 67, .p (.mv (.t 10)), some (66, false)⟩,
 ⟨some 68, .p (.bin .neq (.t 67) (.c (.int .i64 0))), some (66, false)⟩,
 ⟨some 69, .pick (.t 66) (.c (.bool true)) (.t 68), none⟩,
 ⟨some 70, .p (.mv (.t 69)), none⟩,
 ⟨some 71, .p (.mv (.t 12)), some (70, false)⟩,
 ⟨some 72, .p (.bin .neq (.t 71) (.c (.int .i64 0))), some (70, false)⟩,
 ⟨some 73, .pick (.t 70) (.c (.bool true)) (.t 72), none⟩,
 ⟨some 74, .p (.mv (.t 73)), none⟩,
 ⟨some 75, .p (.mv (.t 15)), some (74, false)⟩,
 ⟨some 76, .p (.bin .neq (.t 75) (.c (.int .i64 0))), some (74, false)⟩,
 ⟨some 77, .pick (.t 74) (.c (.bool true)) (.t 76), none⟩,
 ⟨some 78, .p (.mv (.t 77)), none⟩,
 ⟨some 79, .p (.mv (.t 17)), some (78, false)⟩,
 ⟨some 80, .p (.bin .neq (.t 79) (.c (.int .i64 0))), some (78, false)⟩,
 ⟨some 81, .pick (.t 78) (.c (.bool true)) (.t 80), none⟩,
 ⟨some 82, .p (.mv (.t 81)), none⟩,
 ⟨some 83, .p (.load (.t 9) 2 true), some (82, false)⟩,
 ⟨some 84, .call 216 [(.t 83)], some (82, false)⟩,
 ⟨some 85, .p (.un .not (.t 84)), some (82, false)⟩,
 ⟨some 86, .pick (.t 82) (.c (.bool true)) (.t 85), none⟩,
 ⟨some 87, .p (.mv (.t 86)), none⟩,
 ⟨some 88, .p (.fieldA (.t 14) 1), some (87, false)⟩,
 ⟨some 89, .p (.load (.t 88) 1 false), some (87, false)⟩,
 ⟨some 90, .p (.len (.t 89)), some (87, false)⟩,
 ⟨some 91, .p (.bin .neq (.t 90) (.c (.int .i64 0))), some (87, false)⟩,
 ⟨some 92, .pick (.t 87) (.c (.bool true)) (.t 91), none⟩,
 ⟨some 93, .p (.mv (.t 92)), none⟩,
 ⟨some 94, .p (.mv (.t 11)), some (93, false)⟩,
 ⟨some 95, .p (.len (.t 94)), some (93, false)⟩,
 ⟨some 96, .p (.mv (.t 6)), some (93, false)⟩,
 ⟨some 97, .p (.len (.t 96)), some (93, false)⟩,
 ⟨some 98, .p (.bin .lss (.t 95) (.t 97)), some (93, false)⟩,
 ⟨some 99, .pick (.t 93) (.c (.bool true)) (.t 98), none⟩]
def c201_r11 : List Ins := [⟨some 4, .p (.mv (.c (.bool false))), none⟩]
def c201_r12 : List Ins := [⟨some 18, .p (.mv (.c (.int .i64 0))), none⟩]
def c201_r13 : List Ins := [⟨some 100, .p (.mv (.t 18)), none⟩,
 ⟨some 101, .p (.mv (.t 11)), none⟩,
 ⟨some 102, .p (.len (.t 101)), none⟩,
 ⟨some 103, .p (.bin .lss (.t 100) (.t 102)), none⟩]
def c201_r14 : List Ins := [⟨some 19, .p (.mv (.c (.int .u8 0))), none⟩]
def c201_r15 : List Ins := [⟨some 106, .p (.mv (.t 18)), none⟩,
 ⟨some 107, .p (.mv (.t 6)), none⟩,
 ⟨some 108, .p (.len (.t 107)), none⟩,
 ⟨some 109, .p (.bin .lss (.t 106) (.t 108)), none⟩]
def c201_r16 : List Ins := [⟨some 110, .p (.mv (.t 6)), none⟩,
 ⟨some 111, .p (.mv (.t 18)), none⟩,
 ⟨some 112, .p (.idxA (.t 110) (.t 111) 1), none⟩,
 ⟨some 113, .p (.load (.t 112) 1 false), none⟩,
 ⟨some 19, .p (.mv (.t 113)), none⟩]
def c201_r17 : List Ins := [⟨some 114, .p (.mv (.t 18)), none⟩,
 ⟨some 115, .p (.mv (.t 8)), none⟩,
 ⟨some 116, .p (.bin .geq (.t 114) (.t 115)), none⟩,
 ⟨some 117, .p (.mv (.t 116)), none⟩,
 ⟨some 118, .p (.mv (.t 18)), some (117, true)⟩,
 ⟨some 119, .p (.mv (.t 8)), some (117, true)⟩,
 ⟨some 120, .p (.mv (.t 1)), some (117, true)⟩,
 ⟨some 121, .p (.len (.t 120)), some (117, true)⟩,
 ⟨some 122, .p (.bin .add (.t 119) (.t 121)), some (117, true)⟩,
 ⟨some 123, .p (.bin .lss (.t 118) (.t 122)), some (117, true)⟩,
 ⟨some 124, .pick (.t 117) (.t 123) (.c (.bool false)), none⟩]
def c201_r18 : List Ins := [⟨some 125, .p (.mv (.t 1)), none⟩,
 ⟨some 126, .p (.mv (.t 18)), none⟩,
 ⟨some 127, .p (.mv (.t 8)), none⟩,
 ⟨some 128, .p (.bin .sub (.t 126) (.t 127)), none⟩,
 ⟨some 129, .p (.idxA (.t 125) (.t 128) 1), none⟩,
 ⟨some 130, .p (.load (.t 129) 1 false), none⟩,
 ⟨some 19, .p (.mv (.t 130)), none⟩]
def c201_r19 : List Ins := [⟨some 131, .p (.mv (.t 11)), none⟩,
 ⟨some 132, .p (.mv (.t 18)), none⟩,
 ⟨some 133, .p (.idxA (.t 131) (.t 132) 1), none⟩,
 ⟨some 134, .p (.load (.t 133) 1 false), none⟩,
 ⟨some 135, .p (.mv (.t 19)), none⟩,
 ⟨some 136, .p (.bin .neq (.t 134) (.t 135)), none⟩]
def c201_r20 : List Ins := [⟨some 4, .p (.mv (.c (.bool false))), none⟩]
def c201_r21 : List Ins := [⟨some 104, .p (.mv (.t 18)), none⟩,
 ⟨some 105, .p (.bin .add (.t 104) (.c (.int .i64 1))), none⟩,
 ⟨some 18, .p (.mv (.t 105)), none⟩]
def c201_l0 : IR := (.seq (.seq (.reg c201_r13) (.ite (.t 103) .skip (.exit 0))) (.seq (.block 1 (.seq (.reg c201_r14) (.seq (.seq (.reg c201_r15) (.ite (.t 109) (.reg c201_r16) .skip)) (.seq (.seq (.reg c201_r17) (.ite (.t 124) (.reg c201_r18) .skip)) (.seq (.reg c201_r19) (.ite (.t 136) (.seq (.reg c201_r20) .ret) .skip)))))) (.reg c201_r21)))
def c201_r22 : DP := (.take ⟨some 137, .p (.mv (.t 1)), none⟩
 (.take ⟨some 138, .p (.len (.t 137)), none⟩
 (.take ⟨some 139, .p (.bin .eql (.t 138) (.c (.int .i64 0))), none⟩
 (.take ⟨some 140, .p (.mv (.t 139)), none⟩
 (.take ⟨some 141, .p (.mv (.t 16)), some (140, false)⟩
 (.take ⟨some 142, .p (.len (.t 141)), some (140, false)⟩
 (.take ⟨some 143, .p (.mv (.t 8)), some (140, false)⟩
 (.take ⟨some 144, .p (.mv (.t 1)), some (140, false)⟩
 (.take ⟨some 145, .p (.len (.t 144)), some (140, false)⟩
 (.take ⟨some 146, .p (.bin .add (.t 143) (.t 145)), some (140, false)⟩
 (.take ⟨some 147, .p (.bin .geq (.t 142) (.t 146)), some (140, false)⟩
 (.take ⟨some 148, .p (.mv (.t 147)), some (140, false)⟩
 (.take ⟨some 149, .p (.mv (.t 16)), some (148, true)⟩
 (.take ⟨some 150, .p (.mv (.t 8)), some (148, true)⟩
 (.take ⟨some 151, .p (.mv (.t 8)), some (148, true)⟩
 (.take ⟨some 152, .p (.mv (.t 1)), some (148, true)⟩
 (.take ⟨some 153, .p (.len (.t 152)), some (148, true)⟩
 (.take ⟨some 154, .p (.bin .add (.t 151) (.t 153)), some (148, true)⟩
 (.take ⟨some 155, .p (.slice (.t 149) (some (.t 150)) (some (.t 154)) 1), some (148, true)⟩
 (.take ⟨some 156, .p (.toStr (.t 155)), some (148, true)⟩
 (.take ⟨some 157, .p (.mv (.t 1)), some (148, true)⟩
 (.take ⟨some 158, .p (.toStr (.t 157)), some (148, true)⟩
 (.take ⟨some 159, .p (.bin .eql (.t 156) (.t 158)), some (148, true)⟩
 (.take ⟨some 160, .pick (.t 148) (.t 159) (.c (.bool false)), some (140, false)⟩
 (.take ⟨some 161, .pick (.t 140) (.c (.bool true)) (.t 160), none⟩
 (.take ⟨some 4, .p (.mv (.t 161)), none⟩
 .fin))))))))))))))))))))))))))
def c201 : XFn := { np := 2, nt := 162, res := [.t 4], body := (.seq (.reg c201_r0) (.seq (.seq (.reg c201_r1) (.ite (.t 27) (.seq (.reg c201_r2) .ret) .skip)) (.seq (.reg c201_r3) (.seq (.reg c201_r4) (.seq (.reg c201_r5) (.seq (.reg c201_r6) (.seq (.reg c201_r7) (.seq (.reg c201_r8) (.seq (.reg c201_r9) (.seq (.seq (.reg c201_r10) (.ite (.t 99) (.seq (.reg c201_r11) .ret) .skip)) (.seq (.seq (.reg c201_r12) (.block 0 (.loop c201_l0))) (.seq (.draw c201_r22) .ret)))))))))))) }
def K201 (C : CRel) : Prop := ∀ (a0 : List UInt8) (a1 : List UInt8) (r : Bool), g201 a0 a1 = some r → C 201 ⟨[.lst 1 (a0.map eU8), .lst 1 (a1.map eU8)], []⟩ ⟨.bool r, [], []⟩
theorem F201 {C : CRel} (H40 : K40 C) (H212 : K212 C) (H213 : K213 C) (H214 : K214 C) (H215 : K215 C) (H216 : K216 C) (a0 : List UInt8) (a1 : List UInt8) (r : Bool) (h0 : g201 a0 a1 = some r) : FnOK C c201 ⟨[.lst 1 (a0.map eU8), .lst 1 (a1.map eU8)], []⟩ ⟨.bool r, [], []⟩ := by
  refine fn_ (Nat.le_of_ble_eq_true rfl) ?_
  refine seq_ ?_
  refine reg_ ?_
  refine st (mvc_ trivial ?_)
  refine oe_ ?_
  refine wk_ ⟨[(0, .lst 1 (a0.map eU8)), (1, .lst 1 (a1.map eU8))], [], []⟩ (fgk (by kernel_rfl)) ?_
  refine seq_ ?_
  refine seq_ ?_
  refine reg_ ?_
  refine st (mv_ rfl trivial ?_)
  refine st (c_ (clenL (e := eU8) (l0 := a0) rfl rfl trivial) ?_)
  refine st (c_ (cp_ ⟨trivial, trivial, trivial⟩ rfl trivial) ?_)
  refine st (mv_ rfl trivial ?_)
  refine st (pg_ (u := .lst 1 (a1.map eU8)) rfl (fun hg => (cmv (v := .lst 1 (a1.map eU8)) rfl trivial)) ?_)
  refine st (pg_ (u := .int .i64 (a1.length : Int)) rfl (fun hg => (clenL (e := eU8) (l0 := a1) rfl rfl (fun _ => hg))) ?_)
  refine st (pg_ (u := .bool (decide ((a1.length : Int) > 200))) rfl (fun hg => (cp_ ⟨(fun _ => hg), trivial, trivial⟩ rfl trivial)) ?_)
  refine st (pick_ rfl rfl rfl trivial (fun h => eqf h) rfl ?_)
  refine oe_ ?_
  obtain ⟨v1, e2, h0⟩ := bl h0
  refine wk_ ⟨[(0, .lst 1 (a0.map eU8)), (1, .lst 1 (a1.map eU8)), (27, .bool v1)], [], []⟩ (fgk (by subst e2; kernel_rfl)) ?_
  refine ite_ (cb := v1) rfl (fun c3 => ?_) (fun c3 => ?_)
  · replace h0 := ip c3 h0
    refine seq_ ?_
    refine reg_ ?_
    refine st (mvc_ trivial ?_)
    refine oe_ ?_
    refine wk_ ⟨[(4, .bool true)], [], []⟩ (fgk (by kernel_rfl)) ?_
    obtain rfl := Option.some.inj h0
    exact rt_ (ret_ rfl rfl rfl rfl rfl trivial)
  · replace h0 := inb c3 h0
    refine sk_ ?_
    refine wk_ ⟨[(0, .lst 1 (a0.map eU8)), (1, .lst 1 (a1.map eU8))], [], []⟩ (fgk (by kernel_rfl)) ?_
    refine seq_ ?_
    refine reg_ ?_
    refine st (mv_ rfl trivial ?_)
    obtain ⟨r4, e5, h0⟩ := bnd h0
    refine st (call0_ (r := .agg [.lst 1 (r4.held.map eU8), .own 0 0 2 (r4.waiting.map eDSector)]) true (H212 a0 r4 e5) ⟨trivial, trivial⟩ rfl rfl (fun h => nomatch h) ?_)
    refine st (alloc_ ?_)
    refine st (stp_ rfl rfl trivial rfl rfl rfl (Nat.le_of_ble_eq_true rfl) ?_)
    refine oe_ ?_
    refine wk_ ⟨[(1, .lst 1 (a1.map eU8)), (5, .ptr 320 0)], [(320, [.lst 1 (r4.held.map eU8), .own 1856 0 2 (r4.waiting.map eDSector)])], []⟩ (fgk (by kernel_rfl)) ?_
    refine seq_ ?_
    refine reg_ ?_
    refine st (c_ (v := .agg [.lst 1 (r4.held.map eU8), .own 1856 0 2 (r4.waiting.map eDSector)]) (cp_ ⟨trivial, trivial⟩ rfl (Nat.le_of_ble_eq_true rfl)) ?_)
    obtain ⟨r6, e7, h0⟩ := bnd h0
    refine st (call0_ (r := .tup [.own 0 0 1 (r6.1.map eU8), .int .i64 r6.2]) false (H213 r4 r6 e7) ⟨trivial, trivial⟩ rfl rfl (fun _ => (and_ (fl1 (fun _ => rfl)) (and_ rfl rfl))) ?_)
    refine st (mv_ rfl trivial ?_)
    refine st (c_ (cp_ ⟨trivial, trivial⟩ rfl trivial) ?_)
    refine st (c_ (cp_ ⟨trivial, trivial⟩ rfl trivial) ?_)
    refine st (mv_ rfl trivial ?_)
    refine st (mv_ rfl trivial ?_)
    refine oe_ ?_
    refine wk_ ⟨[(1, .lst 1 (a1.map eU8)), (5, .ptr 320 0), (6, .own 2048 0 1 (r6.1.map eU8)), (7, .int .i64 r6.2)], [(320, [.lst 1 (r4.held.map eU8), .own 1856 0 2 (r4.waiting.map eDSector)])], []⟩ (fgk (by kernel_rfl)) ?_
    refine seq_ ?_
    refine reg_ ?_
    refine st (mv_ rfl trivial ?_)
    obtain ⟨r8, e9, h0⟩ := bnd h0
    refine st (call0_ (r := .int .i64 r8) false (H40 a1 0 200 r8 e9) ⟨trivial, trivial, trivial, trivial⟩ rfl rfl (fun _ => rfl) ?_)
    refine st (mv_ rfl trivial ?_)
    refine oe_ ?_
    refine wk_ ⟨[(1, .lst 1 (a1.map eU8)), (5, .ptr 320 0), (6, .own 2048 0 1 (r6.1.map eU8)), (7, .int .i64 r6.2), (8, .int .i64 r8)], [(320, [.lst 1 (r4.held.map eU8), .own 1856 0 2 (r4.waiting.map eDSector)])], []⟩ (fgk (by kernel_rfl)) ?_
    refine seq_ ?_
    refine reg_ ?_
    refine st (c_ (v := .agg [.lst 1 (r4.held.map eU8), .own 1856 0 2 (r4.waiting.map eDSector)]) (cp_ ⟨trivial, trivial⟩ rfl (Nat.le_of_ble_eq_true rfl)) ?_)
    refine st (mv_ rfl trivial ?_)
    refine st (mv_ rfl trivial ?_)
    obtain ⟨r10, e11, h0⟩ := bnd h0
    refine st (call0_ (r := .tup [.agg [.own 0 0 1 (r10.1.held.map eU8), .own 1 0 2 (r10.1.waiting.map eDSector)], .int .i64 r10.2]) true (H214 r4 r8 a1 r10 e11) ⟨trivial, trivial, trivial, trivial⟩ rfl rfl (fun h => nomatch h) ?_)
    refine sw ⟨[(1, .lst 1 (a1.map eU8)), (6, .own 2048 0 1 (r6.1.map eU8)), (7, .int .i64 r6.2), (8, .int .i64 r8), (41, .tup [.agg [.own 2624 0 1 (r10.1.held.map eU8), .own 2625 0 2 (r10.1.waiting.map eDSector)], .int .i64 r10.2])], [], []⟩ (fgk (by kernel_rfl)) (mv_ rfl trivial ?_)
    refine st (c_ (cp_ ⟨trivial, trivial⟩ rfl trivial) ?_)
    refine st (c_ (cp_ ⟨trivial, trivial⟩ rfl trivial) ?_)
    refine st (alloc_ ?_)
    refine st (stp_ rfl rfl trivial rfl rfl rfl (Nat.le_of_ble_eq_true rfl) ?_)
    refine st (mv_ rfl trivial ?_)
    refine oe_ ?_
    refine wk_ ⟨[(1, .lst 1 (a1.map eU8)), (6, .own 2048 0 1 (r6.1.map eU8)), (7, .int .i64 r6.2), (8, .int .i64 r8), (9, .ptr 576 0), (10, .int .i64 r10.2)], [(576, [.own 2624 0 1 (r10.1.held.map eU8), .own 2625 0 2 (r10.1.waiting.map eDSector)])], []⟩ (fgk (by kernel_rfl)) ?_
    refine seq_ ?_
    refine reg_ ?_
    refine st (c_ (v := .agg [.own 2624 0 1 (r10.1.held.map eU8), .own 2625 0 2 (r10.1.waiting.map eDSector)]) (cp_ ⟨trivial, trivial⟩ rfl (Nat.le_of_ble_eq_true rfl)) ?_)
    obtain ⟨r12, e13, h0⟩ := bnd h0
    refine st (call0_ (r := .tup [.own 0 0 1 (r12.1.map eU8), .int .i64 r12.2]) false (H213 r10.1 r12 e13) ⟨trivial, trivial⟩ rfl rfl (fun _ => (and_ (fl1 (fun _ => rfl)) (and_ rfl rfl))) ?_)
    refine st (mv_ rfl trivial ?_)
    refine st (c_ (cp_ ⟨trivial, trivial⟩ rfl trivial) ?_)
    refine st (c_ (cp_ ⟨trivial, trivial⟩ rfl trivial) ?_)
    refine st (mv_ rfl trivial ?_)
    refine st (mv_ rfl trivial ?_)
    refine oe_ ?_
    refine wk_ ⟨[(1, .lst 1 (a1.map eU8)), (6, .own 2048 0 1 (r6.1.map eU8)), (7, .int .i64 r6.2), (8, .int .i64 r8), (9, .ptr 576 0), (10, .int .i64 r10.2), (11, .own 2944 0 1 (r12.1.map eU8)), (12, .int .i64 r12.2)], [(576, [.own 2624 0 1 (r10.1.held.map eU8), .own 2625 0 2 (r10.1.waiting.map eDSector)])], []⟩ (fgk (by kernel_rfl)) ?_
    refine seq_ ?_
    refine reg_ ?_
    refine st (mv_ rfl trivial ?_)
    refine st (mv_ rfl trivial ?_)
    refine st (c_ (v := .agg [.int .i64 1, .int .i64 r8, .lst 1 (a1.map eU8), .own 3332 0 1 (([] : List Bool).map eB)]) (cp_ ⟨trivial, trivial, trivial, trivial⟩ rfl ⟨⟨rfl, rfl, Nat.le_of_ble_eq_true rfl⟩, ⟨rfl, rfl, Nat.le_of_ble_eq_true rfl⟩, ⟨rfl, rfl, Nat.le_of_ble_eq_true rfl⟩, trivial⟩) ?_)
    refine st (c_ (v := .agg [.int .i64 2, .int .i64 0, .own 3395 0 1 (([] : List UInt8).map eU8), .own 3396 0 1 (([] : List Bool).map eB)]) (cp_ ⟨trivial, trivial⟩ rfl ⟨⟨rfl, rfl, Nat.le_of_ble_eq_true rfl⟩, trivial⟩) ?_)
    refine st (mkS_ ⟨trivial, trivial, trivial⟩ ⟨⟨Nat.le_of_ble_eq_true rfl, rfl, rfl⟩, ⟨Nat.le_of_ble_eq_true rfl, rfl, rfl⟩, trivial⟩ ?_)
    obtain ⟨r14, e15, h0⟩ := bnd h0
    refine sw ⟨[(1, .lst 1 (a1.map eU8)), (6, .own 2048 0 1 (r6.1.map eU8)), (7, .int .i64 r6.2), (8, .int .i64 r8), (9, .ptr 576 0), (10, .int .i64 r10.2), (11, .own 2944 0 1 (r12.1.map eU8)), (12, .int .i64 r12.2), (54, .own 3456 0 4 (([(DDevAct.mk 1 r8 a1 ([] : List Bool)), (DDevAct.mk 2 0 ([] : List UInt8) ([] : List Bool))] : List DDevAct).map eDDevAct))], [(576, [.own 2624 0 1 (r10.1.held.map eU8), .own 2625 0 2 (r10.1.waiting.map eDSector)])], []⟩ (fgk (by kernel_rfl)) (call0_ (r := .tup [.own 0 0 1 (r14.1.map eI), .agg [.lst 1 (r14.2.1.held.map eU8), .lst 2 (r14.2.1.waiting.map eDSector)], .int .i64 r14.2.2]) true (H215 ([(DDevAct.mk 1 r8 a1 ([] : List Bool)), (DDevAct.mk 2 0 ([] : List UInt8) ([] : List Bool))] : List DDevAct) r14 e15) ⟨trivial, trivial⟩ rfl rfl (fun h => nomatch h) ?_)
    refine sw ⟨[(1, .lst 1 (a1.map eU8)), (6, .own 2048 0 1 (r6.1.map eU8)), (7, .int .i64 r6.2), (8, .int .i64 r8), (9, .ptr 576 0), (10, .int .i64 r10.2), (11, .own 2944 0 1 (r12.1.map eU8)), (12, .int .i64 r12.2), (55, .tup [.own 3520 0 1 (r14.1.map eI), .agg [.lst 1 (r14.2.1.held.map eU8), .lst 2 (r14.2.1.waiting.map eDSector)], .int .i64 r14.2.2])], [(576, [.own 2624 0 1 (r10.1.held.map eU8), .own 2625 0 2 (r10.1.waiting.map eDSector)])], []⟩ (fgk (by kernel_rfl)) (mv_ rfl trivial ?_)
    refine st (c_ (cp_ ⟨trivial, trivial⟩ rfl trivial) ?_)
    refine st (c_ (cp_ ⟨trivial, trivial⟩ rfl trivial) ?_)
    refine st (c_ (cp_ ⟨trivial, trivial⟩ rfl trivial) ?_)
    refine st (alloc_ ?_)
    refine st (mv_ rfl trivial ?_)
    refine st (stp_ rfl rfl trivial rfl rfl rfl (Nat.le_of_ble_eq_true rfl) ?_)
    refine st (mv_ rfl trivial ?_)
    refine oe_ ?_
    refine wk_ ⟨[(1, .lst 1 (a1.map eU8)), (6, .own 2048 0 1 (r6.1.map eU8)), (7, .int .i64 r6.2), (8, .int .i64 r8), (9, .ptr 576 0), (10, .int .i64 r10.2), (11, .own 2944 0 1 (r12.1.map eU8)), (12, .int .i64 r12.2), (14, .ptr 896 0), (15, .int .i64 r14.2.2)], [(576, [.own 2624 0 1 (r10.1.held.map eU8), .own 2625 0 2 (r10.1.waiting.map eDSector)]), (896, [.lst 1 (r14.2.1.held.map eU8), .lst 2 (r14.2.1.waiting.map eDSector)])], []⟩ (fgk (by kernel_rfl)) ?_
    refine seq_ ?_
    refine reg_ ?_
    refine st (c_ (v := .agg [.lst 1 (r14.2.1.held.map eU8), .lst 2 (r14.2.1.waiting.map eDSector)]) (cp_ ⟨trivial, trivial⟩ rfl (Nat.le_of_ble_eq_true rfl)) ?_)
    obtain ⟨r16, e17, h0⟩ := bnd h0
    refine st (call0_ (r := .tup [.own 0 0 1 (r16.1.map eU8), .int .i64 r16.2]) false (H213 r14.2.1 r16 e17) ⟨trivial, trivial⟩ rfl rfl (fun _ => (and_ (fl1 (fun _ => rfl)) (and_ rfl rfl))) ?_)
    refine st (mv_ rfl trivial ?_)
    refine st (c_ (cp_ ⟨trivial, trivial⟩ rfl trivial) ?_)
    refine st (c_ (cp_ ⟨trivial, trivial⟩ rfl trivial) ?_)
    refine st (mv_ rfl trivial ?_)
    refine st (mv_ rfl trivial ?_)
    refine oe_ ?_
    refine wk_ ⟨[(1, .lst 1 (a1.map eU8)), (6, .own 2048 0 1 (r6.1.map eU8)), (7, .int .i64 r6.2), (8, .int .i64 r8), (9, .ptr 576 0), (10, .int .i64 r10.2), (11, .own 2944 0 1 (r12.1.map eU8)), (12, .int .i64 r12.2), (14, .ptr 896 0), (15, .int .i64 r14.2.2), (16, .own 3904 0 1 (r16.1.map eU8)), (17, .int .i64 r16.2)], [(576, [.own 2624 0 1 (r10.1.held.map eU8), .own 2625 0 2 (r10.1.waiting.map eDSector)]), (896, [.lst 1 (r14.2.1.held.map eU8), .lst 2 (r14.2.1.waiting.map eDSector)])], []⟩ (fgk (by kernel_rfl)) ?_
    refine seq_ ?_
    refine seq_ ?_
    refine reg_ ?_
    refine st (mv_ rfl trivial ?_)
    refine st (c_ (cp_ ⟨trivial, trivial, trivial⟩ rfl trivial) ?_)
    refine st (mv_ rfl trivial ?_)
    refine st (pg_ (u := .int .i64 r10.2) rfl (fun hg => (cmv (v := .int .i64 r10.2) rfl trivial)) ?_)
    refine st (pg_ (u := .bool (r10.2 != 0)) rfl (fun hg => (cp_ ⟨(fun _ => hg), trivial, trivial⟩ rfl trivial)) ?_)
    refine st (pick_ rfl rfl rfl trivial (fun h => eqf h) rfl ?_)
    refine st (mv_ rfl trivial ?_)
    refine st (pg_ (u := .int .i64 r12.2) rfl (fun hg => (cmv (v := .int .i64 r12.2) rfl trivial)) ?_)
    refine st (pg_ (u := .bool (r12.2 != 0)) rfl (fun hg => (cp_ ⟨(fun _ => hg), trivial, trivial⟩ rfl trivial)) ?_)
    refine st (pick_ rfl rfl rfl trivial (fun h => eqf h) rfl ?_)
    refine st (mv_ rfl trivial ?_)
    refine st (pg_ (u := .int .i64 r14.2.2) rfl (fun hg => (cmv (v := .int .i64 r14.2.2) rfl trivial)) ?_)
    refine st (pg_ (u := .bool (r14.2.2 != 0)) rfl (fun hg => (cp_ ⟨(fun _ => hg), trivial, trivial⟩ rfl trivial)) ?_)
    refine st (pick_ rfl rfl rfl trivial (fun h => eqf h) rfl ?_)
    refine st (mv_ rfl trivial ?_)
    refine sw ⟨[(1, .lst 1 (a1.map eU8)), (6, .own 2048 0 1 (r6.1.map eU8)), (8, .int .i64 r8), (9, .ptr 576 0), (11, .own 2944 0 1 (r12.1.map eU8)), (14, .ptr 896 0), (16, .own 3904 0 1 (r16.1.map eU8)), (17, .int .i64 r16.2), (78, .bool (bif (bif (bif (r6.2 != 0) then true else (r10.2 != 0)) then true else (r12.2 != 0)) then true else (r14.2.2 != 0)))], [(576, [.own 2624 0 1 (r10.1.held.map eU8), .own 2625 0 2 (r10.1.waiting.map eDSector)]), (896, [.lst 1 (r14.2.1.held.map eU8), .lst 2 (r14.2.1.waiting.map eDSector)])], []⟩ (fgk (by kernel_rfl)) (pg_ (u := .int .i64 r16.2) rfl (fun hg => (cmv (v := .int .i64 r16.2) rfl trivial)) ?_)
    refine st (pg_ (u := .bool (r16.2 != 0)) rfl (fun hg => (cp_ ⟨(fun _ => hg), trivial, trivial⟩ rfl trivial)) ?_)
    refine st (pick_ rfl rfl rfl trivial (fun h => eqf h) rfl ?_)
    refine st (mv_ rfl trivial ?_)
    refine st (pg_ (u := .agg [.own 2624 0 1 (r10.1.held.map eU8), .own 2625 0 2 (r10.1.waiting.map eDSector)]) rfl (fun hg => (cp_ ⟨trivial, trivial⟩ rfl (Nat.le_of_ble_eq_true rfl))) ?_)
    obtain ⟨r18, e19, h0⟩ := bnd h0
    refine st (callg_ (r := .bool r18) rfl false (fun hg => H216 r10.1 r18 (ip hg e19)) ⟨(fun hg => hg), trivial⟩ (fun _ => rfl) (fun _ => rfl) (fun _ => rfl) (fun h => nomatch h) ?_)
    refine st (pg_ (u := .bool (!r18)) rfl (fun hg => (cp_ ⟨(fun _ => hg), trivial⟩ rfl trivial)) ?_)
    refine st (pick_ rfl rfl rfl trivial (fun h => eqf h) rfl ?_)
    refine st (mv_ rfl trivial ?_)
    refine st (pg_ (u := .ptr 896 1) rfl (fun hg => (cp_ ⟨trivial, trivial⟩ rfl trivial)) ?_)
    refine st (pg_ (u := .lst 2 (r14.2.1.waiting.map eDSector)) rfl (fun hg => (cp_ ⟨(fun _ => hg), trivial⟩ rfl (Nat.le_of_ble_eq_true rfl))) ?_)
    refine st (pg_ (u := .int .i64 (r14.2.1.waiting.length : Int)) rfl (fun hg => (clenL (e := eDSector) (l0 := r14.2.1.waiting) rfl rfl (fun _ => hg))) ?_)
    refine sw ⟨[(1, .lst 1 (a1.map eU8)), (6, .own 2048 0 1 (r6.1.map eU8)), (8, .int .i64 r8), (11, .own 2944 0 1 (r12.1.map eU8)), (16, .own 3904 0 1 (r16.1.map eU8)), (87, .bool (bif (bif (bif (bif (bif (r6.2 != 0) then true else (r10.2 != 0)) then true else (r12.2 != 0)) then true else (r14.2.2 != 0)) then true else (r16.2 != 0)) then true else (!r18))), (90, .may ((bif (bif (bif (bif (bif (r6.2 != 0) then true else (r10.2 != 0)) then true else (r12.2 != 0)) then true else (r14.2.2 != 0)) then true else (r16.2 != 0)) then true else (!r18)) == false) (.int .i64 (r14.2.1.waiting.length : Int)))], [], []⟩ (fgk (by kernel_rfl)) (pg_ (u := .bool ((r14.2.1.waiting.length : Int) != 0)) rfl (fun hg => (cp_ ⟨(fun _ => hg), trivial, trivial⟩ rfl trivial)) ?_)
    refine st (pick_ rfl rfl rfl trivial (fun h => eqf h) rfl ?_)
    refine st (mv_ rfl trivial ?_)
    refine st (pg_ (u := .own 2944 0 1 (r12.1.map eU8)) rfl (fun hg => (cmv (v := .own 2944 0 1 (r12.1.map eU8)) rfl trivial)) ?_)
    refine st (pg_ (u := .int .i64 (r12.1.length : Int)) rfl (fun hg => (clenO (e := eU8) (l0 := r12.1) rfl rfl (fun _ => hg))) ?_)
    refine st (pg_ (u := .own 2048 0 1 (r6.1.map eU8)) rfl (fun hg => (cmv (v := .own 2048 0 1 (r6.1.map eU8)) rfl trivial)) ?_)
    refine st (pg_ (u := .int .i64 (r6.1.length : Int)) rfl (fun hg => (clenO (e := eU8) (l0 := r6.1) rfl rfl (fun _ => hg))) ?_)
    refine st (pg_ (u := .bool (decide ((r12.1.length : Int) < (r6.1.length : Int)))) rfl (fun hg => (cp_ ⟨(fun _ => hg), (fun _ => hg), trivial⟩ rfl trivial)) ?_)
    refine st (pick_ rfl rfl rfl trivial (fun h => eqf h) rfl ?_)
    refine oe_ ?_
    obtain ⟨v20, e21, h0⟩ := bl h0
    refine wk_ ⟨[(1, .lst 1 (a1.map eU8)), (6, .own 2048 0 1 (r6.1.map eU8)), (8, .int .i64 r8), (11, .own 2944 0 1 (r12.1.map eU8)), (16, .own 3904 0 1 (r16.1.map eU8)), (99, .bool v20)], [], []⟩ (fgk (by subst e21; kernel_rfl)) ?_
    refine ite_ (cb := v20) rfl (fun c22 => ?_) (fun c22 => ?_)
    · replace h0 := ip c22 h0
      refine seq_ ?_
      refine reg_ ?_
      refine st (mvc_ trivial ?_)
      refine oe_ ?_
      refine wk_ ⟨[(4, .bool false)], [], []⟩ (fgk (by kernel_rfl)) ?_
      obtain rfl := Option.some.inj h0
      exact rt_ (ret_ rfl rfl rfl rfl rfl trivial)
    · replace h0 := inb c22 h0
      refine sk_ ?_
      refine wk_ ⟨[(1, .lst 1 (a1.map eU8)), (6, .own 2048 0 1 (r6.1.map eU8)), (8, .int .i64 r8), (11, .own 2944 0 1 (r12.1.map eU8)), (16, .own 3904 0 1 (r16.1.map eU8))], [], []⟩ (fgk (by kernel_rfl)) ?_
      refine seq_ ?_
      refine seq_ ?_
      refine reg_ ?_
      refine st (mvc_ trivial ?_)
      refine oe_ ?_
      refine wk_ ⟨[(1, .lst 1 (a1.map eU8)), (6, .own 2048 0 1 (r6.1.map eU8)), (8, .int .i64 r8), (11, .own 2944 0 1 (r12.1.map eU8)), (16, .own 3904 0 1 (r16.1.map eU8)), (18, .int .i64 0)], [], []⟩ (fgk (by kernel_rfl)) ?_
      refine block_ ?_
      obtain ⟨r89, e90, h0⟩ := bnd h0
      refine loop_ (R := (fun S => .inl () = r89 ∧ S = ⟨[(1, .lst 1 (a1.map eU8)), (8, .int .i64 r8), (16, .own 3904 0 1 (r16.1.map eU8))], [], []⟩)) (g201_l0 a1 r6 r8 r12) (fun s S => match s with | p41 => S = ⟨[(1, .lst 1 (a1.map eU8)), (6, .own 2048 0 1 (r6.1.map eU8)), (8, .int .i64 r8), (11, .own 2944 0 1 (r12.1.map eU8)), (16, .own 3904 0 1 (r16.1.map eU8)), (18, .int .i64 p41)], [], []⟩) e90 ⟨[(1, .lst 1 (a1.map eU8)), (6, .own 2048 0 1 (r6.1.map eU8)), (8, .int .i64 r8), (11, .own 2944 0 1 (r12.1.map eU8)), (16, .own 3904 0 1 (r16.1.map eU8)), (18, .int .i64 0)], [], []⟩ (fgk (by kernel_rfl)) rfl 0 (fun _ => rfl) ?_ ?_
      · rintro S _ hfg ⟨rfl, rfl⟩
        refine wk_ ⟨[(1, .lst 1 (a1.map eU8)), (8, .int .i64 r8), (16, .own 3904 0 1 (r16.1.map eU8))], [], []⟩ (fglk hfg (by kernel_rfl)) ?_
        refine seq_ ?_
        obtain ⟨s91, e92, h0⟩ := bnd h0
        refine draw_ ?_
        refine dtake trivial (mv_ rfl trivial ?_)
        refine ⟨trivial, ?_⟩
        refine dtake trivial (c_ (clenL (e := eU8) (l0 := a1) rfl rfl trivial) ?_)
        refine ⟨trivial, ?_⟩
        refine dtake trivial (c_ (cp_ ⟨trivial, trivial, trivial⟩ rfl trivial) ?_)
        refine ⟨trivial, ?_⟩
        refine dtake trivial (mv_ rfl trivial ?_)
        refine ⟨trivial, ?_⟩
        refine dtake trivial (pg_ (u := .own 3904 0 1 (r16.1.map eU8)) rfl (fun hg => (cmv (v := .own 3904 0 1 (r16.1.map eU8)) rfl trivial)) ?_)
        refine ⟨trivial, ?_⟩
        refine dtake trivial (pg_ (u := .int .i64 (r16.1.length : Int)) rfl (fun hg => (clenO (e := eU8) (l0 := r16.1) rfl rfl (fun _ => hg))) ?_)
        refine ⟨trivial, ?_⟩
        refine dtake trivial (pg_ (u := .int .i64 r8) rfl (fun hg => (cmv (v := .int .i64 r8) rfl trivial)) ?_)
        refine ⟨trivial, ?_⟩
        refine dtake trivial (pg_ (u := .lst 1 (a1.map eU8)) rfl (fun hg => (cmv (v := .lst 1 (a1.map eU8)) rfl trivial)) ?_)
        refine ⟨trivial, ?_⟩
        refine dtake trivial (pg_ (u := .int .i64 (a1.length : Int)) rfl (fun hg => (clenL (e := eU8) (l0 := a1) rfl rfl (fun _ => hg))) ?_)
        refine ⟨trivial, ?_⟩
        refine dtake trivial (pg_ (u := .int .i64 (IntKind.i64.wrap (r8 + (a1.length : Int)))) rfl (fun hg => (cp_ ⟨(fun _ => hg), (fun _ => hg), trivial⟩ rfl trivial)) ?_)
        refine ⟨trivial, ?_⟩
        refine dtake trivial (pg_ (u := .bool (decide ((r16.1.length : Int) ≥ (IntKind.i64.wrap (r8 + (a1.length : Int)))))) rfl (fun hg => (cp_ ⟨(fun _ => hg), (fun _ => hg), trivial⟩ rfl trivial)) ?_)
        refine ⟨trivial, ?_⟩
        refine dtake trivial (pg_ (u := .bool (decide ((r16.1.length : Int) ≥ (IntKind.i64.wrap (r8 + (a1.length : Int)))))) rfl (fun hg => (cmv (v := .may (((a1.length : Int) == 0) == false) (.bool (decide ((r16.1.length : Int) ≥ (IntKind.i64.wrap (r8 + (a1.length : Int))))))) rfl (fun _ => hg))) ?_)
        refine ⟨trivial, ?_⟩
        refine dtake trivial (pg_ (u := .own 3904 0 1 (r16.1.map eU8)) rfl (fun hg => (cmv (v := .own 3904 0 1 (r16.1.map eU8)) rfl trivial)) ?_)
        refine ⟨trivial, ?_⟩
        refine dtake trivial (pg_ (u := .int .i64 r8) rfl (fun hg => (cmv (v := .int .i64 r8) rfl trivial)) ?_)
        refine ⟨trivial, ?_⟩
        refine dtake trivial (pg_ (u := .int .i64 r8) rfl (fun hg => (cmv (v := .int .i64 r8) rfl trivial)) ?_)
        refine ⟨trivial, ?_⟩
        refine dtake trivial (pg_ (u := .lst 1 (a1.map eU8)) rfl (fun hg => (cmv (v := .lst 1 (a1.map eU8)) rfl trivial)) ?_)
        refine ⟨trivial, ?_⟩
        refine dtake trivial (pg_ (u := .int .i64 (a1.length : Int)) rfl (fun hg => (clenL (e := eU8) (l0 := a1) rfl rfl (fun _ => hg))) ?_)
        refine ⟨trivial, ?_⟩
        refine dtake trivial (pg_ (u := .int .i64 (IntKind.i64.wrap (r8 + (a1.length : Int)))) rfl (fun hg => (cp_ ⟨(fun _ => hg), (fun _ => hg), trivial⟩ rfl trivial)) ?_)
        refine ⟨trivial, ?_⟩
        refine dtake trivial (pg_ (u := .own 3904 (0 + r8.toNat) 1 (s91.map eU8)) rfl (fun hg => (csliceO (e := eU8) (y := s91) (off := 0) (a := (some r8)) (b := (some (IntKind.i64.wrap (r8 + (a1.length : Int))))) rfl rfl (fun _ => hg) ⟨(fun _ => hg), (fun _ => hg), trivial⟩ rfl rfl (ip hg e92))) ?_)
        refine ⟨trivial, ?_⟩
        refine dtake trivial (pg_ (u := .str s91) rfl (fun hg => (ctoStrO (s := s91) rfl rfl (fun _ => hg))) ?_)
        refine ⟨trivial, ?_⟩
        refine dtake trivial (pg_ (u := .lst 1 (a1.map eU8)) rfl (fun hg => (cmv (v := .lst 1 (a1.map eU8)) rfl trivial)) ?_)
        refine ⟨trivial, ?_⟩
        refine dtake trivial (pg_ (u := .str a1) rfl (fun hg => (ctoStrL (s := a1) rfl rfl (fun _ => hg))) ?_)
        refine ⟨trivial, ?_⟩
        refine dtake trivial (pg_ (u := .bool (s91 == a1)) rfl (fun hg => (cp_ ⟨(fun _ => hg), (fun _ => hg), trivial⟩ rfl trivial)) ?_)
        refine ⟨trivial, ?_⟩
        refine dtake trivial (pickg_ (u := .bool (bif (decide ((r16.1.length : Int) ≥ (IntKind.i64.wrap (r8 + (a1.length : Int))))) then (s91 == a1) else false)) rfl (fun hg => cpick rfl rfl (fun _ => hg) rfl rfl (fun h => and_ hg (eqt h)) trivial rfl) ?_)
        refine ⟨trivial, ?_⟩
        refine dtake trivial (pick_ rfl rfl rfl trivial (fun h => eqf h) rfl ?_)
        refine ⟨trivial, ?_⟩
        refine dtake trivial (mv_ rfl trivial ?_)
        refine ⟨trivial, ?_⟩
        refine dfin ?_
        obtain ⟨v93, e94, h0⟩ := bl h0
        refine wk_ ⟨[(4, .bool v93)], [], []⟩ (fgk (by subst e94; kernel_rfl)) ?_
        obtain rfl := Option.some.inj h0
        exact rt_ (ret_ rfl rfl rfl rfl rfl trivial)
      · rintro p41 o1 _ K1 rfl h1 hx1 hK1 hE1 hR1
        refine seq_ ?_
        refine seq_ ?_
        refine reg_ ?_
        refine st (mv_ rfl trivial ?_)
        refine st (mv_ rfl trivial ?_)
        refine st (c_ (clenO (e := eU8) (l0 := r12.1) rfl rfl trivial) ?_)
        refine st (c_ (cp_ ⟨trivial, trivial, trivial⟩ rfl trivial) ?_)
        refine oe_ ?_
        refine wk_ ⟨[(1, .lst 1 (a1.map eU8)), (6, .own 2048 0 1 (r6.1.map eU8)), (8, .int .i64 r8), (11, .own 2944 0 1 (r12.1.map eU8)), (16, .own 3904 0 1 (r16.1.map eU8)), (18, .int .i64 p41), (103, .bool (decide (p41 < (r12.1.length : Int))))], [], []⟩ (fgk (by kernel_rfl)) ?_
        refine ite_ (cb := (decide (p41 < (r12.1.length : Int)))) rfl (fun c61 => ?_) (fun c61 => ?_)
        · replace h1 := ip c61 h1
          refine sk_ ?_
          refine wk_ ⟨[(1, .lst 1 (a1.map eU8)), (6, .own 2048 0 1 (r6.1.map eU8)), (8, .int .i64 r8), (11, .own 2944 0 1 (r12.1.map eU8)), (16, .own 3904 0 1 (r16.1.map eU8)), (18, .int .i64 p41)], [], []⟩ (fgk (by kernel_rfl)) ?_
          refine seq_ ?_
          refine block_ ?_
          refine seq_ ?_
          refine reg_ ?_
          refine st (mvc_ trivial ?_)
          refine oe_ ?_
          refine wk_ ⟨[(1, .lst 1 (a1.map eU8)), (6, .own 2048 0 1 (r6.1.map eU8)), (8, .int .i64 r8), (11, .own 2944 0 1 (r12.1.map eU8)), (16, .own 3904 0 1 (r16.1.map eU8)), (18, .int .i64 p41), (19, .int .u8 0)], [], []⟩ (fgk (by kernel_rfl)) ?_
          refine seq_ ?_
          refine seq_ ?_
          refine reg_ ?_
          refine st (mv_ rfl trivial ?_)
          refine st (mv_ rfl trivial ?_)
          refine st (c_ (clenO (e := eU8) (l0 := r6.1) rfl rfl trivial) ?_)
          refine st (c_ (cp_ ⟨trivial, trivial, trivial⟩ rfl trivial) ?_)
          refine oe_ ?_
          refine wk_ ⟨[(1, .lst 1 (a1.map eU8)), (6, .own 2048 0 1 (r6.1.map eU8)), (8, .int .i64 r8), (11, .own 2944 0 1 (r12.1.map eU8)), (16, .own 3904 0 1 (r16.1.map eU8)), (18, .int .i64 p41), (19, .int .u8 0), (109, .bool (decide (p41 < (r6.1.length : Int))))], [], []⟩ (fgk (by kernel_rfl)) ?_
          refine iteJ (cb := (decide (p41 < (r6.1.length : Int)))) (fun S => ∃ p67 : UInt8, S = ⟨[(1, .lst 1 (a1.map eU8)), (6, .own 2048 0 1 (r6.1.map eU8)), (8, .int .i64 r8), (11, .own 2944 0 1 (r12.1.map eU8)), (16, .own 3904 0 1 (r16.1.map eU8)), (18, .int .i64 p41), (19, .int .u8 ((p67).toNat : Int))], [], []⟩ ∧ g201_j0 a1 r8 r12 p41 p67 = some o1) rfl ?_ (fun c84 J83 => ?_) (fun c84 J83 => ?_)
          · rintro _ ⟨p67, rfl, h1⟩
            refine wk_ ⟨[(1, .lst 1 (a1.map eU8)), (6, .own 2048 0 1 (r6.1.map eU8)), (8, .int .i64 r8), (11, .own 2944 0 1 (r12.1.map eU8)), (16, .own 3904 0 1 (r16.1.map eU8)), (18, .int .i64 p41), (19, .int .u8 ((p67).toNat : Int))], [], []⟩ (fgk (by kernel_rfl)) ?_
            refine seq_ ?_
            refine seq_ ?_
            refine reg_ ?_
            refine st (mv_ rfl trivial ?_)
            refine st (mv_ rfl trivial ?_)
            refine st (c_ (cp_ ⟨trivial, trivial, trivial⟩ rfl trivial) ?_)
            refine st (mv_ rfl trivial ?_)
            refine st (pg_ (u := .int .i64 p41) rfl (fun hg => (cmv (v := .int .i64 p41) rfl trivial)) ?_)
            refine st (pg_ (u := .int .i64 r8) rfl (fun hg => (cmv (v := .int .i64 r8) rfl trivial)) ?_)
            refine st (pg_ (u := .lst 1 (a1.map eU8)) rfl (fun hg => (cmv (v := .lst 1 (a1.map eU8)) rfl trivial)) ?_)
            refine st (pg_ (u := .int .i64 (a1.length : Int)) rfl (fun hg => (clenL (e := eU8) (l0 := a1) rfl rfl (fun _ => hg))) ?_)
            refine st (pg_ (u := .int .i64 (IntKind.i64.wrap (r8 + (a1.length : Int)))) rfl (fun hg => (cp_ ⟨(fun _ => hg), (fun _ => hg), trivial⟩ rfl trivial)) ?_)
            refine st (pg_ (u := .bool (decide (p41 < (IntKind.i64.wrap (r8 + (a1.length : Int)))))) rfl (fun hg => (cp_ ⟨(fun _ => hg), (fun _ => hg), trivial⟩ rfl trivial)) ?_)
            refine st (pick_ rfl rfl rfl (fun h => eqt h) trivial rfl ?_)
            refine oe_ ?_
            obtain ⟨v68, e69, h1⟩ := bl h1
            refine wk_ ⟨[(1, .lst 1 (a1.map eU8)), (6, .own 2048 0 1 (r6.1.map eU8)), (8, .int .i64 r8), (11, .own 2944 0 1 (r12.1.map eU8)), (16, .own 3904 0 1 (r16.1.map eU8)), (18, .int .i64 p41), (19, .int .u8 ((p67).toNat : Int)), (124, .bool v68)], [], []⟩ (fgk (by subst e69; kernel_rfl)) ?_
            refine iteJ (cb := v68) (fun S => ∃ p73 : UInt8, S = ⟨[(1, .lst 1 (a1.map eU8)), (6, .own 2048 0 1 (r6.1.map eU8)), (8, .int .i64 r8), (11, .own 2944 0 1 (r12.1.map eU8)), (16, .own 3904 0 1 (r16.1.map eU8)), (18, .int .i64 p41), (19, .int .u8 ((p73).toNat : Int))], [], []⟩ ∧ g201_j1 r12 p41 p73 = some o1) rfl ?_ (fun c80 J79 => ?_) (fun c80 J79 => ?_)
            · rintro _ ⟨p73, rfl, h1⟩
              refine wk_ ⟨[(1, .lst 1 (a1.map eU8)), (6, .own 2048 0 1 (r6.1.map eU8)), (8, .int .i64 r8), (11, .own 2944 0 1 (r12.1.map eU8)), (16, .own 3904 0 1 (r16.1.map eU8)), (18, .int .i64 p41), (19, .int .u8 ((p73).toNat : Int))], [], []⟩ (fgk (by kernel_rfl)) ?_
              refine seq_ ?_
              refine reg_ ?_
              refine st (mv_ rfl trivial ?_)
              refine st (mv_ rfl trivial ?_)
              obtain ⟨y74, e75, h1⟩ := bnd h1
              refine st (c_ (cidxO (e := eU8) (y := y74) rfl rfl trivial rfl rfl trivial e75) ?_)
              obtain ⟨y76, e77, h1⟩ := bnd h1
              refine st (c_ (cloadO (e := eU8) (y := y76) (v := .int .u8 ((y76).toNat : Int)) rfl rfl trivial rfl rfl e77 rfl (Nat.le_of_ble_eq_true rfl) rfl) ?_)
              refine st (mv_ rfl trivial ?_)
              refine st (c_ (cp_ ⟨trivial, trivial, trivial⟩ rfl trivial) ?_)
              refine oe_ ?_
              refine wk_ ⟨[(1, .lst 1 (a1.map eU8)), (6, .own 2048 0 1 (r6.1.map eU8)), (8, .int .i64 r8), (11, .own 2944 0 1 (r12.1.map eU8)), (16, .own 3904 0 1 (r16.1.map eU8)), (18, .int .i64 p41), (136, .bool (((y76).toNat : Int) != ((p73).toNat : Int)))], [], []⟩ (fgk (by kernel_rfl)) ?_
              refine ite_ (cb := (((y76).toNat : Int) != ((p73).toNat : Int))) rfl (fun c78 => ?_) (fun c78 => ?_)
              · replace h1 := ip c78 h1
                refine seq_ ?_
                refine reg_ ?_
                refine st (mvc_ trivial ?_)
                refine oe_ ?_
                refine wk_ ⟨[(4, .bool false)], [], []⟩ (fgk (by kernel_rfl)) ?_
                obtain rfl := Option.some.inj h1
                obtain rfl := hx1 _ rfl
                obtain rfl := Option.some.inj h0
                exact rt_ (hR1 _ (ret_ rfl rfl rfl rfl rfl trivial))
              · replace h1 := inb c78 h1
                refine sk_ ?_
                refine bn_ ?_
                refine wk_ ⟨[(1, .lst 1 (a1.map eU8)), (6, .own 2048 0 1 (r6.1.map eU8)), (8, .int .i64 r8), (11, .own 2944 0 1 (r12.1.map eU8)), (16, .own 3904 0 1 (r16.1.map eU8)), (18, .int .i64 p41)], [], []⟩ (fgk (by kernel_rfl)) ?_
                refine reg_ ?_
                refine st (mv_ rfl trivial ?_)
                refine st (c_ (cp_ ⟨trivial, trivial, trivial⟩ rfl trivial) ?_)
                refine st (mv_ rfl trivial ?_)
                refine oe_ ?_
                obtain rfl := Option.some.inj h1
                exact hK1 _ rfl _ ⟨[(1, .lst 1 (a1.map eU8)), (6, .own 2048 0 1 (r6.1.map eU8)), (8, .int .i64 r8), (11, .own 2944 0 1 (r12.1.map eU8)), (16, .own 3904 0 1 (r16.1.map eU8)), (18, .int .i64 (IntKind.i64.wrap (p41 + 1)))], [], []⟩ (fgk (by kernel_rfl)) rfl
            · replace h1 := ip c80 h1
              refine reg_ ?_
              refine st (mv_ rfl trivial ?_)
              refine st (mv_ rfl trivial ?_)
              refine st (mv_ rfl trivial ?_)
              refine st (c_ (cp_ ⟨trivial, trivial, trivial⟩ rfl trivial) ?_)
              obtain ⟨y81, e82, h1⟩ := bnd h1
              refine st (c_ (cidxL (e := eU8) (y := y81) rfl rfl trivial rfl rfl trivial e82) ?_)
              refine st (c_ (cp_ ⟨trivial, trivial⟩ rfl (Nat.le_of_ble_eq_true rfl)) ?_)
              refine st (mv_ rfl trivial ?_)
              refine oe_ ?_
              exact J79 _ ⟨[(1, .lst 1 (a1.map eU8)), (6, .own 2048 0 1 (r6.1.map eU8)), (8, .int .i64 r8), (11, .own 2944 0 1 (r12.1.map eU8)), (16, .own 3904 0 1 (r16.1.map eU8)), (18, .int .i64 p41), (19, .int .u8 ((y81).toNat : Int))], [], []⟩ (fgk (by kernel_rfl)) ⟨_, rfl, h1⟩
            · replace h1 := inb c80 h1
              refine sk_ ?_
              exact J79 _ ⟨[(1, .lst 1 (a1.map eU8)), (6, .own 2048 0 1 (r6.1.map eU8)), (8, .int .i64 r8), (11, .own 2944 0 1 (r12.1.map eU8)), (16, .own 3904 0 1 (r16.1.map eU8)), (18, .int .i64 p41), (19, .int .u8 ((p67).toNat : Int))], [], []⟩ (fgk (by kernel_rfl)) ⟨_, rfl, h1⟩
          · replace h1 := ip c84 h1
            refine reg_ ?_
            refine st (mv_ rfl trivial ?_)
            refine st (mv_ rfl trivial ?_)
            obtain ⟨y85, e86, h1⟩ := bnd h1
            refine st (c_ (cidxO (e := eU8) (y := y85) rfl rfl trivial rfl rfl trivial e86) ?_)
            obtain ⟨y87, e88, h1⟩ := bnd h1
            refine st (c_ (cloadO (e := eU8) (y := y87) (v := .int .u8 ((y87).toNat : Int)) rfl rfl trivial rfl rfl e88 rfl (Nat.le_of_ble_eq_true rfl) rfl) ?_)
            refine st (mv_ rfl trivial ?_)
            refine oe_ ?_
            exact J83 _ ⟨[(1, .lst 1 (a1.map eU8)), (6, .own 2048 0 1 (r6.1.map eU8)), (8, .int .i64 r8), (11, .own 2944 0 1 (r12.1.map eU8)), (16, .own 3904 0 1 (r16.1.map eU8)), (18, .int .i64 p41), (19, .int .u8 ((y87).toNat : Int))], [], []⟩ (fgk (by kernel_rfl)) ⟨_, rfl, h1⟩
          · replace h1 := inb c84 h1
            refine sk_ ?_
            exact J83 _ ⟨[(1, .lst 1 (a1.map eU8)), (6, .own 2048 0 1 (r6.1.map eU8)), (8, .int .i64 r8), (11, .own 2944 0 1 (r12.1.map eU8)), (16, .own 3904 0 1 (r16.1.map eU8)), (18, .int .i64 p41), (19, .int .u8 (((0 : UInt8)).toNat : Int))], [], []⟩ (fgk (by kernel_rfl)) ⟨_, rfl, h1⟩
        · replace h1 := inb c61 h1
          obtain rfl := Option.some.inj h1
          obtain rfl := hx1 _ rfl
          refine exQ rfl ?_
          exact hE1 _ ⟨[(1, .lst 1 (a1.map eU8)), (8, .int .i64 r8), (16, .own 3904 0 1 (r16.1.map eU8))], [], []⟩ (fgk (by kernel_rfl)) ⟨rfl, rfl⟩
end Go.Ev
