/- The walks of functions: the code comes to the answers that QgD tells. Written by a program of ours. -/
import Derived.Test.YtdmclbbhhcpjfaaQgW0
set_option linter.all false
set_option maxHeartbeats 4000000
set_option linter.unusedVariables false
set_option maxRecDepth 100000
namespace Go.Ev

/- loop.example/g00149/laws.eqByteS -/
def c233_r0 : List Ins := [⟨some 4, .p (.mv (.c (.bool false))), none⟩]
def c233_r1 : List Ins := [⟨some 6, .p (.mv (.t 0)), none⟩,
 ⟨some 7, .p (.len (.t 6)), none⟩,
 ⟨some 8, .p (.mv (.t 1)), none⟩,
 ⟨some 9, .p (.len (.t 8)), none⟩,
 ⟨some 10, .p (.bin .neq (.t 7) (.t 9)), none⟩]
def c233_r2 : List Ins := [⟨some 4, .p (.mv (.c (.bool false))), none⟩]
def c233_r3 : List Ins := [⟨some 5, .p (.mv (.c (.int .i64 0))), none⟩]
def c233_r4 : List Ins := [⟨some 11, .p (.mv (.t 5)), none⟩,
 ⟨some 12, .p (.mv (.t 0)), none⟩,
 ⟨some 13, .p (.len (.t 12)), none⟩,
 ⟨some 14, .p (.bin .lss (.t 11) (.t 13)), none⟩]
def c233_r5 : DP := (.take ⟨some 17, .p (.mv (.t 0)), none⟩
 (.take ⟨some 18, .p (.mv (.t 5)), none⟩
 (.take ⟨some 19, .p (.idxA (.t 17) (.t 18) 1), none⟩
 (.take ⟨some 20, .p (.load (.t 19) 1 false), none⟩
 (.take ⟨some 21, .p (.mv (.t 1)), none⟩
 (.take ⟨some 22, .p (.mv (.t 5)), none⟩
 (.take ⟨some 23, .p (.idxA (.t 21) (.t 22) 1), none⟩
 (.take ⟨some 24, .p (.load (.t 23) 1 false), none⟩
 (.take ⟨some 25, .p (.bin .neq (.t 20) (.t 24)), none⟩
 .fin)))))))))
def c233_r6 : List Ins := [⟨some 4, .p (.mv (.c (.bool false))), none⟩]
def c233_r7 : List Ins := [⟨some 15, .p (.mv (.t 5)), none⟩,
 ⟨some 16, .p (.bin .add (.t 15) (.c (.int .i64 1))), none⟩,
 ⟨some 5, .p (.mv (.t 16)), none⟩]
def c233_l0 : IR := (.seq (.seq (.reg c233_r4) (.ite (.t 14) .skip (.exit 0))) (.seq (.block 1 (.seq (.draw c233_r5) (.ite (.t 25) (.seq (.reg c233_r6) .ret) .skip))) (.reg c233_r7)))
def c233_r8 : List Ins := [⟨some 4, .p (.mv (.c (.bool true))), none⟩]
def c233 : XFn := { np := 2, nt := 26, res := [.t 4], body := (.seq (.reg c233_r0) (.seq (.seq (.reg c233_r1) (.ite (.t 10) (.seq (.reg c233_r2) .ret) .skip)) (.seq (.seq (.reg c233_r3) (.block 0 (.loop c233_l0))) (.seq (.reg c233_r8) .ret)))) }
def K233 (C : CRel) : Prop := ∀ (a0 : List UInt8) (a1 : List UInt8) (r : Bool), g233 a0 a1 = some r → C 233 ⟨[.lst 1 (a0.map eU8), .lst 1 (a1.map eU8)], []⟩ ⟨.bool r, [], []⟩
theorem F233 {C : CRel}  (a0 : List UInt8) (a1 : List UInt8) (r : Bool) (h0 : g233 a0 a1 = some r) : FnOK C c233 ⟨[.lst 1 (a0.map eU8), .lst 1 (a1.map eU8)], []⟩ ⟨.bool r, [], []⟩ := by
  refine fn_ (Nat.le_of_ble_eq_true rfl) ?_
  refine seq_ ?_
  refine reg_ ?_
  refine st (mvc_ trivial ?_)
  refine oe_ ?_
  refine wk_ ⟨[(0, .lst 1 (a0.map eU8)), (1, .lst 1 (a1.map eU8))], [], []⟩ (fgk (by kernel_rfl)) ?_
  refine seq_ ?_
  refine seq_ ?_
  refine reg_ ?_
  refine st (mv_ rfl trivial ?_)
  refine st (c_ (clenL (e := eU8) (l0 := a0) rfl rfl trivial) ?_)
  refine st (mv_ rfl trivial ?_)
  refine st (c_ (clenL (e := eU8) (l0 := a1) rfl rfl trivial) ?_)
  refine st (c_ (cp_ ⟨trivial, trivial, trivial⟩ rfl trivial) ?_)
  refine oe_ ?_
  refine wk_ ⟨[(0, .lst 1 (a0.map eU8)), (1, .lst 1 (a1.map eU8)), (10, .bool ((a0.length : Int) != (a1.length : Int)))], [], []⟩ (fgk (by kernel_rfl)) ?_
  refine ite_ (cb := ((a0.length : Int) != (a1.length : Int))) rfl (fun c1 => ?_) (fun c1 => ?_)
  · replace h0 := ip c1 h0
    refine seq_ ?_
    refine reg_ ?_
    refine st (mvc_ trivial ?_)
    refine oe_ ?_
    refine wk_ ⟨[(4, .bool false)], [], []⟩ (fgk (by kernel_rfl)) ?_
    obtain rfl := Option.some.inj h0
    exact rt_ (ret_ rfl rfl rfl rfl rfl trivial)
  · replace h0 := inb c1 h0
    refine sk_ ?_
    refine wk_ ⟨[(0, .lst 1 (a0.map eU8)), (1, .lst 1 (a1.map eU8))], [], []⟩ (fgk (by kernel_rfl)) ?_
    refine seq_ ?_
    refine seq_ ?_
    refine reg_ ?_
    refine st (mvc_ trivial ?_)
    refine oe_ ?_
    refine wk_ ⟨[(0, .lst 1 (a0.map eU8)), (1, .lst 1 (a1.map eU8)), (5, .int .i64 0)], [], []⟩ (fgk (by kernel_rfl)) ?_
    refine block_ ?_
    obtain ⟨r22, e23, h0⟩ := bnd h0
    refine loop_ (R := (fun S => .inl () = r22 ∧ S = ⟨[], [], []⟩)) (g233_l0 a0 a1) (fun s S => match s with | p8 => S = ⟨[(0, .lst 1 (a0.map eU8)), (1, .lst 1 (a1.map eU8)), (5, .int .i64 p8)], [], []⟩) e23 ⟨[(0, .lst 1 (a0.map eU8)), (1, .lst 1 (a1.map eU8)), (5, .int .i64 0)], [], []⟩ (fgk (by kernel_rfl)) rfl 0 (fun _ => rfl) ?_ ?_
    · rintro S _ hfg ⟨rfl, rfl⟩
      refine wk_ ⟨[], [], []⟩ (fglk hfg (by kernel_rfl)) ?_
      refine seq_ ?_
      refine reg_ ?_
      refine st (mvc_ trivial ?_)
      refine oe_ ?_
      refine wk_ ⟨[(4, .bool true)], [], []⟩ (fgk (by kernel_rfl)) ?_
      obtain rfl := Option.some.inj h0
      exact rt_ (ret_ rfl rfl rfl rfl rfl trivial)
    · rintro p8 o1 _ K1 rfl h1 hx1 hK1 hE1 hR1
      refine seq_ ?_
      refine seq_ ?_
      refine reg_ ?_
      refine st (mv_ rfl trivial ?_)
      refine st (mv_ rfl trivial ?_)
      refine st (c_ (clenL (e := eU8) (l0 := a0) rfl rfl trivial) ?_)
      refine st (c_ (cp_ ⟨trivial, trivial, trivial⟩ rfl trivial) ?_)
      refine oe_ ?_
      refine wk_ ⟨[(0, .lst 1 (a0.map eU8)), (1, .lst 1 (a1.map eU8)), (5, .int .i64 p8), (14, .bool (decide (p8 < (a0.length : Int))))], [], []⟩ (fgk (by kernel_rfl)) ?_
      refine ite_ (cb := (decide (p8 < (a0.length : Int)))) rfl (fun c16 => ?_) (fun c16 => ?_)
      · replace h1 := ip c16 h1
        refine sk_ ?_
        refine wk_ ⟨[(0, .lst 1 (a0.map eU8)), (1, .lst 1 (a1.map eU8)), (5, .int .i64 p8)], [], []⟩ (fgk (by kernel_rfl)) ?_
        refine seq_ ?_
        refine block_ ?_
        refine seq_ ?_
        obtain ⟨y17, e18, h1⟩ := bnd h1
        obtain ⟨y19, e20, h1⟩ := bnd h1
        refine draw_ ?_
        refine dtake trivial (mv_ rfl trivial ?_)
        refine ⟨trivial, ?_⟩
        refine dtake trivial (mv_ rfl trivial ?_)
        refine ⟨trivial, ?_⟩
        refine dtake trivial (c_ (cidxL (e := eU8) (y := y17) rfl rfl trivial rfl rfl trivial e18) ?_)
        refine ⟨trivial, ?_⟩
        refine dtake trivial (c_ (cp_ ⟨trivial, trivial⟩ rfl (Nat.le_of_ble_eq_true rfl)) ?_)
        refine ⟨trivial, ?_⟩
        refine dtake trivial (mv_ rfl trivial ?_)
        refine ⟨trivial, ?_⟩
        refine dtake trivial (mv_ rfl trivial ?_)
        refine ⟨trivial, ?_⟩
        refine dtake trivial (c_ (cidxL (e := eU8) (y := y19) rfl rfl trivial rfl rfl trivial e20) ?_)
        refine ⟨trivial, ?_⟩
        refine dtake trivial (c_ (cp_ ⟨trivial, trivial⟩ rfl (Nat.le_of_ble_eq_true rfl)) ?_)
        refine ⟨trivial, ?_⟩
        refine dtake trivial (c_ (cp_ ⟨trivial, trivial, trivial⟩ rfl trivial) ?_)
        refine ⟨trivial, ?_⟩
        refine dfin ?_
        refine wk_ ⟨[(0, .lst 1 (a0.map eU8)), (1, .lst 1 (a1.map eU8)), (5, .int .i64 p8), (25, .bool (((y17).toNat : Int) != ((y19).toNat : Int)))], [], []⟩ (fgk (by kernel_rfl)) ?_
        refine ite_ (cb := (((y17).toNat : Int) != ((y19).toNat : Int))) rfl (fun c21 => ?_) (fun c21 => ?_)
        · replace h1 := ip c21 h1
          refine seq_ ?_
          refine reg_ ?_
          refine st (mvc_ trivial ?_)
          refine oe_ ?_
          refine wk_ ⟨[(4, .bool false)], [], []⟩ (fgk (by kernel_rfl)) ?_
          obtain rfl := Option.some.inj h1
          obtain rfl := hx1 _ rfl
          obtain rfl := Option.some.inj h0
          exact rt_ (hR1 _ (ret_ rfl rfl rfl rfl rfl trivial))
        · replace h1 := inb c21 h1
          refine sk_ ?_
          refine bn_ ?_
          refine wk_ ⟨[(0, .lst 1 (a0.map eU8)), (1, .lst 1 (a1.map eU8)), (5, .int .i64 p8)], [], []⟩ (fgk (by kernel_rfl)) ?_
          refine reg_ ?_
          refine st (mv_ rfl trivial ?_)
          refine st (c_ (cp_ ⟨trivial, trivial, trivial⟩ rfl trivial) ?_)
          refine st (mv_ rfl trivial ?_)
          refine oe_ ?_
          obtain rfl := Option.some.inj h1
          exact hK1 _ rfl _ ⟨[(0, .lst 1 (a0.map eU8)), (1, .lst 1 (a1.map eU8)), (5, .int .i64 (IntKind.i64.wrap (p8 + 1)))], [], []⟩ (fgk (by kernel_rfl)) rfl
      · replace h1 := inb c16 h1
        obtain rfl := Option.some.inj h1
        obtain rfl := hx1 _ rfl
        refine exQ rfl ?_
        exact hE1 _ ⟨[], [], []⟩ (fgk (by kernel_rfl)) ⟨rfl, rfl⟩

/- loop.example/g00149/laws.eqIssued -/
def c344_r0 : List Ins := [⟨some 2, .box (.t 0), none⟩,
 ⟨some 3, .box (.t 1), none⟩,
 ⟨some 4, .p (.mv (.c (.bool false))), none⟩]
def c344_r1 : List Ins := [⟨some 5, .p (.fieldA (.t 2) 0), none⟩,
 ⟨some 6, .p (.load (.t 5) 1 false), none⟩,
 ⟨some 7, .p (.fieldA (.t 3) 0), none⟩,
 ⟨some 8, .p (.load (.t 7) 1 false), none⟩,
 ⟨some 9, .p (.bin .neq (.t 6) (.t 8)), none⟩]
def c344_r2 : List Ins := [⟨some 4, .p (.mv (.c (.bool false))), none⟩]
def c344_r3 : List Ins := [⟨some 10, .p (.fieldA (.t 2) 1), none⟩,
 ⟨some 11, .p (.load (.t 10) 1 false), none⟩,
 ⟨some 12, .p (.fieldA (.t 3) 1), none⟩,
 ⟨some 13, .p (.load (.t 12) 1 false), none⟩,
 ⟨some 14, .p (.bin .neq (.t 11) (.t 13)), none⟩]
def c344_r4 : List Ins := [⟨some 4, .p (.mv (.c (.bool false))), none⟩]
def c344_r5 : List Ins := [⟨some 15, .p (.fieldA (.t 2) 2), none⟩,
 ⟨some 16, .p (.load (.t 15) 1 false), none⟩,
 ⟨some 17, .p (.fieldA (.t 3) 2), none⟩,
 ⟨some 18, .p (.load (.t 17) 1 false), none⟩,
 ⟨some 19, .p (.bin .neq (.t 16) (.t 18)), none⟩]
def c344_r6 : List Ins := [⟨some 4, .p (.mv (.c (.bool false))), none⟩]
def c344_r7 : List Ins := [⟨some 20, .p (.fieldA (.t 2) 3), none⟩,
 ⟨some 21, .p (.load (.t 20) 1 false), none⟩,
 ⟨some 22, .p (.fieldA (.t 3) 3), none⟩,
 ⟨some 23, .p (.load (.t 22) 1 false), none⟩,
 ⟨some 24, .p (.binB .neq (.t 21) (.t 23)), none⟩]
def c344_r8 : List Ins := [⟨some 4, .p (.mv (.c (.bool false))), none⟩]
def c344_r9 : List Ins := [⟨some 4, .p (.mv (.c (.bool true))), none⟩]
def c344 : XFn := { np := 2, nt := 25, res := [.t 4], body := (.seq (.reg c344_r0) (.seq (.seq (.reg c344_r1) (.ite (.t 9) (.seq (.reg c344_r2) .ret) .skip)) (.seq (.seq (.reg c344_r3) (.ite (.t 14) (.seq (.reg c344_r4) .ret) .skip)) (.seq (.seq (.reg c344_r5) (.ite (.t 19) (.seq (.reg c344_r6) .ret) .skip)) (.seq (.seq (.reg c344_r7) (.ite (.t 24) (.seq (.reg c344_r8) .ret) .skip)) (.seq (.reg c344_r9) .ret)))))) }
def K344 (C : CRel) : Prop := ∀ (a0 : DIssued) (a1 : DIssued) (r : Bool), g344 a0 a1 = some r → C 344 ⟨[.agg [.int .i64 a0.serial, .int .i64 a0.to_, .str a0.subject, .bool a0.revoked], .agg [.int .i64 a1.serial, .int .i64 a1.to_, .str a1.subject, .bool a1.revoked]], []⟩ ⟨.bool r, [], []⟩
theorem F344 {C : CRel}  (a0 : DIssued) (a1 : DIssued) (r : Bool) (h0 : g344 a0 a1 = some r) : FnOK C c344 ⟨[.agg [.int .i64 a0.serial, .int .i64 a0.to_, .str a0.subject, .bool a0.revoked], .agg [.int .i64 a1.serial, .int .i64 a1.to_, .str a1.subject, .bool a1.revoked]], []⟩ ⟨.bool r, [], []⟩ := by
  refine fn_ (Nat.le_of_ble_eq_true rfl) ?_
  refine seq_ ?_
  refine reg_ ?_
  refine st (box_ rfl trivial rfl ?_)
  refine st (box_ rfl trivial rfl ?_)
  refine st (mvc_ trivial ?_)
  refine oe_ ?_
  refine wk_ ⟨[(2, .ptr 128 0), (3, .ptr 192 0)], [(128, [.int .i64 a0.serial, .int .i64 a0.to_, .str a0.subject, .bool a0.revoked]), (192, [.int .i64 a1.serial, .int .i64 a1.to_, .str a1.subject, .bool a1.revoked])], []⟩ (fgk (by kernel_rfl)) ?_
  refine seq_ ?_
  refine seq_ ?_
  refine reg_ ?_
  refine st (c_ (cp_ ⟨trivial, trivial⟩ rfl trivial) ?_)
  refine st (c_ (cp_ ⟨trivial, trivial⟩ rfl (Nat.le_of_ble_eq_true rfl)) ?_)
  refine st (c_ (cp_ ⟨trivial, trivial⟩ rfl trivial) ?_)
  refine st (c_ (cp_ ⟨trivial, trivial⟩ rfl (Nat.le_of_ble_eq_true rfl)) ?_)
  refine st (c_ (cp_ ⟨trivial, trivial, trivial⟩ rfl trivial) ?_)
  refine oe_ ?_
  refine wk_ ⟨[(2, .ptr 128 0), (3, .ptr 192 0), (9, .bool (a0.serial != a1.serial))], [(128, [.int .i64 a0.serial, .int .i64 a0.to_, .str a0.subject, .bool a0.revoked]), (192, [.int .i64 a1.serial, .int .i64 a1.to_, .str a1.subject, .bool a1.revoked])], []⟩ (fgk (by kernel_rfl)) ?_
  refine ite_ (cb := (a0.serial != a1.serial)) rfl (fun c1 => ?_) (fun c1 => ?_)
  · replace h0 := ip c1 h0
    refine seq_ ?_
    refine reg_ ?_
    refine st (mvc_ trivial ?_)
    refine oe_ ?_
    refine wk_ ⟨[(4, .bool false)], [], []⟩ (fgk (by kernel_rfl)) ?_
    obtain rfl := Option.some.inj h0
    exact rt_ (ret_ rfl rfl rfl rfl rfl trivial)
  · replace h0 := inb c1 h0
    refine sk_ ?_
    refine wk_ ⟨[(2, .ptr 128 0), (3, .ptr 192 0)], [(128, [.int .i64 a0.serial, .int .i64 a0.to_, .str a0.subject, .bool a0.revoked]), (192, [.int .i64 a1.serial, .int .i64 a1.to_, .str a1.subject, .bool a1.revoked])], []⟩ (fgk (by kernel_rfl)) ?_
    refine seq_ ?_
    refine seq_ ?_
    refine reg_ ?_
    refine st (c_ (cp_ ⟨trivial, trivial⟩ rfl trivial) ?_)
    refine st (c_ (cp_ ⟨trivial, trivial⟩ rfl (Nat.le_of_ble_eq_true rfl)) ?_)
    refine st (c_ (cp_ ⟨trivial, trivial⟩ rfl trivial) ?_)
    refine st (c_ (cp_ ⟨trivial, trivial⟩ rfl (Nat.le_of_ble_eq_true rfl)) ?_)
    refine st (c_ (cp_ ⟨trivial, trivial, trivial⟩ rfl trivial) ?_)
    refine oe_ ?_
    refine wk_ ⟨[(2, .ptr 128 0), (3, .ptr 192 0), (14, .bool (a0.to_ != a1.to_))], [(128, [.int .i64 a0.serial, .int .i64 a0.to_, .str a0.subject, .bool a0.revoked]), (192, [.int .i64 a1.serial, .int .i64 a1.to_, .str a1.subject, .bool a1.revoked])], []⟩ (fgk (by kernel_rfl)) ?_
    refine ite_ (cb := (a0.to_ != a1.to_)) rfl (fun c2 => ?_) (fun c2 => ?_)
    · replace h0 := ip c2 h0
      refine seq_ ?_
      refine reg_ ?_
      refine st (mvc_ trivial ?_)
      refine oe_ ?_
      refine wk_ ⟨[(4, .bool false)], [], []⟩ (fgk (by kernel_rfl)) ?_
      obtain rfl := Option.some.inj h0
      exact rt_ (ret_ rfl rfl rfl rfl rfl trivial)
    · replace h0 := inb c2 h0
      refine sk_ ?_
      refine wk_ ⟨[(2, .ptr 128 0), (3, .ptr 192 0)], [(128, [.int .i64 a0.serial, .int .i64 a0.to_, .str a0.subject, .bool a0.revoked]), (192, [.int .i64 a1.serial, .int .i64 a1.to_, .str a1.subject, .bool a1.revoked])], []⟩ (fgk (by kernel_rfl)) ?_
      refine seq_ ?_
      refine seq_ ?_
      refine reg_ ?_
      refine st (c_ (cp_ ⟨trivial, trivial⟩ rfl trivial) ?_)
      refine st (c_ (cp_ ⟨trivial, trivial⟩ rfl (Nat.le_of_ble_eq_true rfl)) ?_)
      refine st (c_ (cp_ ⟨trivial, trivial⟩ rfl trivial) ?_)
      refine st (c_ (cp_ ⟨trivial, trivial⟩ rfl (Nat.le_of_ble_eq_true rfl)) ?_)
      refine st (c_ (cp_ ⟨trivial, trivial, trivial⟩ rfl trivial) ?_)
      refine oe_ ?_
      refine wk_ ⟨[(2, .ptr 128 0), (3, .ptr 192 0), (19, .bool (!(a0.subject == a1.subject)))], [(128, [.int .i64 a0.serial, .int .i64 a0.to_, .str a0.subject, .bool a0.revoked]), (192, [.int .i64 a1.serial, .int .i64 a1.to_, .str a1.subject, .bool a1.revoked])], []⟩ (fgk (by kernel_rfl)) ?_
      refine ite_ (cb := (!(a0.subject == a1.subject))) rfl (fun c3 => ?_) (fun c3 => ?_)
      · replace h0 := ip c3 h0
        refine seq_ ?_
        refine reg_ ?_
        refine st (mvc_ trivial ?_)
        refine oe_ ?_
        refine wk_ ⟨[(4, .bool false)], [], []⟩ (fgk (by kernel_rfl)) ?_
        obtain rfl := Option.some.inj h0
        exact rt_ (ret_ rfl rfl rfl rfl rfl trivial)
      · replace h0 := inb c3 h0
        refine sk_ ?_
        refine wk_ ⟨[(2, .ptr 128 0), (3, .ptr 192 0)], [(128, [.int .i64 a0.serial, .int .i64 a0.to_, .str a0.subject, .bool a0.revoked]), (192, [.int .i64 a1.serial, .int .i64 a1.to_, .str a1.subject, .bool a1.revoked])], []⟩ (fgk (by kernel_rfl)) ?_
        refine seq_ ?_
        refine seq_ ?_
        refine reg_ ?_
        refine st (c_ (cp_ ⟨trivial, trivial⟩ rfl trivial) ?_)
        refine st (c_ (cp_ ⟨trivial, trivial⟩ rfl (Nat.le_of_ble_eq_true rfl)) ?_)
        refine st (c_ (cp_ ⟨trivial, trivial⟩ rfl trivial) ?_)
        refine st (c_ (cp_ ⟨trivial, trivial⟩ rfl (Nat.le_of_ble_eq_true rfl)) ?_)
        refine st (c_ (cp_ ⟨trivial, trivial, trivial⟩ rfl trivial) ?_)
        refine oe_ ?_
        refine wk_ ⟨[(24, .bool (!(a0.revoked == a1.revoked)))], [], []⟩ (fgk (by kernel_rfl)) ?_
        refine ite_ (cb := (!(a0.revoked == a1.revoked))) rfl (fun c4 => ?_) (fun c4 => ?_)
        · replace h0 := ip c4 h0
          refine seq_ ?_
          refine reg_ ?_
          refine st (mvc_ trivial ?_)
          refine oe_ ?_
          refine wk_ ⟨[(4, .bool false)], [], []⟩ (fgk (by kernel_rfl)) ?_
          obtain rfl := Option.some.inj h0
          exact rt_ (ret_ rfl rfl rfl rfl rfl trivial)
        · replace h0 := inb c4 h0
          refine sk_ ?_
          refine wk_ ⟨[], [], []⟩ (fgk (by kernel_rfl)) ?_
          refine seq_ ?_
          refine reg_ ?_
          refine st (mvc_ trivial ?_)
          refine oe_ ?_
          refine wk_ ⟨[(4, .bool true)], [], []⟩ (fgk (by kernel_rfl)) ?_
          obtain rfl := Option.some.inj h0
          exact rt_ (ret_ rfl rfl rfl rfl rfl trivial)

/- loop.example/g00149/laws.eqIssuedS -/
def c288_r0 : List Ins := [⟨some 4, .p (.mv (.c (.bool false))), none⟩]
def c288_r1 : List Ins := [⟨some 6, .p (.mv (.t 0)), none⟩,
 ⟨some 7, .p (.len (.t 6)), none⟩,
 ⟨some 8, .p (.mv (.t 1)), none⟩,
 ⟨some 9, .p (.len (.t 8)), none⟩,
 ⟨some 10, .p (.bin .neq (.t 7) (.t 9)), none⟩]
def c288_r2 : List Ins := [⟨some 4, .p (.mv (.c (.bool false))), none⟩]
def c288_r3 : List Ins := [⟨some 5, .p (.mv (.c (.int .i64 0))), none⟩]
def c288_r4 : List Ins := [⟨some 11, .p (.mv (.t 5)), none⟩,
 ⟨some 12, .p (.mv (.t 0)), none⟩,
 ⟨some 13, .p (.len (.t 12)), none⟩,
 ⟨some 14, .p (.bin .lss (.t 11) (.t 13)), none⟩]
def c288_r5 : DP := (.take ⟨some 17, .p (.mv (.t 0)), none⟩
 (.take ⟨some 18, .p (.mv (.t 5)), none⟩
 (.take ⟨some 19, .p (.idxA (.t 17) (.t 18) 4), none⟩
 (.take ⟨some 20, .p (.load (.t 19) 4 true), none⟩
 (.take ⟨some 21, .p (.mv (.t 1)), none⟩
 (.take ⟨some 22, .p (.mv (.t 5)), none⟩
 (.take ⟨some 23, .p (.idxA (.t 21) (.t 22) 4), none⟩
 (.take ⟨some 24, .p (.load (.t 23) 4 true), none⟩
 (.alt [] ⟨some 25, .call 344 [(.t 20), (.t 24)], none⟩
 (.take ⟨some 26, .p (.un .not (.t 25)), none⟩
 .fin)
 .stop)))))))))
def c288_r6 : List Ins := [⟨some 4, .p (.mv (.c (.bool false))), none⟩]
def c288_r7 : List Ins := [⟨some 15, .p (.mv (.t 5)), none⟩,
 ⟨some 16, .p (.bin .add (.t 15) (.c (.int .i64 1))), none⟩,
 ⟨some 5, .p (.mv (.t 16)), none⟩]
def c288_l0 : IR := (.seq (.seq (.reg c288_r4) (.ite (.t 14) .skip (.exit 0))) (.seq (.block 1 (.seq (.draw c288_r5) (.ite (.t 26) (.seq (.reg c288_r6) .ret) .skip))) (.reg c288_r7)))
def c288_r8 : List Ins := [⟨some 4, .p (.mv (.c (.bool true))), none⟩]
def c288 : XFn := { np := 2, nt := 27, res := [.t 4], body := (.seq (.reg c288_r0) (.seq (.seq (.reg c288_r1) (.ite (.t 10) (.seq (.reg c288_r2) .ret) .skip)) (.seq (.seq (.reg c288_r3) (.block 0 (.loop c288_l0))) (.seq (.reg c288_r8) .ret)))) }
def K288 (C : CRel) : Prop := ∀ (a0 : List DIssued) (a1 : List DIssued) (r : Bool), g288 a0 a1 = some r → C 288 ⟨[.lst 4 (a0.map eDIssued), .lst 4 (a1.map eDIssued)], []⟩ ⟨.bool r, [], []⟩
theorem F288 {C : CRel} (H344 : K344 C) (a0 : List DIssued) (a1 : List DIssued) (r : Bool) (h0 : g288 a0 a1 = some r) : FnOK C c288 ⟨[.lst 4 (a0.map eDIssued), .lst 4 (a1.map eDIssued)], []⟩ ⟨.bool r, [], []⟩ := by
  refine fn_ (Nat.le_of_ble_eq_true rfl) ?_
  refine seq_ ?_
  refine reg_ ?_
  refine st (mvc_ trivial ?_)
  refine oe_ ?_
  refine wk_ ⟨[(0, .lst 4 (a0.map eDIssued)), (1, .lst 4 (a1.map eDIssued))], [], []⟩ (fgk (by kernel_rfl)) ?_
  refine seq_ ?_
  refine seq_ ?_
  refine reg_ ?_
  refine st (mv_ rfl trivial ?_)
  refine st (c_ (clenL (e := eDIssued) (l0 := a0) rfl rfl trivial) ?_)
  refine st (mv_ rfl trivial ?_)
  refine st (c_ (clenL (e := eDIssued) (l0 := a1) rfl rfl trivial) ?_)
  refine st (c_ (cp_ ⟨trivial, trivial, trivial⟩ rfl trivial) ?_)
  refine oe_ ?_
  refine wk_ ⟨[(0, .lst 4 (a0.map eDIssued)), (1, .lst 4 (a1.map eDIssued)), (10, .bool ((a0.length : Int) != (a1.length : Int)))], [], []⟩ (fgk (by kernel_rfl)) ?_
  refine ite_ (cb := ((a0.length : Int) != (a1.length : Int))) rfl (fun c1 => ?_) (fun c1 => ?_)
  · replace h0 := ip c1 h0
    refine seq_ ?_
    refine reg_ ?_
    refine st (mvc_ trivial ?_)
    refine oe_ ?_
    refine wk_ ⟨[(4, .bool false)], [], []⟩ (fgk (by kernel_rfl)) ?_
    obtain rfl := Option.some.inj h0
    exact rt_ (ret_ rfl rfl rfl rfl rfl trivial)
  · replace h0 := inb c1 h0
    refine sk_ ?_
    refine wk_ ⟨[(0, .lst 4 (a0.map eDIssued)), (1, .lst 4 (a1.map eDIssued))], [], []⟩ (fgk (by kernel_rfl)) ?_
    refine seq_ ?_
    refine seq_ ?_
    refine reg_ ?_
    refine st (mvc_ trivial ?_)
    refine oe_ ?_
    refine wk_ ⟨[(0, .lst 4 (a0.map eDIssued)), (1, .lst 4 (a1.map eDIssued)), (5, .int .i64 0)], [], []⟩ (fgk (by kernel_rfl)) ?_
    refine block_ ?_
    obtain ⟨r28, e29, h0⟩ := bnd h0
    refine loop_ (R := (fun S => .inl () = r28 ∧ S = ⟨[], [], []⟩)) (g288_l0 a0 a1) (fun s S => match s with | p10 => S = ⟨[(0, .lst 4 (a0.map eDIssued)), (1, .lst 4 (a1.map eDIssued)), (5, .int .i64 p10)], [], []⟩) e29 ⟨[(0, .lst 4 (a0.map eDIssued)), (1, .lst 4 (a1.map eDIssued)), (5, .int .i64 0)], [], []⟩ (fgk (by kernel_rfl)) rfl 0 (fun _ => rfl) ?_ ?_
    · rintro S _ hfg ⟨rfl, rfl⟩
      refine wk_ ⟨[], [], []⟩ (fglk hfg (by kernel_rfl)) ?_
      refine seq_ ?_
      refine reg_ ?_
      refine st (mvc_ trivial ?_)
      refine oe_ ?_
      refine wk_ ⟨[(4, .bool true)], [], []⟩ (fgk (by kernel_rfl)) ?_
      obtain rfl := Option.some.inj h0
      exact rt_ (ret_ rfl rfl rfl rfl rfl trivial)
    · rintro p10 o1 _ K1 rfl h1 hx1 hK1 hE1 hR1
      refine seq_ ?_
      refine seq_ ?_
      refine reg_ ?_
      refine st (mv_ rfl trivial ?_)
      refine st (mv_ rfl trivial ?_)
      refine st (c_ (clenL (e := eDIssued) (l0 := a0) rfl rfl trivial) ?_)
      refine st (c_ (cp_ ⟨trivial, trivial, trivial⟩ rfl trivial) ?_)
      refine oe_ ?_
      refine wk_ ⟨[(0, .lst 4 (a0.map eDIssued)), (1, .lst 4 (a1.map eDIssued)), (5, .int .i64 p10), (14, .bool (decide (p10 < (a0.length : Int))))], [], []⟩ (fgk (by kernel_rfl)) ?_
      refine ite_ (cb := (decide (p10 < (a0.length : Int)))) rfl (fun c20 => ?_) (fun c20 => ?_)
      · replace h1 := ip c20 h1
        refine sk_ ?_
        refine wk_ ⟨[(0, .lst 4 (a0.map eDIssued)), (1, .lst 4 (a1.map eDIssued)), (5, .int .i64 p10)], [], []⟩ (fgk (by kernel_rfl)) ?_
        refine seq_ ?_
        refine block_ ?_
        refine seq_ ?_
        obtain ⟨y21, e22, h1⟩ := bnd h1
        obtain ⟨y23, e24, h1⟩ := bnd h1
        obtain ⟨r25, e26, h1⟩ := bnd h1
        refine draw_ ?_
        refine dtake trivial (mv_ rfl trivial ?_)
        refine ⟨trivial, ?_⟩
        refine dtake trivial (mv_ rfl trivial ?_)
        refine ⟨trivial, ?_⟩
        refine dtake trivial (c_ (cidxL (e := eDIssued) (y := y21) rfl rfl trivial rfl rfl trivial e22) ?_)
        refine ⟨trivial, ?_⟩
        refine dtake trivial (c_ (v := .agg [.int .i64 y21.serial, .int .i64 y21.to_, .str y21.subject, .bool y21.revoked]) (cp_ ⟨trivial, trivial⟩ rfl (Nat.le_of_ble_eq_true rfl)) ?_)
        refine ⟨trivial, ?_⟩
        refine dtake trivial (mv_ rfl trivial ?_)
        refine ⟨trivial, ?_⟩
        refine dtake trivial (mv_ rfl trivial ?_)
        refine ⟨trivial, ?_⟩
        refine dtake trivial (c_ (cidxL (e := eDIssued) (y := y23) rfl rfl trivial rfl rfl trivial e24) ?_)
        refine ⟨trivial, ?_⟩
        refine dtake trivial (c_ (v := .agg [.int .i64 y23.serial, .int .i64 y23.to_, .str y23.subject, .bool y23.revoked]) (cp_ ⟨trivial, trivial⟩ rfl (Nat.le_of_ble_eq_true rfl)) ?_)
        refine ⟨trivial, ?_⟩
        refine dalt (call0_ (r := .bool r25) false (H344 y21 y23 r25 e26) ⟨trivial, trivial, trivial⟩ rfl rfl (fun _ => rfl) ?_) dstop
        refine dkw ⟨[(0, .lst 4 (a0.map eDIssued)), (1, .lst 4 (a1.map eDIssued)), (5, .int .i64 p10), (25, .bool r25)], [], []⟩ (fgk (by kernel_rfl)) ⟨[], trivial, trivial, ?_⟩
        refine dtake trivial (c_ (cp_ ⟨trivial, trivial⟩ rfl trivial) ?_)
        refine ⟨trivial, ?_⟩
        refine dfin ?_
        refine wk_ ⟨[(0, .lst 4 (a0.map eDIssued)), (1, .lst 4 (a1.map eDIssued)), (5, .int .i64 p10), (26, .bool (!r25))], [], []⟩ (fgk (by kernel_rfl)) ?_
        refine ite_ (cb := (!r25)) rfl (fun c27 => ?_) (fun c27 => ?_)
        · replace h1 := ip c27 h1
          refine seq_ ?_
          refine reg_ ?_
          refine st (mvc_ trivial ?_)
          refine oe_ ?_
          refine wk_ ⟨[(4, .bool false)], [], []⟩ (fgk (by kernel_rfl)) ?_
          obtain rfl := Option.some.inj h1
          obtain rfl := hx1 _ rfl
          obtain rfl := Option.some.inj h0
          exact rt_ (hR1 _ (ret_ rfl rfl rfl rfl rfl trivial))
        · replace h1 := inb c27 h1
          refine sk_ ?_
          refine bn_ ?_
          refine wk_ ⟨[(0, .lst 4 (a0.map eDIssued)), (1, .lst 4 (a1.map eDIssued)), (5, .int .i64 p10)], [], []⟩ (fgk (by kernel_rfl)) ?_
          refine reg_ ?_
          refine st (mv_ rfl trivial ?_)
          refine st (c_ (cp_ ⟨trivial, trivial, trivial⟩ rfl trivial) ?_)
          refine st (mv_ rfl trivial ?_)
          refine oe_ ?_
          obtain rfl := Option.some.inj h1
          exact hK1 _ rfl _ ⟨[(0, .lst 4 (a0.map eDIssued)), (1, .lst 4 (a1.map eDIssued)), (5, .int .i64 (IntKind.i64.wrap (p10 + 1)))], [], []⟩ (fgk (by kernel_rfl)) rfl
      · replace h1 := inb c20 h1
        obtain rfl := Option.some.inj h1
        obtain rfl := hx1 _ rfl
        refine exQ rfl ?_
        exact hE1 _ ⟨[], [], []⟩ (fgk (by kernel_rfl)) ⟨rfl, rfl⟩

/- loop.example/g00149/laws.eqAuthority -/
def c227_r0 : List Ins := [⟨some 2, .box (.t 0), none⟩,
 ⟨some 3, .box (.t 1), none⟩,
 ⟨some 4, .p (.mv (.c (.bool false))), none⟩]
def c227_r1 : List Ins := [⟨some 5, .p (.fieldA (.t 2) 0), none⟩,
 ⟨some 6, .p (.load (.t 5) 1 false), none⟩,
 ⟨some 7, .p (.fieldA (.t 3) 0), none⟩,
 ⟨some 8, .p (.load (.t 7) 1 false), none⟩,
 ⟨some 9, .p (.bin .neq (.t 6) (.t 8)), none⟩]
def c227_r2 : List Ins := [⟨some 4, .p (.mv (.c (.bool false))), none⟩]
def c227_r3 : List Ins := [⟨some 10, .p (.fieldA (.t 2) 1), none⟩,
 ⟨some 11, .p (.load (.t 10) 1 false), none⟩,
 ⟨some 12, .p (.fieldA (.t 3) 1), none⟩,
 ⟨some 13, .p (.load (.t 12) 1 false), none⟩,
 ⟨some 14, .call 233 [(.t 11), (.t 13)], none⟩,
 ⟨some 15, .p (.un .not (.t 14)), none⟩]
def c227_r4 : List Ins := [⟨some 4, .p (.mv (.c (.bool false))), none⟩]
def c227_r5 : List Ins := [⟨some 16, .p (.fieldA (.t 2) 2), none⟩,
 ⟨some 17, .p (.load (.t 16) 1 false), none⟩,
 ⟨some 18, .p (.fieldA (.t 3) 2), none⟩,
 ⟨some 19, .p (.load (.t 18) 1 false), none⟩,
 ⟨some 20, .p (.bin .neq (.t 17) (.t 19)), none⟩]
def c227_r6 : List Ins := [⟨some 4, .p (.mv (.c (.bool false))), none⟩]
def c227_r7 : List Ins := [⟨some 21, .p (.fieldA (.t 2) 3), none⟩,
 ⟨some 22, .p (.load (.t 21) 1 false), none⟩,
 ⟨some 23, .p (.fieldA (.t 3) 3), none⟩,
 ⟨some 24, .p (.load (.t 23) 1 false), none⟩,
 ⟨some 25, .p (.bin .neq (.t 22) (.t 24)), none⟩]
def c227_r8 : List Ins := [⟨some 4, .p (.mv (.c (.bool false))), none⟩]
def c227_r9 : List Ins := [⟨some 26, .p (.fieldA (.t 2) 4), none⟩,
 ⟨some 27, .p (.load (.t 26) 1 false), none⟩,
 ⟨some 28, .p (.fieldA (.t 3) 4), none⟩,
 ⟨some 29, .p (.load (.t 28) 1 false), none⟩,
 ⟨some 30, .p (.bin .neq (.t 27) (.t 29)), none⟩]
def c227_r10 : List Ins := [⟨some 4, .p (.mv (.c (.bool false))), none⟩]
def c227_r11 : List Ins := [⟨some 31, .p (.fieldA (.t 2) 5), none⟩,
 ⟨some 32, .p (.load (.t 31) 1 false), none⟩,
 ⟨some 33, .p (.fieldA (.t 3) 5), none⟩,
 ⟨some 34, .p (.load (.t 33) 1 false), none⟩,
 ⟨some 35, .p (.bin .neq (.t 32) (.t 34)), none⟩]
def c227_r12 : List Ins := [⟨some 4, .p (.mv (.c (.bool false))), none⟩]
def c227_r13 : List Ins := [⟨some 36, .p (.fieldA (.t 2) 6), none⟩,
 ⟨some 37, .p (.load (.t 36) 1 false), none⟩,
 ⟨some 38, .p (.fieldA (.t 3) 6), none⟩,
 ⟨some 39, .p (.load (.t 38) 1 false), none⟩,
 ⟨some 40, .call 288 [(.t 37), (.t 39)], none⟩,
 ⟨some 41, .p (.un .not (.t 40)), none⟩]
def c227_r14 : List Ins := [⟨some 4, .p (.mv (.c (.bool false))), none⟩]
def c227_r15 : List Ins := [⟨some 4, .p (.mv (.c (.bool true))), none⟩]
def c227 : XFn := { np := 2, nt := 42, res := [.t 4], body := (.seq (.reg c227_r0) (.seq (.seq (.reg c227_r1) (.ite (.t 9) (.seq (.reg c227_r2) .ret) .skip)) (.seq (.seq (.reg c227_r3) (.ite (.t 15) (.seq (.reg c227_r4) .ret) .skip)) (.seq (.seq (.reg c227_r5) (.ite (.t 20) (.seq (.reg c227_r6) .ret) .skip)) (.seq (.seq (.reg c227_r7) (.ite (.t 25) (.seq (.reg c227_r8) .ret) .skip)) (.seq (.seq (.reg c227_r9) (.ite (.t 30) (.seq (.reg c227_r10) .ret) .skip)) (.seq (.seq (.reg c227_r11) (.ite (.t 35) (.seq (.reg c227_r12) .ret) .skip)) (.seq (.seq (.reg c227_r13) (.ite (.t 41) (.seq (.reg c227_r14) .ret) .skip)) (.seq (.reg c227_r15) .ret))))))))) }
def K227 (C : CRel) : Prop := ∀ (a0 : DAuthority) (a1 : DAuthority) (r : Bool), g227 a0 a1 = some r → C 227 ⟨[.agg [.str a0.name_, .lst 1 (a0.seed.map eU8), .int .i64 a0.serial, .int .i64 a0.number, .str a0.suffix, .int .i64 a0.most, .lst 4 (a0.list_.map eDIssued)], .agg [.str a1.name_, .lst 1 (a1.seed.map eU8), .int .i64 a1.serial, .int .i64 a1.number, .str a1.suffix, .int .i64 a1.most, .lst 4 (a1.list_.map eDIssued)]], []⟩ ⟨.bool r, [], []⟩
theorem F227 {C : CRel} (H233 : K233 C) (H288 : K288 C) (a0 : DAuthority) (a1 : DAuthority) (r : Bool) (h0 : g227 a0 a1 = some r) : FnOK C c227 ⟨[.agg [.str a0.name_, .lst 1 (a0.seed.map eU8), .int .i64 a0.serial, .int .i64 a0.number, .str a0.suffix, .int .i64 a0.most, .lst 4 (a0.list_.map eDIssued)], .agg [.str a1.name_, .lst 1 (a1.seed.map eU8), .int .i64 a1.serial, .int .i64 a1.number, .str a1.suffix, .int .i64 a1.most, .lst 4 (a1.list_.map eDIssued)]], []⟩ ⟨.bool r, [], []⟩ := by
  refine fn_ (Nat.le_of_ble_eq_true rfl) ?_
  refine seq_ ?_
  refine reg_ ?_
  refine st (box_ rfl trivial rfl ?_)
  refine st (box_ rfl trivial rfl ?_)
  refine st (mvc_ trivial ?_)
  refine oe_ ?_
  refine wk_ ⟨[(2, .ptr 128 0), (3, .ptr 192 0)], [(128, [.str a0.name_, .lst 1 (a0.seed.map eU8), .int .i64 a0.serial, .int .i64 a0.number, .str a0.suffix, .int .i64 a0.most, .lst 4 (a0.list_.map eDIssued)]), (192, [.str a1.name_, .lst 1 (a1.seed.map eU8), .int .i64 a1.serial, .int .i64 a1.number, .str a1.suffix, .int .i64 a1.most, .lst 4 (a1.list_.map eDIssued)])], []⟩ (fgk (by kernel_rfl)) ?_
  refine seq_ ?_
  refine seq_ ?_
  refine reg_ ?_
  refine st (c_ (cp_ ⟨trivial, trivial⟩ rfl trivial) ?_)
  refine st (c_ (cp_ ⟨trivial, trivial⟩ rfl (Nat.le_of_ble_eq_true rfl)) ?_)
  refine st (c_ (cp_ ⟨trivial, trivial⟩ rfl trivial) ?_)
  refine st (c_ (cp_ ⟨trivial, trivial⟩ rfl (Nat.le_of_ble_eq_true rfl)) ?_)
  refine st (c_ (cp_ ⟨trivial, trivial, trivial⟩ rfl trivial) ?_)
  refine oe_ ?_
  refine wk_ ⟨[(2, .ptr 128 0), (3, .ptr 192 0), (9, .bool (!(a0.name_ == a1.name_)))], [(128, [.str a0.name_, .lst 1 (a0.seed.map eU8), .int .i64 a0.serial, .int .i64 a0.number, .str a0.suffix, .int .i64 a0.most, .lst 4 (a0.list_.map eDIssued)]), (192, [.str a1.name_, .lst 1 (a1.seed.map eU8), .int .i64 a1.serial, .int .i64 a1.number, .str a1.suffix, .int .i64 a1.most, .lst 4 (a1.list_.map eDIssued)])], []⟩ (fgk (by kernel_rfl)) ?_
  refine ite_ (cb := (!(a0.name_ == a1.name_))) rfl (fun c1 => ?_) (fun c1 => ?_)
  · replace h0 := ip c1 h0
    refine seq_ ?_
    refine reg_ ?_
    refine st (mvc_ trivial ?_)
    refine oe_ ?_
    refine wk_ ⟨[(4, .bool false)], [], []⟩ (fgk (by kernel_rfl)) ?_
    obtain rfl := Option.some.inj h0
    exact rt_ (ret_ rfl rfl rfl rfl rfl trivial)
  · replace h0 := inb c1 h0
    refine sk_ ?_
    refine wk_ ⟨[(2, .ptr 128 0), (3, .ptr 192 0)], [(128, [.str a0.name_, .lst 1 (a0.seed.map eU8), .int .i64 a0.serial, .int .i64 a0.number, .str a0.suffix, .int .i64 a0.most, .lst 4 (a0.list_.map eDIssued)]), (192, [.str a1.name_, .lst 1 (a1.seed.map eU8), .int .i64 a1.serial, .int .i64 a1.number, .str a1.suffix, .int .i64 a1.most, .lst 4 (a1.list_.map eDIssued)])], []⟩ (fgk (by kernel_rfl)) ?_
    refine seq_ ?_
    refine seq_ ?_
    refine reg_ ?_
    refine st (c_ (cp_ ⟨trivial, trivial⟩ rfl trivial) ?_)
    refine st (c_ (cp_ ⟨trivial, trivial⟩ rfl (Nat.le_of_ble_eq_true rfl)) ?_)
    refine st (c_ (cp_ ⟨trivial, trivial⟩ rfl trivial) ?_)
    refine st (c_ (cp_ ⟨trivial, trivial⟩ rfl (Nat.le_of_ble_eq_true rfl)) ?_)
    obtain ⟨r2, e3, h0⟩ := bnd h0
    refine st (call0_ (r := .bool r2) false (H233 a0.seed a1.seed r2 e3) ⟨trivial, trivial, trivial⟩ rfl rfl (fun _ => rfl) ?_)
    refine st (c_ (cp_ ⟨trivial, trivial⟩ rfl trivial) ?_)
    refine oe_ ?_
    refine wk_ ⟨[(2, .ptr 128 0), (3, .ptr 192 0), (15, .bool (!r2))], [(128, [.str a0.name_, .lst 1 (a0.seed.map eU8), .int .i64 a0.serial, .int .i64 a0.number, .str a0.suffix, .int .i64 a0.most, .lst 4 (a0.list_.map eDIssued)]), (192, [.str a1.name_, .lst 1 (a1.seed.map eU8), .int .i64 a1.serial, .int .i64 a1.number, .str a1.suffix, .int .i64 a1.most, .lst 4 (a1.list_.map eDIssued)])], []⟩ (fgk (by kernel_rfl)) ?_
    refine ite_ (cb := (!r2)) rfl (fun c4 => ?_) (fun c4 => ?_)
    · replace h0 := ip c4 h0
      refine seq_ ?_
      refine reg_ ?_
      refine st (mvc_ trivial ?_)
      refine oe_ ?_
      refine wk_ ⟨[(4, .bool false)], [], []⟩ (fgk (by kernel_rfl)) ?_
      obtain rfl := Option.some.inj h0
      exact rt_ (ret_ rfl rfl rfl rfl rfl trivial)
    · replace h0 := inb c4 h0
      refine sk_ ?_
      refine wk_ ⟨[(2, .ptr 128 0), (3, .ptr 192 0)], [(128, [.str a0.name_, .lst 1 (a0.seed.map eU8), .int .i64 a0.serial, .int .i64 a0.number, .str a0.suffix, .int .i64 a0.most, .lst 4 (a0.list_.map eDIssued)]), (192, [.str a1.name_, .lst 1 (a1.seed.map eU8), .int .i64 a1.serial, .int .i64 a1.number, .str a1.suffix, .int .i64 a1.most, .lst 4 (a1.list_.map eDIssued)])], []⟩ (fgk (by kernel_rfl)) ?_
      refine seq_ ?_
      refine seq_ ?_
      refine reg_ ?_
      refine st (c_ (cp_ ⟨trivial, trivial⟩ rfl trivial) ?_)
      refine st (c_ (cp_ ⟨trivial, trivial⟩ rfl (Nat.le_of_ble_eq_true rfl)) ?_)
      refine st (c_ (cp_ ⟨trivial, trivial⟩ rfl trivial) ?_)
      refine st (c_ (cp_ ⟨trivial, trivial⟩ rfl (Nat.le_of_ble_eq_true rfl)) ?_)
      refine st (c_ (cp_ ⟨trivial, trivial, trivial⟩ rfl trivial) ?_)
      refine oe_ ?_
      refine wk_ ⟨[(2, .ptr 128 0), (3, .ptr 192 0), (20, .bool (a0.serial != a1.serial))], [(128, [.str a0.name_, .lst 1 (a0.seed.map eU8), .int .i64 a0.serial, .int .i64 a0.number, .str a0.suffix, .int .i64 a0.most, .lst 4 (a0.list_.map eDIssued)]), (192, [.str a1.name_, .lst 1 (a1.seed.map eU8), .int .i64 a1.serial, .int .i64 a1.number, .str a1.suffix, .int .i64 a1.most, .lst 4 (a1.list_.map eDIssued)])], []⟩ (fgk (by kernel_rfl)) ?_
      refine ite_ (cb := (a0.serial != a1.serial)) rfl (fun c5 => ?_) (fun c5 => ?_)
      · replace h0 := ip c5 h0
        refine seq_ ?_
        refine reg_ ?_
        refine st (mvc_ trivial ?_)
        refine oe_ ?_
        refine wk_ ⟨[(4, .bool false)], [], []⟩ (fgk (by kernel_rfl)) ?_
        obtain rfl := Option.some.inj h0
        exact rt_ (ret_ rfl rfl rfl rfl rfl trivial)
      · replace h0 := inb c5 h0
        refine sk_ ?_
        refine wk_ ⟨[(2, .ptr 128 0), (3, .ptr 192 0)], [(128, [.str a0.name_, .lst 1 (a0.seed.map eU8), .int .i64 a0.serial, .int .i64 a0.number, .str a0.suffix, .int .i64 a0.most, .lst 4 (a0.list_.map eDIssued)]), (192, [.str a1.name_, .lst 1 (a1.seed.map eU8), .int .i64 a1.serial, .int .i64 a1.number, .str a1.suffix, .int .i64 a1.most, .lst 4 (a1.list_.map eDIssued)])], []⟩ (fgk (by kernel_rfl)) ?_
        refine seq_ ?_
        refine seq_ ?_
        refine reg_ ?_
        refine st (c_ (cp_ ⟨trivial, trivial⟩ rfl trivial) ?_)
        refine st (c_ (cp_ ⟨trivial, trivial⟩ rfl (Nat.le_of_ble_eq_true rfl)) ?_)
        refine st (c_ (cp_ ⟨trivial, trivial⟩ rfl trivial) ?_)
        refine st (c_ (cp_ ⟨trivial, trivial⟩ rfl (Nat.le_of_ble_eq_true rfl)) ?_)
        refine st (c_ (cp_ ⟨trivial, trivial, trivial⟩ rfl trivial) ?_)
        refine oe_ ?_
        refine wk_ ⟨[(2, .ptr 128 0), (3, .ptr 192 0), (25, .bool (a0.number != a1.number))], [(128, [.str a0.name_, .lst 1 (a0.seed.map eU8), .int .i64 a0.serial, .int .i64 a0.number, .str a0.suffix, .int .i64 a0.most, .lst 4 (a0.list_.map eDIssued)]), (192, [.str a1.name_, .lst 1 (a1.seed.map eU8), .int .i64 a1.serial, .int .i64 a1.number, .str a1.suffix, .int .i64 a1.most, .lst 4 (a1.list_.map eDIssued)])], []⟩ (fgk (by kernel_rfl)) ?_
        refine ite_ (cb := (a0.number != a1.number)) rfl (fun c6 => ?_) (fun c6 => ?_)
        · replace h0 := ip c6 h0
          refine seq_ ?_
          refine reg_ ?_
          refine st (mvc_ trivial ?_)
          refine oe_ ?_
          refine wk_ ⟨[(4, .bool false)], [], []⟩ (fgk (by kernel_rfl)) ?_
          obtain rfl := Option.some.inj h0
          exact rt_ (ret_ rfl rfl rfl rfl rfl trivial)
        · replace h0 := inb c6 h0
          refine sk_ ?_
          refine wk_ ⟨[(2, .ptr 128 0), (3, .ptr 192 0)], [(128, [.str a0.name_, .lst 1 (a0.seed.map eU8), .int .i64 a0.serial, .int .i64 a0.number, .str a0.suffix, .int .i64 a0.most, .lst 4 (a0.list_.map eDIssued)]), (192, [.str a1.name_, .lst 1 (a1.seed.map eU8), .int .i64 a1.serial, .int .i64 a1.number, .str a1.suffix, .int .i64 a1.most, .lst 4 (a1.list_.map eDIssued)])], []⟩ (fgk (by kernel_rfl)) ?_
          refine seq_ ?_
          refine seq_ ?_
          refine reg_ ?_
          refine st (c_ (cp_ ⟨trivial, trivial⟩ rfl trivial) ?_)
          refine st (c_ (cp_ ⟨trivial, trivial⟩ rfl (Nat.le_of_ble_eq_true rfl)) ?_)
          refine st (c_ (cp_ ⟨trivial, trivial⟩ rfl trivial) ?_)
          refine st (c_ (cp_ ⟨trivial, trivial⟩ rfl (Nat.le_of_ble_eq_true rfl)) ?_)
          refine st (c_ (cp_ ⟨trivial, trivial, trivial⟩ rfl trivial) ?_)
          refine oe_ ?_
          refine wk_ ⟨[(2, .ptr 128 0), (3, .ptr 192 0), (30, .bool (!(a0.suffix == a1.suffix)))], [(128, [.str a0.name_, .lst 1 (a0.seed.map eU8), .int .i64 a0.serial, .int .i64 a0.number, .str a0.suffix, .int .i64 a0.most, .lst 4 (a0.list_.map eDIssued)]), (192, [.str a1.name_, .lst 1 (a1.seed.map eU8), .int .i64 a1.serial, .int .i64 a1.number, .str a1.suffix, .int .i64 a1.most, .lst 4 (a1.list_.map eDIssued)])], []⟩ (fgk (by kernel_rfl)) ?_
          refine ite_ (cb := (!(a0.suffix == a1.suffix))) rfl (fun c7 => ?_) (fun c7 => ?_)
          · replace h0 := ip c7 h0
            refine seq_ ?_
            refine reg_ ?_
            refine st (mvc_ trivial ?_)
            refine oe_ ?_
            refine wk_ ⟨[(4, .bool false)], [], []⟩ (fgk (by kernel_rfl)) ?_
            obtain rfl := Option.some.inj h0
            exact rt_ (ret_ rfl rfl rfl rfl rfl trivial)
          · replace h0 := inb c7 h0
            refine sk_ ?_
            refine wk_ ⟨[(2, .ptr 128 0), (3, .ptr 192 0)], [(128, [.str a0.name_, .lst 1 (a0.seed.map eU8), .int .i64 a0.serial, .int .i64 a0.number, .str a0.suffix, .int .i64 a0.most, .lst 4 (a0.list_.map eDIssued)]), (192, [.str a1.name_, .lst 1 (a1.seed.map eU8), .int .i64 a1.serial, .int .i64 a1.number, .str a1.suffix, .int .i64 a1.most, .lst 4 (a1.list_.map eDIssued)])], []⟩ (fgk (by kernel_rfl)) ?_
            refine seq_ ?_
            refine seq_ ?_
            refine reg_ ?_
            refine st (c_ (cp_ ⟨trivial, trivial⟩ rfl trivial) ?_)
            refine st (c_ (cp_ ⟨trivial, trivial⟩ rfl (Nat.le_of_ble_eq_true rfl)) ?_)
            refine st (c_ (cp_ ⟨trivial, trivial⟩ rfl trivial) ?_)
            refine st (c_ (cp_ ⟨trivial, trivial⟩ rfl (Nat.le_of_ble_eq_true rfl)) ?_)
            refine st (c_ (cp_ ⟨trivial, trivial, trivial⟩ rfl trivial) ?_)
            refine oe_ ?_
            refine wk_ ⟨[(2, .ptr 128 0), (3, .ptr 192 0), (35, .bool (a0.most != a1.most))], [(128, [.str a0.name_, .lst 1 (a0.seed.map eU8), .int .i64 a0.serial, .int .i64 a0.number, .str a0.suffix, .int .i64 a0.most, .lst 4 (a0.list_.map eDIssued)]), (192, [.str a1.name_, .lst 1 (a1.seed.map eU8), .int .i64 a1.serial, .int .i64 a1.number, .str a1.suffix, .int .i64 a1.most, .lst 4 (a1.list_.map eDIssued)])], []⟩ (fgk (by kernel_rfl)) ?_
            refine ite_ (cb := (a0.most != a1.most)) rfl (fun c8 => ?_) (fun c8 => ?_)
            · replace h0 := ip c8 h0
              refine seq_ ?_
              refine reg_ ?_
              refine st (mvc_ trivial ?_)
              refine oe_ ?_
              refine wk_ ⟨[(4, .bool false)], [], []⟩ (fgk (by kernel_rfl)) ?_
              obtain rfl := Option.some.inj h0
              exact rt_ (ret_ rfl rfl rfl rfl rfl trivial)
            · replace h0 := inb c8 h0
              refine sk_ ?_
              refine wk_ ⟨[(2, .ptr 128 0), (3, .ptr 192 0)], [(128, [.str a0.name_, .lst 1 (a0.seed.map eU8), .int .i64 a0.serial, .int .i64 a0.number, .str a0.suffix, .int .i64 a0.most, .lst 4 (a0.list_.map eDIssued)]), (192, [.str a1.name_, .lst 1 (a1.seed.map eU8), .int .i64 a1.serial, .int .i64 a1.number, .str a1.suffix, .int .i64 a1.most, .lst 4 (a1.list_.map eDIssued)])], []⟩ (fgk (by kernel_rfl)) ?_
              refine seq_ ?_
              refine seq_ ?_
              refine reg_ ?_
              refine st (c_ (cp_ ⟨trivial, trivial⟩ rfl trivial) ?_)
              refine st (c_ (cp_ ⟨trivial, trivial⟩ rfl (Nat.le_of_ble_eq_true rfl)) ?_)
              refine st (c_ (cp_ ⟨trivial, trivial⟩ rfl trivial) ?_)
              refine st (c_ (cp_ ⟨trivial, trivial⟩ rfl (Nat.le_of_ble_eq_true rfl)) ?_)
              obtain ⟨r9, e10, h0⟩ := bnd h0
              refine st (call0_ (r := .bool r9) false (H288 a0.list_ a1.list_ r9 e10) ⟨trivial, trivial, trivial⟩ rfl rfl (fun _ => rfl) ?_)
              refine st (c_ (cp_ ⟨trivial, trivial⟩ rfl trivial) ?_)
              refine oe_ ?_
              refine wk_ ⟨[(41, .bool (!r9))], [], []⟩ (fgk (by kernel_rfl)) ?_
              refine ite_ (cb := (!r9)) rfl (fun c11 => ?_) (fun c11 => ?_)
              · replace h0 := ip c11 h0
                refine seq_ ?_
                refine reg_ ?_
                refine st (mvc_ trivial ?_)
                refine oe_ ?_
                refine wk_ ⟨[(4, .bool false)], [], []⟩ (fgk (by kernel_rfl)) ?_
                obtain rfl := Option.some.inj h0
                exact rt_ (ret_ rfl rfl rfl rfl rfl trivial)
              · replace h0 := inb c11 h0
                refine sk_ ?_
                refine wk_ ⟨[], [], []⟩ (fgk (by kernel_rfl)) ?_
                refine seq_ ?_
                refine reg_ ?_
                refine st (mvc_ trivial ?_)
                refine oe_ ?_
                refine wk_ ⟨[(4, .bool true)], [], []⟩ (fgk (by kernel_rfl)) ?_
                obtain rfl := Option.some.inj h0
                exact rt_ (ret_ rfl rfl rfl rfl rfl trivial)

/- loop.example/g00149/laws.FnExactAuthorityOK -/
def c203_r0 : List Ins := [⟨some 1, .box (.t 0), none⟩,
 ⟨some 2, .p (.mv (.c (.bool false))), none⟩]
def c203_r1 : List Ins := [⟨some 3, .p (.mv (.c (.int .i64 1048576))), none⟩]
def c203_r2 : List Ins := [⟨some 7, .p (.load (.t 1) 7 true), none⟩,
 ⟨some 8, .p (.mv (.t 3)), none⟩,
 ⟨some 9, .call 223 [(.t 7), (.t 8)], none⟩,
 ⟨some 3, .p (.mv (.t 9)), none⟩]
def c203_r3 : List Ins := [⟨some 10, .p (.mv (.t 3)), none⟩,
 ⟨some 11, .p (.bin .lss (.t 10) (.c (.int .i64 0))), none⟩]
def c203_r4 : List Ins := [⟨some 2, .p (.mv (.c (.bool true))), none⟩]
def c203_r5 : List Ins := [⟨some 12, .p (.load (.t 1) 7 true), none⟩,
 ⟨some 13, .call 225 [(.t 12)], none⟩,
 ⟨some 14, .call 224 [(.t 13)], none⟩,
 ⟨some 4, .p (.mv (.t 14)), none⟩]
def c203_r6 : List Ins := [⟨some 15, .p (.load (.t 1) 7 true), none⟩,
 ⟨some 16, .call 225 [(.t 15)], none⟩,
 ⟨some 5, .alloc [(.str []), (.own 322 0 1 []), (.int .i64 0), (.int .i64 0), (.str []), (.int .i64 0), (.own 327 0 4 [])], none⟩,
 ⟨none, .store (.t 5) (.t 16) 7, none⟩]
def c203_r7 : List Ins := [⟨some 17, .p (.load (.t 5) 7 true), none⟩,
 ⟨some 18, .call 226 [(.t 17)], none⟩,
 ⟨some 6, .p (.mv (.t 18)), none⟩]
def c203_r8 : List Ins := [⟨some 19, .p (.mv (.t 6)), none⟩,
 ⟨some 20, .p (.mv (.t 4)), none⟩,
 ⟨some 21, .p (.binB .neq (.t 19) (.t 20)), none⟩]
def c203_r9 : List Ins := [⟨some 2, .p (.mv (.c (.bool false))), none⟩]
def c203_r10 : DP := (.take ⟨some 22, .p (.load (.t 5) 7 true), none⟩
 (.take ⟨some 23, .p (.load (.t 1) 7 true), none⟩
 (.alt [⟨some 22, .p (.load (.t 5) 7 true), none⟩] ⟨some 24, .call 225 [(.t 23)], none⟩
 (.alt [] ⟨some 25, .call 227 [(.t 22), (.t 24)], none⟩
 (.take ⟨some 26, .p (.un .not (.t 25)), none⟩
 .fin)
 .stop)
 .stop)))
def c203_r11 : List Ins := [⟨some 2, .p (.mv (.c (.bool false))), none⟩]
def c203_r12 : List Ins := [⟨some 2, .p (.mv (.c (.bool true))), none⟩]
def c203 : XFn := { np := 1, nt := 27, res := [.t 2], body := (.seq (.reg c203_r0) (.seq (.reg c203_r1) (.seq (.reg c203_r2) (.seq (.seq (.reg c203_r3) (.ite (.t 11) (.seq (.reg c203_r4) .ret) .skip)) (.seq (.reg c203_r5) (.seq (.reg c203_r6) (.seq (.reg c203_r7) (.seq (.seq (.reg c203_r8) (.ite (.t 21) (.seq (.reg c203_r9) .ret) .skip)) (.seq (.seq (.draw c203_r10) (.ite (.t 26) (.seq (.reg c203_r11) .ret) .skip)) (.seq (.reg c203_r12) .ret)))))))))) }
def K203 (C : CRel) : Prop := ∀ (a0 : DAuthority) (r : Bool), g203 a0 = some r → C 203 ⟨[.agg [.str a0.name_, .lst 1 (a0.seed.map eU8), .int .i64 a0.serial, .int .i64 a0.number, .str a0.suffix, .int .i64 a0.most, .lst 4 (a0.list_.map eDIssued)]], []⟩ ⟨.bool r, [], []⟩
theorem F203 {C : CRel} (H223 : K223 C) (H224 : K224 C) (H225 : K225 C) (H226 : K226 C) (H227 : K227 C) (a0 : DAuthority) (r : Bool) (h0 : g203 a0 = some r) : FnOK C c203 ⟨[.agg [.str a0.name_, .lst 1 (a0.seed.map eU8), .int .i64 a0.serial, .int .i64 a0.number, .str a0.suffix, .int .i64 a0.most, .lst 4 (a0.list_.map eDIssued)]], []⟩ ⟨.bool r, [], []⟩ := by
  refine fn_ (Nat.le_of_ble_eq_true rfl) ?_
  refine seq_ ?_
  refine reg_ ?_
  refine st (box_ rfl trivial rfl ?_)
  refine st (mvc_ trivial ?_)
  refine oe_ ?_
  refine wk_ ⟨[(1, .ptr 64 0)], [(64, [.str a0.name_, .lst 1 (a0.seed.map eU8), .int .i64 a0.serial, .int .i64 a0.number, .str a0.suffix, .int .i64 a0.most, .lst 4 (a0.list_.map eDIssued)])], []⟩ (fgk (by kernel_rfl)) ?_
  refine seq_ ?_
  refine reg_ ?_
  refine st (mvc_ trivial ?_)
  refine oe_ ?_
  refine wk_ ⟨[(1, .ptr 64 0), (3, .int .i64 1048576)], [(64, [.str a0.name_, .lst 1 (a0.seed.map eU8), .int .i64 a0.serial, .int .i64 a0.number, .str a0.suffix, .int .i64 a0.most, .lst 4 (a0.list_.map eDIssued)])], []⟩ (fgk (by kernel_rfl)) ?_
  refine seq_ ?_
  refine reg_ ?_
  refine st (c_ (v := .agg [.str a0.name_, .lst 1 (a0.seed.map eU8), .int .i64 a0.serial, .int .i64 a0.number, .str a0.suffix, .int .i64 a0.most, .lst 4 (a0.list_.map eDIssued)]) (cp_ ⟨trivial, trivial⟩ rfl (Nat.le_of_ble_eq_true rfl)) ?_)
  refine st (mv_ rfl trivial ?_)
  obtain ⟨r1, e2, h0⟩ := bnd h0
  refine st (call0_ (r := .int .i64 r1) false (H223 a0 1048576 r1 e2) ⟨trivial, trivial, trivial⟩ rfl rfl (fun _ => rfl) ?_)
  refine st (mv_ rfl trivial ?_)
  refine oe_ ?_
  refine wk_ ⟨[(1, .ptr 64 0), (3, .int .i64 r1)], [(64, [.str a0.name_, .lst 1 (a0.seed.map eU8), .int .i64 a0.serial, .int .i64 a0.number, .str a0.suffix, .int .i64 a0.most, .lst 4 (a0.list_.map eDIssued)])], []⟩ (fgk (by kernel_rfl)) ?_
  refine seq_ ?_
  refine seq_ ?_
  refine reg_ ?_
  refine st (mv_ rfl trivial ?_)
  refine st (c_ (cp_ ⟨trivial, trivial, trivial⟩ rfl trivial) ?_)
  refine oe_ ?_
  refine wk_ ⟨[(1, .ptr 64 0), (11, .bool (decide (r1 < 0)))], [(64, [.str a0.name_, .lst 1 (a0.seed.map eU8), .int .i64 a0.serial, .int .i64 a0.number, .str a0.suffix, .int .i64 a0.most, .lst 4 (a0.list_.map eDIssued)])], []⟩ (fgk (by kernel_rfl)) ?_
  refine ite_ (cb := (decide (r1 < 0))) rfl (fun c3 => ?_) (fun c3 => ?_)
  · replace h0 := ip c3 h0
    refine seq_ ?_
    refine reg_ ?_
    refine st (mvc_ trivial ?_)
    refine oe_ ?_
    refine wk_ ⟨[(2, .bool true)], [], []⟩ (fgk (by kernel_rfl)) ?_
    obtain rfl := Option.some.inj h0
    exact rt_ (ret_ rfl rfl rfl rfl rfl trivial)
  · replace h0 := inb c3 h0
    refine sk_ ?_
    refine wk_ ⟨[(1, .ptr 64 0)], [(64, [.str a0.name_, .lst 1 (a0.seed.map eU8), .int .i64 a0.serial, .int .i64 a0.number, .str a0.suffix, .int .i64 a0.most, .lst 4 (a0.list_.map eDIssued)])], []⟩ (fgk (by kernel_rfl)) ?_
    refine seq_ ?_
    refine reg_ ?_
    refine st (c_ (v := .agg [.str a0.name_, .lst 1 (a0.seed.map eU8), .int .i64 a0.serial, .int .i64 a0.number, .str a0.suffix, .int .i64 a0.most, .lst 4 (a0.list_.map eDIssued)]) (cp_ ⟨trivial, trivial⟩ rfl (Nat.le_of_ble_eq_true rfl)) ?_)
    obtain ⟨r4, e5, h0⟩ := bnd h0
    refine st (call0_ (r := .agg [.str r4.name_, .own 0 0 1 (r4.seed.map eU8), .int .i64 r4.serial, .int .i64 r4.number, .str r4.suffix, .int .i64 r4.most, .own 1 0 4 (r4.list_.map eDIssued)]) false (H225 a0 r4 e5) ⟨trivial, trivial⟩ rfl rfl (fun _ => (and_ rfl (and_ (fl1 (fun _ => rfl)) (and_ rfl (and_ rfl (and_ rfl (and_ rfl (and_ (fl1 (fun _ => rfl)) rfl)))))))) ?_)
    obtain ⟨r6, e7, h0⟩ := bnd h0
    refine st (call0_ (r := .bool r6) false (H224 r4 r6 e7) ⟨trivial, trivial⟩ rfl rfl (fun _ => rfl) ?_)
    refine st (mv_ rfl trivial ?_)
    refine oe_ ?_
    refine wk_ ⟨[(1, .ptr 64 0), (4, .bool r6)], [(64, [.str a0.name_, .lst 1 (a0.seed.map eU8), .int .i64 a0.serial, .int .i64 a0.number, .str a0.suffix, .int .i64 a0.most, .lst 4 (a0.list_.map eDIssued)])], []⟩ (fgk (by kernel_rfl)) ?_
    refine seq_ ?_
    refine reg_ ?_
    refine st (c_ (v := .agg [.str a0.name_, .lst 1 (a0.seed.map eU8), .int .i64 a0.serial, .int .i64 a0.number, .str a0.suffix, .int .i64 a0.most, .lst 4 (a0.list_.map eDIssued)]) (cp_ ⟨trivial, trivial⟩ rfl (Nat.le_of_ble_eq_true rfl)) ?_)
    obtain ⟨r8, e9, h0⟩ := bnd h0
    refine st (call0_ (r := .agg [.str r8.name_, .own 0 0 1 (r8.seed.map eU8), .int .i64 r8.serial, .int .i64 r8.number, .str r8.suffix, .int .i64 r8.most, .own 1 0 4 (r8.list_.map eDIssued)]) false (H225 a0 r8 e9) ⟨trivial, trivial⟩ rfl rfl (fun _ => (and_ rfl (and_ (fl1 (fun _ => rfl)) (and_ rfl (and_ rfl (and_ rfl (and_ rfl (and_ (fl1 (fun _ => rfl)) rfl)))))))) ?_)
    refine st (alloc_ ?_)
    refine st (stp_ rfl rfl trivial rfl rfl rfl (Nat.le_of_ble_eq_true rfl) ?_)
    refine oe_ ?_
    refine wk_ ⟨[(1, .ptr 64 0), (4, .bool r6), (5, .ptr 320 0)], [(64, [.str a0.name_, .lst 1 (a0.seed.map eU8), .int .i64 a0.serial, .int .i64 a0.number, .str a0.suffix, .int .i64 a0.most, .lst 4 (a0.list_.map eDIssued)]), (320, [.str r8.name_, .own 1024 0 1 (r8.seed.map eU8), .int .i64 r8.serial, .int .i64 r8.number, .str r8.suffix, .int .i64 r8.most, .own 1025 0 4 (r8.list_.map eDIssued)])], []⟩ (fgk (by kernel_rfl)) ?_
    refine seq_ ?_
    refine reg_ ?_
    refine st (c_ (v := .agg [.str r8.name_, .own 1024 0 1 (r8.seed.map eU8), .int .i64 r8.serial, .int .i64 r8.number, .str r8.suffix, .int .i64 r8.most, .own 1025 0 4 (r8.list_.map eDIssued)]) (cp_ ⟨trivial, trivial⟩ rfl (Nat.le_of_ble_eq_true rfl)) ?_)
    obtain ⟨r10, e11, h0⟩ := bnd h0
    refine st (call0_ (r := .bool r10) false (H226 r8 r10 e11) ⟨trivial, trivial⟩ rfl rfl (fun _ => rfl) ?_)
    refine st (mv_ rfl trivial ?_)
    refine oe_ ?_
    refine wk_ ⟨[(1, .ptr 64 0), (4, .bool r6), (5, .ptr 320 0), (6, .bool r10)], [(64, [.str a0.name_, .lst 1 (a0.seed.map eU8), .int .i64 a0.serial, .int .i64 a0.number, .str a0.suffix, .int .i64 a0.most, .lst 4 (a0.list_.map eDIssued)]), (320, [.str r8.name_, .own 1024 0 1 (r8.seed.map eU8), .int .i64 r8.serial, .int .i64 r8.number, .str r8.suffix, .int .i64 r8.most, .own 1025 0 4 (r8.list_.map eDIssued)])], []⟩ (fgk (by kernel_rfl)) ?_
    refine seq_ ?_
    refine seq_ ?_
    refine reg_ ?_
    refine st (mv_ rfl trivial ?_)
    refine st (mv_ rfl trivial ?_)
    refine st (c_ (cp_ ⟨trivial, trivial, trivial⟩ rfl trivial) ?_)
    refine oe_ ?_
    refine wk_ ⟨[(1, .ptr 64 0), (5, .ptr 320 0), (21, .bool (!(r10 == r6)))], [(64, [.str a0.name_, .lst 1 (a0.seed.map eU8), .int .i64 a0.serial, .int .i64 a0.number, .str a0.suffix, .int .i64 a0.most, .lst 4 (a0.list_.map eDIssued)]), (320, [.str r8.name_, .own 1024 0 1 (r8.seed.map eU8), .int .i64 r8.serial, .int .i64 r8.number, .str r8.suffix, .int .i64 r8.most, .own 1025 0 4 (r8.list_.map eDIssued)])], []⟩ (fgk (by kernel_rfl)) ?_
    refine ite_ (cb := (!(r10 == r6))) rfl (fun c12 => ?_) (fun c12 => ?_)
    · replace h0 := ip c12 h0
      refine seq_ ?_
      refine reg_ ?_
      refine st (mvc_ trivial ?_)
      refine oe_ ?_
      refine wk_ ⟨[(2, .bool false)], [], []⟩ (fgk (by kernel_rfl)) ?_
      obtain rfl := Option.some.inj h0
      exact rt_ (ret_ rfl rfl rfl rfl rfl trivial)
    · replace h0 := inb c12 h0
      refine sk_ ?_
      refine wk_ ⟨[(1, .ptr 64 0), (5, .ptr 320 0)], [(64, [.str a0.name_, .lst 1 (a0.seed.map eU8), .int .i64 a0.serial, .int .i64 a0.number, .str a0.suffix, .int .i64 a0.most, .lst 4 (a0.list_.map eDIssued)]), (320, [.str r8.name_, .own 1024 0 1 (r8.seed.map eU8), .int .i64 r8.serial, .int .i64 r8.number, .str r8.suffix, .int .i64 r8.most, .own 1025 0 4 (r8.list_.map eDIssued)])], []⟩ (fgk (by kernel_rfl)) ?_
      refine seq_ ?_
      refine seq_ ?_
      obtain ⟨r13, e14, h0⟩ := bnd h0
      obtain ⟨r15, e16, h0⟩ := bnd h0
      refine draw_ ?_
      refine dtake trivial (c_ (v := .agg [.str r8.name_, .own 1024 0 1 (r8.seed.map eU8), .int .i64 r8.serial, .int .i64 r8.number, .str r8.suffix, .int .i64 r8.most, .own 1025 0 4 (r8.list_.map eDIssued)]) (cp_ ⟨trivial, trivial⟩ rfl (Nat.le_of_ble_eq_true rfl)) ?_)
      refine ⟨trivial, ?_⟩
      refine dtake trivial (c_ (v := .agg [.str a0.name_, .lst 1 (a0.seed.map eU8), .int .i64 a0.serial, .int .i64 a0.number, .str a0.suffix, .int .i64 a0.most, .lst 4 (a0.list_.map eDIssued)]) (cp_ ⟨trivial, trivial⟩ rfl (Nat.le_of_ble_eq_true rfl)) ?_)
      refine ⟨trivial, ?_⟩
      refine dalt (call0_ (r := .agg [.str r13.name_, .own 0 0 1 (r13.seed.map eU8), .int .i64 r13.serial, .int .i64 r13.number, .str r13.suffix, .int .i64 r13.most, .own 1 0 4 (r13.list_.map eDIssued)]) false (H225 a0 r13 e14) ⟨trivial, trivial⟩ rfl rfl (fun _ => (and_ rfl (and_ (fl1 (fun _ => rfl)) (and_ rfl (and_ rfl (and_ rfl (and_ rfl (and_ (fl1 (fun _ => rfl)) rfl)))))))) ?_) dstop
      refine dkw ⟨[(5, .ptr 320 0), (22, .agg [.str r8.name_, .own 1024 0 1 (r8.seed.map eU8), .int .i64 r8.serial, .int .i64 r8.number, .str r8.suffix, .int .i64 r8.most, .own 1025 0 4 (r8.list_.map eDIssued)]), (24, .agg [.str r13.name_, .own 1536 0 1 (r13.seed.map eU8), .int .i64 r13.serial, .int .i64 r13.number, .str r13.suffix, .int .i64 r13.most, .own 1537 0 4 (r13.list_.map eDIssued)])], [(320, [.str r8.name_, .own 1024 0 1 (r8.seed.map eU8), .int .i64 r8.serial, .int .i64 r8.number, .str r8.suffix, .int .i64 r8.most, .own 1025 0 4 (r8.list_.map eDIssued)])], []⟩ (fgk (by kernel_rfl)) ⟨[], ⟨⟨.inl trivial, (again1 (cp_ ⟨trivial, trivial⟩ rfl (Nat.le_of_ble_eq_true rfl)) rfl)⟩, trivial⟩, trivial, ?_⟩
      refine dalt (call0_ (r := .bool r15) false (H227 r8 r13 r15 e16) ⟨trivial, trivial, trivial⟩ rfl rfl (fun _ => rfl) ?_) dstop
      refine dkw ⟨[(25, .bool r15)], [], []⟩ (fgk (by kernel_rfl)) ⟨[], trivial, trivial, ?_⟩
      refine dtake trivial (c_ (cp_ ⟨trivial, trivial⟩ rfl trivial) ?_)
      refine ⟨trivial, ?_⟩
      refine dfin ?_
      refine wk_ ⟨[(26, .bool (!r15))], [], []⟩ (fgk (by kernel_rfl)) ?_
      refine ite_ (cb := (!r15)) rfl (fun c17 => ?_) (fun c17 => ?_)
      · replace h0 := ip c17 h0
        refine seq_ ?_
        refine reg_ ?_
        refine st (mvc_ trivial ?_)
        refine oe_ ?_
        refine wk_ ⟨[(2, .bool false)], [], []⟩ (fgk (by kernel_rfl)) ?_
        obtain rfl := Option.some.inj h0
        exact rt_ (ret_ rfl rfl rfl rfl rfl trivial)
      · replace h0 := inb c17 h0
        refine sk_ ?_
        refine wk_ ⟨[], [], []⟩ (fgk (by kernel_rfl)) ?_
        refine seq_ ?_
        refine reg_ ?_
        refine st (mvc_ trivial ?_)
        refine oe_ ?_
        refine wk_ ⟨[(2, .bool true)], [], []⟩ (fgk (by kernel_rfl)) ?_
        obtain rfl := Option.some.inj h0
        exact rt_ (ret_ rfl rfl rfl rfl rfl trivial)
end Go.Ev
