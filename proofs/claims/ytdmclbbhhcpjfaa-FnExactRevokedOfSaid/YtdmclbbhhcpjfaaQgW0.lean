/- The walks of functions: the code comes to the answers that QgD tells. Written by a program of ours. -/
import Derived.Test.YtdmclbbhhcpjfaaQgD
set_option linter.all false
set_option maxHeartbeats 4000000
set_option linter.unusedVariables false
set_option maxRecDepth 100000
namespace Go.Ev

/- loop.example/g00149/laws.eqIntS -/
def c36_r0 : List Ins := [⟨some 4, .p (.mv (.c (.bool false))), none⟩]
def c36_r1 : List Ins := [⟨some 6, .p (.mv (.t 0)), none⟩,
 ⟨some 7, .p (.len (.t 6)), none⟩,
 ⟨some 8, .p (.mv (.t 1)), none⟩,
 ⟨some 9, .p (.len (.t 8)), none⟩,
 ⟨some 10, .p (.bin .neq (.t 7) (.t 9)), none⟩]
def c36_r2 : List Ins := [⟨some 4, .p (.mv (.c (.bool false))), none⟩]
def c36_r3 : List Ins := [⟨some 5, .p (.mv (.c (.int .i64 0))), none⟩]
def c36_r4 : List Ins := [⟨some 11, .p (.mv (.t 5)), none⟩,
 ⟨some 12, .p (.mv (.t 0)), none⟩,
 ⟨some 13, .p (.len (.t 12)), none⟩,
 ⟨some 14, .p (.bin .lss (.t 11) (.t 13)), none⟩]
def c36_r5 : DP := (.take ⟨some 17, .p (.mv (.t 0)), none⟩
 (.take ⟨some 18, .p (.mv (.t 5)), none⟩
 (.take ⟨some 19, .p (.idxA (.t 17) (.t 18) 1), none⟩
 (.take ⟨some 20, .p (.load (.t 19) 1 false), none⟩
 (.take ⟨some 21, .p (.mv (.t 1)), none⟩
 (.take ⟨some 22, .p (.mv (.t 5)), none⟩
 (.take ⟨some 23, .p (.idxA (.t 21) (.t 22) 1), none⟩
 (.take ⟨some 24, .p (.load (.t 23) 1 false), none⟩
 (.take ⟨some 25, .p (.bin .neq (.t 20) (.t 24)), none⟩
 .fin)))))))))
def c36_r6 : List Ins := [⟨some 4, .p (.mv (.c (.bool false))), none⟩]
def c36_r7 : List Ins := [⟨some 15, .p (.mv (.t 5)), none⟩,
 ⟨some 16, .p (.bin .add (.t 15) (.c (.int .i64 1))), none⟩,
 ⟨some 5, .p (.mv (.t 16)), none⟩]
def c36_l0 : IR := (.seq (.seq (.reg c36_r4) (.ite (.t 14) .skip (.exit 0))) (.seq (.block 1 (.seq (.draw c36_r5) (.ite (.t 25) (.seq (.reg c36_r6) .ret) .skip))) (.reg c36_r7)))
def c36_r8 : List Ins := [⟨some 4, .p (.mv (.c (.bool true))), none⟩]
def c36 : XFn := { np := 2, nt := 26, res := [.t 4], body := (.seq (.reg c36_r0) (.seq (.seq (.reg c36_r1) (.ite (.t 10) (.seq (.reg c36_r2) .ret) .skip)) (.seq (.seq (.reg c36_r3) (.block 0 (.loop c36_l0))) (.seq (.reg c36_r8) .ret)))) }
def K36 (C : CRel) : Prop := ∀ (a0 : List Int) (a1 : List Int) (r : Bool), g36 a0 a1 = some r → C 36 ⟨[.lst 1 (a0.map eI), .lst 1 (a1.map eI)], []⟩ ⟨.bool r, [], []⟩
theorem F36 {C : CRel}  (a0 : List Int) (a1 : List Int) (r : Bool) (h0 : g36 a0 a1 = some r) : FnOK C c36 ⟨[.lst 1 (a0.map eI), .lst 1 (a1.map eI)], []⟩ ⟨.bool r, [], []⟩ := by
  refine fn_ (Nat.le_of_ble_eq_true rfl) ?_
  refine seq_ ?_
  refine reg_ ?_
  refine st (mvc_ trivial ?_)
  refine oe_ ?_
  refine wk_ ⟨[(0, .lst 1 (a0.map eI)), (1, .lst 1 (a1.map eI))], [], []⟩ (fgk (by kernel_rfl)) ?_
  refine seq_ ?_
  refine seq_ ?_
  refine reg_ ?_
  refine st (mv_ rfl trivial ?_)
  refine st (c_ (clenL (e := eI) (l0 := a0) rfl rfl trivial) ?_)
  refine st (mv_ rfl trivial ?_)
  refine st (c_ (clenL (e := eI) (l0 := a1) rfl rfl trivial) ?_)
  refine st (c_ (cp_ ⟨trivial, trivial, trivial⟩ rfl trivial) ?_)
  refine oe_ ?_
  refine wk_ ⟨[(0, .lst 1 (a0.map eI)), (1, .lst 1 (a1.map eI)), (10, .bool ((a0.length : Int) != (a1.length : Int)))], [], []⟩ (fgk (by kernel_rfl)) ?_
  refine ite_ (cb := ((a0.length : Int) != (a1.length : Int))) rfl (fun c1 => ?_) (fun c1 => ?_)
  · replace h0 := ip c1 h0
    refine seq_ ?_
    refine reg_ ?_
    refine st (mvc_ trivial ?_)
    refine oe_ ?_
    refine wk_ ⟨[(4, .bool false)], [], []⟩ (fgk (by kernel_rfl)) ?_
    obtain rfl := Option.some.inj h0
    exact rt_ (ret_ rfl rfl rfl rfl rfl trivial)
  · replace h0 := inb c1 h0
    refine sk_ ?_
    refine wk_ ⟨[(0, .lst 1 (a0.map eI)), (1, .lst 1 (a1.map eI))], [], []⟩ (fgk (by kernel_rfl)) ?_
    refine seq_ ?_
    refine seq_ ?_
    refine reg_ ?_
    refine st (mvc_ trivial ?_)
    refine oe_ ?_
    refine wk_ ⟨[(0, .lst 1 (a0.map eI)), (1, .lst 1 (a1.map eI)), (5, .int .i64 0)], [], []⟩ (fgk (by kernel_rfl)) ?_
    refine block_ ?_
    obtain ⟨r22, e23, h0⟩ := bnd h0
    refine loop_ (R := (fun S => .inl () = r22 ∧ S = ⟨[], [], []⟩)) (g36_l0 a0 a1) (fun s S => match s with | p8 => S = ⟨[(0, .lst 1 (a0.map eI)), (1, .lst 1 (a1.map eI)), (5, .int .i64 p8)], [], []⟩) e23 ⟨[(0, .lst 1 (a0.map eI)), (1, .lst 1 (a1.map eI)), (5, .int .i64 0)], [], []⟩ (fgk (by kernel_rfl)) rfl 0 (fun _ => rfl) ?_ ?_
    · rintro S _ hfg ⟨rfl, rfl⟩
      refine wk_ ⟨[], [], []⟩ (fglk hfg (by kernel_rfl)) ?_
      refine seq_ ?_
      refine reg_ ?_
      refine st (mvc_ trivial ?_)
      refine oe_ ?_
      refine wk_ ⟨[(4, .bool true)], [], []⟩ (fgk (by kernel_rfl)) ?_
      obtain rfl := Option.some.inj h0
      exact rt_ (ret_ rfl rfl rfl rfl rfl trivial)
    · rintro p8 o1 _ K1 rfl h1 hx1 hK1 hE1 hR1
      refine seq_ ?_
      refine seq_ ?_
      refine reg_ ?_
      refine st (mv_ rfl trivial ?_)
      refine st (mv_ rfl trivial ?_)
      refine st (c_ (clenL (e := eI) (l0 := a0) rfl rfl trivial) ?_)
      refine st (c_ (cp_ ⟨trivial, trivial, trivial⟩ rfl trivial) ?_)
      refine oe_ ?_
      refine wk_ ⟨[(0, .lst 1 (a0.map eI)), (1, .lst 1 (a1.map eI)), (5, .int .i64 p8), (14, .bool (decide (p8 < (a0.length : Int))))], [], []⟩ (fgk (by kernel_rfl)) ?_
      refine ite_ (cb := (decide (p8 < (a0.length : Int)))) rfl (fun c16 => ?_) (fun c16 => ?_)
      · replace h1 := ip c16 h1
        refine sk_ ?_
        refine wk_ ⟨[(0, .lst 1 (a0.map eI)), (1, .lst 1 (a1.map eI)), (5, .int .i64 p8)], [], []⟩ (fgk (by kernel_rfl)) ?_
        refine seq_ ?_
        refine block_ ?_
        refine seq_ ?_
        obtain ⟨y17, e18, h1⟩ := bnd h1
        obtain ⟨y19, e20, h1⟩ := bnd h1
        refine draw_ ?_
        refine dtake trivial (mv_ rfl trivial ?_)
        refine ⟨trivial, ?_⟩
        refine dtake trivial (mv_ rfl trivial ?_)
        refine ⟨trivial, ?_⟩
        refine dtake trivial (c_ (cidxL (e := eI) (y := y17) rfl rfl trivial rfl rfl trivial e18) ?_)
        refine ⟨trivial, ?_⟩
        refine dtake trivial (c_ (cp_ ⟨trivial, trivial⟩ rfl (Nat.le_of_ble_eq_true rfl)) ?_)
        refine ⟨trivial, ?_⟩
        refine dtake trivial (mv_ rfl trivial ?_)
        refine ⟨trivial, ?_⟩
        refine dtake trivial (mv_ rfl trivial ?_)
        refine ⟨trivial, ?_⟩
        refine dtake trivial (c_ (cidxL (e := eI) (y := y19) rfl rfl trivial rfl rfl trivial e20) ?_)
        refine ⟨trivial, ?_⟩
        refine dtake trivial (c_ (cp_ ⟨trivial, trivial⟩ rfl (Nat.le_of_ble_eq_true rfl)) ?_)
        refine ⟨trivial, ?_⟩
        refine dtake trivial (c_ (cp_ ⟨trivial, trivial, trivial⟩ rfl trivial) ?_)
        refine ⟨trivial, ?_⟩
        refine dfin ?_
        refine wk_ ⟨[(0, .lst 1 (a0.map eI)), (1, .lst 1 (a1.map eI)), (5, .int .i64 p8), (25, .bool (y17 != y19))], [], []⟩ (fgk (by kernel_rfl)) ?_
        refine ite_ (cb := (y17 != y19)) rfl (fun c21 => ?_) (fun c21 => ?_)
        · replace h1 := ip c21 h1
          refine seq_ ?_
          refine reg_ ?_
          refine st (mvc_ trivial ?_)
          refine oe_ ?_
          refine wk_ ⟨[(4, .bool false)], [], []⟩ (fgk (by kernel_rfl)) ?_
          obtain rfl := Option.some.inj h1
          obtain rfl := hx1 _ rfl
          obtain rfl := Option.some.inj h0
          exact rt_ (hR1 _ (ret_ rfl rfl rfl rfl rfl trivial))
        · replace h1 := inb c21 h1
          refine sk_ ?_
          refine bn_ ?_
          refine wk_ ⟨[(0, .lst 1 (a0.map eI)), (1, .lst 1 (a1.map eI)), (5, .int .i64 p8)], [], []⟩ (fgk (by kernel_rfl)) ?_
          refine reg_ ?_
          refine st (mv_ rfl trivial ?_)
          refine st (c_ (cp_ ⟨trivial, trivial, trivial⟩ rfl trivial) ?_)
          refine st (mv_ rfl trivial ?_)
          refine oe_ ?_
          obtain rfl := Option.some.inj h1
          exact hK1 _ rfl _ ⟨[(0, .lst 1 (a0.map eI)), (1, .lst 1 (a1.map eI)), (5, .int .i64 (IntKind.i64.wrap (p8 + 1)))], [], []⟩ (fgk (by kernel_rfl)) rfl
      · replace h1 := inb c16 h1
        obtain rfl := Option.some.inj h1
        obtain rfl := hx1 _ rfl
        refine exQ rfl ?_
        exact hE1 _ ⟨[], [], []⟩ (fgk (by kernel_rfl)) ⟨rfl, rfl⟩

/- loop.example/g00149/laws.markIntS -/
def c37_r0 : List Ins := [⟨some 4, .p (.mv (.c (.int .i64 0))), none⟩]
def c37_r1 : List Ins := [⟨some 5, .p (.mv (.c (.int .i64 0))), none⟩]
def c37_r2 : List Ins := [⟨some 6, .p (.mv (.t 5)), none⟩,
 ⟨some 7, .p (.mv (.t 0)), none⟩,
 ⟨some 8, .p (.len (.t 7)), none⟩,
 ⟨some 9, .p (.bin .lss (.t 6) (.t 8)), none⟩]
def c37_r3 : List Ins := [⟨some 12, .p (.mv (.t 0)), none⟩,
 ⟨some 13, .p (.mv (.t 5)), none⟩,
 ⟨some 14, .p (.mv (.t 1)), none⟩,
 ⟨some 15, .p (.idxA (.t 12) (.t 13) 1), none⟩,
 ⟨none, .store (.t 15) (.t 14) 1, none⟩]
def c37_r4 : List Ins := [⟨some 16, .p (.mv (.t 1)), none⟩,
 ⟨some 17, .p (.bin .add (.t 16) (.c (.int .i64 1))), none⟩,
 ⟨some 1, .p (.mv (.t 17)), none⟩]
def c37_r5 : List Ins := [⟨some 10, .p (.mv (.t 5)), none⟩,
 ⟨some 11, .p (.bin .add (.t 10) (.c (.int .i64 1))), none⟩,
 ⟨some 5, .p (.mv (.t 11)), none⟩]
def c37_l0 : IR := (.seq (.seq (.reg c37_r2) (.ite (.t 9) .skip (.exit 0))) (.seq (.block 1 (.seq (.reg c37_r3) (.reg c37_r4))) (.reg c37_r5)))
def c37_r6 : List Ins := [⟨some 18, .p (.mv (.t 1)), none⟩,
 ⟨some 4, .p (.mv (.t 18)), none⟩]
def c37 : XFn := { np := 2, nt := 19, res := [.t 4], body := (.seq (.reg c37_r0) (.seq (.seq (.reg c37_r1) (.block 0 (.loop c37_l0))) (.seq (.reg c37_r6) .ret))) }
def K37 (C : CRel) : Prop := ∀ (a0 : List Int) (a1 : Int) (r : Int × (List Int)), g37 a0 a1 = some r → C 37 ⟨[.own 2097152 0 1 (a0.map eI), .int .i64 a1], []⟩ ⟨.int .i64 r.1, [], [(0, 1, r.2.map eI)]⟩
theorem F37 {C : CRel}  (a0 : List Int) (a1 : Int) (r : Int × (List Int)) (h0 : g37 a0 a1 = some r) : FnOK C c37 ⟨[.own 2097152 0 1 (a0.map eI), .int .i64 a1], []⟩ ⟨.int .i64 r.1, [], [(0, 1, r.2.map eI)]⟩ := by
  refine fn_ (Nat.le_of_ble_eq_true rfl) ?_
  refine seq_ ?_
  refine reg_ ?_
  refine st (mvc_ trivial ?_)
  refine oe_ ?_
  refine wk_ ⟨[(0, .own 2097152 0 1 (a0.map eI)), (1, .int .i64 a1)], [], []⟩ (fgk (by kernel_rfl)) ?_
  refine seq_ ?_
  refine seq_ ?_
  refine reg_ ?_
  refine st (mvc_ trivial ?_)
  refine oe_ ?_
  refine wk_ ⟨[(0, .own 2097152 0 1 (a0.map eI)), (1, .int .i64 a1), (5, .int .i64 0)], [], []⟩ (fgk (by kernel_rfl)) ?_
  refine block_ ?_
  obtain ⟨r24, e25, h0⟩ := bnd h0
  refine loop_ (R := (fun S => ∃ p17 : List Int, ∃ p18 : Int, (p17, p18) = r24 ∧ S = ⟨[(0, .own 2097152 0 1 (p17.map eI)), (1, .int .i64 p18)], [], []⟩)) (g37_l0) (fun s S => match s with | (p6, p7, p8) => S = ⟨[(0, .own 2097152 0 1 (p6.map eI)), (1, .int .i64 p7), (5, .int .i64 p8)], [], []⟩) e25 ⟨[(0, .own 2097152 0 1 (a0.map eI)), (1, .int .i64 a1), (5, .int .i64 0)], [], []⟩ (fgk (by kernel_rfl)) rfl 0 (fun _ => rfl) ?_ ?_
  · rintro S _ hfg ⟨p17, p18, rfl, rfl⟩
    refine wk_ ⟨[(0, .own 2097152 0 1 (p17.map eI)), (1, .int .i64 p18)], [], []⟩ (fglk hfg (by kernel_rfl)) ?_
    refine seq_ ?_
    refine reg_ ?_
    refine st (mv_ rfl trivial ?_)
    refine st (mv_ rfl trivial ?_)
    refine oe_ ?_
    refine wk_ ⟨[(0, .own 2097152 0 1 (p17.map eI)), (4, .int .i64 p18)], [], []⟩ (fgk (by kernel_rfl)) ?_
    obtain rfl := Option.some.inj h0
    exact rt_ (ret_ rfl rfl rfl rfl rfl ⟨⟨rfl, mlen (fun _ => rfl)⟩, trivial⟩)
  · rintro ⟨p6, p7, p8⟩ o1 _ K1 rfl h1 hx1 hK1 hE1 hR1
    refine seq_ ?_
    refine seq_ ?_
    refine reg_ ?_
    refine st (mv_ rfl trivial ?_)
    refine st (mv_ rfl trivial ?_)
    refine st (c_ (clenO (e := eI) (l0 := p6) rfl rfl trivial) ?_)
    refine st (c_ (cp_ ⟨trivial, trivial, trivial⟩ rfl trivial) ?_)
    refine oe_ ?_
    refine wk_ ⟨[(0, .own 2097152 0 1 (p6.map eI)), (1, .int .i64 p7), (5, .int .i64 p8), (9, .bool (decide (p8 < (p6.length : Int))))], [], []⟩ (fgk (by kernel_rfl)) ?_
    refine ite_ (cb := (decide (p8 < (p6.length : Int)))) rfl (fun c19 => ?_) (fun c19 => ?_)
    · replace h1 := ip c19 h1
      refine sk_ ?_
      refine wk_ ⟨[(0, .own 2097152 0 1 (p6.map eI)), (1, .int .i64 p7), (5, .int .i64 p8)], [], []⟩ (fgk (by kernel_rfl)) ?_
      refine seq_ ?_
      refine block_ ?_
      refine seq_ ?_
      refine reg_ ?_
      refine st (mv_ rfl trivial ?_)
      refine st (mv_ rfl trivial ?_)
      refine st (mv_ rfl trivial ?_)
      obtain ⟨y20, e21, h1⟩ := bnd h1
      refine st (c_ (cidxO (e := eI) (y := y20) rfl rfl trivial rfl rfl trivial e21) ?_)
      obtain ⟨y22, e23, h1⟩ := bnd h1
      refine st (sto_ (y' := p7) rfl rfl trivial rfl rfl rfl rfl e23 (Nat.le_of_ble_eq_true rfl) rfl rfl rfl rfl ?_)
      refine oe_ ?_
      refine wk_ ⟨[(0, .own 2097152 0 1 ((p6.set p8.toNat p7).map eI)), (1, .int .i64 p7), (5, .int .i64 p8)], [], []⟩ (fg ⟨(congrArg (fun z => some ((.own 2097152 0 1 z : V))) overlay_map), rfl, rfl, trivial⟩ trivial) ?_
      refine reg_ ?_
      refine st (mv_ rfl trivial ?_)
      refine st (c_ (cp_ ⟨trivial, trivial, trivial⟩ rfl trivial) ?_)
      refine st (mv_ rfl trivial ?_)
      refine oe_ ?_
      refine bn_ ?_
      refine wk_ ⟨[(0, .own 2097152 0 1 ((p6.set p8.toNat p7).map eI)), (1, .int .i64 (IntKind.i64.wrap (p7 + 1))), (5, .int .i64 p8)], [], []⟩ (fgk (by kernel_rfl)) ?_
      refine reg_ ?_
      refine st (mv_ rfl trivial ?_)
      refine st (c_ (cp_ ⟨trivial, trivial, trivial⟩ rfl trivial) ?_)
      refine st (mv_ rfl trivial ?_)
      refine oe_ ?_
      obtain rfl := Option.some.inj h1
      exact hK1 _ rfl _ ⟨[(0, .own 2097152 0 1 ((p6.set p8.toNat p7).map eI)), (1, .int .i64 (IntKind.i64.wrap (p7 + 1))), (5, .int .i64 (IntKind.i64.wrap (p8 + 1)))], [], []⟩ (fgk (by kernel_rfl)) rfl
    · replace h1 := inb c19 h1
      obtain rfl := Option.some.inj h1
      obtain rfl := hx1 _ rfl
      refine exQ rfl ?_
      exact hE1 _ ⟨[(0, .own 2097152 0 1 (p6.map eI)), (1, .int .i64 p7)], [], []⟩ (fgk (by kernel_rfl)) ⟨_, _, rfl, rfl⟩

/- loop.example/g00149/laws.heldIntS -/
def c38_r0 : List Ins := [⟨some 4, .p (.mv (.c (.int .i64 0))), none⟩]
def c38_r1 : List Ins := [⟨some 5, .p (.mv (.c (.int .i64 0))), none⟩]
def c38_r2 : List Ins := [⟨some 6, .p (.mv (.t 5)), none⟩,
 ⟨some 7, .p (.mv (.t 0)), none⟩,
 ⟨some 8, .p (.len (.t 7)), none⟩,
 ⟨some 9, .p (.bin .lss (.t 6) (.t 8)), none⟩]
def c38_r3 : List Ins := [⟨some 12, .p (.mv (.t 0)), none⟩,
 ⟨some 13, .p (.mv (.t 5)), none⟩,
 ⟨some 14, .p (.idxA (.t 12) (.t 13) 1), none⟩,
 ⟨some 15, .p (.load (.t 14) 1 false), none⟩,
 ⟨some 16, .p (.mv (.t 1)), none⟩,
 ⟨some 17, .p (.bin .neq (.t 15) (.t 16)), none⟩]
def c38_r4 : List Ins := [⟨some 4, .p (.mv (.c (.int .i64 (-1)))), none⟩]
def c38_r5 : List Ins := [⟨some 18, .p (.mv (.t 1)), none⟩,
 ⟨some 19, .p (.bin .add (.t 18) (.c (.int .i64 1))), none⟩,
 ⟨some 1, .p (.mv (.t 19)), none⟩]
def c38_r6 : List Ins := [⟨some 10, .p (.mv (.t 5)), none⟩,
 ⟨some 11, .p (.bin .add (.t 10) (.c (.int .i64 1))), none⟩,
 ⟨some 5, .p (.mv (.t 11)), none⟩]
def c38_l0 : IR := (.seq (.seq (.reg c38_r2) (.ite (.t 9) .skip (.exit 0))) (.seq (.block 1 (.seq (.seq (.reg c38_r3) (.ite (.t 17) (.seq (.reg c38_r4) .ret) .skip)) (.reg c38_r5))) (.reg c38_r6)))
def c38_r7 : List Ins := [⟨some 20, .p (.mv (.t 1)), none⟩,
 ⟨some 4, .p (.mv (.t 20)), none⟩]
def c38 : XFn := { np := 2, nt := 21, res := [.t 4], body := (.seq (.reg c38_r0) (.seq (.seq (.reg c38_r1) (.block 0 (.loop c38_l0))) (.seq (.reg c38_r7) .ret))) }
def K38 (C : CRel) : Prop := ∀ (a0 : List Int) (a1 : Int) (r : Int), g38 a0 a1 = some r → C 38 ⟨[.lst 1 (a0.map eI), .int .i64 a1], []⟩ ⟨.int .i64 r, [], []⟩
theorem F38 {C : CRel}  (a0 : List Int) (a1 : Int) (r : Int) (h0 : g38 a0 a1 = some r) : FnOK C c38 ⟨[.lst 1 (a0.map eI), .int .i64 a1], []⟩ ⟨.int .i64 r, [], []⟩ := by
  refine fn_ (Nat.le_of_ble_eq_true rfl) ?_
  refine seq_ ?_
  refine reg_ ?_
  refine st (mvc_ trivial ?_)
  refine oe_ ?_
  refine wk_ ⟨[(0, .lst 1 (a0.map eI)), (1, .int .i64 a1)], [], []⟩ (fgk (by kernel_rfl)) ?_
  refine seq_ ?_
  refine seq_ ?_
  refine reg_ ?_
  refine st (mvc_ trivial ?_)
  refine oe_ ?_
  refine wk_ ⟨[(0, .lst 1 (a0.map eI)), (1, .int .i64 a1), (5, .int .i64 0)], [], []⟩ (fgk (by kernel_rfl)) ?_
  refine block_ ?_
  obtain ⟨r18, e19, h0⟩ := bnd h0
  refine loop_ (R := (fun S => ∃ p13 : Int, .inl p13 = r18 ∧ S = ⟨[(1, .int .i64 p13)], [], []⟩)) (g38_l0 a0) (fun s S => match s with | (p5, p6) => S = ⟨[(0, .lst 1 (a0.map eI)), (1, .int .i64 p5), (5, .int .i64 p6)], [], []⟩) e19 ⟨[(0, .lst 1 (a0.map eI)), (1, .int .i64 a1), (5, .int .i64 0)], [], []⟩ (fgk (by kernel_rfl)) rfl 0 (fun _ => rfl) ?_ ?_
  · rintro S _ hfg ⟨p13, rfl, rfl⟩
    refine wk_ ⟨[(1, .int .i64 p13)], [], []⟩ (fglk hfg (by kernel_rfl)) ?_
    refine seq_ ?_
    refine reg_ ?_
    refine st (mv_ rfl trivial ?_)
    refine st (mv_ rfl trivial ?_)
    refine oe_ ?_
    refine wk_ ⟨[(4, .int .i64 p13)], [], []⟩ (fgk (by kernel_rfl)) ?_
    obtain rfl := Option.some.inj h0
    exact rt_ (ret_ rfl rfl rfl rfl rfl trivial)
  · rintro ⟨p5, p6⟩ o1 _ K1 rfl h1 hx1 hK1 hE1 hR1
    refine seq_ ?_
    refine seq_ ?_
    refine reg_ ?_
    refine st (mv_ rfl trivial ?_)
    refine st (mv_ rfl trivial ?_)
    refine st (c_ (clenL (e := eI) (l0 := a0) rfl rfl trivial) ?_)
    refine st (c_ (cp_ ⟨trivial, trivial, trivial⟩ rfl trivial) ?_)
    refine oe_ ?_
    refine wk_ ⟨[(0, .lst 1 (a0.map eI)), (1, .int .i64 p5), (5, .int .i64 p6), (9, .bool (decide (p6 < (a0.length : Int))))], [], []⟩ (fgk (by kernel_rfl)) ?_
    refine ite_ (cb := (decide (p6 < (a0.length : Int)))) rfl (fun c14 => ?_) (fun c14 => ?_)
    · replace h1 := ip c14 h1
      refine sk_ ?_
      refine wk_ ⟨[(0, .lst 1 (a0.map eI)), (1, .int .i64 p5), (5, .int .i64 p6)], [], []⟩ (fgk (by kernel_rfl)) ?_
      refine seq_ ?_
      refine block_ ?_
      refine seq_ ?_
      refine seq_ ?_
      refine reg_ ?_
      refine st (mv_ rfl trivial ?_)
      refine st (mv_ rfl trivial ?_)
      obtain ⟨y15, e16, h1⟩ := bnd h1
      refine st (c_ (cidxL (e := eI) (y := y15) rfl rfl trivial rfl rfl trivial e16) ?_)
      refine st (c_ (cp_ ⟨trivial, trivial⟩ rfl (Nat.le_of_ble_eq_true rfl)) ?_)
      refine st (mv_ rfl trivial ?_)
      refine st (c_ (cp_ ⟨trivial, trivial, trivial⟩ rfl trivial) ?_)
      refine oe_ ?_
      refine wk_ ⟨[(0, .lst 1 (a0.map eI)), (1, .int .i64 p5), (5, .int .i64 p6), (17, .bool (y15 != p5))], [], []⟩ (fgk (by kernel_rfl)) ?_
      refine ite_ (cb := (y15 != p5)) rfl (fun c17 => ?_) (fun c17 => ?_)
      · replace h1 := ip c17 h1
        refine seq_ ?_
        refine reg_ ?_
        refine st (mvc_ trivial ?_)
        refine oe_ ?_
        refine wk_ ⟨[(4, .int .i64 (-1))], [], []⟩ (fgk (by kernel_rfl)) ?_
        obtain rfl := Option.some.inj h1
        obtain rfl := hx1 _ rfl
        obtain rfl := Option.some.inj h0
        exact rt_ (hR1 _ (ret_ rfl rfl rfl rfl rfl trivial))
      · replace h1 := inb c17 h1
        refine sk_ ?_
        refine wk_ ⟨[(0, .lst 1 (a0.map eI)), (1, .int .i64 p5), (5, .int .i64 p6)], [], []⟩ (fgk (by kernel_rfl)) ?_
        refine reg_ ?_
        refine st (mv_ rfl trivial ?_)
        refine st (c_ (cp_ ⟨trivial, trivial, trivial⟩ rfl trivial) ?_)
        refine st (mv_ rfl trivial ?_)
        refine oe_ ?_
        refine bn_ ?_
        refine wk_ ⟨[(0, .lst 1 (a0.map eI)), (1, .int .i64 (IntKind.i64.wrap (p5 + 1))), (5, .int .i64 p6)], [], []⟩ (fgk (by kernel_rfl)) ?_
        refine reg_ ?_
        refine st (mv_ rfl trivial ?_)
        refine st (c_ (cp_ ⟨trivial, trivial, trivial⟩ rfl trivial) ?_)
        refine st (mv_ rfl trivial ?_)
        refine oe_ ?_
        obtain rfl := Option.some.inj h1
        exact hK1 _ rfl _ ⟨[(0, .lst 1 (a0.map eI)), (1, .int .i64 (IntKind.i64.wrap (p5 + 1))), (5, .int .i64 (IntKind.i64.wrap (p6 + 1)))], [], []⟩ (fgk (by kernel_rfl)) rfl
    · replace h1 := inb c14 h1
      obtain rfl := Option.some.inj h1
      obtain rfl := hx1 _ rfl
      refine exQ rfl ?_
      exact hE1 _ ⟨[(1, .int .i64 p5)], [], []⟩ (fgk (by kernel_rfl)) ⟨_, rfl, rfl⟩

/- loop.example/g00149/laws.szByteS -/
def c276_r0 : List Ins := [⟨some 4, .p (.mv (.c (.int .i64 0))), none⟩]
def c276_r1 : List Ins := [⟨some 5, .p (.mv (.t 1)), none⟩,
 ⟨some 6, .p (.mv (.t 0)), none⟩,
 ⟨some 7, .p (.len (.t 6)), none⟩,
 ⟨some 8, .p (.bin .sub (.t 5) (.t 7)), none⟩,
 ⟨some 1, .p (.mv (.t 8)), none⟩]
def c276_r2 : List Ins := [⟨some 9, .p (.mv (.t 1)), none⟩,
 ⟨some 10, .p (.bin .lss (.t 9) (.c (.int .i64 0))), none⟩]
def c276_r3 : List Ins := [⟨some 4, .p (.mv (.c (.int .i64 (-1)))), none⟩]
def c276_r4 : List Ins := [⟨some 11, .p (.mv (.t 1)), none⟩,
 ⟨some 4, .p (.mv (.t 11)), none⟩]
def c276 : XFn := { np := 2, nt := 12, res := [.t 4], body := (.seq (.reg c276_r0) (.seq (.reg c276_r1) (.seq (.seq (.reg c276_r2) (.ite (.t 10) (.seq (.reg c276_r3) .ret) .skip)) (.seq (.reg c276_r4) .ret)))) }
def K276 (C : CRel) : Prop := ∀ (a0 : List UInt8) (a1 : Int) (r : Int), g276 a0 a1 = some r → C 276 ⟨[.lst 1 (a0.map eU8), .int .i64 a1], []⟩ ⟨.int .i64 r, [], []⟩
theorem F276 {C : CRel}  (a0 : List UInt8) (a1 : Int) (r : Int) (h0 : g276 a0 a1 = some r) : FnOK C c276 ⟨[.lst 1 (a0.map eU8), .int .i64 a1], []⟩ ⟨.int .i64 r, [], []⟩ := by
  refine fn_ (Nat.le_of_ble_eq_true rfl) ?_
  refine seq_ ?_
  refine reg_ ?_
  refine st (mvc_ trivial ?_)
  refine oe_ ?_
  refine wk_ ⟨[(0, .lst 1 (a0.map eU8)), (1, .int .i64 a1)], [], []⟩ (fgk (by kernel_rfl)) ?_
  refine seq_ ?_
  refine reg_ ?_
  refine st (mv_ rfl trivial ?_)
  refine st (mv_ rfl trivial ?_)
  refine st (c_ (clenL (e := eU8) (l0 := a0) rfl rfl trivial) ?_)
  refine st (c_ (cp_ ⟨trivial, trivial, trivial⟩ rfl trivial) ?_)
  refine st (mv_ rfl trivial ?_)
  refine oe_ ?_
  refine wk_ ⟨[(1, .int .i64 (IntKind.i64.wrap (a1 - (a0.length : Int))))], [], []⟩ (fgk (by kernel_rfl)) ?_
  refine seq_ ?_
  refine seq_ ?_
  refine reg_ ?_
  refine st (mv_ rfl trivial ?_)
  refine st (c_ (cp_ ⟨trivial, trivial, trivial⟩ rfl trivial) ?_)
  refine oe_ ?_
  refine wk_ ⟨[(1, .int .i64 (IntKind.i64.wrap (a1 - (a0.length : Int)))), (10, .bool (decide ((IntKind.i64.wrap (a1 - (a0.length : Int))) < 0)))], [], []⟩ (fgk (by kernel_rfl)) ?_
  refine ite_ (cb := (decide ((IntKind.i64.wrap (a1 - (a0.length : Int))) < 0))) rfl (fun c1 => ?_) (fun c1 => ?_)
  · replace h0 := ip c1 h0
    refine seq_ ?_
    refine reg_ ?_
    refine st (mvc_ trivial ?_)
    refine oe_ ?_
    refine wk_ ⟨[(4, .int .i64 (-1))], [], []⟩ (fgk (by kernel_rfl)) ?_
    obtain rfl := Option.some.inj h0
    exact rt_ (ret_ rfl rfl rfl rfl rfl trivial)
  · replace h0 := inb c1 h0
    refine sk_ ?_
    refine wk_ ⟨[(1, .int .i64 (IntKind.i64.wrap (a1 - (a0.length : Int))))], [], []⟩ (fgk (by kernel_rfl)) ?_
    refine seq_ ?_
    refine reg_ ?_
    refine st (mv_ rfl trivial ?_)
    refine st (mv_ rfl trivial ?_)
    refine oe_ ?_
    refine wk_ ⟨[(4, .int .i64 (IntKind.i64.wrap (a1 - (a0.length : Int))))], [], []⟩ (fgk (by kernel_rfl)) ?_
    obtain rfl := Option.some.inj h0
    exact rt_ (ret_ rfl rfl rfl rfl rfl trivial)

/- loop.example/g00149/laws.szIssued -/
def c334_r0 : List Ins := [⟨some 2, .box (.t 0), none⟩,
 ⟨some 4, .p (.mv (.c (.int .i64 0))), none⟩]
def c334_r1 : List Ins := [⟨some 5, .p (.mv (.t 1)), none⟩,
 ⟨some 6, .p (.fieldA (.t 2) 2), none⟩,
 ⟨some 7, .p (.load (.t 6) 1 false), none⟩,
 ⟨some 8, .p (.lenS (.t 7)), none⟩,
 ⟨some 9, .p (.bin .sub (.t 5) (.t 8)), none⟩,
 ⟨some 1, .p (.mv (.t 9)), none⟩]
def c334_r2 : List Ins := [⟨some 10, .p (.mv (.t 1)), none⟩,
 ⟨some 11, .p (.bin .lss (.t 10) (.c (.int .i64 0))), none⟩]
def c334_r3 : List Ins := [⟨some 4, .p (.mv (.c (.int .i64 (-1)))), none⟩]
def c334_r4 : List Ins := [⟨some 12, .p (.mv (.t 1)), none⟩,
 ⟨some 4, .p (.mv (.t 12)), none⟩]
def c334 : XFn := { np := 2, nt := 13, res := [.t 4], body := (.seq (.reg c334_r0) (.seq (.reg c334_r1) (.seq (.seq (.reg c334_r2) (.ite (.t 11) (.seq (.reg c334_r3) .ret) .skip)) (.seq (.reg c334_r4) .ret)))) }
def K334 (C : CRel) : Prop := ∀ (a0 : DIssued) (a1 : Int) (r : Int), g334 a0 a1 = some r → C 334 ⟨[.agg [.int .i64 a0.serial, .int .i64 a0.to_, .str a0.subject, .bool a0.revoked], .int .i64 a1], []⟩ ⟨.int .i64 r, [], []⟩
theorem F334 {C : CRel}  (a0 : DIssued) (a1 : Int) (r : Int) (h0 : g334 a0 a1 = some r) : FnOK C c334 ⟨[.agg [.int .i64 a0.serial, .int .i64 a0.to_, .str a0.subject, .bool a0.revoked], .int .i64 a1], []⟩ ⟨.int .i64 r, [], []⟩ := by
  refine fn_ (Nat.le_of_ble_eq_true rfl) ?_
  refine seq_ ?_
  refine reg_ ?_
  refine st (box_ rfl trivial rfl ?_)
  refine st (mvc_ trivial ?_)
  refine oe_ ?_
  refine wk_ ⟨[(1, .int .i64 a1), (2, .ptr 128 0)], [(128, [.int .i64 a0.serial, .int .i64 a0.to_, .str a0.subject, .bool a0.revoked])], []⟩ (fgk (by kernel_rfl)) ?_
  refine seq_ ?_
  refine reg_ ?_
  refine st (mv_ rfl trivial ?_)
  refine st (c_ (cp_ ⟨trivial, trivial⟩ rfl trivial) ?_)
  refine st (c_ (cp_ ⟨trivial, trivial⟩ rfl (Nat.le_of_ble_eq_true rfl)) ?_)
  refine st (c_ (cp_ ⟨trivial, trivial⟩ rfl trivial) ?_)
  refine st (c_ (cp_ ⟨trivial, trivial, trivial⟩ rfl trivial) ?_)
  refine st (mv_ rfl trivial ?_)
  refine oe_ ?_
  refine wk_ ⟨[(1, .int .i64 (IntKind.i64.wrap (a1 - (a0.subject.length : Int))))], [], []⟩ (fgk (by kernel_rfl)) ?_
  refine seq_ ?_
  refine seq_ ?_
  refine reg_ ?_
  refine st (mv_ rfl trivial ?_)
  refine st (c_ (cp_ ⟨trivial, trivial, trivial⟩ rfl trivial) ?_)
  refine oe_ ?_
  refine wk_ ⟨[(1, .int .i64 (IntKind.i64.wrap (a1 - (a0.subject.length : Int)))), (11, .bool (decide ((IntKind.i64.wrap (a1 - (a0.subject.length : Int))) < 0)))], [], []⟩ (fgk (by kernel_rfl)) ?_
  refine ite_ (cb := (decide ((IntKind.i64.wrap (a1 - (a0.subject.length : Int))) < 0))) rfl (fun c1 => ?_) (fun c1 => ?_)
  · replace h0 := ip c1 h0
    refine seq_ ?_
    refine reg_ ?_
    refine st (mvc_ trivial ?_)
    refine oe_ ?_
    refine wk_ ⟨[(4, .int .i64 (-1))], [], []⟩ (fgk (by kernel_rfl)) ?_
    obtain rfl := Option.some.inj h0
    exact rt_ (ret_ rfl rfl rfl rfl rfl trivial)
  · replace h0 := inb c1 h0
    refine sk_ ?_
    refine wk_ ⟨[(1, .int .i64 (IntKind.i64.wrap (a1 - (a0.subject.length : Int))))], [], []⟩ (fgk (by kernel_rfl)) ?_
    refine seq_ ?_
    refine reg_ ?_
    refine st (mv_ rfl trivial ?_)
    refine st (mv_ rfl trivial ?_)
    refine oe_ ?_
    refine wk_ ⟨[(4, .int .i64 (IntKind.i64.wrap (a1 - (a0.subject.length : Int))))], [], []⟩ (fgk (by kernel_rfl)) ?_
    obtain rfl := Option.some.inj h0
    exact rt_ (ret_ rfl rfl rfl rfl rfl trivial)

/- loop.example/g00149/laws.szIssuedS -/
def c277_r0 : List Ins := [⟨some 4, .p (.mv (.c (.int .i64 0))), none⟩]
def c277_r1 : List Ins := [⟨some 6, .p (.mv (.t 1)), none⟩,
 ⟨some 7, .p (.mv (.t 0)), none⟩,
 ⟨some 8, .p (.len (.t 7)), none⟩,
 ⟨some 9, .p (.bin .sub (.t 6) (.t 8)), none⟩,
 ⟨some 1, .p (.mv (.t 9)), none⟩]
def c277_r2 : List Ins := [⟨some 10, .p (.mv (.t 1)), none⟩,
 ⟨some 11, .p (.bin .lss (.t 10) (.c (.int .i64 0))), none⟩]
def c277_r3 : List Ins := [⟨some 4, .p (.mv (.c (.int .i64 (-1)))), none⟩]
def c277_r4 : List Ins := [⟨some 5, .p (.mv (.c (.int .i64 0))), none⟩]
def c277_r5 : List Ins := [⟨some 12, .p (.mv (.t 5)), none⟩,
 ⟨some 13, .p (.mv (.t 0)), none⟩,
 ⟨some 14, .p (.len (.t 13)), none⟩,
 ⟨some 15, .p (.bin .lss (.t 12) (.t 14)), none⟩]
def c277_r6 : List Ins := [⟨some 18, .p (.mv (.t 0)), none⟩,
 ⟨some 19, .p (.mv (.t 5)), none⟩,
 ⟨some 20, .p (.idxA (.t 18) (.t 19) 4), none⟩,
 ⟨some 21, .p (.load (.t 20) 4 true), none⟩,
 ⟨some 22, .p (.mv (.t 1)), none⟩,
 ⟨some 23, .call 334 [(.t 21), (.t 22)], none⟩,
 ⟨some 1, .p (.mv (.t 23)), none⟩]
def c277_r7 : List Ins := [⟨some 24, .p (.mv (.t 1)), none⟩,
 ⟨some 25, .p (.bin .lss (.t 24) (.c (.int .i64 0))), none⟩]
def c277_r8 : List Ins := [⟨some 4, .p (.mv (.c (.int .i64 (-1)))), none⟩]
def c277_r9 : List Ins := [⟨some 16, .p (.mv (.t 5)), none⟩,
 ⟨some 17, .p (.bin .add (.t 16) (.c (.int .i64 1))), none⟩,
 ⟨some 5, .p (.mv (.t 17)), none⟩]
def c277_l0 : IR := (.seq (.seq (.reg c277_r5) (.ite (.t 15) .skip (.exit 0))) (.seq (.block 1 (.seq (.reg c277_r6) (.seq (.reg c277_r7) (.ite (.t 25) (.seq (.reg c277_r8) .ret) .skip)))) (.reg c277_r9)))
def c277_r10 : List Ins := [⟨some 26, .p (.mv (.t 1)), none⟩,
 ⟨some 4, .p (.mv (.t 26)), none⟩]
def c277 : XFn := { np := 2, nt := 27, res := [.t 4], body := (.seq (.reg c277_r0) (.seq (.reg c277_r1) (.seq (.seq (.reg c277_r2) (.ite (.t 11) (.seq (.reg c277_r3) .ret) .skip)) (.seq (.seq (.reg c277_r4) (.block 0 (.loop c277_l0))) (.seq (.reg c277_r10) .ret))))) }
def K277 (C : CRel) : Prop := ∀ (a0 : List DIssued) (a1 : Int) (r : Int), g277 a0 a1 = some r → C 277 ⟨[.lst 4 (a0.map eDIssued), .int .i64 a1], []⟩ ⟨.int .i64 r, [], []⟩
theorem F277 {C : CRel} (H334 : K334 C) (a0 : List DIssued) (a1 : Int) (r : Int) (h0 : g277 a0 a1 = some r) : FnOK C c277 ⟨[.lst 4 (a0.map eDIssued), .int .i64 a1], []⟩ ⟨.int .i64 r, [], []⟩ := by
  refine fn_ (Nat.le_of_ble_eq_true rfl) ?_
  refine seq_ ?_
  refine reg_ ?_
  refine st (mvc_ trivial ?_)
  refine oe_ ?_
  refine wk_ ⟨[(0, .lst 4 (a0.map eDIssued)), (1, .int .i64 a1)], [], []⟩ (fgk (by kernel_rfl)) ?_
  refine seq_ ?_
  refine reg_ ?_
  refine st (mv_ rfl trivial ?_)
  refine st (mv_ rfl trivial ?_)
  refine st (c_ (clenL (e := eDIssued) (l0 := a0) rfl rfl trivial) ?_)
  refine st (c_ (cp_ ⟨trivial, trivial, trivial⟩ rfl trivial) ?_)
  refine st (mv_ rfl trivial ?_)
  refine oe_ ?_
  refine wk_ ⟨[(0, .lst 4 (a0.map eDIssued)), (1, .int .i64 (IntKind.i64.wrap (a1 - (a0.length : Int))))], [], []⟩ (fgk (by kernel_rfl)) ?_
  refine seq_ ?_
  refine seq_ ?_
  refine reg_ ?_
  refine st (mv_ rfl trivial ?_)
  refine st (c_ (cp_ ⟨trivial, trivial, trivial⟩ rfl trivial) ?_)
  refine oe_ ?_
  refine wk_ ⟨[(0, .lst 4 (a0.map eDIssued)), (1, .int .i64 (IntKind.i64.wrap (a1 - (a0.length : Int)))), (11, .bool (decide ((IntKind.i64.wrap (a1 - (a0.length : Int))) < 0)))], [], []⟩ (fgk (by kernel_rfl)) ?_
  refine ite_ (cb := (decide ((IntKind.i64.wrap (a1 - (a0.length : Int))) < 0))) rfl (fun c1 => ?_) (fun c1 => ?_)
  · replace h0 := ip c1 h0
    refine seq_ ?_
    refine reg_ ?_
    refine st (mvc_ trivial ?_)
    refine oe_ ?_
    refine wk_ ⟨[(4, .int .i64 (-1))], [], []⟩ (fgk (by kernel_rfl)) ?_
    obtain rfl := Option.some.inj h0
    exact rt_ (ret_ rfl rfl rfl rfl rfl trivial)
  · replace h0 := inb c1 h0
    refine sk_ ?_
    refine wk_ ⟨[(0, .lst 4 (a0.map eDIssued)), (1, .int .i64 (IntKind.i64.wrap (a1 - (a0.length : Int))))], [], []⟩ (fgk (by kernel_rfl)) ?_
    refine seq_ ?_
    refine seq_ ?_
    refine reg_ ?_
    refine st (mvc_ trivial ?_)
    refine oe_ ?_
    refine wk_ ⟨[(0, .lst 4 (a0.map eDIssued)), (1, .int .i64 (IntKind.i64.wrap (a1 - (a0.length : Int)))), (5, .int .i64 0)], [], []⟩ (fgk (by kernel_rfl)) ?_
    refine block_ ?_
    obtain ⟨r25, e26, h0⟩ := bnd h0
    refine loop_ (R := (fun S => ∃ p18 : Int, .inl p18 = r25 ∧ S = ⟨[(1, .int .i64 p18)], [], []⟩)) (g277_l0 a0) (fun s S => match s with | (p8, p9) => S = ⟨[(0, .lst 4 (a0.map eDIssued)), (1, .int .i64 p8), (5, .int .i64 p9)], [], []⟩) e26 ⟨[(0, .lst 4 (a0.map eDIssued)), (1, .int .i64 (IntKind.i64.wrap (a1 - (a0.length : Int)))), (5, .int .i64 0)], [], []⟩ (fgk (by kernel_rfl)) rfl 0 (fun _ => rfl) ?_ ?_
    · rintro S _ hfg ⟨p18, rfl, rfl⟩
      refine wk_ ⟨[(1, .int .i64 p18)], [], []⟩ (fglk hfg (by kernel_rfl)) ?_
      refine seq_ ?_
      refine reg_ ?_
      refine st (mv_ rfl trivial ?_)
      refine st (mv_ rfl trivial ?_)
      refine oe_ ?_
      refine wk_ ⟨[(4, .int .i64 p18)], [], []⟩ (fgk (by kernel_rfl)) ?_
      obtain rfl := Option.some.inj h0
      exact rt_ (ret_ rfl rfl rfl rfl rfl trivial)
    · rintro ⟨p8, p9⟩ o1 _ K1 rfl h1 hx1 hK1 hE1 hR1
      refine seq_ ?_
      refine seq_ ?_
      refine reg_ ?_
      refine st (mv_ rfl trivial ?_)
      refine st (mv_ rfl trivial ?_)
      refine st (c_ (clenL (e := eDIssued) (l0 := a0) rfl rfl trivial) ?_)
      refine st (c_ (cp_ ⟨trivial, trivial, trivial⟩ rfl trivial) ?_)
      refine oe_ ?_
      refine wk_ ⟨[(0, .lst 4 (a0.map eDIssued)), (1, .int .i64 p8), (5, .int .i64 p9), (15, .bool (decide (p9 < (a0.length : Int))))], [], []⟩ (fgk (by kernel_rfl)) ?_
      refine ite_ (cb := (decide (p9 < (a0.length : Int)))) rfl (fun c19 => ?_) (fun c19 => ?_)
      · replace h1 := ip c19 h1
        refine sk_ ?_
        refine wk_ ⟨[(0, .lst 4 (a0.map eDIssued)), (1, .int .i64 p8), (5, .int .i64 p9)], [], []⟩ (fgk (by kernel_rfl)) ?_
        refine seq_ ?_
        refine block_ ?_
        refine seq_ ?_
        refine reg_ ?_
        refine st (mv_ rfl trivial ?_)
        refine st (mv_ rfl trivial ?_)
        obtain ⟨y20, e21, h1⟩ := bnd h1
        refine st (c_ (cidxL (e := eDIssued) (y := y20) rfl rfl trivial rfl rfl trivial e21) ?_)
        refine st (c_ (v := .agg [.int .i64 y20.serial, .int .i64 y20.to_, .str y20.subject, .bool y20.revoked]) (cp_ ⟨trivial, trivial⟩ rfl (Nat.le_of_ble_eq_true rfl)) ?_)
        refine st (mv_ rfl trivial ?_)
        obtain ⟨r22, e23, h1⟩ := bnd h1
        refine st (call0_ (r := .int .i64 r22) false (H334 y20 p8 r22 e23) ⟨trivial, trivial, trivial⟩ rfl rfl (fun _ => rfl) ?_)
        refine st (mv_ rfl trivial ?_)
        refine oe_ ?_
        refine wk_ ⟨[(0, .lst 4 (a0.map eDIssued)), (1, .int .i64 r22), (5, .int .i64 p9)], [], []⟩ (fgk (by kernel_rfl)) ?_
        refine seq_ ?_
        refine reg_ ?_
        refine st (mv_ rfl trivial ?_)
        refine st (c_ (cp_ ⟨trivial, trivial, trivial⟩ rfl trivial) ?_)
        refine oe_ ?_
        refine wk_ ⟨[(0, .lst 4 (a0.map eDIssued)), (1, .int .i64 r22), (5, .int .i64 p9), (25, .bool (decide (r22 < 0)))], [], []⟩ (fgk (by kernel_rfl)) ?_
        refine ite_ (cb := (decide (r22 < 0))) rfl (fun c24 => ?_) (fun c24 => ?_)
        · replace h1 := ip c24 h1
          refine seq_ ?_
          refine reg_ ?_
          refine st (mvc_ trivial ?_)
          refine oe_ ?_
          refine wk_ ⟨[(4, .int .i64 (-1))], [], []⟩ (fgk (by kernel_rfl)) ?_
          obtain rfl := Option.some.inj h1
          obtain rfl := hx1 _ rfl
          obtain rfl := Option.some.inj h0
          exact rt_ (hR1 _ (ret_ rfl rfl rfl rfl rfl trivial))
        · replace h1 := inb c24 h1
          refine sk_ ?_
          refine bn_ ?_
          refine wk_ ⟨[(0, .lst 4 (a0.map eDIssued)), (1, .int .i64 r22), (5, .int .i64 p9)], [], []⟩ (fgk (by kernel_rfl)) ?_
          refine reg_ ?_
          refine st (mv_ rfl trivial ?_)
          refine st (c_ (cp_ ⟨trivial, trivial, trivial⟩ rfl trivial) ?_)
          refine st (mv_ rfl trivial ?_)
          refine oe_ ?_
          obtain rfl := Option.some.inj h1
          exact hK1 _ rfl _ ⟨[(0, .lst 4 (a0.map eDIssued)), (1, .int .i64 r22), (5, .int .i64 (IntKind.i64.wrap (p9 + 1)))], [], []⟩ (fgk (by kernel_rfl)) rfl
      · replace h1 := inb c19 h1
        obtain rfl := Option.some.inj h1
        obtain rfl := hx1 _ rfl
        refine exQ rfl ?_
        exact hE1 _ ⟨[(1, .int .i64 p8)], [], []⟩ (fgk (by kernel_rfl)) ⟨_, rfl, rfl⟩

/- loop.example/g00149/laws.szAuthority -/
def c223_r0 : List Ins := [⟨some 2, .box (.t 0), none⟩,
 ⟨some 4, .p (.mv (.c (.int .i64 0))), none⟩]
def c223_r1 : List Ins := [⟨some 5, .p (.mv (.t 1)), none⟩,
 ⟨some 6, .p (.fieldA (.t 2) 0), none⟩,
 ⟨some 7, .p (.load (.t 6) 1 false), none⟩,
 ⟨some 8, .p (.lenS (.t 7)), none⟩,
 ⟨some 9, .p (.bin .sub (.t 5) (.t 8)), none⟩,
 ⟨some 1, .p (.mv (.t 9)), none⟩]
def c223_r2 : List Ins := [⟨some 10, .p (.mv (.t 1)), none⟩,
 ⟨some 11, .p (.bin .lss (.t 10) (.c (.int .i64 0))), none⟩]
def c223_r3 : List Ins := [⟨some 4, .p (.mv (.c (.int .i64 (-1)))), none⟩]
def c223_r4 : List Ins := [⟨some 12, .p (.fieldA (.t 2) 1), none⟩,
 ⟨some 13, .p (.load (.t 12) 1 false), none⟩,
 ⟨some 14, .p (.mv (.t 1)), none⟩,
 ⟨some 15, .call 276 [(.t 13), (.t 14)], none⟩,
 ⟨some 1, .p (.mv (.t 15)), none⟩]
def c223_r5 : List Ins := [⟨some 16, .p (.mv (.t 1)), none⟩,
 ⟨some 17, .p (.bin .lss (.t 16) (.c (.int .i64 0))), none⟩]
def c223_r6 : List Ins := [⟨some 4, .p (.mv (.c (.int .i64 (-1)))), none⟩]
def c223_r7 : List Ins := [⟨some 18, .p (.mv (.t 1)), none⟩,
 ⟨some 19, .p (.fieldA (.t 2) 4), none⟩,
 ⟨some 20, .p (.load (.t 19) 1 false), none⟩,
 ⟨some 21, .p (.lenS (.t 20)), none⟩,
 ⟨some 22, .p (.bin .sub (.t 18) (.t 21)), none⟩,
 ⟨some 1, .p (.mv (.t 22)), none⟩]
def c223_r8 : List Ins := [⟨some 23, .p (.mv (.t 1)), none⟩,
 ⟨some 24, .p (.bin .lss (.t 23) (.c (.int .i64 0))), none⟩]
def c223_r9 : List Ins := [⟨some 4, .p (.mv (.c (.int .i64 (-1)))), none⟩]
def c223_r10 : List Ins := [⟨some 25, .p (.fieldA (.t 2) 6), none⟩,
 ⟨some 26, .p (.load (.t 25) 1 false), none⟩,
 ⟨some 27, .p (.mv (.t 1)), none⟩,
 ⟨some 28, .call 277 [(.t 26), (.t 27)], none⟩,
 ⟨some 1, .p (.mv (.t 28)), none⟩]
def c223_r11 : List Ins := [⟨some 29, .p (.mv (.t 1)), none⟩,
 ⟨some 30, .p (.bin .lss (.t 29) (.c (.int .i64 0))), none⟩]
def c223_r12 : List Ins := [⟨some 4, .p (.mv (.c (.int .i64 (-1)))), none⟩]
def c223_r13 : List Ins := [⟨some 31, .p (.mv (.t 1)), none⟩,
 ⟨some 4, .p (.mv (.t 31)), none⟩]
def c223 : XFn := { np := 2, nt := 32, res := [.t 4], body := (.seq (.reg c223_r0) (.seq (.reg c223_r1) (.seq (.seq (.reg c223_r2) (.ite (.t 11) (.seq (.reg c223_r3) .ret) .skip)) (.seq (.reg c223_r4) (.seq (.seq (.reg c223_r5) (.ite (.t 17) (.seq (.reg c223_r6) .ret) .skip)) (.seq (.reg c223_r7) (.seq (.seq (.reg c223_r8) (.ite (.t 24) (.seq (.reg c223_r9) .ret) .skip)) (.seq (.reg c223_r10) (.seq (.seq (.reg c223_r11) (.ite (.t 30) (.seq (.reg c223_r12) .ret) .skip)) (.seq (.reg c223_r13) .ret)))))))))) }
def K223 (C : CRel) : Prop := ∀ (a0 : DAuthority) (a1 : Int) (r : Int), g223 a0 a1 = some r → C 223 ⟨[.agg [.str a0.name_, .lst 1 (a0.seed.map eU8), .int .i64 a0.serial, .int .i64 a0.number, .str a0.suffix, .int .i64 a0.most, .lst 4 (a0.list_.map eDIssued)], .int .i64 a1], []⟩ ⟨.int .i64 r, [], []⟩
theorem F223 {C : CRel} (H276 : K276 C) (H277 : K277 C) (a0 : DAuthority) (a1 : Int) (r : Int) (h0 : g223 a0 a1 = some r) : FnOK C c223 ⟨[.agg [.str a0.name_, .lst 1 (a0.seed.map eU8), .int .i64 a0.serial, .int .i64 a0.number, .str a0.suffix, .int .i64 a0.most, .lst 4 (a0.list_.map eDIssued)], .int .i64 a1], []⟩ ⟨.int .i64 r, [], []⟩ := by
  refine fn_ (Nat.le_of_ble_eq_true rfl) ?_
  refine seq_ ?_
  refine reg_ ?_
  refine st (box_ rfl trivial rfl ?_)
  refine st (mvc_ trivial ?_)
  refine oe_ ?_
  refine wk_ ⟨[(1, .int .i64 a1), (2, .ptr 128 0)], [(128, [.str a0.name_, .lst 1 (a0.seed.map eU8), .int .i64 a0.serial, .int .i64 a0.number, .str a0.suffix, .int .i64 a0.most, .lst 4 (a0.list_.map eDIssued)])], []⟩ (fgk (by kernel_rfl)) ?_
  refine seq_ ?_
  refine reg_ ?_
  refine st (mv_ rfl trivial ?_)
  refine st (c_ (cp_ ⟨trivial, trivial⟩ rfl trivial) ?_)
  refine st (c_ (cp_ ⟨trivial, trivial⟩ rfl (Nat.le_of_ble_eq_true rfl)) ?_)
  refine st (c_ (cp_ ⟨trivial, trivial⟩ rfl trivial) ?_)
  refine st (c_ (cp_ ⟨trivial, trivial, trivial⟩ rfl trivial) ?_)
  refine st (mv_ rfl trivial ?_)
  refine oe_ ?_
  refine wk_ ⟨[(1, .int .i64 (IntKind.i64.wrap (a1 - (a0.name_.length : Int)))), (2, .ptr 128 0)], [(128, [.str a0.name_, .lst 1 (a0.seed.map eU8), .int .i64 a0.serial, .int .i64 a0.number, .str a0.suffix, .int .i64 a0.most, .lst 4 (a0.list_.map eDIssued)])], []⟩ (fgk (by kernel_rfl)) ?_
  refine seq_ ?_
  refine seq_ ?_
  refine reg_ ?_
  refine st (mv_ rfl trivial ?_)
  refine st (c_ (cp_ ⟨trivial, trivial, trivial⟩ rfl trivial) ?_)
  refine oe_ ?_
  refine wk_ ⟨[(1, .int .i64 (IntKind.i64.wrap (a1 - (a0.name_.length : Int)))), (2, .ptr 128 0), (11, .bool (decide ((IntKind.i64.wrap (a1 - (a0.name_.length : Int))) < 0)))], [(128, [.str a0.name_, .lst 1 (a0.seed.map eU8), .int .i64 a0.serial, .int .i64 a0.number, .str a0.suffix, .int .i64 a0.most, .lst 4 (a0.list_.map eDIssued)])], []⟩ (fgk (by kernel_rfl)) ?_
  refine ite_ (cb := (decide ((IntKind.i64.wrap (a1 - (a0.name_.length : Int))) < 0))) rfl (fun c1 => ?_) (fun c1 => ?_)
  · replace h0 := ip c1 h0
    refine seq_ ?_
    refine reg_ ?_
    refine st (mvc_ trivial ?_)
    refine oe_ ?_
    refine wk_ ⟨[(4, .int .i64 (-1))], [], []⟩ (fgk (by kernel_rfl)) ?_
    obtain rfl := Option.some.inj h0
    exact rt_ (ret_ rfl rfl rfl rfl rfl trivial)
  · replace h0 := inb c1 h0
    refine sk_ ?_
    refine wk_ ⟨[(1, .int .i64 (IntKind.i64.wrap (a1 - (a0.name_.length : Int)))), (2, .ptr 128 0)], [(128, [.str a0.name_, .lst 1 (a0.seed.map eU8), .int .i64 a0.serial, .int .i64 a0.number, .str a0.suffix, .int .i64 a0.most, .lst 4 (a0.list_.map eDIssued)])], []⟩ (fgk (by kernel_rfl)) ?_
    refine seq_ ?_
    refine reg_ ?_
    refine st (c_ (cp_ ⟨trivial, trivial⟩ rfl trivial) ?_)
    refine st (c_ (cp_ ⟨trivial, trivial⟩ rfl (Nat.le_of_ble_eq_true rfl)) ?_)
    refine st (mv_ rfl trivial ?_)
    obtain ⟨r2, e3, h0⟩ := bnd h0
    refine st (call0_ (r := .int .i64 r2) false (H276 a0.seed (IntKind.i64.wrap (a1 - (a0.name_.length : Int))) r2 e3) ⟨trivial, trivial, trivial⟩ rfl rfl (fun _ => rfl) ?_)
    refine st (mv_ rfl trivial ?_)
    refine oe_ ?_
    refine wk_ ⟨[(1, .int .i64 r2), (2, .ptr 128 0)], [(128, [.str a0.name_, .lst 1 (a0.seed.map eU8), .int .i64 a0.serial, .int .i64 a0.number, .str a0.suffix, .int .i64 a0.most, .lst 4 (a0.list_.map eDIssued)])], []⟩ (fgk (by kernel_rfl)) ?_
    refine seq_ ?_
    refine seq_ ?_
    refine reg_ ?_
    refine st (mv_ rfl trivial ?_)
    refine st (c_ (cp_ ⟨trivial, trivial, trivial⟩ rfl trivial) ?_)
    refine oe_ ?_
    refine wk_ ⟨[(1, .int .i64 r2), (2, .ptr 128 0), (17, .bool (decide (r2 < 0)))], [(128, [.str a0.name_, .lst 1 (a0.seed.map eU8), .int .i64 a0.serial, .int .i64 a0.number, .str a0.suffix, .int .i64 a0.most, .lst 4 (a0.list_.map eDIssued)])], []⟩ (fgk (by kernel_rfl)) ?_
    refine ite_ (cb := (decide (r2 < 0))) rfl (fun c4 => ?_) (fun c4 => ?_)
    · replace h0 := ip c4 h0
      refine seq_ ?_
      refine reg_ ?_
      refine st (mvc_ trivial ?_)
      refine oe_ ?_
      refine wk_ ⟨[(4, .int .i64 (-1))], [], []⟩ (fgk (by kernel_rfl)) ?_
      obtain rfl := Option.some.inj h0
      exact rt_ (ret_ rfl rfl rfl rfl rfl trivial)
    · replace h0 := inb c4 h0
      refine sk_ ?_
      refine wk_ ⟨[(1, .int .i64 r2), (2, .ptr 128 0)], [(128, [.str a0.name_, .lst 1 (a0.seed.map eU8), .int .i64 a0.serial, .int .i64 a0.number, .str a0.suffix, .int .i64 a0.most, .lst 4 (a0.list_.map eDIssued)])], []⟩ (fgk (by kernel_rfl)) ?_
      refine seq_ ?_
      refine reg_ ?_
      refine st (mv_ rfl trivial ?_)
      refine st (c_ (cp_ ⟨trivial, trivial⟩ rfl trivial) ?_)
      refine st (c_ (cp_ ⟨trivial, trivial⟩ rfl (Nat.le_of_ble_eq_true rfl)) ?_)
      refine st (c_ (cp_ ⟨trivial, trivial⟩ rfl trivial) ?_)
      refine st (c_ (cp_ ⟨trivial, trivial, trivial⟩ rfl trivial) ?_)
      refine st (mv_ rfl trivial ?_)
      refine oe_ ?_
      refine wk_ ⟨[(1, .int .i64 (IntKind.i64.wrap (r2 - (a0.suffix.length : Int)))), (2, .ptr 128 0)], [(128, [.str a0.name_, .lst 1 (a0.seed.map eU8), .int .i64 a0.serial, .int .i64 a0.number, .str a0.suffix, .int .i64 a0.most, .lst 4 (a0.list_.map eDIssued)])], []⟩ (fgk (by kernel_rfl)) ?_
      refine seq_ ?_
      refine seq_ ?_
      refine reg_ ?_
      refine st (mv_ rfl trivial ?_)
      refine st (c_ (cp_ ⟨trivial, trivial, trivial⟩ rfl trivial) ?_)
      refine oe_ ?_
      refine wk_ ⟨[(1, .int .i64 (IntKind.i64.wrap (r2 - (a0.suffix.length : Int)))), (2, .ptr 128 0), (24, .bool (decide ((IntKind.i64.wrap (r2 - (a0.suffix.length : Int))) < 0)))], [(128, [.str a0.name_, .lst 1 (a0.seed.map eU8), .int .i64 a0.serial, .int .i64 a0.number, .str a0.suffix, .int .i64 a0.most, .lst 4 (a0.list_.map eDIssued)])], []⟩ (fgk (by kernel_rfl)) ?_
      refine ite_ (cb := (decide ((IntKind.i64.wrap (r2 - (a0.suffix.length : Int))) < 0))) rfl (fun c5 => ?_) (fun c5 => ?_)
      · replace h0 := ip c5 h0
        refine seq_ ?_
        refine reg_ ?_
        refine st (mvc_ trivial ?_)
        refine oe_ ?_
        refine wk_ ⟨[(4, .int .i64 (-1))], [], []⟩ (fgk (by kernel_rfl)) ?_
        obtain rfl := Option.some.inj h0
        exact rt_ (ret_ rfl rfl rfl rfl rfl trivial)
      · replace h0 := inb c5 h0
        refine sk_ ?_
        refine wk_ ⟨[(1, .int .i64 (IntKind.i64.wrap (r2 - (a0.suffix.length : Int)))), (2, .ptr 128 0)], [(128, [.str a0.name_, .lst 1 (a0.seed.map eU8), .int .i64 a0.serial, .int .i64 a0.number, .str a0.suffix, .int .i64 a0.most, .lst 4 (a0.list_.map eDIssued)])], []⟩ (fgk (by kernel_rfl)) ?_
        refine seq_ ?_
        refine reg_ ?_
        refine st (c_ (cp_ ⟨trivial, trivial⟩ rfl trivial) ?_)
        refine st (c_ (cp_ ⟨trivial, trivial⟩ rfl (Nat.le_of_ble_eq_true rfl)) ?_)
        refine st (mv_ rfl trivial ?_)
        obtain ⟨r6, e7, h0⟩ := bnd h0
        refine st (call0_ (r := .int .i64 r6) false (H277 a0.list_ (IntKind.i64.wrap (r2 - (a0.suffix.length : Int))) r6 e7) ⟨trivial, trivial, trivial⟩ rfl rfl (fun _ => rfl) ?_)
        refine st (mv_ rfl trivial ?_)
        refine oe_ ?_
        refine wk_ ⟨[(1, .int .i64 r6)], [], []⟩ (fgk (by kernel_rfl)) ?_
        refine seq_ ?_
        refine seq_ ?_
        refine reg_ ?_
        refine st (mv_ rfl trivial ?_)
        refine st (c_ (cp_ ⟨trivial, trivial, trivial⟩ rfl trivial) ?_)
        refine oe_ ?_
        refine wk_ ⟨[(1, .int .i64 r6), (30, .bool (decide (r6 < 0)))], [], []⟩ (fgk (by kernel_rfl)) ?_
        refine ite_ (cb := (decide (r6 < 0))) rfl (fun c8 => ?_) (fun c8 => ?_)
        · replace h0 := ip c8 h0
          refine seq_ ?_
          refine reg_ ?_
          refine st (mvc_ trivial ?_)
          refine oe_ ?_
          refine wk_ ⟨[(4, .int .i64 (-1))], [], []⟩ (fgk (by kernel_rfl)) ?_
          obtain rfl := Option.some.inj h0
          exact rt_ (ret_ rfl rfl rfl rfl rfl trivial)
        · replace h0 := inb c8 h0
          refine sk_ ?_
          refine wk_ ⟨[(1, .int .i64 r6)], [], []⟩ (fgk (by kernel_rfl)) ?_
          refine seq_ ?_
          refine reg_ ?_
          refine st (mv_ rfl trivial ?_)
          refine st (mv_ rfl trivial ?_)
          refine oe_ ?_
          refine wk_ ⟨[(4, .int .i64 r6)], [], []⟩ (fgk (by kernel_rfl)) ?_
          obtain rfl := Option.some.inj h0
          exact rt_ (ret_ rfl rfl rfl rfl rfl trivial)

/- loop.example/g00149/laws.toByteS -/
def c231_r0 : List Ins := [⟨some 2, .nilS 1, none⟩]
def c231_r1 : List Ins := [⟨some 5, .p (.mv (.t 0)), none⟩,
 ⟨some 6, .p (.len (.t 5)), none⟩,
 ⟨some 7, .make 1 1 [(.int .u8 0)] (.t 6) (.t 6), none⟩,
 ⟨some 3, .p (.mv (.t 7)), none⟩]
def c231_r2 : List Ins := [⟨some 4, .p (.mv (.c (.int .i64 0))), none⟩]
def c231_r3 : List Ins := [⟨some 8, .p (.mv (.t 4)), none⟩,
 ⟨some 9, .p (.mv (.t 0)), none⟩,
 ⟨some 10, .p (.len (.t 9)), none⟩,
 ⟨some 11, .p (.bin .lss (.t 8) (.t 10)), none⟩]
def c231_r4 : List Ins := [⟨some 14, .p (.mv (.t 3)), none⟩,
 ⟨some 15, .p (.mv (.t 4)), none⟩,
 ⟨some 16, .p (.mv (.t 0)), none⟩,
 ⟨some 17, .p (.mv (.t 4)), none⟩,
 ⟨some 18, .p (.idxA (.t 16) (.t 17) 1), none⟩,
 ⟨some 19, .p (.load (.t 18) 1 false), none⟩,
 ⟨some 20, .p (.idxA (.t 14) (.t 15) 1), none⟩,
 ⟨none, .store (.t 20) (.t 19) 1, none⟩]
def c231_r5 : List Ins := [⟨some 12, .p (.mv (.t 4)), none⟩,
 ⟨some 13, .p (.bin .add (.t 12) (.c (.int .i64 1))), none⟩,
 ⟨some 4, .p (.mv (.t 13)), none⟩]
def c231_l0 : IR := (.seq (.seq (.reg c231_r3) (.ite (.t 11) .skip (.exit 0))) (.seq (.block 1 (.reg c231_r4)) (.reg c231_r5)))
def c231_r6 : List Ins := [⟨some 21, .p (.mv (.t 3)), none⟩,
 ⟨some 2, .p (.mv (.t 21)), none⟩]
def c231 : XFn := { np := 1, nt := 22, res := [.t 2], body := (.seq (.reg c231_r0) (.seq (.reg c231_r1) (.seq (.seq (.reg c231_r2) (.block 0 (.loop c231_l0))) (.seq (.reg c231_r6) .ret)))) }
def K231 (C : CRel) : Prop := ∀ (a0 : List UInt8) (r : (List UInt8)), g231 a0 = some r → C 231 ⟨[.lst 1 (a0.map eU8)], []⟩ ⟨.own 0 0 1 (r.map eU8), [], []⟩
theorem F231 {C : CRel}  (a0 : List UInt8) (r : (List UInt8)) (h0 : g231 a0 = some r) : FnOK C c231 ⟨[.lst 1 (a0.map eU8)], []⟩ ⟨.own 0 0 1 (r.map eU8), [], []⟩ := by
  refine fn_ (Nat.le_of_ble_eq_true rfl) ?_
  refine seq_ ?_
  refine reg_ ?_
  refine st (nilS_ ?_)
  refine oe_ ?_
  refine wk_ ⟨[(0, .lst 1 (a0.map eU8))], [], []⟩ (fgk (by kernel_rfl)) ?_
  refine seq_ ?_
  refine reg_ ?_
  refine st (mv_ rfl trivial ?_)
  refine st (c_ (clenL (e := eU8) (l0 := a0) rfl rfl trivial) ?_)
  obtain ⟨c1, h0⟩ := grd h0
  obtain ⟨c2, h0⟩ := grd h0
  refine st (make_ (e := eU8) (0 : UInt8) rfl rfl c1 rfl c2 rfl ?_)
  refine st (mv_ rfl trivial ?_)
  refine oe_ ?_
  refine wk_ ⟨[(0, .lst 1 (a0.map eU8)), (3, .own 448 0 1 ((List.replicate (a0.length : Int).toNat (0 : UInt8)).map eU8))], [], []⟩ (fgk (by kernel_rfl)) ?_
  refine seq_ ?_
  refine seq_ ?_
  refine reg_ ?_
  refine st (mvc_ trivial ?_)
  refine oe_ ?_
  refine wk_ ⟨[(0, .lst 1 (a0.map eU8)), (3, .own 448 0 1 ((List.replicate (a0.length : Int).toNat (0 : UInt8)).map eU8)), (4, .int .i64 0)], [], []⟩ (fgk (by kernel_rfl)) ?_
  refine block_ ?_
  obtain ⟨r29, e30, h0⟩ := bnd h0
  refine loop_ (R := (fun S => ∃ p21 : List UInt8, p21 = r29 ∧ S = ⟨[(3, .own 448 0 1 (p21.map eU8))], [], []⟩)) (g231_l0 a0) (fun s S => match s with | (p10, p11) => S = ⟨[(0, .lst 1 (a0.map eU8)), (3, .own 448 0 1 (p10.map eU8)), (4, .int .i64 p11)], [], []⟩) e30 ⟨[(0, .lst 1 (a0.map eU8)), (3, .own 448 0 1 ((List.replicate (a0.length : Int).toNat (0 : UInt8)).map eU8)), (4, .int .i64 0)], [], []⟩ (fgk (by kernel_rfl)) rfl 0 (fun _ => rfl) ?_ ?_
  · rintro S _ hfg ⟨p21, rfl, rfl⟩
    refine wk_ ⟨[(3, .own 448 0 1 (p21.map eU8))], [], []⟩ (fglk hfg (by kernel_rfl)) ?_
    refine seq_ ?_
    refine reg_ ?_
    refine st (mv_ rfl trivial ?_)
    refine st (mv_ rfl trivial ?_)
    refine oe_ ?_
    refine wk_ ⟨[(2, .own 448 0 1 (p21.map eU8))], [], []⟩ (fgk (by kernel_rfl)) ?_
    obtain rfl := Option.some.inj h0
    exact rt_ (ret_ rfl rfl rfl rfl rfl trivial)
  · rintro ⟨p10, p11⟩ o1 _ K1 rfl h1 hx1 hK1 hE1 hR1
    refine seq_ ?_
    refine seq_ ?_
    refine reg_ ?_
    refine st (mv_ rfl trivial ?_)
    refine st (mv_ rfl trivial ?_)
    refine st (c_ (clenL (e := eU8) (l0 := a0) rfl rfl trivial) ?_)
    refine st (c_ (cp_ ⟨trivial, trivial, trivial⟩ rfl trivial) ?_)
    refine oe_ ?_
    refine wk_ ⟨[(0, .lst 1 (a0.map eU8)), (3, .own 448 0 1 (p10.map eU8)), (4, .int .i64 p11), (11, .bool (decide (p11 < (a0.length : Int))))], [], []⟩ (fgk (by kernel_rfl)) ?_
    refine ite_ (cb := (decide (p11 < (a0.length : Int)))) rfl (fun c22 => ?_) (fun c22 => ?_)
    · replace h1 := ip c22 h1
      refine sk_ ?_
      refine wk_ ⟨[(0, .lst 1 (a0.map eU8)), (3, .own 448 0 1 (p10.map eU8)), (4, .int .i64 p11)], [], []⟩ (fgk (by kernel_rfl)) ?_
      refine seq_ ?_
      refine block_ ?_
      refine reg_ ?_
      refine st (mv_ rfl trivial ?_)
      refine st (mv_ rfl trivial ?_)
      refine st (mv_ rfl trivial ?_)
      refine st (mv_ rfl trivial ?_)
      obtain ⟨y23, e24, h1⟩ := bnd h1
      refine st (c_ (cidxL (e := eU8) (y := y23) rfl rfl trivial rfl rfl trivial e24) ?_)
      refine st (c_ (cp_ ⟨trivial, trivial⟩ rfl (Nat.le_of_ble_eq_true rfl)) ?_)
      obtain ⟨y25, e26, h1⟩ := bnd h1
      refine st (c_ (cidxO (e := eU8) (y := y25) rfl rfl trivial rfl rfl trivial e26) ?_)
      obtain ⟨y27, e28, h1⟩ := bnd h1
      refine st (sto_ (y' := y23) rfl rfl trivial rfl rfl rfl rfl e28 (Nat.le_of_ble_eq_true rfl) rfl rfl rfl rfl ?_)
      refine oe_ ?_
      refine bn_ ?_
      refine wk_ ⟨[(0, .lst 1 (a0.map eU8)), (3, .own 448 0 1 ((p10.set p11.toNat y23).map eU8)), (4, .int .i64 p11)], [], []⟩ (fg ⟨rfl, (congrArg (fun z => some ((.own 448 0 1 z : V))) overlay_map), rfl, trivial⟩ trivial) ?_
      refine reg_ ?_
      refine st (mv_ rfl trivial ?_)
      refine st (c_ (cp_ ⟨trivial, trivial, trivial⟩ rfl trivial) ?_)
      refine st (mv_ rfl trivial ?_)
      refine oe_ ?_
      obtain rfl := Option.some.inj h1
      exact hK1 _ rfl _ ⟨[(0, .lst 1 (a0.map eU8)), (3, .own 448 0 1 ((p10.set p11.toNat y23).map eU8)), (4, .int .i64 (IntKind.i64.wrap (p11 + 1)))], [], []⟩ (fgk (by kernel_rfl)) rfl
    · replace h1 := inb c22 h1
      obtain rfl := Option.some.inj h1
      obtain rfl := hx1 _ rfl
      refine exQ rfl ?_
      exact hE1 _ ⟨[(3, .own 448 0 1 (p10.map eU8))], [], []⟩ (fgk (by kernel_rfl)) ⟨_, rfl, rfl⟩

/- loop.example/g00149/laws.toIssued -/
def c336_r0 : List Ins := [⟨some 1, .box (.t 0), none⟩,
 ⟨some 2, .alloc [(.int .i64 0), (.int .i64 0), (.str []), (.bool false)], none⟩]
def c336_r1 : List Ins := [⟨some 3, .alloc [(.int .i64 0), (.int .i64 0), (.str []), (.bool false)], none⟩]
def c336_r2 : List Ins := [⟨some 4, .p (.fieldA (.t 1) 0), none⟩,
 ⟨some 5, .p (.load (.t 4) 1 false), none⟩,
 ⟨some 6, .p (.fieldA (.t 3) 0), none⟩,
 ⟨none, .store (.t 6) (.t 5) 1, none⟩]
def c336_r3 : List Ins := [⟨some 7, .p (.fieldA (.t 1) 1), none⟩,
 ⟨some 8, .p (.load (.t 7) 1 false), none⟩,
 ⟨some 9, .p (.fieldA (.t 3) 1), none⟩,
 ⟨none, .store (.t 9) (.t 8) 1, none⟩]
def c336_r4 : List Ins := [⟨some 10, .p (.fieldA (.t 1) 2), none⟩,
 ⟨some 11, .p (.load (.t 10) 1 false), none⟩,
 ⟨some 12, .p (.fieldA (.t 3) 2), none⟩,
 ⟨none, .store (.t 12) (.t 11) 1, none⟩]
def c336_r5 : List Ins := [⟨some 13, .p (.fieldA (.t 1) 3), none⟩,
 ⟨some 14, .p (.load (.t 13) 1 false), none⟩,
 ⟨some 15, .p (.fieldA (.t 3) 3), none⟩,
 ⟨none, .store (.t 15) (.t 14) 1, none⟩]
def c336_r6 : List Ins := [⟨some 16, .p (.load (.t 3) 4 true), none⟩,
 ⟨none, .store (.t 2) (.t 16) 4, none⟩]
def c336 : XFn := { np := 1, nt := 17, res := [.cell 2 4 true], body := (.seq (.reg c336_r0) (.seq (.reg c336_r1) (.seq (.reg c336_r2) (.seq (.reg c336_r3) (.seq (.reg c336_r4) (.seq (.reg c336_r5) (.seq (.reg c336_r6) .ret))))))) }
def K336 (C : CRel) : Prop := ∀ (a0 : DIssued) (r : DIssued), g336 a0 = some r → C 336 ⟨[.agg [.int .i64 a0.serial, .int .i64 a0.to_, .str a0.subject, .bool a0.revoked]], []⟩ ⟨.agg [.int .i64 r.serial, .int .i64 r.to_, .str r.subject, .bool r.revoked], [], []⟩
theorem F336 {C : CRel}  (a0 : DIssued) (r : DIssued) (h0 : g336 a0 = some r) : FnOK C c336 ⟨[.agg [.int .i64 a0.serial, .int .i64 a0.to_, .str a0.subject, .bool a0.revoked]], []⟩ ⟨.agg [.int .i64 r.serial, .int .i64 r.to_, .str r.subject, .bool r.revoked], [], []⟩ := by
  refine fn_ (Nat.le_of_ble_eq_true rfl) ?_
  refine seq_ ?_
  refine reg_ ?_
  refine st (box_ rfl trivial rfl ?_)
  refine st (alloc_ ?_)
  refine oe_ ?_
  refine wk_ ⟨[(1, .ptr 64 0), (2, .ptr 128 0)], [(64, [.int .i64 a0.serial, .int .i64 a0.to_, .str a0.subject, .bool a0.revoked]), (128, [.int .i64 0, .int .i64 0, .str ([] : List UInt8), .bool false])], []⟩ (fgk (by kernel_rfl)) ?_
  refine seq_ ?_
  refine reg_ ?_
  refine st (alloc_ ?_)
  refine oe_ ?_
  refine wk_ ⟨[(1, .ptr 64 0), (2, .ptr 128 0), (3, .ptr 192 0)], [(64, [.int .i64 a0.serial, .int .i64 a0.to_, .str a0.subject, .bool a0.revoked]), (128, [.int .i64 0, .int .i64 0, .str ([] : List UInt8), .bool false]), (192, [.int .i64 0, .int .i64 0, .str ([] : List UInt8), .bool false])], []⟩ (fgk (by kernel_rfl)) ?_
  refine seq_ ?_
  refine reg_ ?_
  refine st (c_ (cp_ ⟨trivial, trivial⟩ rfl trivial) ?_)
  refine st (c_ (cp_ ⟨trivial, trivial⟩ rfl (Nat.le_of_ble_eq_true rfl)) ?_)
  refine st (c_ (cp_ ⟨trivial, trivial⟩ rfl trivial) ?_)
  refine st (stp_ rfl rfl trivial rfl rfl rfl (Nat.le_of_ble_eq_true rfl) ?_)
  refine oe_ ?_
  refine wk_ ⟨[(1, .ptr 64 0), (2, .ptr 128 0), (3, .ptr 192 0)], [(64, [.int .i64 a0.serial, .int .i64 a0.to_, .str a0.subject, .bool a0.revoked]), (128, [.int .i64 0, .int .i64 0, .str ([] : List UInt8), .bool false]), (192, [.int .i64 a0.serial, .int .i64 0, .str ([] : List UInt8), .bool false])], []⟩ (fgk (by kernel_rfl)) ?_
  refine seq_ ?_
  refine reg_ ?_
  refine st (c_ (cp_ ⟨trivial, trivial⟩ rfl trivial) ?_)
  refine st (c_ (cp_ ⟨trivial, trivial⟩ rfl (Nat.le_of_ble_eq_true rfl)) ?_)
  refine st (c_ (cp_ ⟨trivial, trivial⟩ rfl trivial) ?_)
  refine st (stp_ rfl rfl trivial rfl rfl rfl (Nat.le_of_ble_eq_true rfl) ?_)
  refine oe_ ?_
  refine wk_ ⟨[(1, .ptr 64 0), (2, .ptr 128 0), (3, .ptr 192 0)], [(64, [.int .i64 a0.serial, .int .i64 a0.to_, .str a0.subject, .bool a0.revoked]), (128, [.int .i64 0, .int .i64 0, .str ([] : List UInt8), .bool false]), (192, [.int .i64 a0.serial, .int .i64 a0.to_, .str ([] : List UInt8), .bool false])], []⟩ (fgk (by kernel_rfl)) ?_
  refine seq_ ?_
  refine reg_ ?_
  refine st (c_ (cp_ ⟨trivial, trivial⟩ rfl trivial) ?_)
  refine st (c_ (cp_ ⟨trivial, trivial⟩ rfl (Nat.le_of_ble_eq_true rfl)) ?_)
  refine st (c_ (cp_ ⟨trivial, trivial⟩ rfl trivial) ?_)
  refine st (stp_ rfl rfl trivial rfl rfl rfl (Nat.le_of_ble_eq_true rfl) ?_)
  refine oe_ ?_
  refine wk_ ⟨[(1, .ptr 64 0), (2, .ptr 128 0), (3, .ptr 192 0)], [(64, [.int .i64 a0.serial, .int .i64 a0.to_, .str a0.subject, .bool a0.revoked]), (128, [.int .i64 0, .int .i64 0, .str ([] : List UInt8), .bool false]), (192, [.int .i64 a0.serial, .int .i64 a0.to_, .str a0.subject, .bool false])], []⟩ (fgk (by kernel_rfl)) ?_
  refine seq_ ?_
  refine reg_ ?_
  refine st (c_ (cp_ ⟨trivial, trivial⟩ rfl trivial) ?_)
  refine st (c_ (cp_ ⟨trivial, trivial⟩ rfl (Nat.le_of_ble_eq_true rfl)) ?_)
  refine st (c_ (cp_ ⟨trivial, trivial⟩ rfl trivial) ?_)
  refine st (stp_ rfl rfl trivial rfl rfl rfl (Nat.le_of_ble_eq_true rfl) ?_)
  refine oe_ ?_
  refine wk_ ⟨[(2, .ptr 128 0), (3, .ptr 192 0)], [(128, [.int .i64 0, .int .i64 0, .str ([] : List UInt8), .bool false]), (192, [.int .i64 a0.serial, .int .i64 a0.to_, .str a0.subject, .bool a0.revoked])], []⟩ (fgk (by kernel_rfl)) ?_
  refine seq_ ?_
  refine reg_ ?_
  refine st (c_ (v := .agg [.int .i64 a0.serial, .int .i64 a0.to_, .str a0.subject, .bool a0.revoked]) (cp_ ⟨trivial, trivial⟩ rfl (Nat.le_of_ble_eq_true rfl)) ?_)
  refine st (stp_ rfl rfl trivial rfl rfl rfl (Nat.le_of_ble_eq_true rfl) ?_)
  refine oe_ ?_
  refine wk_ ⟨[(2, .ptr 128 0)], [(128, [.int .i64 a0.serial, .int .i64 a0.to_, .str a0.subject, .bool a0.revoked])], []⟩ (fgk (by kernel_rfl)) ?_
  obtain rfl := Option.some.inj h0
  exact rt_ (ret_ rfl rfl rfl rfl rfl trivial)

/- loop.example/g00149/laws.toIssuedS -/
def c280_r0 : List Ins := [⟨some 2, .nilS 4, none⟩]
def c280_r1 : List Ins := [⟨some 5, .p (.mv (.t 0)), none⟩,
 ⟨some 6, .p (.len (.t 5)), none⟩,
 ⟨some 7, .make 4 40 [(.int .i64 0), (.int .i64 0), (.str []), (.bool false)] (.t 6) (.t 6), none⟩,
 ⟨some 3, .p (.mv (.t 7)), none⟩]
def c280_r2 : List Ins := [⟨some 4, .p (.mv (.c (.int .i64 0))), none⟩]
def c280_r3 : List Ins := [⟨some 8, .p (.mv (.t 4)), none⟩,
 ⟨some 9, .p (.mv (.t 0)), none⟩,
 ⟨some 10, .p (.len (.t 9)), none⟩,
 ⟨some 11, .p (.bin .lss (.t 8) (.t 10)), none⟩]
def c280_r4 : List Ins := [⟨some 14, .p (.mv (.t 3)), none⟩,
 ⟨some 15, .p (.mv (.t 4)), none⟩,
 ⟨some 16, .p (.mv (.t 0)), none⟩,
 ⟨some 17, .p (.mv (.t 4)), none⟩,
 ⟨some 18, .p (.idxA (.t 16) (.t 17) 4), none⟩,
 ⟨some 19, .p (.load (.t 18) 4 true), none⟩,
 ⟨some 20, .call 336 [(.t 19)], none⟩,
 ⟨some 21, .p (.idxA (.t 14) (.t 15) 4), none⟩,
 ⟨none, .store (.t 21) (.t 20) 4, none⟩]
def c280_r5 : List Ins := [⟨some 12, .p (.mv (.t 4)), none⟩,
 ⟨some 13, .p (.bin .add (.t 12) (.c (.int .i64 1))), none⟩,
 ⟨some 4, .p (.mv (.t 13)), none⟩]
def c280_l0 : IR := (.seq (.seq (.reg c280_r3) (.ite (.t 11) .skip (.exit 0))) (.seq (.block 1 (.reg c280_r4)) (.reg c280_r5)))
def c280_r6 : List Ins := [⟨some 22, .p (.mv (.t 3)), none⟩,
 ⟨some 2, .p (.mv (.t 22)), none⟩]
def c280 : XFn := { np := 1, nt := 23, res := [.t 2], body := (.seq (.reg c280_r0) (.seq (.reg c280_r1) (.seq (.seq (.reg c280_r2) (.block 0 (.loop c280_l0))) (.seq (.reg c280_r6) .ret)))) }
def K280 (C : CRel) : Prop := ∀ (a0 : List DIssued) (r : (List DIssued)), g280 a0 = some r → C 280 ⟨[.lst 4 (a0.map eDIssued)], []⟩ ⟨.own 0 0 4 (r.map eDIssued), [], []⟩
theorem F280 {C : CRel} (H336 : K336 C) (a0 : List DIssued) (r : (List DIssued)) (h0 : g280 a0 = some r) : FnOK C c280 ⟨[.lst 4 (a0.map eDIssued)], []⟩ ⟨.own 0 0 4 (r.map eDIssued), [], []⟩ := by
  refine fn_ (Nat.le_of_ble_eq_true rfl) ?_
  refine seq_ ?_
  refine reg_ ?_
  refine st (nilS_ ?_)
  refine oe_ ?_
  refine wk_ ⟨[(0, .lst 4 (a0.map eDIssued))], [], []⟩ (fgk (by kernel_rfl)) ?_
  refine seq_ ?_
  refine reg_ ?_
  refine st (mv_ rfl trivial ?_)
  refine st (c_ (clenL (e := eDIssued) (l0 := a0) rfl rfl trivial) ?_)
  obtain ⟨c1, h0⟩ := grd h0
  obtain ⟨c2, h0⟩ := grd h0
  refine st (make_ (e := eDIssued) (DIssued.mk 0 0 ([] : List UInt8) false) rfl rfl c1 rfl c2 rfl ?_)
  refine st (mv_ rfl trivial ?_)
  refine oe_ ?_
  obtain ⟨v3, e4, h0⟩ := bl h0
  refine wk_ ⟨[(0, .lst 4 (a0.map eDIssued)), (3, .own 448 0 4 (v3.map eDIssued))], [], []⟩ (fgk (by subst e4; kernel_rfl)) ?_
  refine seq_ ?_
  refine seq_ ?_
  refine reg_ ?_
  refine st (mvc_ trivial ?_)
  refine oe_ ?_
  refine wk_ ⟨[(0, .lst 4 (a0.map eDIssued)), (3, .own 448 0 4 (v3.map eDIssued)), (4, .int .i64 0)], [], []⟩ (fgk (by kernel_rfl)) ?_
  refine block_ ?_
  obtain ⟨r37, e38, h0⟩ := bnd h0
  refine loop_ (R := (fun S => ∃ p27 : List DIssued, p27 = r37 ∧ S = ⟨[(3, .own 448 0 4 (p27.map eDIssued))], [], []⟩)) (g280_l0 a0) (fun s S => match s with | (p14, p15) => S = ⟨[(0, .lst 4 (a0.map eDIssued)), (3, .own 448 0 4 (p14.map eDIssued)), (4, .int .i64 p15)], [], []⟩) e38 ⟨[(0, .lst 4 (a0.map eDIssued)), (3, .own 448 0 4 (v3.map eDIssued)), (4, .int .i64 0)], [], []⟩ (fgk (by kernel_rfl)) rfl 0 (fun _ => rfl) ?_ ?_
  · rintro S _ hfg ⟨p27, rfl, rfl⟩
    refine wk_ ⟨[(3, .own 448 0 4 (p27.map eDIssued))], [], []⟩ (fglk hfg (by kernel_rfl)) ?_
    refine seq_ ?_
    refine reg_ ?_
    refine st (mv_ rfl trivial ?_)
    refine st (mv_ rfl trivial ?_)
    refine oe_ ?_
    refine wk_ ⟨[(2, .own 448 0 4 (p27.map eDIssued))], [], []⟩ (fgk (by kernel_rfl)) ?_
    obtain rfl := Option.some.inj h0
    exact rt_ (ret_ rfl rfl rfl rfl rfl trivial)
  · rintro ⟨p14, p15⟩ o1 _ K1 rfl h1 hx1 hK1 hE1 hR1
    refine seq_ ?_
    refine seq_ ?_
    refine reg_ ?_
    refine st (mv_ rfl trivial ?_)
    refine st (mv_ rfl trivial ?_)
    refine st (c_ (clenL (e := eDIssued) (l0 := a0) rfl rfl trivial) ?_)
    refine st (c_ (cp_ ⟨trivial, trivial, trivial⟩ rfl trivial) ?_)
    refine oe_ ?_
    refine wk_ ⟨[(0, .lst 4 (a0.map eDIssued)), (3, .own 448 0 4 (p14.map eDIssued)), (4, .int .i64 p15), (11, .bool (decide (p15 < (a0.length : Int))))], [], []⟩ (fgk (by kernel_rfl)) ?_
    refine ite_ (cb := (decide (p15 < (a0.length : Int)))) rfl (fun c28 => ?_) (fun c28 => ?_)
    · replace h1 := ip c28 h1
      refine sk_ ?_
      refine wk_ ⟨[(0, .lst 4 (a0.map eDIssued)), (3, .own 448 0 4 (p14.map eDIssued)), (4, .int .i64 p15)], [], []⟩ (fgk (by kernel_rfl)) ?_
      refine seq_ ?_
      refine block_ ?_
      refine reg_ ?_
      refine st (mv_ rfl trivial ?_)
      refine st (mv_ rfl trivial ?_)
      refine st (mv_ rfl trivial ?_)
      refine st (mv_ rfl trivial ?_)
      obtain ⟨y29, e30, h1⟩ := bnd h1
      refine st (c_ (cidxL (e := eDIssued) (y := y29) rfl rfl trivial rfl rfl trivial e30) ?_)
      refine st (c_ (v := .agg [.int .i64 y29.serial, .int .i64 y29.to_, .str y29.subject, .bool y29.revoked]) (cp_ ⟨trivial, trivial⟩ rfl (Nat.le_of_ble_eq_true rfl)) ?_)
      obtain ⟨r31, e32, h1⟩ := bnd h1
      refine st (call0_ (r := .agg [.int .i64 r31.serial, .int .i64 r31.to_, .str r31.subject, .bool r31.revoked]) false (H336 y29 r31 e32) ⟨trivial, trivial⟩ rfl rfl (fun _ => rfl) ?_)
      obtain ⟨y33, e34, h1⟩ := bnd h1
      refine st (c_ (cidxO (e := eDIssued) (y := y33) rfl rfl trivial rfl rfl trivial e34) ?_)
      obtain ⟨y35, e36, h1⟩ := bnd h1
      refine st (sto_ (y' := r31) rfl rfl trivial rfl rfl rfl rfl e36 (Nat.le_of_ble_eq_true rfl) rfl rfl rfl rfl ?_)
      refine oe_ ?_
      refine bn_ ?_
      refine wk_ ⟨[(0, .lst 4 (a0.map eDIssued)), (3, .own 448 0 4 ((p14.set p15.toNat r31).map eDIssued)), (4, .int .i64 p15)], [], []⟩ (fg ⟨rfl, (congrArg (fun z => some ((.own 448 0 4 z : V))) overlay_map), rfl, trivial⟩ trivial) ?_
      refine reg_ ?_
      refine st (mv_ rfl trivial ?_)
      refine st (c_ (cp_ ⟨trivial, trivial, trivial⟩ rfl trivial) ?_)
      refine st (mv_ rfl trivial ?_)
      refine oe_ ?_
      obtain rfl := Option.some.inj h1
      exact hK1 _ rfl _ ⟨[(0, .lst 4 (a0.map eDIssued)), (3, .own 448 0 4 ((p14.set p15.toNat r31).map eDIssued)), (4, .int .i64 (IntKind.i64.wrap (p15 + 1)))], [], []⟩ (fgk (by kernel_rfl)) rfl
    · replace h1 := inb c28 h1
      obtain rfl := Option.some.inj h1
      obtain rfl := hx1 _ rfl
      refine exQ rfl ?_
      exact hE1 _ ⟨[(3, .own 448 0 4 (p14.map eDIssued))], [], []⟩ (fgk (by kernel_rfl)) ⟨_, rfl, rfl⟩

/- loop.example/g00149/laws.toAuthority -/
def c225_r0 : List Ins := [⟨some 1, .box (.t 0), none⟩,
 ⟨some 2, .alloc [(.str []), (.own 130 0 1 []), (.int .i64 0), (.int .i64 0), (.str []), (.int .i64 0), (.own 135 0 4 [])], none⟩]
def c225_r1 : List Ins := [⟨some 3, .alloc [(.str []), (.own 194 0 1 []), (.int .i64 0), (.int .i64 0), (.str []), (.int .i64 0), (.own 199 0 4 [])], none⟩]
def c225_r2 : List Ins := [⟨some 4, .p (.fieldA (.t 1) 0), none⟩,
 ⟨some 5, .p (.load (.t 4) 1 false), none⟩,
 ⟨some 6, .p (.fieldA (.t 3) 0), none⟩,
 ⟨none, .store (.t 6) (.t 5) 1, none⟩]
def c225_r3 : List Ins := [⟨some 7, .p (.fieldA (.t 1) 1), none⟩,
 ⟨some 8, .p (.load (.t 7) 1 false), none⟩,
 ⟨some 9, .call 231 [(.t 8)], none⟩,
 ⟨some 10, .p (.fieldA (.t 3) 1), none⟩,
 ⟨none, .store (.t 10) (.t 9) 1, none⟩]
def c225_r4 : List Ins := [⟨some 11, .p (.fieldA (.t 1) 2), none⟩,
 ⟨some 12, .p (.load (.t 11) 1 false), none⟩,
 ⟨some 13, .p (.fieldA (.t 3) 2), none⟩,
 ⟨none, .store (.t 13) (.t 12) 1, none⟩]
def c225_r5 : List Ins := [⟨some 14, .p (.fieldA (.t 1) 3), none⟩,
 ⟨some 15, .p (.load (.t 14) 1 false), none⟩,
 ⟨some 16, .p (.fieldA (.t 3) 3), none⟩,
 ⟨none, .store (.t 16) (.t 15) 1, none⟩]
def c225_r6 : List Ins := [⟨some 17, .p (.fieldA (.t 1) 4), none⟩,
 ⟨some 18, .p (.load (.t 17) 1 false), none⟩,
 ⟨some 19, .p (.fieldA (.t 3) 4), none⟩,
 ⟨none, .store (.t 19) (.t 18) 1, none⟩]
def c225_r7 : List Ins := [⟨some 20, .p (.fieldA (.t 1) 5), none⟩,
 ⟨some 21, .p (.load (.t 20) 1 false), none⟩,
 ⟨some 22, .p (.fieldA (.t 3) 5), none⟩,
 ⟨none, .store (.t 22) (.t 21) 1, none⟩]
def c225_r8 : List Ins := [⟨some 23, .p (.fieldA (.t 1) 6), none⟩,
 ⟨some 24, .p (.load (.t 23) 1 false), none⟩,
 ⟨some 25, .call 280 [(.t 24)], none⟩,
 ⟨some 26, .p (.fieldA (.t 3) 6), none⟩,
 ⟨none, .store (.t 26) (.t 25) 1, none⟩]
def c225_r9 : List Ins := [⟨some 27, .p (.load (.t 3) 7 true), none⟩,
 ⟨none, .store (.t 2) (.t 27) 7, none⟩]
def c225 : XFn := { np := 1, nt := 28, res := [.cell 2 7 true], body := (.seq (.reg c225_r0) (.seq (.reg c225_r1) (.seq (.reg c225_r2) (.seq (.reg c225_r3) (.seq (.reg c225_r4) (.seq (.reg c225_r5) (.seq (.reg c225_r6) (.seq (.reg c225_r7) (.seq (.reg c225_r8) (.seq (.reg c225_r9) .ret)))))))))) }
def K225 (C : CRel) : Prop := ∀ (a0 : DAuthority) (r : DAuthority), g225 a0 = some r → C 225 ⟨[.agg [.str a0.name_, .lst 1 (a0.seed.map eU8), .int .i64 a0.serial, .int .i64 a0.number, .str a0.suffix, .int .i64 a0.most, .lst 4 (a0.list_.map eDIssued)]], []⟩ ⟨.agg [.str r.name_, .own 0 0 1 (r.seed.map eU8), .int .i64 r.serial, .int .i64 r.number, .str r.suffix, .int .i64 r.most, .own 1 0 4 (r.list_.map eDIssued)], [], []⟩
theorem F225 {C : CRel} (H231 : K231 C) (H280 : K280 C) (a0 : DAuthority) (r : DAuthority) (h0 : g225 a0 = some r) : FnOK C c225 ⟨[.agg [.str a0.name_, .lst 1 (a0.seed.map eU8), .int .i64 a0.serial, .int .i64 a0.number, .str a0.suffix, .int .i64 a0.most, .lst 4 (a0.list_.map eDIssued)]], []⟩ ⟨.agg [.str r.name_, .own 0 0 1 (r.seed.map eU8), .int .i64 r.serial, .int .i64 r.number, .str r.suffix, .int .i64 r.most, .own 1 0 4 (r.list_.map eDIssued)], [], []⟩ := by
  refine fn_ (Nat.le_of_ble_eq_true rfl) ?_
  refine seq_ ?_
  refine reg_ ?_
  refine st (box_ rfl trivial rfl ?_)
  refine st (alloc_ ?_)
  refine oe_ ?_
  refine wk_ ⟨[(1, .ptr 64 0), (2, .ptr 128 0)], [(64, [.str a0.name_, .lst 1 (a0.seed.map eU8), .int .i64 a0.serial, .int .i64 a0.number, .str a0.suffix, .int .i64 a0.most, .lst 4 (a0.list_.map eDIssued)]), (128, [.str ([] : List UInt8), .own 130 0 1 (([] : List UInt8).map eU8), .int .i64 0, .int .i64 0, .str ([] : List UInt8), .int .i64 0, .own 135 0 4 (([] : List DIssued).map eDIssued)])], []⟩ (fgk (by kernel_rfl)) ?_
  refine seq_ ?_
  refine reg_ ?_
  refine st (alloc_ ?_)
  refine oe_ ?_
  refine wk_ ⟨[(1, .ptr 64 0), (2, .ptr 128 0), (3, .ptr 192 0)], [(64, [.str a0.name_, .lst 1 (a0.seed.map eU8), .int .i64 a0.serial, .int .i64 a0.number, .str a0.suffix, .int .i64 a0.most, .lst 4 (a0.list_.map eDIssued)]), (128, [.str ([] : List UInt8), .own 130 0 1 (([] : List UInt8).map eU8), .int .i64 0, .int .i64 0, .str ([] : List UInt8), .int .i64 0, .own 135 0 4 (([] : List DIssued).map eDIssued)]), (192, [.str ([] : List UInt8), .own 194 0 1 (([] : List UInt8).map eU8), .int .i64 0, .int .i64 0, .str ([] : List UInt8), .int .i64 0, .own 199 0 4 (([] : List DIssued).map eDIssued)])], []⟩ (fgk (by kernel_rfl)) ?_
  refine seq_ ?_
  refine reg_ ?_
  refine st (c_ (cp_ ⟨trivial, trivial⟩ rfl trivial) ?_)
  refine st (c_ (cp_ ⟨trivial, trivial⟩ rfl (Nat.le_of_ble_eq_true rfl)) ?_)
  refine st (c_ (cp_ ⟨trivial, trivial⟩ rfl trivial) ?_)
  refine st (stp_ rfl rfl trivial rfl rfl rfl (Nat.le_of_ble_eq_true rfl) ?_)
  refine oe_ ?_
  refine wk_ ⟨[(1, .ptr 64 0), (2, .ptr 128 0), (3, .ptr 192 0)], [(64, [.str a0.name_, .lst 1 (a0.seed.map eU8), .int .i64 a0.serial, .int .i64 a0.number, .str a0.suffix, .int .i64 a0.most, .lst 4 (a0.list_.map eDIssued)]), (128, [.str ([] : List UInt8), .own 130 0 1 (([] : List UInt8).map eU8), .int .i64 0, .int .i64 0, .str ([] : List UInt8), .int .i64 0, .own 135 0 4 (([] : List DIssued).map eDIssued)]), (192, [.str a0.name_, .own 194 0 1 (([] : List UInt8).map eU8), .int .i64 0, .int .i64 0, .str ([] : List UInt8), .int .i64 0, .own 199 0 4 (([] : List DIssued).map eDIssued)])], []⟩ (fgk (by kernel_rfl)) ?_
  refine seq_ ?_
  refine reg_ ?_
  refine st (c_ (cp_ ⟨trivial, trivial⟩ rfl trivial) ?_)
  refine st (c_ (cp_ ⟨trivial, trivial⟩ rfl (Nat.le_of_ble_eq_true rfl)) ?_)
  obtain ⟨r1, e2, h0⟩ := bnd h0
  refine st (call0_ (r := .own 0 0 1 (r1.map eU8)) false (H231 a0.seed r1 e2) ⟨trivial, trivial⟩ rfl rfl (fun _ => (and_ (fl1 (fun _ => rfl)) rfl)) ?_)
  refine st (c_ (cp_ ⟨trivial, trivial⟩ rfl trivial) ?_)
  refine st (stp_ rfl rfl trivial rfl rfl rfl (Nat.le_of_ble_eq_true rfl) ?_)
  refine oe_ ?_
  refine wk_ ⟨[(1, .ptr 64 0), (2, .ptr 128 0), (3, .ptr 192 0)], [(64, [.str a0.name_, .lst 1 (a0.seed.map eU8), .int .i64 a0.serial, .int .i64 a0.number, .str a0.suffix, .int .i64 a0.most, .lst 4 (a0.list_.map eDIssued)]), (128, [.str ([] : List UInt8), .own 130 0 1 (([] : List UInt8).map eU8), .int .i64 0, .int .i64 0, .str ([] : List UInt8), .int .i64 0, .own 135 0 4 (([] : List DIssued).map eDIssued)]), (192, [.str a0.name_, .own 576 0 1 (r1.map eU8), .int .i64 0, .int .i64 0, .str ([] : List UInt8), .int .i64 0, .own 199 0 4 (([] : List DIssued).map eDIssued)])], []⟩ (fgk (by kernel_rfl)) ?_
  refine seq_ ?_
  refine reg_ ?_
  refine st (c_ (cp_ ⟨trivial, trivial⟩ rfl trivial) ?_)
  refine st (c_ (cp_ ⟨trivial, trivial⟩ rfl (Nat.le_of_ble_eq_true rfl)) ?_)
  refine st (c_ (cp_ ⟨trivial, trivial⟩ rfl trivial) ?_)
  refine st (stp_ rfl rfl trivial rfl rfl rfl (Nat.le_of_ble_eq_true rfl) ?_)
  refine oe_ ?_
  refine wk_ ⟨[(1, .ptr 64 0), (2, .ptr 128 0), (3, .ptr 192 0)], [(64, [.str a0.name_, .lst 1 (a0.seed.map eU8), .int .i64 a0.serial, .int .i64 a0.number, .str a0.suffix, .int .i64 a0.most, .lst 4 (a0.list_.map eDIssued)]), (128, [.str ([] : List UInt8), .own 130 0 1 (([] : List UInt8).map eU8), .int .i64 0, .int .i64 0, .str ([] : List UInt8), .int .i64 0, .own 135 0 4 (([] : List DIssued).map eDIssued)]), (192, [.str a0.name_, .own 576 0 1 (r1.map eU8), .int .i64 a0.serial, .int .i64 0, .str ([] : List UInt8), .int .i64 0, .own 199 0 4 (([] : List DIssued).map eDIssued)])], []⟩ (fgk (by kernel_rfl)) ?_
  refine seq_ ?_
  refine reg_ ?_
  refine st (c_ (cp_ ⟨trivial, trivial⟩ rfl trivial) ?_)
  refine st (c_ (cp_ ⟨trivial, trivial⟩ rfl (Nat.le_of_ble_eq_true rfl)) ?_)
  refine st (c_ (cp_ ⟨trivial, trivial⟩ rfl trivial) ?_)
  refine st (stp_ rfl rfl trivial rfl rfl rfl (Nat.le_of_ble_eq_true rfl) ?_)
  refine oe_ ?_
  refine wk_ ⟨[(1, .ptr 64 0), (2, .ptr 128 0), (3, .ptr 192 0)], [(64, [.str a0.name_, .lst 1 (a0.seed.map eU8), .int .i64 a0.serial, .int .i64 a0.number, .str a0.suffix, .int .i64 a0.most, .lst 4 (a0.list_.map eDIssued)]), (128, [.str ([] : List UInt8), .own 130 0 1 (([] : List UInt8).map eU8), .int .i64 0, .int .i64 0, .str ([] : List UInt8), .int .i64 0, .own 135 0 4 (([] : List DIssued).map eDIssued)]), (192, [.str a0.name_, .own 576 0 1 (r1.map eU8), .int .i64 a0.serial, .int .i64 a0.number, .str ([] : List UInt8), .int .i64 0, .own 199 0 4 (([] : List DIssued).map eDIssued)])], []⟩ (fgk (by kernel_rfl)) ?_
  refine seq_ ?_
  refine reg_ ?_
  refine st (c_ (cp_ ⟨trivial, trivial⟩ rfl trivial) ?_)
  refine st (c_ (cp_ ⟨trivial, trivial⟩ rfl (Nat.le_of_ble_eq_true rfl)) ?_)
  refine st (c_ (cp_ ⟨trivial, trivial⟩ rfl trivial) ?_)
  refine st (stp_ rfl rfl trivial rfl rfl rfl (Nat.le_of_ble_eq_true rfl) ?_)
  refine oe_ ?_
  refine wk_ ⟨[(1, .ptr 64 0), (2, .ptr 128 0), (3, .ptr 192 0)], [(64, [.str a0.name_, .lst 1 (a0.seed.map eU8), .int .i64 a0.serial, .int .i64 a0.number, .str a0.suffix, .int .i64 a0.most, .lst 4 (a0.list_.map eDIssued)]), (128, [.str ([] : List UInt8), .own 130 0 1 (([] : List UInt8).map eU8), .int .i64 0, .int .i64 0, .str ([] : List UInt8), .int .i64 0, .own 135 0 4 (([] : List DIssued).map eDIssued)]), (192, [.str a0.name_, .own 576 0 1 (r1.map eU8), .int .i64 a0.serial, .int .i64 a0.number, .str a0.suffix, .int .i64 0, .own 199 0 4 (([] : List DIssued).map eDIssued)])], []⟩ (fgk (by kernel_rfl)) ?_
  refine seq_ ?_
  refine reg_ ?_
  refine st (c_ (cp_ ⟨trivial, trivial⟩ rfl trivial) ?_)
  refine st (c_ (cp_ ⟨trivial, trivial⟩ rfl (Nat.le_of_ble_eq_true rfl)) ?_)
  refine st (c_ (cp_ ⟨trivial, trivial⟩ rfl trivial) ?_)
  refine st (stp_ rfl rfl trivial rfl rfl rfl (Nat.le_of_ble_eq_true rfl) ?_)
  refine oe_ ?_
  refine wk_ ⟨[(1, .ptr 64 0), (2, .ptr 128 0), (3, .ptr 192 0)], [(64, [.str a0.name_, .lst 1 (a0.seed.map eU8), .int .i64 a0.serial, .int .i64 a0.number, .str a0.suffix, .int .i64 a0.most, .lst 4 (a0.list_.map eDIssued)]), (128, [.str ([] : List UInt8), .own 130 0 1 (([] : List UInt8).map eU8), .int .i64 0, .int .i64 0, .str ([] : List UInt8), .int .i64 0, .own 135 0 4 (([] : List DIssued).map eDIssued)]), (192, [.str a0.name_, .own 576 0 1 (r1.map eU8), .int .i64 a0.serial, .int .i64 a0.number, .str a0.suffix, .int .i64 a0.most, .own 199 0 4 (([] : List DIssued).map eDIssued)])], []⟩ (fgk (by kernel_rfl)) ?_
  refine seq_ ?_
  refine reg_ ?_
  refine st (c_ (cp_ ⟨trivial, trivial⟩ rfl trivial) ?_)
  refine st (c_ (cp_ ⟨trivial, trivial⟩ rfl (Nat.le_of_ble_eq_true rfl)) ?_)
  obtain ⟨r3, e4, h0⟩ := bnd h0
  refine st (call0_ (r := .own 0 0 4 (r3.map eDIssued)) false (H280 a0.list_ r3 e4) ⟨trivial, trivial⟩ rfl rfl (fun _ => (and_ (fl1 (fun _ => rfl)) rfl)) ?_)
  refine st (c_ (cp_ ⟨trivial, trivial⟩ rfl trivial) ?_)
  refine st (stp_ rfl rfl trivial rfl rfl rfl (Nat.le_of_ble_eq_true rfl) ?_)
  refine oe_ ?_
  refine wk_ ⟨[(2, .ptr 128 0), (3, .ptr 192 0)], [(128, [.str ([] : List UInt8), .own 130 0 1 (([] : List UInt8).map eU8), .int .i64 0, .int .i64 0, .str ([] : List UInt8), .int .i64 0, .own 135 0 4 (([] : List DIssued).map eDIssued)]), (192, [.str a0.name_, .own 576 0 1 (r1.map eU8), .int .i64 a0.serial, .int .i64 a0.number, .str a0.suffix, .int .i64 a0.most, .own 1600 0 4 (r3.map eDIssued)])], []⟩ (fgk (by kernel_rfl)) ?_
  refine seq_ ?_
  refine reg_ ?_
  refine st (c_ (v := .agg [.str a0.name_, .own 576 0 1 (r1.map eU8), .int .i64 a0.serial, .int .i64 a0.number, .str a0.suffix, .int .i64 a0.most, .own 1600 0 4 (r3.map eDIssued)]) (cp_ ⟨trivial, trivial⟩ rfl (Nat.le_of_ble_eq_true rfl)) ?_)
  refine st (stp_ rfl rfl trivial rfl rfl rfl (Nat.le_of_ble_eq_true rfl) ?_)
  refine oe_ ?_
  refine wk_ ⟨[(2, .ptr 128 0)], [(128, [.str a0.name_, .own 576 0 1 (r1.map eU8), .int .i64 a0.serial, .int .i64 a0.number, .str a0.suffix, .int .i64 a0.most, .own 1600 0 4 (r3.map eDIssued)])], []⟩ (fgk (by kernel_rfl)) ?_
  obtain rfl := Option.some.inj h0
  exact rt_ (ret_ rfl rfl rfl rfl rfl trivial)

/- loop.example/g00149/laws.eqByteS -/
def c233_r0 : List Ins := [⟨some 4, .p (.mv (.c (.bool false))), none⟩]
def c233_r1 : List Ins := [⟨some 6, .p (.mv (.t 0)), none⟩,
 ⟨some 7, .p (.len (.t 6)), none⟩,
 ⟨some 8, .p (.mv (.t 1)), none⟩,
 ⟨some 9, .p (.len (.t 8)), none⟩,
 ⟨some 10, .p (.bin .neq (.t 7) (.t 9)), none⟩]
def c233_r2 : List Ins := [⟨some 4, .p (.mv (.c (.bool false))), none⟩]
def c233_r3 : List Ins := [⟨some 5, .p (.mv (.c (.int .i64 0))), none⟩]
def c233_r4 : List Ins := [⟨some 11, .p (.mv (.t 5)), none⟩,
 ⟨some 12, .p (.mv (.t 0)), none⟩,
 ⟨some 13, .p (.len (.t 12)), none⟩,
 ⟨some 14, .p (.bin .lss (.t 11) (.t 13)), none⟩]
def c233_r5 : DP := (.take ⟨some 17, .p (.mv (.t 0)), none⟩
 (.take ⟨some 18, .p (.mv (.t 5)), none⟩
 (.take ⟨some 19, .p (.idxA (.t 17) (.t 18) 1), none⟩
 (.take ⟨some 20, .p (.load (.t 19) 1 false), none⟩
 (.take ⟨some 21, .p (.mv (.t 1)), none⟩
 (.take ⟨some 22, .p (.mv (.t 5)), none⟩
 (.take ⟨some 23, .p (.idxA (.t 21) (.t 22) 1), none⟩
 (.take ⟨some 24, .p (.load (.t 23) 1 false), none⟩
 (.take ⟨some 25, .p (.bin .neq (.t 20) (.t 24)), none⟩
 .fin)))))))))
def c233_r6 : List Ins := [⟨some 4, .p (.mv (.c (.bool false))), none⟩]
def c233_r7 : List Ins := [⟨some 15, .p (.mv (.t 5)), none⟩,
 ⟨some 16, .p (.bin .add (.t 15) (.c (.int .i64 1))), none⟩,
 ⟨some 5, .p (.mv (.t 16)), none⟩]
def c233_l0 : IR := (.seq (.seq (.reg c233_r4) (.ite (.t 14) .skip (.exit 0))) (.seq (.block 1 (.seq (.draw c233_r5) (.ite (.t 25) (.seq (.reg c233_r6) .ret) .skip))) (.reg c233_r7)))
def c233_r8 : List Ins := [⟨some 4, .p (.mv (.c (.bool true))), none⟩]
def c233 : XFn := { np := 2, nt := 26, res := [.t 4], body := (.seq (.reg c233_r0) (.seq (.seq (.reg c233_r1) (.ite (.t 10) (.seq (.reg c233_r2) .ret) .skip)) (.seq (.seq (.reg c233_r3) (.block 0 (.loop c233_l0))) (.seq (.reg c233_r8) .ret)))) }
def K233 (C : CRel) : Prop := ∀ (a0 : List UInt8) (a1 : List UInt8) (r : Bool), g233 a0 a1 = some r → C 233 ⟨[.lst 1 (a0.map eU8), .lst 1 (a1.map eU8)], []⟩ ⟨.bool r, [], []⟩
theorem F233 {C : CRel}  (a0 : List UInt8) (a1 : List UInt8) (r : Bool) (h0 : g233 a0 a1 = some r) : FnOK C c233 ⟨[.lst 1 (a0.map eU8), .lst 1 (a1.map eU8)], []⟩ ⟨.bool r, [], []⟩ := by
  refine fn_ (Nat.le_of_ble_eq_true rfl) ?_
  refine seq_ ?_
  refine reg_ ?_
  refine st (mvc_ trivial ?_)
  refine oe_ ?_
  refine wk_ ⟨[(0, .lst 1 (a0.map eU8)), (1, .lst 1 (a1.map eU8))], [], []⟩ (fgk (by kernel_rfl)) ?_
  refine seq_ ?_
  refine seq_ ?_
  refine reg_ ?_
  refine st (mv_ rfl trivial ?_)
  refine st (c_ (clenL (e := eU8) (l0 := a0) rfl rfl trivial) ?_)
  refine st (mv_ rfl trivial ?_)
  refine st (c_ (clenL (e := eU8) (l0 := a1) rfl rfl trivial) ?_)
  refine st (c_ (cp_ ⟨trivial, trivial, trivial⟩ rfl trivial) ?_)
  refine oe_ ?_
  refine wk_ ⟨[(0, .lst 1 (a0.map eU8)), (1, .lst 1 (a1.map eU8)), (10, .bool ((a0.length : Int) != (a1.length : Int)))], [], []⟩ (fgk (by kernel_rfl)) ?_
  refine ite_ (cb := ((a0.length : Int) != (a1.length : Int))) rfl (fun c1 => ?_) (fun c1 => ?_)
  · replace h0 := ip c1 h0
    refine seq_ ?_
    refine reg_ ?_
    refine st (mvc_ trivial ?_)
    refine oe_ ?_
    refine wk_ ⟨[(4, .bool false)], [], []⟩ (fgk (by kernel_rfl)) ?_
    obtain rfl := Option.some.inj h0
    exact rt_ (ret_ rfl rfl rfl rfl rfl trivial)
  · replace h0 := inb c1 h0
    refine sk_ ?_
    refine wk_ ⟨[(0, .lst 1 (a0.map eU8)), (1, .lst 1 (a1.map eU8))], [], []⟩ (fgk (by kernel_rfl)) ?_
    refine seq_ ?_
    refine seq_ ?_
    refine reg_ ?_
    refine st (mvc_ trivial ?_)
    refine oe_ ?_
    refine wk_ ⟨[(0, .lst 1 (a0.map eU8)), (1, .lst 1 (a1.map eU8)), (5, .int .i64 0)], [], []⟩ (fgk (by kernel_rfl)) ?_
    refine block_ ?_
    obtain ⟨r22, e23, h0⟩ := bnd h0
    refine loop_ (R := (fun S => .inl () = r22 ∧ S = ⟨[], [], []⟩)) (g233_l0 a0 a1) (fun s S => match s with | p8 => S = ⟨[(0, .lst 1 (a0.map eU8)), (1, .lst 1 (a1.map eU8)), (5, .int .i64 p8)], [], []⟩) e23 ⟨[(0, .lst 1 (a0.map eU8)), (1, .lst 1 (a1.map eU8)), (5, .int .i64 0)], [], []⟩ (fgk (by kernel_rfl)) rfl 0 (fun _ => rfl) ?_ ?_
    · rintro S _ hfg ⟨rfl, rfl⟩
      refine wk_ ⟨[], [], []⟩ (fglk hfg (by kernel_rfl)) ?_
      refine seq_ ?_
      refine reg_ ?_
      refine st (mvc_ trivial ?_)
      refine oe_ ?_
      refine wk_ ⟨[(4, .bool true)], [], []⟩ (fgk (by kernel_rfl)) ?_
      obtain rfl := Option.some.inj h0
      exact rt_ (ret_ rfl rfl rfl rfl rfl trivial)
    · rintro p8 o1 _ K1 rfl h1 hx1 hK1 hE1 hR1
      refine seq_ ?_
      refine seq_ ?_
      refine reg_ ?_
      refine st (mv_ rfl trivial ?_)
      refine st (mv_ rfl trivial ?_)
      refine st (c_ (clenL (e := eU8) (l0 := a0) rfl rfl trivial) ?_)
      refine st (c_ (cp_ ⟨trivial, trivial, trivial⟩ rfl trivial) ?_)
      refine oe_ ?_
      refine wk_ ⟨[(0, .lst 1 (a0.map eU8)), (1, .lst 1 (a1.map eU8)), (5, .int .i64 p8), (14, .bool (decide (p8 < (a0.length : Int))))], [], []⟩ (fgk (by kernel_rfl)) ?_
      refine ite_ (cb := (decide (p8 < (a0.length : Int)))) rfl (fun c16 => ?_) (fun c16 => ?_)
      · replace h1 := ip c16 h1
        refine sk_ ?_
        refine wk_ ⟨[(0, .lst 1 (a0.map eU8)), (1, .lst 1 (a1.map eU8)), (5, .int .i64 p8)], [], []⟩ (fgk (by kernel_rfl)) ?_
        refine seq_ ?_
        refine block_ ?_
        refine seq_ ?_
        obtain ⟨y17, e18, h1⟩ := bnd h1
        obtain ⟨y19, e20, h1⟩ := bnd h1
        refine draw_ ?_
        refine dtake trivial (mv_ rfl trivial ?_)
        refine ⟨trivial, ?_⟩
        refine dtake trivial (mv_ rfl trivial ?_)
        refine ⟨trivial, ?_⟩
        refine dtake trivial (c_ (cidxL (e := eU8) (y := y17) rfl rfl trivial rfl rfl trivial e18) ?_)
        refine ⟨trivial, ?_⟩
        refine dtake trivial (c_ (cp_ ⟨trivial, trivial⟩ rfl (Nat.le_of_ble_eq_true rfl)) ?_)
        refine ⟨trivial, ?_⟩
        refine dtake trivial (mv_ rfl trivial ?_)
        refine ⟨trivial, ?_⟩
        refine dtake trivial (mv_ rfl trivial ?_)
        refine ⟨trivial, ?_⟩
        refine dtake trivial (c_ (cidxL (e := eU8) (y := y19) rfl rfl trivial rfl rfl trivial e20) ?_)
        refine ⟨trivial, ?_⟩
        refine dtake trivial (c_ (cp_ ⟨trivial, trivial⟩ rfl (Nat.le_of_ble_eq_true rfl)) ?_)
        refine ⟨trivial, ?_⟩
        refine dtake trivial (c_ (cp_ ⟨trivial, trivial, trivial⟩ rfl trivial) ?_)
        refine ⟨trivial, ?_⟩
        refine dfin ?_
        refine wk_ ⟨[(0, .lst 1 (a0.map eU8)), (1, .lst 1 (a1.map eU8)), (5, .int .i64 p8), (25, .bool (((y17).toNat : Int) != ((y19).toNat : Int)))], [], []⟩ (fgk (by kernel_rfl)) ?_
        refine ite_ (cb := (((y17).toNat : Int) != ((y19).toNat : Int))) rfl (fun c21 => ?_) (fun c21 => ?_)
        · replace h1 := ip c21 h1
          refine seq_ ?_
          refine reg_ ?_
          refine st (mvc_ trivial ?_)
          refine oe_ ?_
          refine wk_ ⟨[(4, .bool false)], [], []⟩ (fgk (by kernel_rfl)) ?_
          obtain rfl := Option.some.inj h1
          obtain rfl := hx1 _ rfl
          obtain rfl := Option.some.inj h0
          exact rt_ (hR1 _ (ret_ rfl rfl rfl rfl rfl trivial))
        · replace h1 := inb c21 h1
          refine sk_ ?_
          refine bn_ ?_
          refine wk_ ⟨[(0, .lst 1 (a0.map eU8)), (1, .lst 1 (a1.map eU8)), (5, .int .i64 p8)], [], []⟩ (fgk (by kernel_rfl)) ?_
          refine reg_ ?_
          refine st (mv_ rfl trivial ?_)
          refine st (c_ (cp_ ⟨trivial, trivial, trivial⟩ rfl trivial) ?_)
          refine st (mv_ rfl trivial ?_)
          refine oe_ ?_
          obtain rfl := Option.some.inj h1
          exact hK1 _ rfl _ ⟨[(0, .lst 1 (a0.map eU8)), (1, .lst 1 (a1.map eU8)), (5, .int .i64 (IntKind.i64.wrap (p8 + 1)))], [], []⟩ (fgk (by kernel_rfl)) rfl
      · replace h1 := inb c16 h1
        obtain rfl := Option.some.inj h1
        obtain rfl := hx1 _ rfl
        refine exQ rfl ?_
        exact hE1 _ ⟨[], [], []⟩ (fgk (by kernel_rfl)) ⟨rfl, rfl⟩

/- loop.example/g00149/laws.eqIssued -/
def c344_r0 : List Ins := [⟨some 2, .box (.t 0), none⟩,
 ⟨some 3, .box (.t 1), none⟩,
 ⟨some 4, .p (.mv (.c (.bool false))), none⟩]
def c344_r1 : List Ins := [⟨some 5, .p (.fieldA (.t 2) 0), none⟩,
 ⟨some 6, .p (.load (.t 5) 1 false), none⟩,
 ⟨some 7, .p (.fieldA (.t 3) 0), none⟩,
 ⟨some 8, .p (.load (.t 7) 1 false), none⟩,
 ⟨some 9, .p (.bin .neq (.t 6) (.t 8)), none⟩]
def c344_r2 : List Ins := [⟨some 4, .p (.mv (.c (.bool false))), none⟩]
def c344_r3 : List Ins := [⟨some 10, .p (.fieldA (.t 2) 1), none⟩,
 ⟨some 11, .p (.load (.t 10) 1 false), none⟩,
 ⟨some 12, .p (.fieldA (.t 3) 1), none⟩,
 ⟨some 13, .p (.load (.t 12) 1 false), none⟩,
 ⟨some 14, .p (.bin .neq (.t 11) (.t 13)), none⟩]
def c344_r4 : List Ins := [⟨some 4, .p (.mv (.c (.bool false))), none⟩]
def c344_r5 : List Ins := [⟨some 15, .p (.fieldA (.t 2) 2), none⟩,
 ⟨some 16, .p (.load (.t 15) 1 false), none⟩,
 ⟨some 17, .p (.fieldA (.t 3) 2), none⟩,
 ⟨some 18, .p (.load (.t 17) 1 false), none⟩,
 ⟨some 19, .p (.bin .neq (.t 16) (.t 18)), none⟩]
def c344_r6 : List Ins := [⟨some 4, .p (.mv (.c (.bool false))), none⟩]
def c344_r7 : List Ins := [⟨some 20, .p (.fieldA (.t 2) 3), none⟩,
 ⟨some 21, .p (.load (.t 20) 1 false), none⟩,
 ⟨some 22, .p (.fieldA (.t 3) 3), none⟩,
 ⟨some 23, .p (.load (.t 22) 1 false), none⟩,
 ⟨some 24, .p (.binB .neq (.t 21) (.t 23)), none⟩]
def c344_r8 : List Ins := [⟨some 4, .p (.mv (.c (.bool false))), none⟩]
def c344_r9 : List Ins := [⟨some 4, .p (.mv (.c (.bool true))), none⟩]
def c344 : XFn := { np := 2, nt := 25, res := [.t 4], body := (.seq (.reg c344_r0) (.seq (.seq (.reg c344_r1) (.ite (.t 9) (.seq (.reg c344_r2) .ret) .skip)) (.seq (.seq (.reg c344_r3) (.ite (.t 14) (.seq (.reg c344_r4) .ret) .skip)) (.seq (.seq (.reg c344_r5) (.ite (.t 19) (.seq (.reg c344_r6) .ret) .skip)) (.seq (.seq (.reg c344_r7) (.ite (.t 24) (.seq (.reg c344_r8) .ret) .skip)) (.seq (.reg c344_r9) .ret)))))) }
def K344 (C : CRel) : Prop := ∀ (a0 : DIssued) (a1 : DIssued) (r : Bool), g344 a0 a1 = some r → C 344 ⟨[.agg [.int .i64 a0.serial, .int .i64 a0.to_, .str a0.subject, .bool a0.revoked], .agg [.int .i64 a1.serial, .int .i64 a1.to_, .str a1.subject, .bool a1.revoked]], []⟩ ⟨.bool r, [], []⟩
theorem F344 {C : CRel}  (a0 : DIssued) (a1 : DIssued) (r : Bool) (h0 : g344 a0 a1 = some r) : FnOK C c344 ⟨[.agg [.int .i64 a0.serial, .int .i64 a0.to_, .str a0.subject, .bool a0.revoked], .agg [.int .i64 a1.serial, .int .i64 a1.to_, .str a1.subject, .bool a1.revoked]], []⟩ ⟨.bool r, [], []⟩ := by
  refine fn_ (Nat.le_of_ble_eq_true rfl) ?_
  refine seq_ ?_
  refine reg_ ?_
  refine st (box_ rfl trivial rfl ?_)
  refine st (box_ rfl trivial rfl ?_)
  refine st (mvc_ trivial ?_)
  refine oe_ ?_
  refine wk_ ⟨[(2, .ptr 128 0), (3, .ptr 192 0)], [(128, [.int .i64 a0.serial, .int .i64 a0.to_, .str a0.subject, .bool a0.revoked]), (192, [.int .i64 a1.serial, .int .i64 a1.to_, .str a1.subject, .bool a1.revoked])], []⟩ (fgk (by kernel_rfl)) ?_
  refine seq_ ?_
  refine seq_ ?_
  refine reg_ ?_
  refine st (c_ (cp_ ⟨trivial, trivial⟩ rfl trivial) ?_)
  refine st (c_ (cp_ ⟨trivial, trivial⟩ rfl (Nat.le_of_ble_eq_true rfl)) ?_)
  refine st (c_ (cp_ ⟨trivial, trivial⟩ rfl trivial) ?_)
  refine st (c_ (cp_ ⟨trivial, trivial⟩ rfl (Nat.le_of_ble_eq_true rfl)) ?_)
  refine st (c_ (cp_ ⟨trivial, trivial, trivial⟩ rfl trivial) ?_)
  refine oe_ ?_
  refine wk_ ⟨[(2, .ptr 128 0), (3, .ptr 192 0), (9, .bool (a0.serial != a1.serial))], [(128, [.int .i64 a0.serial, .int .i64 a0.to_, .str a0.subject, .bool a0.revoked]), (192, [.int .i64 a1.serial, .int .i64 a1.to_, .str a1.subject, .bool a1.revoked])], []⟩ (fgk (by kernel_rfl)) ?_
  refine ite_ (cb := (a0.serial != a1.serial)) rfl (fun c1 => ?_) (fun c1 => ?_)
  · replace h0 := ip c1 h0
    refine seq_ ?_
    refine reg_ ?_
    refine st (mvc_ trivial ?_)
    refine oe_ ?_
    refine wk_ ⟨[(4, .bool false)], [], []⟩ (fgk (by kernel_rfl)) ?_
    obtain rfl := Option.some.inj h0
    exact rt_ (ret_ rfl rfl rfl rfl rfl trivial)
  · replace h0 := inb c1 h0
    refine sk_ ?_
    refine wk_ ⟨[(2, .ptr 128 0), (3, .ptr 192 0)], [(128, [.int .i64 a0.serial, .int .i64 a0.to_, .str a0.subject, .bool a0.revoked]), (192, [.int .i64 a1.serial, .int .i64 a1.to_, .str a1.subject, .bool a1.revoked])], []⟩ (fgk (by kernel_rfl)) ?_
    refine seq_ ?_
    refine seq_ ?_
    refine reg_ ?_
    refine st (c_ (cp_ ⟨trivial, trivial⟩ rfl trivial) ?_)
    refine st (c_ (cp_ ⟨trivial, trivial⟩ rfl (Nat.le_of_ble_eq_true rfl)) ?_)
    refine st (c_ (cp_ ⟨trivial, trivial⟩ rfl trivial) ?_)
    refine st (c_ (cp_ ⟨trivial, trivial⟩ rfl (Nat.le_of_ble_eq_true rfl)) ?_)
    refine st (c_ (cp_ ⟨trivial, trivial, trivial⟩ rfl trivial) ?_)
    refine oe_ ?_
    refine wk_ ⟨[(2, .ptr 128 0), (3, .ptr 192 0), (14, .bool (a0.to_ != a1.to_))], [(128, [.int .i64 a0.serial, .int .i64 a0.to_, .str a0.subject, .bool a0.revoked]), (192, [.int .i64 a1.serial, .int .i64 a1.to_, .str a1.subject, .bool a1.revoked])], []⟩ (fgk (by kernel_rfl)) ?_
    refine ite_ (cb := (a0.to_ != a1.to_)) rfl (fun c2 => ?_) (fun c2 => ?_)
    · replace h0 := ip c2 h0
      refine seq_ ?_
      refine reg_ ?_
      refine st (mvc_ trivial ?_)
      refine oe_ ?_
      refine wk_ ⟨[(4, .bool false)], [], []⟩ (fgk (by kernel_rfl)) ?_
      obtain rfl := Option.some.inj h0
      exact rt_ (ret_ rfl rfl rfl rfl rfl trivial)
    · replace h0 := inb c2 h0
      refine sk_ ?_
      refine wk_ ⟨[(2, .ptr 128 0), (3, .ptr 192 0)], [(128, [.int .i64 a0.serial, .int .i64 a0.to_, .str a0.subject, .bool a0.revoked]), (192, [.int .i64 a1.serial, .int .i64 a1.to_, .str a1.subject, .bool a1.revoked])], []⟩ (fgk (by kernel_rfl)) ?_
      refine seq_ ?_
      refine seq_ ?_
      refine reg_ ?_
      refine st (c_ (cp_ ⟨trivial, trivial⟩ rfl trivial) ?_)
      refine st (c_ (cp_ ⟨trivial, trivial⟩ rfl (Nat.le_of_ble_eq_true rfl)) ?_)
      refine st (c_ (cp_ ⟨trivial, trivial⟩ rfl trivial) ?_)
      refine st (c_ (cp_ ⟨trivial, trivial⟩ rfl (Nat.le_of_ble_eq_true rfl)) ?_)
      refine st (c_ (cp_ ⟨trivial, trivial, trivial⟩ rfl trivial) ?_)
      refine oe_ ?_
      refine wk_ ⟨[(2, .ptr 128 0), (3, .ptr 192 0), (19, .bool (!(a0.subject == a1.subject)))], [(128, [.int .i64 a0.serial, .int .i64 a0.to_, .str a0.subject, .bool a0.revoked]), (192, [.int .i64 a1.serial, .int .i64 a1.to_, .str a1.subject, .bool a1.revoked])], []⟩ (fgk (by kernel_rfl)) ?_
      refine ite_ (cb := (!(a0.subject == a1.subject))) rfl (fun c3 => ?_) (fun c3 => ?_)
      · replace h0 := ip c3 h0
        refine seq_ ?_
        refine reg_ ?_
        refine st (mvc_ trivial ?_)
        refine oe_ ?_
        refine wk_ ⟨[(4, .bool false)], [], []⟩ (fgk (by kernel_rfl)) ?_
        obtain rfl := Option.some.inj h0
        exact rt_ (ret_ rfl rfl rfl rfl rfl trivial)
      · replace h0 := inb c3 h0
        refine sk_ ?_
        refine wk_ ⟨[(2, .ptr 128 0), (3, .ptr 192 0)], [(128, [.int .i64 a0.serial, .int .i64 a0.to_, .str a0.subject, .bool a0.revoked]), (192, [.int .i64 a1.serial, .int .i64 a1.to_, .str a1.subject, .bool a1.revoked])], []⟩ (fgk (by kernel_rfl)) ?_
        refine seq_ ?_
        refine seq_ ?_
        refine reg_ ?_
        refine st (c_ (cp_ ⟨trivial, trivial⟩ rfl trivial) ?_)
        refine st (c_ (cp_ ⟨trivial, trivial⟩ rfl (Nat.le_of_ble_eq_true rfl)) ?_)
        refine st (c_ (cp_ ⟨trivial, trivial⟩ rfl trivial) ?_)
        refine st (c_ (cp_ ⟨trivial, trivial⟩ rfl (Nat.le_of_ble_eq_true rfl)) ?_)
        refine st (c_ (cp_ ⟨trivial, trivial, trivial⟩ rfl trivial) ?_)
        refine oe_ ?_
        refine wk_ ⟨[(24, .bool (!(a0.revoked == a1.revoked)))], [], []⟩ (fgk (by kernel_rfl)) ?_
        refine ite_ (cb := (!(a0.revoked == a1.revoked))) rfl (fun c4 => ?_) (fun c4 => ?_)
        · replace h0 := ip c4 h0
          refine seq_ ?_
          refine reg_ ?_
          refine st (mvc_ trivial ?_)
          refine oe_ ?_
          refine wk_ ⟨[(4, .bool false)], [], []⟩ (fgk (by kernel_rfl)) ?_
          obtain rfl := Option.some.inj h0
          exact rt_ (ret_ rfl rfl rfl rfl rfl trivial)
        · replace h0 := inb c4 h0
          refine sk_ ?_
          refine wk_ ⟨[], [], []⟩ (fgk (by kernel_rfl)) ?_
          refine seq_ ?_
          refine reg_ ?_
          refine st (mvc_ trivial ?_)
          refine oe_ ?_
          refine wk_ ⟨[(4, .bool true)], [], []⟩ (fgk (by kernel_rfl)) ?_
          obtain rfl := Option.some.inj h0
          exact rt_ (ret_ rfl rfl rfl rfl rfl trivial)

/- loop.example/g00149/laws.eqIssuedS -/
def c288_r0 : List Ins := [⟨some 4, .p (.mv (.c (.bool false))), none⟩]
def c288_r1 : List Ins := [⟨some 6, .p (.mv (.t 0)), none⟩,
 ⟨some 7, .p (.len (.t 6)), none⟩,
 ⟨some 8, .p (.mv (.t 1)), none⟩,
 ⟨some 9, .p (.len (.t 8)), none⟩,
 ⟨some 10, .p (.bin .neq (.t 7) (.t 9)), none⟩]
def c288_r2 : List Ins := [⟨some 4, .p (.mv (.c (.bool false))), none⟩]
def c288_r3 : List Ins := [⟨some 5, .p (.mv (.c (.int .i64 0))), none⟩]
def c288_r4 : List Ins := [⟨some 11, .p (.mv (.t 5)), none⟩,
 ⟨some 12, .p (.mv (.t 0)), none⟩,
 ⟨some 13, .p (.len (.t 12)), none⟩,
 ⟨some 14, .p (.bin .lss (.t 11) (.t 13)), none⟩]
def c288_r5 : DP := (.take ⟨some 17, .p (.mv (.t 0)), none⟩
 (.take ⟨some 18, .p (.mv (.t 5)), none⟩
 (.take ⟨some 19, .p (.idxA (.t 17) (.t 18) 4), none⟩
 (.take ⟨some 20, .p (.load (.t 19) 4 true), none⟩
 (.take ⟨some 21, .p (.mv (.t 1)), none⟩
 (.take ⟨some 22, .p (.mv (.t 5)), none⟩
 (.take ⟨some 23, .p (.idxA (.t 21) (.t 22) 4), none⟩
 (.take ⟨some 24, .p (.load (.t 23) 4 true), none⟩
 (.alt [] ⟨some 25, .call 344 [(.t 20), (.t 24)], none⟩
 (.take ⟨some 26, .p (.un .not (.t 25)), none⟩
 .fin)
 .stop)))))))))
def c288_r6 : List Ins := [⟨some 4, .p (.mv (.c (.bool false))), none⟩]
def c288_r7 : List Ins := [⟨some 15, .p (.mv (.t 5)), none⟩,
 ⟨some 16, .p (.bin .add (.t 15) (.c (.int .i64 1))), none⟩,
 ⟨some 5, .p (.mv (.t 16)), none⟩]
def c288_l0 : IR := (.seq (.seq (.reg c288_r4) (.ite (.t 14) .skip (.exit 0))) (.seq (.block 1 (.seq (.draw c288_r5) (.ite (.t 26) (.seq (.reg c288_r6) .ret) .skip))) (.reg c288_r7)))
def c288_r8 : List Ins := [⟨some 4, .p (.mv (.c (.bool true))), none⟩]
def c288 : XFn := { np := 2, nt := 27, res := [.t 4], body := (.seq (.reg c288_r0) (.seq (.seq (.reg c288_r1) (.ite (.t 10) (.seq (.reg c288_r2) .ret) .skip)) (.seq (.seq (.reg c288_r3) (.block 0 (.loop c288_l0))) (.seq (.reg c288_r8) .ret)))) }
def K288 (C : CRel) : Prop := ∀ (a0 : List DIssued) (a1 : List DIssued) (r : Bool), g288 a0 a1 = some r → C 288 ⟨[.lst 4 (a0.map eDIssued), .lst 4 (a1.map eDIssued)], []⟩ ⟨.bool r, [], []⟩
theorem F288 {C : CRel} (H344 : K344 C) (a0 : List DIssued) (a1 : List DIssued) (r : Bool) (h0 : g288 a0 a1 = some r) : FnOK C c288 ⟨[.lst 4 (a0.map eDIssued), .lst 4 (a1.map eDIssued)], []⟩ ⟨.bool r, [], []⟩ := by
  refine fn_ (Nat.le_of_ble_eq_true rfl) ?_
  refine seq_ ?_
  refine reg_ ?_
  refine st (mvc_ trivial ?_)
  refine oe_ ?_
  refine wk_ ⟨[(0, .lst 4 (a0.map eDIssued)), (1, .lst 4 (a1.map eDIssued))], [], []⟩ (fgk (by kernel_rfl)) ?_
  refine seq_ ?_
  refine seq_ ?_
  refine reg_ ?_
  refine st (mv_ rfl trivial ?_)
  refine st (c_ (clenL (e := eDIssued) (l0 := a0) rfl rfl trivial) ?_)
  refine st (mv_ rfl trivial ?_)
  refine st (c_ (clenL (e := eDIssued) (l0 := a1) rfl rfl trivial) ?_)
  refine st (c_ (cp_ ⟨trivial, trivial, trivial⟩ rfl trivial) ?_)
  refine oe_ ?_
  refine wk_ ⟨[(0, .lst 4 (a0.map eDIssued)), (1, .lst 4 (a1.map eDIssued)), (10, .bool ((a0.length : Int) != (a1.length : Int)))], [], []⟩ (fgk (by kernel_rfl)) ?_
  refine ite_ (cb := ((a0.length : Int) != (a1.length : Int))) rfl (fun c1 => ?_) (fun c1 => ?_)
  · replace h0 := ip c1 h0
    refine seq_ ?_
    refine reg_ ?_
    refine st (mvc_ trivial ?_)
    refine oe_ ?_
    refine wk_ ⟨[(4, .bool false)], [], []⟩ (fgk (by kernel_rfl)) ?_
    obtain rfl := Option.some.inj h0
    exact rt_ (ret_ rfl rfl rfl rfl rfl trivial)
  · replace h0 := inb c1 h0
    refine sk_ ?_
    refine wk_ ⟨[(0, .lst 4 (a0.map eDIssued)), (1, .lst 4 (a1.map eDIssued))], [], []⟩ (fgk (by kernel_rfl)) ?_
    refine seq_ ?_
    refine seq_ ?_
    refine reg_ ?_
    refine st (mvc_ trivial ?_)
    refine oe_ ?_
    refine wk_ ⟨[(0, .lst 4 (a0.map eDIssued)), (1, .lst 4 (a1.map eDIssued)), (5, .int .i64 0)], [], []⟩ (fgk (by kernel_rfl)) ?_
    refine block_ ?_
    obtain ⟨r28, e29, h0⟩ := bnd h0
    refine loop_ (R := (fun S => .inl () = r28 ∧ S = ⟨[], [], []⟩)) (g288_l0 a0 a1) (fun s S => match s with | p10 => S = ⟨[(0, .lst 4 (a0.map eDIssued)), (1, .lst 4 (a1.map eDIssued)), (5, .int .i64 p10)], [], []⟩) e29 ⟨[(0, .lst 4 (a0.map eDIssued)), (1, .lst 4 (a1.map eDIssued)), (5, .int .i64 0)], [], []⟩ (fgk (by kernel_rfl)) rfl 0 (fun _ => rfl) ?_ ?_
    · rintro S _ hfg ⟨rfl, rfl⟩
      refine wk_ ⟨[], [], []⟩ (fglk hfg (by kernel_rfl)) ?_
      refine seq_ ?_
      refine reg_ ?_
      refine st (mvc_ trivial ?_)
      refine oe_ ?_
      refine wk_ ⟨[(4, .bool true)], [], []⟩ (fgk (by kernel_rfl)) ?_
      obtain rfl := Option.some.inj h0
      exact rt_ (ret_ rfl rfl rfl rfl rfl trivial)
    · rintro p10 o1 _ K1 rfl h1 hx1 hK1 hE1 hR1
      refine seq_ ?_
      refine seq_ ?_
      refine reg_ ?_
      refine st (mv_ rfl trivial ?_)
      refine st (mv_ rfl trivial ?_)
      refine st (c_ (clenL (e := eDIssued) (l0 := a0) rfl rfl trivial) ?_)
      refine st (c_ (cp_ ⟨trivial, trivial, trivial⟩ rfl trivial) ?_)
      refine oe_ ?_
      refine wk_ ⟨[(0, .lst 4 (a0.map eDIssued)), (1, .lst 4 (a1.map eDIssued)), (5, .int .i64 p10), (14, .bool (decide (p10 < (a0.length : Int))))], [], []⟩ (fgk (by kernel_rfl)) ?_
      refine ite_ (cb := (decide (p10 < (a0.length : Int)))) rfl (fun c20 => ?_) (fun c20 => ?_)
      · replace h1 := ip c20 h1
        refine sk_ ?_
        refine wk_ ⟨[(0, .lst 4 (a0.map eDIssued)), (1, .lst 4 (a1.map eDIssued)), (5, .int .i64 p10)], [], []⟩ (fgk (by kernel_rfl)) ?_
        refine seq_ ?_
        refine block_ ?_
        refine seq_ ?_
        obtain ⟨y21, e22, h1⟩ := bnd h1
        obtain ⟨y23, e24, h1⟩ := bnd h1
        obtain ⟨r25, e26, h1⟩ := bnd h1
        refine draw_ ?_
        refine dtake trivial (mv_ rfl trivial ?_)
        refine ⟨trivial, ?_⟩
        refine dtake trivial (mv_ rfl trivial ?_)
        refine ⟨trivial, ?_⟩
        refine dtake trivial (c_ (cidxL (e := eDIssued) (y := y21) rfl rfl trivial rfl rfl trivial e22) ?_)
        refine ⟨trivial, ?_⟩
        refine dtake trivial (c_ (v := .agg [.int .i64 y21.serial, .int .i64 y21.to_, .str y21.subject, .bool y21.revoked]) (cp_ ⟨trivial, trivial⟩ rfl (Nat.le_of_ble_eq_true rfl)) ?_)
        refine ⟨trivial, ?_⟩
        refine dtake trivial (mv_ rfl trivial ?_)
        refine ⟨trivial, ?_⟩
        refine dtake trivial (mv_ rfl trivial ?_)
        refine ⟨trivial, ?_⟩
        refine dtake trivial (c_ (cidxL (e := eDIssued) (y := y23) rfl rfl trivial rfl rfl trivial e24) ?_)
        refine ⟨trivial, ?_⟩
        refine dtake trivial (c_ (v := .agg [.int .i64 y23.serial, .int .i64 y23.to_, .str y23.subject, .bool y23.revoked]) (cp_ ⟨trivial, trivial⟩ rfl (Nat.le_of_ble_eq_true rfl)) ?_)
        refine ⟨trivial, ?_⟩
        refine dalt (call0_ (r := .bool r25) false (H344 y21 y23 r25 e26) ⟨trivial, trivial, trivial⟩ rfl rfl (fun _ => rfl) ?_) dstop
        refine dkw ⟨[(0, .lst 4 (a0.map eDIssued)), (1, .lst 4 (a1.map eDIssued)), (5, .int .i64 p10), (25, .bool r25)], [], []⟩ (fgk (by kernel_rfl)) ⟨[], trivial, trivial, ?_⟩
        refine dtake trivial (c_ (cp_ ⟨trivial, trivial⟩ rfl trivial) ?_)
        refine ⟨trivial, ?_⟩
        refine dfin ?_
        refine wk_ ⟨[(0, .lst 4 (a0.map eDIssued)), (1, .lst 4 (a1.map eDIssued)), (5, .int .i64 p10), (26, .bool (!r25))], [], []⟩ (fgk (by kernel_rfl)) ?_
        refine ite_ (cb := (!r25)) rfl (fun c27 => ?_) (fun c27 => ?_)
        · replace h1 := ip c27 h1
          refine seq_ ?_
          refine reg_ ?_
          refine st (mvc_ trivial ?_)
          refine oe_ ?_
          refine wk_ ⟨[(4, .bool false)], [], []⟩ (fgk (by kernel_rfl)) ?_
          obtain rfl := Option.some.inj h1
          obtain rfl := hx1 _ rfl
          obtain rfl := Option.some.inj h0
          exact rt_ (hR1 _ (ret_ rfl rfl rfl rfl rfl trivial))
        · replace h1 := inb c27 h1
          refine sk_ ?_
          refine bn_ ?_
          refine wk_ ⟨[(0, .lst 4 (a0.map eDIssued)), (1, .lst 4 (a1.map eDIssued)), (5, .int .i64 p10)], [], []⟩ (fgk (by kernel_rfl)) ?_
          refine reg_ ?_
          refine st (mv_ rfl trivial ?_)
          refine st (c_ (cp_ ⟨trivial, trivial, trivial⟩ rfl trivial) ?_)
          refine st (mv_ rfl trivial ?_)
          refine oe_ ?_
          obtain rfl := Option.some.inj h1
          exact hK1 _ rfl _ ⟨[(0, .lst 4 (a0.map eDIssued)), (1, .lst 4 (a1.map eDIssued)), (5, .int .i64 (IntKind.i64.wrap (p10 + 1)))], [], []⟩ (fgk (by kernel_rfl)) rfl
      · replace h1 := inb c20 h1
        obtain rfl := Option.some.inj h1
        obtain rfl := hx1 _ rfl
        refine exQ rfl ?_
        exact hE1 _ ⟨[], [], []⟩ (fgk (by kernel_rfl)) ⟨rfl, rfl⟩

/- loop.example/g00149/laws.eqAuthority -/
def c227_r0 : List Ins := [⟨some 2, .box (.t 0), none⟩,
 ⟨some 3, .box (.t 1), none⟩,
 ⟨some 4, .p (.mv (.c (.bool false))), none⟩]
def c227_r1 : List Ins := [⟨some 5, .p (.fieldA (.t 2) 0), none⟩,
 ⟨some 6, .p (.load (.t 5) 1 false), none⟩,
 ⟨some 7, .p (.fieldA (.t 3) 0), none⟩,
 ⟨some 8, .p (.load (.t 7) 1 false), none⟩,
 ⟨some 9, .p (.bin .neq (.t 6) (.t 8)), none⟩]
def c227_r2 : List Ins := [⟨some 4, .p (.mv (.c (.bool false))), none⟩]
def c227_r3 : List Ins := [⟨some 10, .p (.fieldA (.t 2) 1), none⟩,
 ⟨some 11, .p (.load (.t 10) 1 false), none⟩,
 ⟨some 12, .p (.fieldA (.t 3) 1), none⟩,
 ⟨some 13, .p (.load (.t 12) 1 false), none⟩,
 ⟨some 14, .call 233 [(.t 11), (.t 13)], none⟩,
 ⟨some 15, .p (.un .not (.t 14)), none⟩]
def c227_r4 : List Ins := [⟨some 4, .p (.mv (.c (.bool false))), none⟩]
def c227_r5 : List Ins := [⟨some 16, .p (.fieldA (.t 2) 2), none⟩,
 ⟨some 17, .p (.load (.t 16) 1 false), none⟩,
 ⟨some 18, .p (.fieldA (.t 3) 2), none⟩,
 ⟨some 19, .p (.load (.t 18) 1 false), none⟩,
 ⟨some 20, .p (.bin .neq (.t 17) (.t 19)), none⟩]
def c227_r6 : List Ins := [⟨some 4, .p (.mv (.c (.bool false))), none⟩]
def c227_r7 : List Ins := [⟨some 21, .p (.fieldA (.t 2) 3), none⟩,
 ⟨some 22, .p (.load (.t 21) 1 false), none⟩,
 ⟨some 23, .p (.fieldA (.t 3) 3), none⟩,
 ⟨some 24, .p (.load (.t 23) 1 false), none⟩,
 ⟨some 25, .p (.bin .neq (.t 22) (.t 24)), none⟩]
def c227_r8 : List Ins := [⟨some 4, .p (.mv (.c (.bool false))), none⟩]
def c227_r9 : List Ins := [⟨some 26, .p (.fieldA (.t 2) 4), none⟩,
 ⟨some 27, .p (.load (.t 26) 1 false), none⟩,
 ⟨some 28, .p (.fieldA (.t 3) 4), none⟩,
 ⟨some 29, .p (.load (.t 28) 1 false), none⟩,
 ⟨some 30, .p (.bin .neq (.t 27) (.t 29)), none⟩]
def c227_r10 : List Ins := [⟨some 4, .p (.mv (.c (.bool false))), none⟩]
def c227_r11 : List Ins := [⟨some 31, .p (.fieldA (.t 2) 5), none⟩,
 ⟨some 32, .p (.load (.t 31) 1 false), none⟩,
 ⟨some 33, .p (.fieldA (.t 3) 5), none⟩,
 ⟨some 34, .p (.load (.t 33) 1 false), none⟩,
 ⟨some 35, .p (.bin .neq (.t 32) (.t 34)), none⟩]
def c227_r12 : List Ins := [⟨some 4, .p (.mv (.c (.bool false))), none⟩]
def c227_r13 : List Ins := [⟨some 36, .p (.fieldA (.t 2) 6), none⟩,
 ⟨some 37, .p (.load (.t 36) 1 false), none⟩,
 ⟨some 38, .p (.fieldA (.t 3) 6), none⟩,
 ⟨some 39, .p (.load (.t 38) 1 false), none⟩,
 ⟨some 40, .call 288 [(.t 37), (.t 39)], none⟩,
 ⟨some 41, .p (.un .not (.t 40)), none⟩]
def c227_r14 : List Ins := [⟨some 4, .p (.mv (.c (.bool false))), none⟩]
def c227_r15 : List Ins := [⟨some 4, .p (.mv (.c (.bool true))), none⟩]
def c227 : XFn := { np := 2, nt := 42, res := [.t 4], body := (.seq (.reg c227_r0) (.seq (.seq (.reg c227_r1) (.ite (.t 9) (.seq (.reg c227_r2) .ret) .skip)) (.seq (.seq (.reg c227_r3) (.ite (.t 15) (.seq (.reg c227_r4) .ret) .skip)) (.seq (.seq (.reg c227_r5) (.ite (.t 20) (.seq (.reg c227_r6) .ret) .skip)) (.seq (.seq (.reg c227_r7) (.ite (.t 25) (.seq (.reg c227_r8) .ret) .skip)) (.seq (.seq (.reg c227_r9) (.ite (.t 30) (.seq (.reg c227_r10) .ret) .skip)) (.seq (.seq (.reg c227_r11) (.ite (.t 35) (.seq (.reg c227_r12) .ret) .skip)) (.seq (.seq (.reg c227_r13) (.ite (.t 41) (.seq (.reg c227_r14) .ret) .skip)) (.seq (.reg c227_r15) .ret))))))))) }
def K227 (C : CRel) : Prop := ∀ (a0 : DAuthority) (a1 : DAuthority) (r : Bool), g227 a0 a1 = some r → C 227 ⟨[.agg [.str a0.name_, .lst 1 (a0.seed.map eU8), .int .i64 a0.serial, .int .i64 a0.number, .str a0.suffix, .int .i64 a0.most, .lst 4 (a0.list_.map eDIssued)], .agg [.str a1.name_, .lst 1 (a1.seed.map eU8), .int .i64 a1.serial, .int .i64 a1.number, .str a1.suffix, .int .i64 a1.most, .lst 4 (a1.list_.map eDIssued)]], []⟩ ⟨.bool r, [], []⟩
theorem F227 {C : CRel} (H233 : K233 C) (H288 : K288 C) (a0 : DAuthority) (a1 : DAuthority) (r : Bool) (h0 : g227 a0 a1 = some r) : FnOK C c227 ⟨[.agg [.str a0.name_, .lst 1 (a0.seed.map eU8), .int .i64 a0.serial, .int .i64 a0.number, .str a0.suffix, .int .i64 a0.most, .lst 4 (a0.list_.map eDIssued)], .agg [.str a1.name_, .lst 1 (a1.seed.map eU8), .int .i64 a1.serial, .int .i64 a1.number, .str a1.suffix, .int .i64 a1.most, .lst 4 (a1.list_.map eDIssued)]], []⟩ ⟨.bool r, [], []⟩ := by
  refine fn_ (Nat.le_of_ble_eq_true rfl) ?_
  refine seq_ ?_
  refine reg_ ?_
  refine st (box_ rfl trivial rfl ?_)
  refine st (box_ rfl trivial rfl ?_)
  refine st (mvc_ trivial ?_)
  refine oe_ ?_
  refine wk_ ⟨[(2, .ptr 128 0), (3, .ptr 192 0)], [(128, [.str a0.name_, .lst 1 (a0.seed.map eU8), .int .i64 a0.serial, .int .i64 a0.number, .str a0.suffix, .int .i64 a0.most, .lst 4 (a0.list_.map eDIssued)]), (192, [.str a1.name_, .lst 1 (a1.seed.map eU8), .int .i64 a1.serial, .int .i64 a1.number, .str a1.suffix, .int .i64 a1.most, .lst 4 (a1.list_.map eDIssued)])], []⟩ (fgk (by kernel_rfl)) ?_
  refine seq_ ?_
  refine seq_ ?_
  refine reg_ ?_
  refine st (c_ (cp_ ⟨trivial, trivial⟩ rfl trivial) ?_)
  refine st (c_ (cp_ ⟨trivial, trivial⟩ rfl (Nat.le_of_ble_eq_true rfl)) ?_)
  refine st (c_ (cp_ ⟨trivial, trivial⟩ rfl trivial) ?_)
  refine st (c_ (cp_ ⟨trivial, trivial⟩ rfl (Nat.le_of_ble_eq_true rfl)) ?_)
  refine st (c_ (cp_ ⟨trivial, trivial, trivial⟩ rfl trivial) ?_)
  refine oe_ ?_
  refine wk_ ⟨[(2, .ptr 128 0), (3, .ptr 192 0), (9, .bool (!(a0.name_ == a1.name_)))], [(128, [.str a0.name_, .lst 1 (a0.seed.map eU8), .int .i64 a0.serial, .int .i64 a0.number, .str a0.suffix, .int .i64 a0.most, .lst 4 (a0.list_.map eDIssued)]), (192, [.str a1.name_, .lst 1 (a1.seed.map eU8), .int .i64 a1.serial, .int .i64 a1.number, .str a1.suffix, .int .i64 a1.most, .lst 4 (a1.list_.map eDIssued)])], []⟩ (fgk (by kernel_rfl)) ?_
  refine ite_ (cb := (!(a0.name_ == a1.name_))) rfl (fun c1 => ?_) (fun c1 => ?_)
  · replace h0 := ip c1 h0
    refine seq_ ?_
    refine reg_ ?_
    refine st (mvc_ trivial ?_)
    refine oe_ ?_
    refine wk_ ⟨[(4, .bool false)], [], []⟩ (fgk (by kernel_rfl)) ?_
    obtain rfl := Option.some.inj h0
    exact rt_ (ret_ rfl rfl rfl rfl rfl trivial)
  · replace h0 := inb c1 h0
    refine sk_ ?_
    refine wk_ ⟨[(2, .ptr 128 0), (3, .ptr 192 0)], [(128, [.str a0.name_, .lst 1 (a0.seed.map eU8), .int .i64 a0.serial, .int .i64 a0.number, .str a0.suffix, .int .i64 a0.most, .lst 4 (a0.list_.map eDIssued)]), (192, [.str a1.name_, .lst 1 (a1.seed.map eU8), .int .i64 a1.serial, .int .i64 a1.number, .str a1.suffix, .int .i64 a1.most, .lst 4 (a1.list_.map eDIssued)])], []⟩ (fgk (by kernel_rfl)) ?_
    refine seq_ ?_
    refine seq_ ?_
    refine reg_ ?_
    refine st (c_ (cp_ ⟨trivial, trivial⟩ rfl trivial) ?_)
    refine st (c_ (cp_ ⟨trivial, trivial⟩ rfl (Nat.le_of_ble_eq_true rfl)) ?_)
    refine st (c_ (cp_ ⟨trivial, trivial⟩ rfl trivial) ?_)
    refine st (c_ (cp_ ⟨trivial, trivial⟩ rfl (Nat.le_of_ble_eq_true rfl)) ?_)
    obtain ⟨r2, e3, h0⟩ := bnd h0
    refine st (call0_ (r := .bool r2) false (H233 a0.seed a1.seed r2 e3) ⟨trivial, trivial, trivial⟩ rfl rfl (fun _ => rfl) ?_)
    refine st (c_ (cp_ ⟨trivial, trivial⟩ rfl trivial) ?_)
    refine oe_ ?_
    refine wk_ ⟨[(2, .ptr 128 0), (3, .ptr 192 0), (15, .bool (!r2))], [(128, [.str a0.name_, .lst 1 (a0.seed.map eU8), .int .i64 a0.serial, .int .i64 a0.number, .str a0.suffix, .int .i64 a0.most, .lst 4 (a0.list_.map eDIssued)]), (192, [.str a1.name_, .lst 1 (a1.seed.map eU8), .int .i64 a1.serial, .int .i64 a1.number, .str a1.suffix, .int .i64 a1.most, .lst 4 (a1.list_.map eDIssued)])], []⟩ (fgk (by kernel_rfl)) ?_
    refine ite_ (cb := (!r2)) rfl (fun c4 => ?_) (fun c4 => ?_)
    · replace h0 := ip c4 h0
      refine seq_ ?_
      refine reg_ ?_
      refine st (mvc_ trivial ?_)
      refine oe_ ?_
      refine wk_ ⟨[(4, .bool false)], [], []⟩ (fgk (by kernel_rfl)) ?_
      obtain rfl := Option.some.inj h0
      exact rt_ (ret_ rfl rfl rfl rfl rfl trivial)
    · replace h0 := inb c4 h0
      refine sk_ ?_
      refine wk_ ⟨[(2, .ptr 128 0), (3, .ptr 192 0)], [(128, [.str a0.name_, .lst 1 (a0.seed.map eU8), .int .i64 a0.serial, .int .i64 a0.number, .str a0.suffix, .int .i64 a0.most, .lst 4 (a0.list_.map eDIssued)]), (192, [.str a1.name_, .lst 1 (a1.seed.map eU8), .int .i64 a1.serial, .int .i64 a1.number, .str a1.suffix, .int .i64 a1.most, .lst 4 (a1.list_.map eDIssued)])], []⟩ (fgk (by kernel_rfl)) ?_
      refine seq_ ?_
      refine seq_ ?_
      refine reg_ ?_
      refine st (c_ (cp_ ⟨trivial, trivial⟩ rfl trivial) ?_)
      refine st (c_ (cp_ ⟨trivial, trivial⟩ rfl (Nat.le_of_ble_eq_true rfl)) ?_)
      refine st (c_ (cp_ ⟨trivial, trivial⟩ rfl trivial) ?_)
      refine st (c_ (cp_ ⟨trivial, trivial⟩ rfl (Nat.le_of_ble_eq_true rfl)) ?_)
      refine st (c_ (cp_ ⟨trivial, trivial, trivial⟩ rfl trivial) ?_)
      refine oe_ ?_
      refine wk_ ⟨[(2, .ptr 128 0), (3, .ptr 192 0), (20, .bool (a0.serial != a1.serial))], [(128, [.str a0.name_, .lst 1 (a0.seed.map eU8), .int .i64 a0.serial, .int .i64 a0.number, .str a0.suffix, .int .i64 a0.most, .lst 4 (a0.list_.map eDIssued)]), (192, [.str a1.name_, .lst 1 (a1.seed.map eU8), .int .i64 a1.serial, .int .i64 a1.number, .str a1.suffix, .int .i64 a1.most, .lst 4 (a1.list_.map eDIssued)])], []⟩ (fgk (by kernel_rfl)) ?_
      refine ite_ (cb := (a0.serial != a1.serial)) rfl (fun c5 => ?_) (fun c5 => ?_)
      · replace h0 := ip c5 h0
        refine seq_ ?_
        refine reg_ ?_
        refine st (mvc_ trivial ?_)
        refine oe_ ?_
        refine wk_ ⟨[(4, .bool false)], [], []⟩ (fgk (by kernel_rfl)) ?_
        obtain rfl := Option.some.inj h0
        exact rt_ (ret_ rfl rfl rfl rfl rfl trivial)
      · replace h0 := inb c5 h0
        refine sk_ ?_
        refine wk_ ⟨[(2, .ptr 128 0), (3, .ptr 192 0)], [(128, [.str a0.name_, .lst 1 (a0.seed.map eU8), .int .i64 a0.serial, .int .i64 a0.number, .str a0.suffix, .int .i64 a0.most, .lst 4 (a0.list_.map eDIssued)]), (192, [.str a1.name_, .lst 1 (a1.seed.map eU8), .int .i64 a1.serial, .int .i64 a1.number, .str a1.suffix, .int .i64 a1.most, .lst 4 (a1.list_.map eDIssued)])], []⟩ (fgk (by kernel_rfl)) ?_
        refine seq_ ?_
        refine seq_ ?_
        refine reg_ ?_
        refine st (c_ (cp_ ⟨trivial, trivial⟩ rfl trivial) ?_)
        refine st (c_ (cp_ ⟨trivial, trivial⟩ rfl (Nat.le_of_ble_eq_true rfl)) ?_)
        refine st (c_ (cp_ ⟨trivial, trivial⟩ rfl trivial) ?_)
        refine st (c_ (cp_ ⟨trivial, trivial⟩ rfl (Nat.le_of_ble_eq_true rfl)) ?_)
        refine st (c_ (cp_ ⟨trivial, trivial, trivial⟩ rfl trivial) ?_)
        refine oe_ ?_
        refine wk_ ⟨[(2, .ptr 128 0), (3, .ptr 192 0), (25, .bool (a0.number != a1.number))], [(128, [.str a0.name_, .lst 1 (a0.seed.map eU8), .int .i64 a0.serial, .int .i64 a0.number, .str a0.suffix, .int .i64 a0.most, .lst 4 (a0.list_.map eDIssued)]), (192, [.str a1.name_, .lst 1 (a1.seed.map eU8), .int .i64 a1.serial, .int .i64 a1.number, .str a1.suffix, .int .i64 a1.most, .lst 4 (a1.list_.map eDIssued)])], []⟩ (fgk (by kernel_rfl)) ?_
        refine ite_ (cb := (a0.number != a1.number)) rfl (fun c6 => ?_) (fun c6 => ?_)
        · replace h0 := ip c6 h0
          refine seq_ ?_
          refine reg_ ?_
          refine st (mvc_ trivial ?_)
          refine oe_ ?_
          refine wk_ ⟨[(4, .bool false)], [], []⟩ (fgk (by kernel_rfl)) ?_
          obtain rfl := Option.some.inj h0
          exact rt_ (ret_ rfl rfl rfl rfl rfl trivial)
        · replace h0 := inb c6 h0
          refine sk_ ?_
          refine wk_ ⟨[(2, .ptr 128 0), (3, .ptr 192 0)], [(128, [.str a0.name_, .lst 1 (a0.seed.map eU8), .int .i64 a0.serial, .int .i64 a0.number, .str a0.suffix, .int .i64 a0.most, .lst 4 (a0.list_.map eDIssued)]), (192, [.str a1.name_, .lst 1 (a1.seed.map eU8), .int .i64 a1.serial, .int .i64 a1.number, .str a1.suffix, .int .i64 a1.most, .lst 4 (a1.list_.map eDIssued)])], []⟩ (fgk (by kernel_rfl)) ?_
          refine seq_ ?_
          refine seq_ ?_
          refine reg_ ?_
          refine st (c_ (cp_ ⟨trivial, trivial⟩ rfl trivial) ?_)
          refine st (c_ (cp_ ⟨trivial, trivial⟩ rfl (Nat.le_of_ble_eq_true rfl)) ?_)
          refine st (c_ (cp_ ⟨trivial, trivial⟩ rfl trivial) ?_)
          refine st (c_ (cp_ ⟨trivial, trivial⟩ rfl (Nat.le_of_ble_eq_true rfl)) ?_)
          refine st (c_ (cp_ ⟨trivial, trivial, trivial⟩ rfl trivial) ?_)
          refine oe_ ?_
          refine wk_ ⟨[(2, .ptr 128 0), (3, .ptr 192 0), (30, .bool (!(a0.suffix == a1.suffix)))], [(128, [.str a0.name_, .lst 1 (a0.seed.map eU8), .int .i64 a0.serial, .int .i64 a0.number, .str a0.suffix, .int .i64 a0.most, .lst 4 (a0.list_.map eDIssued)]), (192, [.str a1.name_, .lst 1 (a1.seed.map eU8), .int .i64 a1.serial, .int .i64 a1.number, .str a1.suffix, .int .i64 a1.most, .lst 4 (a1.list_.map eDIssued)])], []⟩ (fgk (by kernel_rfl)) ?_
          refine ite_ (cb := (!(a0.suffix == a1.suffix))) rfl (fun c7 => ?_) (fun c7 => ?_)
          · replace h0 := ip c7 h0
            refine seq_ ?_
            refine reg_ ?_
            refine st (mvc_ trivial ?_)
            refine oe_ ?_
            refine wk_ ⟨[(4, .bool false)], [], []⟩ (fgk (by kernel_rfl)) ?_
            obtain rfl := Option.some.inj h0
            exact rt_ (ret_ rfl rfl rfl rfl rfl trivial)
          · replace h0 := inb c7 h0
            refine sk_ ?_
            refine wk_ ⟨[(2, .ptr 128 0), (3, .ptr 192 0)], [(128, [.str a0.name_, .lst 1 (a0.seed.map eU8), .int .i64 a0.serial, .int .i64 a0.number, .str a0.suffix, .int .i64 a0.most, .lst 4 (a0.list_.map eDIssued)]), (192, [.str a1.name_, .lst 1 (a1.seed.map eU8), .int .i64 a1.serial, .int .i64 a1.number, .str a1.suffix, .int .i64 a1.most, .lst 4 (a1.list_.map eDIssued)])], []⟩ (fgk (by kernel_rfl)) ?_
            refine seq_ ?_
            refine seq_ ?_
            refine reg_ ?_
            refine st (c_ (cp_ ⟨trivial, trivial⟩ rfl trivial) ?_)
            refine st (c_ (cp_ ⟨trivial, trivial⟩ rfl (Nat.le_of_ble_eq_true rfl)) ?_)
            refine st (c_ (cp_ ⟨trivial, trivial⟩ rfl trivial) ?_)
            refine st (c_ (cp_ ⟨trivial, trivial⟩ rfl (Nat.le_of_ble_eq_true rfl)) ?_)
            refine st (c_ (cp_ ⟨trivial, trivial, trivial⟩ rfl trivial) ?_)
            refine oe_ ?_
            refine wk_ ⟨[(2, .ptr 128 0), (3, .ptr 192 0), (35, .bool (a0.most != a1.most))], [(128, [.str a0.name_, .lst 1 (a0.seed.map eU8), .int .i64 a0.serial, .int .i64 a0.number, .str a0.suffix, .int .i64 a0.most, .lst 4 (a0.list_.map eDIssued)]), (192, [.str a1.name_, .lst 1 (a1.seed.map eU8), .int .i64 a1.serial, .int .i64 a1.number, .str a1.suffix, .int .i64 a1.most, .lst 4 (a1.list_.map eDIssued)])], []⟩ (fgk (by kernel_rfl)) ?_
            refine ite_ (cb := (a0.most != a1.most)) rfl (fun c8 => ?_) (fun c8 => ?_)
            · replace h0 := ip c8 h0
              refine seq_ ?_
              refine reg_ ?_
              refine st (mvc_ trivial ?_)
              refine oe_ ?_
              refine wk_ ⟨[(4, .bool false)], [], []⟩ (fgk (by kernel_rfl)) ?_
              obtain rfl := Option.some.inj h0
              exact rt_ (ret_ rfl rfl rfl rfl rfl trivial)
            · replace h0 := inb c8 h0
              refine sk_ ?_
              refine wk_ ⟨[(2, .ptr 128 0), (3, .ptr 192 0)], [(128, [.str a0.name_, .lst 1 (a0.seed.map eU8), .int .i64 a0.serial, .int .i64 a0.number, .str a0.suffix, .int .i64 a0.most, .lst 4 (a0.list_.map eDIssued)]), (192, [.str a1.name_, .lst 1 (a1.seed.map eU8), .int .i64 a1.serial, .int .i64 a1.number, .str a1.suffix, .int .i64 a1.most, .lst 4 (a1.list_.map eDIssued)])], []⟩ (fgk (by kernel_rfl)) ?_
              refine seq_ ?_
              refine seq_ ?_
              refine reg_ ?_
              refine st (c_ (cp_ ⟨trivial, trivial⟩ rfl trivial) ?_)
              refine st (c_ (cp_ ⟨trivial, trivial⟩ rfl (Nat.le_of_ble_eq_true rfl)) ?_)
              refine st (c_ (cp_ ⟨trivial, trivial⟩ rfl trivial) ?_)
              refine st (c_ (cp_ ⟨trivial, trivial⟩ rfl (Nat.le_of_ble_eq_true rfl)) ?_)
              obtain ⟨r9, e10, h0⟩ := bnd h0
              refine st (call0_ (r := .bool r9) false (H288 a0.list_ a1.list_ r9 e10) ⟨trivial, trivial, trivial⟩ rfl rfl (fun _ => rfl) ?_)
              refine st (c_ (cp_ ⟨trivial, trivial⟩ rfl trivial) ?_)
              refine oe_ ?_
              refine wk_ ⟨[(41, .bool (!r9))], [], []⟩ (fgk (by kernel_rfl)) ?_
              refine ite_ (cb := (!r9)) rfl (fun c11 => ?_) (fun c11 => ?_)
              · replace h0 := ip c11 h0
                refine seq_ ?_
                refine reg_ ?_
                refine st (mvc_ trivial ?_)
                refine oe_ ?_
                refine wk_ ⟨[(4, .bool false)], [], []⟩ (fgk (by kernel_rfl)) ?_
                obtain rfl := Option.some.inj h0
                exact rt_ (ret_ rfl rfl rfl rfl rfl trivial)
              · replace h0 := inb c11 h0
                refine sk_ ?_
                refine wk_ ⟨[], [], []⟩ (fgk (by kernel_rfl)) ?_
                refine seq_ ?_
                refine reg_ ?_
                refine st (mvc_ trivial ?_)
                refine oe_ ?_
                refine wk_ ⟨[(4, .bool true)], [], []⟩ (fgk (by kernel_rfl)) ?_
                obtain rfl := Option.some.inj h0
                exact rt_ (ret_ rfl rfl rfl rfl rfl trivial)

/- loop.example/g00149/spec.l01In -/
def c56_r0 : List Ins := [⟨some 6, .p (.mv (.c (.bool false))), none⟩]
def c56_r1 : List Ins := [⟨some 7, .p (.mv (.t 0)), none⟩,
 ⟨some 8, .p (.mv (.t 1)), none⟩,
 ⟨some 9, .p (.bin .geq (.t 7) (.t 8)), none⟩,
 ⟨some 10, .p (.mv (.t 9)), none⟩,
 ⟨some 11, .p (.mv (.t 0)), some (10, true)⟩,
 ⟨some 12, .p (.mv (.t 2)), some (10, true)⟩,
 ⟨some 13, .p (.bin .leq (.t 11) (.t 12)), some (10, true)⟩,
 ⟨some 14, .pick (.t 10) (.t 13) (.c (.bool false)), none⟩,
 ⟨some 6, .p (.mv (.t 14)), none⟩]
def c56 : XFn := { np := 3, nt := 15, res := [.t 6], body := (.seq (.reg c56_r0) (.seq (.reg c56_r1) .ret)) }
def K56 (C : CRel) : Prop := ∀ (a0 : Int) (a1 : Int) (a2 : Int) (r : Bool), g56 a0 a1 a2 = some r → C 56 ⟨[.int .i64 a0, .int .i64 a1, .int .i64 a2], []⟩ ⟨.bool r, [], []⟩
theorem F56 {C : CRel}  (a0 : Int) (a1 : Int) (a2 : Int) (r : Bool) (h0 : g56 a0 a1 a2 = some r) : FnOK C c56 ⟨[.int .i64 a0, .int .i64 a1, .int .i64 a2], []⟩ ⟨.bool r, [], []⟩ := by
  refine fn_ (Nat.le_of_ble_eq_true rfl) ?_
  refine seq_ ?_
  refine reg_ ?_
  refine st (mvc_ trivial ?_)
  refine oe_ ?_
  refine wk_ ⟨[(0, .int .i64 a0), (1, .int .i64 a1), (2, .int .i64 a2)], [], []⟩ (fgk (by kernel_rfl)) ?_
  refine seq_ ?_
  refine reg_ ?_
  refine st (mv_ rfl trivial ?_)
  refine st (mv_ rfl trivial ?_)
  refine st (c_ (cp_ ⟨trivial, trivial, trivial⟩ rfl trivial) ?_)
  refine st (mv_ rfl trivial ?_)
  refine st (pg_ (u := .int .i64 a0) rfl (fun hg => (cmv (v := .int .i64 a0) rfl trivial)) ?_)
  refine st (pg_ (u := .int .i64 a2) rfl (fun hg => (cmv (v := .int .i64 a2) rfl trivial)) ?_)
  refine st (pg_ (u := .bool (decide (a0 ≤ a2))) rfl (fun hg => (cp_ ⟨(fun _ => hg), (fun _ => hg), trivial⟩ rfl trivial)) ?_)
  refine st (pick_ rfl rfl rfl (fun h => eqt h) trivial rfl ?_)
  refine st (mv_ rfl trivial ?_)
  refine oe_ ?_
  refine wk_ ⟨[(6, .bool (bif (decide (a0 ≥ a1)) then (decide (a0 ≤ a2)) else false))], [], []⟩ (fgk (by kernel_rfl)) ?_
  obtain rfl := Option.some.inj h0
  exact rt_ (ret_ rfl rfl rfl rfl rfl trivial)

/- loop.example/g00149/spec.l00Digit -/
def c335_r0 : List Ins := [⟨some 2, .p (.mv (.c (.bool false))), none⟩]
def c335_r1 : List Ins := [⟨some 3, .p (.mv (.t 0)), none⟩,
 ⟨some 4, .p (.bin .geq (.t 3) (.c (.int .u8 48))), none⟩,
 ⟨some 5, .p (.mv (.t 4)), none⟩,
 ⟨some 6, .p (.mv (.t 0)), some (5, true)⟩,
 ⟨some 7, .p (.bin .leq (.t 6) (.c (.int .u8 57))), some (5, true)⟩,
 ⟨some 8, .pick (.t 5) (.t 7) (.c (.bool false)), none⟩,
 ⟨some 2, .p (.mv (.t 8)), none⟩]
def c335 : XFn := { np := 1, nt := 9, res := [.t 2], body := (.seq (.reg c335_r0) (.seq (.reg c335_r1) .ret)) }
def K335 (C : CRel) : Prop := ∀ (a0 : UInt8) (r : Bool), g335 a0 = some r → C 335 ⟨[.int .u8 ((a0).toNat : Int)], []⟩ ⟨.bool r, [], []⟩
theorem F335 {C : CRel}  (a0 : UInt8) (r : Bool) (h0 : g335 a0 = some r) : FnOK C c335 ⟨[.int .u8 ((a0).toNat : Int)], []⟩ ⟨.bool r, [], []⟩ := by
  refine fn_ (Nat.le_of_ble_eq_true rfl) ?_
  refine seq_ ?_
  refine reg_ ?_
  refine st (mvc_ trivial ?_)
  refine oe_ ?_
  refine wk_ ⟨[(0, .int .u8 ((a0).toNat : Int))], [], []⟩ (fgk (by kernel_rfl)) ?_
  refine seq_ ?_
  refine reg_ ?_
  refine st (mv_ rfl trivial ?_)
  refine st (c_ (cp_ ⟨trivial, trivial, trivial⟩ rfl trivial) ?_)
  refine st (mv_ rfl trivial ?_)
  refine st (pg_ (u := .int .u8 ((a0).toNat : Int)) rfl (fun hg => (cmv (v := .int .u8 ((a0).toNat : Int)) rfl trivial)) ?_)
  refine st (pg_ (u := .bool (decide (((a0).toNat : Int) ≤ 57))) rfl (fun hg => (cp_ ⟨(fun _ => hg), trivial, trivial⟩ rfl trivial)) ?_)
  refine st (pick_ rfl rfl rfl (fun h => eqt h) trivial rfl ?_)
  refine st (mv_ rfl trivial ?_)
  refine oe_ ?_
  obtain ⟨v1, e2, h0⟩ := bl h0
  refine wk_ ⟨[(2, .bool v1)], [], []⟩ (fgk (by subst e2; kernel_rfl)) ?_
  obtain rfl := Option.some.inj h0
  exact rt_ (ret_ rfl rfl rfl rfl rfl trivial)

/- loop.example/g00149/spec.l04Printable -/
def c279_r0 : List Ins := [⟨some 2, .p (.mv (.c (.bool false))), none⟩]
def c279_r1 : List Ins := [⟨some 3, .p (.mv (.c (.int .i64 0))), none⟩]
def c279_r2 : List Ins := [⟨some 8, .p (.mv (.t 3)), none⟩,
 ⟨some 9, .p (.mv (.t 0)), none⟩,
 ⟨some 10, .p (.lenS (.t 9)), none⟩,
 ⟨some 11, .p (.bin .lss (.t 8) (.t 10)), none⟩]
def c279_r3 : List Ins := [⟨some 14, .p (.mv (.t 0)), none⟩,
 ⟨some 15, .p (.mv (.t 3)), none⟩,
 ⟨some 16, .p (.idxStr (.t 14) (.t 15)), none⟩,
 ⟨some 4, .p (.mv (.t 16)), none⟩]
def c279_r4 : List Ins := [⟨some 17, .p (.mv (.t 4)), none⟩,
 ⟨some 18, .call 335 [(.t 17)], none⟩,
 ⟨some 19, .p (.mv (.t 18)), none⟩,
 ⟨some 20, .p (.mv (.t 4)), some (19, false)⟩,
 ⟨some 21, .p (.bin .geq (.t 20) (.c (.int .u8 65))), some (19, false)⟩,
 ⟨some 22, .p (.mv (.t 21)), some (19, false)⟩,
 ⟨some 23, .p (.mv (.t 4)), some (22, true)⟩,
 ⟨some 24, .p (.bin .leq (.t 23) (.c (.int .u8 90))), some (22, true)⟩,
 ⟨some 25, .pick (.t 22) (.t 24) (.c (.bool false)), some (19, false)⟩,
 ⟨some 26, .pick (.t 19) (.c (.bool true)) (.t 25), none⟩,
 ⟨some 27, .p (.mv (.t 26)), none⟩,
 ⟨some 28, .p (.mv (.t 4)), some (27, false)⟩,
 ⟨some 29, .p (.bin .geq (.t 28) (.c (.int .u8 97))), some (27, false)⟩,
 ⟨some 30, .p (.mv (.t 29)), some (27, false)⟩,
 ⟨some 31, .p (.mv (.t 4)), some (30, true)⟩,
 ⟨some 32, .p (.bin .leq (.t 31) (.c (.int .u8 122))), some (30, true)⟩,
 ⟨some 33, .pick (.t 30) (.t 32) (.c (.bool false)), some (27, false)⟩,
 ⟨some 34, .pick (.t 27) (.c (.bool true)) (.t 33), none⟩,
 ⟨some 5, .p (.mv (.t 34)), none⟩]
def c279_r5 : List Ins := [⟨some 6, .p (.mv (.c (.str [32, 39, 40, 41, 43, 44, 45, 46, 47, 58, 61, 63]))), none⟩]
def c279_r6 : List Ins := [⟨some 7, .p (.mv (.c (.int .i64 0))), none⟩]
def c279_r7 : List Ins := [⟨some 35, .p (.mv (.t 7)), none⟩,
 ⟨some 36, .p (.mv (.t 6)), none⟩,
 ⟨some 37, .p (.lenS (.t 36)), none⟩,
 ⟨some 38, .p (.bin .lss (.t 35) (.t 37)), none⟩]
def c279_r8 : List Ins := [⟨some 41, .p (.mv (.t 5)), none⟩,
 ⟨some 42, .p (.mv (.t 41)), none⟩,
 ⟨some 43, .p (.mv (.t 6)), some (42, false)⟩,
 ⟨some 44, .p (.mv (.t 7)), some (42, false)⟩,
 ⟨some 45, .p (.idxStr (.t 43) (.t 44)), some (42, false)⟩,
 ⟨some 46, .p (.mv (.t 4)), some (42, false)⟩,
 ⟨some 47, .p (.bin .eql (.t 45) (.t 46)), some (42, false)⟩,
 ⟨some 48, .pick (.t 42) (.c (.bool true)) (.t 47), none⟩,
 ⟨some 5, .p (.mv (.t 48)), none⟩]
def c279_r9 : List Ins := [⟨some 39, .p (.mv (.t 7)), none⟩,
 ⟨some 40, .p (.bin .add (.t 39) (.c (.int .i64 1))), none⟩,
 ⟨some 7, .p (.mv (.t 40)), none⟩]
def c279_l0 : IR := (.seq (.seq (.reg c279_r7) (.ite (.t 38) .skip (.exit 2))) (.seq (.block 3 (.reg c279_r8)) (.reg c279_r9)))
def c279_r10 : List Ins := [⟨some 49, .p (.mv (.t 5)), none⟩,
 ⟨some 50, .p (.un .not (.t 49)), none⟩]
def c279_r11 : List Ins := [⟨some 2, .p (.mv (.c (.bool false))), none⟩]
def c279_r12 : List Ins := [⟨some 12, .p (.mv (.t 3)), none⟩,
 ⟨some 13, .p (.bin .add (.t 12) (.c (.int .i64 1))), none⟩,
 ⟨some 3, .p (.mv (.t 13)), none⟩]
def c279_l1 : IR := (.seq (.seq (.reg c279_r2) (.ite (.t 11) .skip (.exit 0))) (.seq (.block 1 (.seq (.reg c279_r3) (.seq (.reg c279_r4) (.seq (.reg c279_r5) (.seq (.seq (.reg c279_r6) (.block 2 (.loop c279_l0))) (.seq (.reg c279_r10) (.ite (.t 50) (.seq (.reg c279_r11) .ret) .skip))))))) (.reg c279_r12)))
def c279_r13 : List Ins := [⟨some 2, .p (.mv (.c (.bool true))), none⟩]
def c279 : XFn := { np := 1, nt := 51, res := [.t 2], body := (.seq (.reg c279_r0) (.seq (.seq (.reg c279_r1) (.block 0 (.loop c279_l1))) (.seq (.reg c279_r13) .ret))) }
def K279 (C : CRel) : Prop := ∀ (a0 : List UInt8) (r : Bool), g279 a0 = some r → C 279 ⟨[.str a0], []⟩ ⟨.bool r, [], []⟩
theorem F279 {C : CRel} (H335 : K335 C) (a0 : List UInt8) (r : Bool) (h0 : g279 a0 = some r) : FnOK C c279 ⟨[.str a0], []⟩ ⟨.bool r, [], []⟩ := by
  refine fn_ (Nat.le_of_ble_eq_true rfl) ?_
  refine seq_ ?_
  refine reg_ ?_
  refine st (mvc_ trivial ?_)
  refine oe_ ?_
  refine wk_ ⟨[(0, .str a0)], [], []⟩ (fgk (by kernel_rfl)) ?_
  refine seq_ ?_
  refine seq_ ?_
  refine reg_ ?_
  refine st (mvc_ trivial ?_)
  refine oe_ ?_
  refine wk_ ⟨[(0, .str a0), (3, .int .i64 0)], [], []⟩ (fgk (by kernel_rfl)) ?_
  refine block_ ?_
  obtain ⟨r79, e80, h0⟩ := bnd h0
  refine loop_ (R := (fun S => .inl () = r79 ∧ S = ⟨[], [], []⟩)) (g279_l0 a0) (fun s S => match s with | p24 => S = ⟨[(0, .str a0), (3, .int .i64 p24)], [], []⟩) e80 ⟨[(0, .str a0), (3, .int .i64 0)], [], []⟩ (fgk (by kernel_rfl)) rfl 0 (fun _ => rfl) ?_ ?_
  · rintro S _ hfg ⟨rfl, rfl⟩
    refine wk_ ⟨[], [], []⟩ (fglk hfg (by kernel_rfl)) ?_
    refine seq_ ?_
    refine reg_ ?_
    refine st (mvc_ trivial ?_)
    refine oe_ ?_
    refine wk_ ⟨[(2, .bool true)], [], []⟩ (fgk (by kernel_rfl)) ?_
    obtain rfl := Option.some.inj h0
    exact rt_ (ret_ rfl rfl rfl rfl rfl trivial)
  · rintro p24 o1 _ K1 rfl h1 hx1 hK1 hE1 hR1
    refine seq_ ?_
    refine seq_ ?_
    refine reg_ ?_
    refine st (mv_ rfl trivial ?_)
    refine st (mv_ rfl trivial ?_)
    refine st (c_ (cp_ ⟨trivial, trivial⟩ rfl trivial) ?_)
    refine st (c_ (cp_ ⟨trivial, trivial, trivial⟩ rfl trivial) ?_)
    refine oe_ ?_
    refine wk_ ⟨[(0, .str a0), (3, .int .i64 p24), (11, .bool (decide (p24 < (a0.length : Int))))], [], []⟩ (fgk (by kernel_rfl)) ?_
    refine ite_ (cb := (decide (p24 < (a0.length : Int)))) rfl (fun c49 => ?_) (fun c49 => ?_)
    · replace h1 := ip c49 h1
      refine sk_ ?_
      refine wk_ ⟨[(0, .str a0), (3, .int .i64 p24)], [], []⟩ (fgk (by kernel_rfl)) ?_
      refine seq_ ?_
      refine block_ ?_
      refine seq_ ?_
      refine reg_ ?_
      refine st (mv_ rfl trivial ?_)
      refine st (mv_ rfl trivial ?_)
      obtain ⟨y50, e51, h1⟩ := bnd h1
      refine st (c_ (cidxS (y := y50) rfl rfl trivial rfl rfl trivial e51) ?_)
      refine st (mv_ rfl trivial ?_)
      refine oe_ ?_
      refine wk_ ⟨[(0, .str a0), (3, .int .i64 p24), (4, .int .u8 ((y50).toNat : Int))], [], []⟩ (fgk (by kernel_rfl)) ?_
      refine seq_ ?_
      refine reg_ ?_
      refine st (mv_ rfl trivial ?_)
      obtain ⟨r52, e53, h1⟩ := bnd h1
      refine st (call0_ (r := .bool r52) false (H335 y50 r52 e53) ⟨trivial, trivial⟩ rfl rfl (fun _ => rfl) ?_)
      refine st (mv_ rfl trivial ?_)
      refine st (pg_ (u := .int .u8 ((y50).toNat : Int)) rfl (fun hg => (cmv (v := .int .u8 ((y50).toNat : Int)) rfl trivial)) ?_)
      refine st (pg_ (u := .bool (decide (((y50).toNat : Int) ≥ 65))) rfl (fun hg => (cp_ ⟨(fun _ => hg), trivial, trivial⟩ rfl trivial)) ?_)
      refine st (pg_ (u := .bool (decide (((y50).toNat : Int) ≥ 65))) rfl (fun hg => (cmv (v := .may (r52 == false) (.bool (decide (((y50).toNat : Int) ≥ 65)))) rfl (fun _ => hg))) ?_)
      refine st (pg_ (u := .int .u8 ((y50).toNat : Int)) rfl (fun hg => (cmv (v := .int .u8 ((y50).toNat : Int)) rfl trivial)) ?_)
      refine st (pg_ (u := .bool (decide (((y50).toNat : Int) ≤ 90))) rfl (fun hg => (cp_ ⟨(fun _ => hg), trivial, trivial⟩ rfl trivial)) ?_)
      refine st (pickg_ (u := .bool (bif (decide (((y50).toNat : Int) ≥ 65)) then (decide (((y50).toNat : Int) ≤ 90)) else false)) rfl (fun hg => cpick rfl rfl (fun _ => hg) rfl rfl (fun h => and_ hg (eqt h)) trivial rfl) ?_)
      refine st (pick_ rfl rfl rfl trivial (fun h => eqf h) rfl ?_)
      refine st (mv_ rfl trivial ?_)
      refine st (pg_ (u := .int .u8 ((y50).toNat : Int)) rfl (fun hg => (cmv (v := .int .u8 ((y50).toNat : Int)) rfl trivial)) ?_)
      refine sw ⟨[(0, .str a0), (3, .int .i64 p24), (4, .int .u8 ((y50).toNat : Int)), (27, .bool (bif r52 then true else (bif (decide (((y50).toNat : Int) ≥ 65)) then (decide (((y50).toNat : Int) ≤ 90)) else false))), (28, .may ((bif r52 then true else (bif (decide (((y50).toNat : Int) ≥ 65)) then (decide (((y50).toNat : Int) ≤ 90)) else false)) == false) (.int .u8 ((y50).toNat : Int)))], [], []⟩ (fgk (by kernel_rfl)) (pg_ (u := .bool (decide (((y50).toNat : Int) ≥ 97))) rfl (fun hg => (cp_ ⟨(fun _ => hg), trivial, trivial⟩ rfl trivial)) ?_)
      refine st (pg_ (u := .bool (decide (((y50).toNat : Int) ≥ 97))) rfl (fun hg => (cmv (v := .may ((bif r52 then true else (bif (decide (((y50).toNat : Int) ≥ 65)) then (decide (((y50).toNat : Int) ≤ 90)) else false)) == false) (.bool (decide (((y50).toNat : Int) ≥ 97)))) rfl (fun _ => hg))) ?_)
      refine st (pg_ (u := .int .u8 ((y50).toNat : Int)) rfl (fun hg => (cmv (v := .int .u8 ((y50).toNat : Int)) rfl trivial)) ?_)
      refine st (pg_ (u := .bool (decide (((y50).toNat : Int) ≤ 122))) rfl (fun hg => (cp_ ⟨(fun _ => hg), trivial, trivial⟩ rfl trivial)) ?_)
      refine st (pickg_ (u := .bool (bif (decide (((y50).toNat : Int) ≥ 97)) then (decide (((y50).toNat : Int) ≤ 122)) else false)) rfl (fun hg => cpick rfl rfl (fun _ => hg) rfl rfl (fun h => and_ hg (eqt h)) trivial rfl) ?_)
      refine st (pick_ rfl rfl rfl trivial (fun h => eqf h) rfl ?_)
      refine st (mv_ rfl trivial ?_)
      refine oe_ ?_
      obtain ⟨v54, e55, h1⟩ := bl h1
      refine wk_ ⟨[(0, .str a0), (3, .int .i64 p24), (4, .int .u8 ((y50).toNat : Int)), (5, .bool v54)], [], []⟩ (fgk (by subst e55; kernel_rfl)) ?_
      refine seq_ ?_
      refine reg_ ?_
      refine st (mvc_ trivial ?_)
      refine oe_ ?_
      refine wk_ ⟨[(0, .str a0), (3, .int .i64 p24), (4, .int .u8 ((y50).toNat : Int)), (5, .bool v54), (6, .str ([32, 39, 40, 41, 43, 44, 45, 46, 47, 58, 61, 63] : List UInt8))], [], []⟩ (fgk (by kernel_rfl)) ?_
      refine seq_ ?_
      refine seq_ ?_
      refine reg_ ?_
      refine st (mvc_ trivial ?_)
      refine oe_ ?_
      refine wk_ ⟨[(0, .str a0), (3, .int .i64 p24), (4, .int .u8 ((y50).toNat : Int)), (5, .bool v54), (6, .str ([32, 39, 40, 41, 43, 44, 45, 46, 47, 58, 61, 63] : List UInt8)), (7, .int .i64 0)], [], []⟩ (fgk (by kernel_rfl)) ?_
      refine block_ ?_
      obtain ⟨r76, e77, h1⟩ := bnd h1
      refine loop_ (R := (fun S => ∃ p70 : Bool, p70 = r76 ∧ S = ⟨[(0, .str a0), (3, .int .i64 p24), (5, .bool p70)], [], []⟩)) (g279_l1 y50) (fun s S => match s with | (p61, p62) => S = ⟨[(0, .str a0), (3, .int .i64 p24), (4, .int .u8 ((y50).toNat : Int)), (5, .bool p61), (6, .str ([32, 39, 40, 41, 43, 44, 45, 46, 47, 58, 61, 63] : List UInt8)), (7, .int .i64 p62)], [], []⟩) e77 ⟨[(0, .str a0), (3, .int .i64 p24), (4, .int .u8 ((y50).toNat : Int)), (5, .bool v54), (6, .str ([32, 39, 40, 41, 43, 44, 45, 46, 47, 58, 61, 63] : List UInt8)), (7, .int .i64 0)], [], []⟩ (fgk (by kernel_rfl)) rfl 2 (fun _ => rfl) ?_ ?_
      · rintro S _ hfg ⟨p70, rfl, rfl⟩
        refine wk_ ⟨[(0, .str a0), (3, .int .i64 p24), (5, .bool p70)], [], []⟩ (fglk hfg (by kernel_rfl)) ?_
        refine seq_ ?_
        refine reg_ ?_
        refine st (mv_ rfl trivial ?_)
        refine st (c_ (cp_ ⟨trivial, trivial⟩ rfl trivial) ?_)
        refine oe_ ?_
        refine wk_ ⟨[(0, .str a0), (3, .int .i64 p24), (50, .bool (!p70))], [], []⟩ (fgk (by kernel_rfl)) ?_
        refine ite_ (cb := (!p70)) rfl (fun c78 => ?_) (fun c78 => ?_)
        · replace h1 := ip c78 h1
          refine seq_ ?_
          refine reg_ ?_
          refine st (mvc_ trivial ?_)
          refine oe_ ?_
          refine wk_ ⟨[(2, .bool false)], [], []⟩ (fgk (by kernel_rfl)) ?_
          obtain rfl := Option.some.inj h1
          obtain rfl := hx1 _ rfl
          obtain rfl := Option.some.inj h0
          exact rt_ (hR1 _ (ret_ rfl rfl rfl rfl rfl trivial))
        · replace h1 := inb c78 h1
          refine sk_ ?_
          refine bn_ ?_
          refine wk_ ⟨[(0, .str a0), (3, .int .i64 p24)], [], []⟩ (fgk (by kernel_rfl)) ?_
          refine reg_ ?_
          refine st (mv_ rfl trivial ?_)
          refine st (c_ (cp_ ⟨trivial, trivial, trivial⟩ rfl trivial) ?_)
          refine st (mv_ rfl trivial ?_)
          refine oe_ ?_
          obtain rfl := Option.some.inj h1
          exact hK1 _ rfl _ ⟨[(0, .str a0), (3, .int .i64 (IntKind.i64.wrap (p24 + 1)))], [], []⟩ (fgk (by kernel_rfl)) rfl
      · rintro ⟨p61, p62⟩ o2 _ K2 rfl h2 hx2 hK2 hE2 hR2
        unfold g279_l1 at h2
        refine seq_ ?_
        refine seq_ ?_
        refine reg_ ?_
        refine st (mv_ rfl trivial ?_)
        refine st (mv_ rfl trivial ?_)
        refine st (c_ (cp_ ⟨trivial, trivial⟩ rfl trivial) ?_)
        refine st (c_ (cp_ ⟨trivial, trivial, trivial⟩ rfl trivial) ?_)
        refine oe_ ?_
        obtain ⟨v71, e72, h2⟩ := bl h2
        refine wk_ ⟨[(0, .str a0), (3, .int .i64 p24), (4, .int .u8 ((y50).toNat : Int)), (5, .bool p61), (6, .str ([32, 39, 40, 41, 43, 44, 45, 46, 47, 58, 61, 63] : List UInt8)), (7, .int .i64 p62), (38, .bool v71)], [], []⟩ (fgk (by subst e72; kernel_rfl)) ?_
        refine ite_ (cb := v71) rfl (fun c73 => ?_) (fun c73 => ?_)
        · replace h2 := ip c73 h2
          refine sk_ ?_
          refine wk_ ⟨[(0, .str a0), (3, .int .i64 p24), (4, .int .u8 ((y50).toNat : Int)), (5, .bool p61), (6, .str ([32, 39, 40, 41, 43, 44, 45, 46, 47, 58, 61, 63] : List UInt8)), (7, .int .i64 p62)], [], []⟩ (fgk (by kernel_rfl)) ?_
          refine seq_ ?_
          refine block_ ?_
          refine reg_ ?_
          refine st (mv_ rfl trivial ?_)
          refine st (mv_ rfl trivial ?_)
          refine st (pg_ (u := .str ([32, 39, 40, 41, 43, 44, 45, 46, 47, 58, 61, 63] : List UInt8)) rfl (fun hg => (cmv (v := .str ([32, 39, 40, 41, 43, 44, 45, 46, 47, 58, 61, 63] : List UInt8)) rfl trivial)) ?_)
          refine st (pg_ (u := .int .i64 p62) rfl (fun hg => (cmv (v := .int .i64 p62) rfl trivial)) ?_)
          obtain ⟨y74, e75, h2⟩ := bnd h2
          refine st (pg_ (u := .int .u8 ((y74).toNat : Int)) rfl (fun hg => (cidxS (y := y74) rfl rfl (fun _ => hg) rfl rfl (fun _ => hg) (ip hg e75))) ?_)
          refine st (pg_ (u := .int .u8 ((y50).toNat : Int)) rfl (fun hg => (cmv (v := .int .u8 ((y50).toNat : Int)) rfl trivial)) ?_)
          refine st (pg_ (u := .bool (((y74).toNat : Int) == ((y50).toNat : Int))) rfl (fun hg => (cp_ ⟨(fun _ => hg), (fun _ => hg), trivial⟩ rfl trivial)) ?_)
          refine st (pick_ rfl rfl rfl trivial (fun h => eqf h) rfl ?_)
          refine st (mv_ rfl trivial ?_)
          refine oe_ ?_
          refine bn_ ?_
          refine wk_ ⟨[(0, .str a0), (3, .int .i64 p24), (4, .int .u8 ((y50).toNat : Int)), (5, .bool (bif p61 then true else (((y74).toNat : Int) == ((y50).toNat : Int)))), (6, .str ([32, 39, 40, 41, 43, 44, 45, 46, 47, 58, 61, 63] : List UInt8)), (7, .int .i64 p62)], [], []⟩ (fgk (by kernel_rfl)) ?_
          refine reg_ ?_
          refine st (mv_ rfl trivial ?_)
          refine st (c_ (cp_ ⟨trivial, trivial, trivial⟩ rfl trivial) ?_)
          refine st (mv_ rfl trivial ?_)
          refine oe_ ?_
          obtain rfl := Option.some.inj h2
          exact hK2 _ rfl _ ⟨[(0, .str a0), (3, .int .i64 p24), (4, .int .u8 ((y50).toNat : Int)), (5, .bool (bif p61 then true else (((y74).toNat : Int) == ((y50).toNat : Int)))), (6, .str ([32, 39, 40, 41, 43, 44, 45, 46, 47, 58, 61, 63] : List UInt8)), (7, .int .i64 (IntKind.i64.wrap (p62 + 1)))], [], []⟩ (fgk (by kernel_rfl)) rfl
        · replace h2 := inb c73 h2
          obtain rfl := Option.some.inj h2
          obtain rfl := hx2 _ rfl
          refine exQ rfl ?_
          exact hE2 _ ⟨[(0, .str a0), (3, .int .i64 p24), (5, .bool p61)], [], []⟩ (fgk (by kernel_rfl)) ⟨_, rfl, rfl⟩
    · replace h1 := inb c49 h1
      obtain rfl := Option.some.inj h1
      obtain rfl := hx1 _ rfl
      refine exQ rfl ?_
      exact hE1 _ ⟨[], [], []⟩ (fgk (by kernel_rfl)) ⟨rfl, rfl⟩

/- loop.example/g00149/spec.l07Name -/
def c278_r0 : List Ins := [⟨some 2, .p (.mv (.c (.bool false))), none⟩]
def c278_r1 : List Ins := [⟨some 3, .p (.mv (.t 0)), none⟩,
 ⟨some 4, .p (.lenS (.t 3)), none⟩,
 ⟨some 5, .p (.bin .gtr (.t 4) (.c (.int .i64 0))), none⟩,
 ⟨some 6, .p (.mv (.t 5)), none⟩,
 ⟨some 7, .p (.mv (.t 0)), some (6, true)⟩,
 ⟨some 8, .p (.lenS (.t 7)), some (6, true)⟩,
 ⟨some 9, .p (.bin .leq (.t 8) (.c (.int .i64 40))), some (6, true)⟩,
 ⟨some 10, .pick (.t 6) (.t 9) (.c (.bool false)), none⟩,
 ⟨some 11, .p (.mv (.t 10)), none⟩,
 ⟨some 12, .p (.mv (.t 0)), some (11, true)⟩,
 ⟨some 13, .call 279 [(.t 12)], some (11, true)⟩,
 ⟨some 14, .pick (.t 11) (.t 13) (.c (.bool false)), none⟩,
 ⟨some 2, .p (.mv (.t 14)), none⟩]
def c278 : XFn := { np := 1, nt := 15, res := [.t 2], body := (.seq (.reg c278_r0) (.seq (.reg c278_r1) .ret)) }
def K278 (C : CRel) : Prop := ∀ (a0 : List UInt8) (r : Bool), g278 a0 = some r → C 278 ⟨[.str a0], []⟩ ⟨.bool r, [], []⟩
theorem F278 {C : CRel} (H279 : K279 C) (a0 : List UInt8) (r : Bool) (h0 : g278 a0 = some r) : FnOK C c278 ⟨[.str a0], []⟩ ⟨.bool r, [], []⟩ := by
  refine fn_ (Nat.le_of_ble_eq_true rfl) ?_
  refine seq_ ?_
  refine reg_ ?_
  refine st (mvc_ trivial ?_)
  refine oe_ ?_
  refine wk_ ⟨[(0, .str a0)], [], []⟩ (fgk (by kernel_rfl)) ?_
  refine seq_ ?_
  refine reg_ ?_
  refine st (mv_ rfl trivial ?_)
  refine st (c_ (cp_ ⟨trivial, trivial⟩ rfl trivial) ?_)
  refine st (c_ (cp_ ⟨trivial, trivial, trivial⟩ rfl trivial) ?_)
  refine st (mv_ rfl trivial ?_)
  refine st (pg_ (u := .str a0) rfl (fun hg => (cmv (v := .str a0) rfl trivial)) ?_)
  refine st (pg_ (u := .int .i64 (a0.length : Int)) rfl (fun hg => (cp_ ⟨(fun _ => hg), trivial⟩ rfl trivial)) ?_)
  refine st (pg_ (u := .bool (decide ((a0.length : Int) ≤ 40))) rfl (fun hg => (cp_ ⟨(fun _ => hg), trivial, trivial⟩ rfl trivial)) ?_)
  refine st (pick_ rfl rfl rfl (fun h => eqt h) trivial rfl ?_)
  refine st (mv_ rfl trivial ?_)
  refine st (pg_ (u := .str a0) rfl (fun hg => (cmv (v := .str a0) rfl trivial)) ?_)
  obtain ⟨r1, e2, h0⟩ := bnd h0
  refine sw ⟨[(11, .bool (bif (decide ((a0.length : Int) > 0)) then (decide ((a0.length : Int) ≤ 40)) else false)), (12, .may ((bif (decide ((a0.length : Int) > 0)) then (decide ((a0.length : Int) ≤ 40)) else false) == true) (.str a0))], [], []⟩ (fgk (by kernel_rfl)) (callg_ (r := .bool r1) rfl false (fun hg => H279 a0 r1 (ip hg e2)) ⟨(fun hg => hg), trivial⟩ (fun _ => rfl) (fun _ => rfl) (fun _ => rfl) (fun h => nomatch h) ?_)
  refine st (pick_ rfl rfl rfl (fun h => eqt h) trivial rfl ?_)
  refine st (mv_ rfl trivial ?_)
  refine oe_ ?_
  obtain ⟨v3, e4, h0⟩ := bl h0
  refine wk_ ⟨[(2, .bool v3)], [], []⟩ (fgk (by subst e4; kernel_rfl)) ?_
  obtain rfl := Option.some.inj h0
  exact rt_ (ret_ rfl rfl rfl rfl rfl trivial)

/- loop.example/g00149/spec.AuthorityOK -/
def c224_r0 : List Ins := [⟨some 1, .box (.t 0), none⟩,
 ⟨some 2, .p (.mv (.c (.bool false))), none⟩]
def c224_r1 : List Ins := [⟨some 5, .p (.fieldA (.t 1) 0), none⟩,
 ⟨some 6, .p (.load (.t 5) 1 false), none⟩,
 ⟨some 7, .call 278 [(.t 6)], none⟩,
 ⟨some 8, .p (.un .not (.t 7)), none⟩,
 ⟨some 9, .p (.mv (.t 8)), none⟩,
 ⟨some 10, .p (.fieldA (.t 1) 1), some (9, false)⟩,
 ⟨some 11, .p (.load (.t 10) 1 false), some (9, false)⟩,
 ⟨some 12, .p (.len (.t 11)), some (9, false)⟩,
 ⟨some 13, .p (.bin .neq (.t 12) (.c (.int .i64 32))), some (9, false)⟩,
 ⟨some 14, .pick (.t 9) (.c (.bool true)) (.t 13), none⟩,
 ⟨some 15, .p (.mv (.t 14)), none⟩,
 ⟨some 16, .p (.fieldA (.t 1) 2), some (15, false)⟩,
 ⟨some 17, .p (.load (.t 16) 1 false), some (15, false)⟩,
 ⟨some 18, .call 56 [(.t 17), (.c (.int .i64 1)), (.c (.int .i64 1000000))], some (15, false)⟩,
 ⟨some 19, .p (.un .not (.t 18)), some (15, false)⟩,
 ⟨some 20, .pick (.t 15) (.c (.bool true)) (.t 19), none⟩,
 ⟨some 21, .p (.mv (.t 20)), none⟩,
 ⟨some 22, .p (.fieldA (.t 1) 3), some (21, false)⟩,
 ⟨some 23, .p (.load (.t 22) 1 false), some (21, false)⟩,
 ⟨some 24, .call 56 [(.t 23), (.c (.int .i64 1)), (.c (.int .i64 1000000))], some (21, false)⟩,
 ⟨some 25, .p (.un .not (.t 24)), some (21, false)⟩,
 ⟨some 26, .pick (.t 21) (.c (.bool true)) (.t 25), none⟩,
 ⟨some 27, .p (.mv (.t 26)), none⟩,
 ⟨some 28, .p (.fieldA (.t 1) 4), some (27, false)⟩,
 ⟨some 29, .p (.load (.t 28) 1 false), some (27, false)⟩,
 ⟨some 30, .p (.lenS (.t 29)), some (27, false)⟩,
 ⟨some 31, .p (.bin .gtr (.t 30) (.c (.int .i64 40))), some (27, false)⟩,
 ⟨some 32, .pick (.t 27) (.c (.bool true)) (.t 31), none⟩,
 ⟨some 33, .p (.mv (.t 32)), none⟩,
 ⟨some 34, .p (.fieldA (.t 1) 4), some (33, false)⟩,
 ⟨some 35, .p (.load (.t 34) 1 false), some (33, false)⟩,
 ⟨some 36, .call 279 [(.t 35)], some (33, false)⟩,
 ⟨some 37, .p (.un .not (.t 36)), some (33, false)⟩,
 ⟨some 38, .pick (.t 33) (.c (.bool true)) (.t 37), none⟩,
 ⟨some 39, .p (.mv (.t 38)), none⟩,
 ⟨some 40, .p (.fieldA (.t 1) 5), some (39, false)⟩,
 ⟨some 41, .p (.load (.t 40) 1 false), some (39, false)⟩,
 ⟨some 42, .call 56 [(.t 41), (.c (.int .i64 1)), (.c (.int .i64 253402300799))], some (39, false)⟩,
 ⟨some 43, .p (.un .not (.t 42)), some (39, false)⟩,
 ⟨some 44, .pick (.t 39) (.c (.bool true)) (.t 43), none⟩,
 ⟨some 45, .p (.mv (.t 44)), none⟩,
 ⟨some 46, .p (.fieldA (.t 1) 6), some (45, false)⟩,
 ⟨some 47, .p (.load (.t 46) 1 false), some (45, false)⟩,
 ⟨some 48, .p (.len (.t 47)), some (45, false)⟩,
 ⟨some 49, .p (.bin .gtr (.t 48) (.c (.int .i64 40))), some (45, false)⟩,
 ⟨some 50, .pick (.t 45) (.c (.bool true)) (.t 49), none⟩]
def c224_r2 : List Ins := [⟨some 2, .p (.mv (.c (.bool false))), none⟩]
def c224_r3 : List Ins := [⟨some 3, .p (.mv (.c (.int .i64 0))), none⟩]
def c224_r4 : List Ins := [⟨some 51, .p (.mv (.t 3)), none⟩,
 ⟨some 52, .p (.fieldA (.t 1) 6), none⟩,
 ⟨some 53, .p (.load (.t 52) 1 false), none⟩,
 ⟨some 54, .p (.len (.t 53)), none⟩,
 ⟨some 55, .p (.bin .lss (.t 51) (.t 54)), none⟩]
def c224_r5 : List Ins := [⟨some 58, .p (.fieldA (.t 1) 6), none⟩,
 ⟨some 59, .p (.load (.t 58) 1 false), none⟩,
 ⟨some 60, .p (.mv (.t 3)), none⟩,
 ⟨some 61, .p (.idxA (.t 59) (.t 60) 4), none⟩,
 ⟨some 62, .p (.load (.t 61) 4 true), none⟩,
 ⟨some 4, .alloc [(.int .i64 0), (.int .i64 0), (.str []), (.bool false)], none⟩,
 ⟨none, .store (.t 4) (.t 62) 4, none⟩]
def c224_r6 : DP := (.take ⟨some 63, .p (.fieldA (.t 4) 0), none⟩
 (.take ⟨some 64, .p (.load (.t 63) 1 false), none⟩
 (.take ⟨some 65, .p (.fieldA (.t 1) 2), none⟩
 (.take ⟨some 66, .p (.load (.t 65) 1 false), none⟩
 (.take ⟨some 67, .p (.bin .sub (.t 66) (.c (.int .i64 1))), none⟩
 (.alt [] ⟨some 68, .call 56 [(.t 64), (.c (.int .i64 1)), (.t 67)], none⟩
 (.take ⟨some 69, .p (.un .not (.t 68)), none⟩
 (.take ⟨some 70, .p (.mv (.t 69)), none⟩
 (.take ⟨some 71, .p (.mv (.t 3)), some (70, false)⟩
 (.take ⟨some 72, .p (.bin .gtr (.t 71) (.c (.int .i64 0))), some (70, false)⟩
 (.take ⟨some 73, .p (.mv (.t 72)), some (70, false)⟩
 (.take ⟨some 74, .p (.fieldA (.t 1) 6), some (73, true)⟩
 (.take ⟨some 75, .p (.load (.t 74) 1 false), some (73, true)⟩
 (.take ⟨some 76, .p (.mv (.t 3)), some (73, true)⟩
 (.take ⟨some 77, .p (.bin .sub (.t 76) (.c (.int .i64 1))), some (73, true)⟩
 (.take ⟨some 78, .p (.idxA (.t 75) (.t 77) 4), some (73, true)⟩
 (.take ⟨some 79, .p (.fieldA (.t 78) 0), some (73, true)⟩
 (.take ⟨some 80, .p (.load (.t 79) 1 false), some (73, true)⟩
 (.take ⟨some 81, .p (.fieldA (.t 4) 0), some (73, true)⟩
 (.take ⟨some 82, .p (.load (.t 81) 1 false), some (73, true)⟩
 (.take ⟨some 83, .p (.bin .geq (.t 80) (.t 82)), some (73, true)⟩
 (.take ⟨some 84, .pick (.t 73) (.t 83) (.c (.bool false)), some (70, false)⟩
 (.take ⟨some 85, .pick (.t 70) (.c (.bool true)) (.t 84), none⟩
 (.take ⟨some 86, .p (.mv (.t 85)), none⟩
 (.take ⟨some 87, .p (.fieldA (.t 4) 1), some (86, false)⟩
 (.take ⟨some 88, .p (.load (.t 87) 1 false), some (86, false)⟩
 (.alt [] ⟨some 89, .call 56 [(.t 88), (.c (.int .i64 0)), (.c (.int .i64 253402300799))], some (86, false)⟩
 (.take ⟨some 90, .p (.un .not (.t 89)), some (86, false)⟩
 (.take ⟨some 91, .pick (.t 86) (.c (.bool true)) (.t 90), none⟩
 (.take ⟨some 92, .p (.mv (.t 91)), none⟩
 (.take ⟨some 93, .p (.fieldA (.t 4) 2), some (92, false)⟩
 (.take ⟨some 94, .p (.load (.t 93) 1 false), some (92, false)⟩
 (.alt [] ⟨some 95, .call 278 [(.t 94)], some (92, false)⟩
 (.take ⟨some 96, .p (.un .not (.t 95)), some (92, false)⟩
 (.take ⟨some 97, .pick (.t 92) (.c (.bool true)) (.t 96), none⟩
 .fin))
 .stop))))))
 .stop)))))))))))))))))))))
 .stop))))))
def c224_r7 : List Ins := [⟨some 2, .p (.mv (.c (.bool false))), none⟩]
def c224_r8 : List Ins := [⟨some 56, .p (.mv (.t 3)), none⟩,
 ⟨some 57, .p (.bin .add (.t 56) (.c (.int .i64 1))), none⟩,
 ⟨some 3, .p (.mv (.t 57)), none⟩]
def c224_l0 : IR := (.seq (.seq (.reg c224_r4) (.ite (.t 55) .skip (.exit 0))) (.seq (.block 1 (.seq (.reg c224_r5) (.seq (.draw c224_r6) (.ite (.t 97) (.seq (.reg c224_r7) .ret) .skip)))) (.reg c224_r8)))
def c224_r9 : List Ins := [⟨some 2, .p (.mv (.c (.bool true))), none⟩]
def c224 : XFn := { np := 1, nt := 98, res := [.t 2], body := (.seq (.reg c224_r0) (.seq (.seq (.reg c224_r1) (.ite (.t 50) (.seq (.reg c224_r2) .ret) .skip)) (.seq (.seq (.reg c224_r3) (.block 0 (.loop c224_l0))) (.seq (.reg c224_r9) .ret)))) }
def K224 (C : CRel) : Prop := ∀ (a0 : DAuthority) (r : Bool), g224 a0 = some r → C 224 ⟨[.agg [.str a0.name_, .lst 1 (a0.seed.map eU8), .int .i64 a0.serial, .int .i64 a0.number, .str a0.suffix, .int .i64 a0.most, .lst 4 (a0.list_.map eDIssued)]], []⟩ ⟨.bool r, [], []⟩
theorem F224 {C : CRel} (H56 : K56 C) (H278 : K278 C) (H279 : K279 C) (a0 : DAuthority) (r : Bool) (h0 : g224 a0 = some r) : FnOK C c224 ⟨[.agg [.str a0.name_, .lst 1 (a0.seed.map eU8), .int .i64 a0.serial, .int .i64 a0.number, .str a0.suffix, .int .i64 a0.most, .lst 4 (a0.list_.map eDIssued)]], []⟩ ⟨.bool r, [], []⟩ := by
  refine fn_ (Nat.le_of_ble_eq_true rfl) ?_
  refine seq_ ?_
  refine reg_ ?_
  refine st (box_ rfl trivial rfl ?_)
  refine st (mvc_ trivial ?_)
  refine oe_ ?_
  refine wk_ ⟨[(1, .ptr 64 0)], [(64, [.str a0.name_, .lst 1 (a0.seed.map eU8), .int .i64 a0.serial, .int .i64 a0.number, .str a0.suffix, .int .i64 a0.most, .lst 4 (a0.list_.map eDIssued)])], []⟩ (fgk (by kernel_rfl)) ?_
  refine seq_ ?_
  refine seq_ ?_
  refine reg_ ?_
  refine st (c_ (cp_ ⟨trivial, trivial⟩ rfl trivial) ?_)
  refine st (c_ (cp_ ⟨trivial, trivial⟩ rfl (Nat.le_of_ble_eq_true rfl)) ?_)
  obtain ⟨r1, e2, h0⟩ := bnd h0
  refine st (call0_ (r := .bool r1) false (H278 a0.name_ r1 e2) ⟨trivial, trivial⟩ rfl rfl (fun _ => rfl) ?_)
  refine st (c_ (cp_ ⟨trivial, trivial⟩ rfl trivial) ?_)
  refine st (mv_ rfl trivial ?_)
  refine st (pg_ (u := .ptr 64 1) rfl (fun hg => (cp_ ⟨trivial, trivial⟩ rfl trivial)) ?_)
  refine st (pg_ (u := .lst 1 (a0.seed.map eU8)) rfl (fun hg => (cp_ ⟨(fun _ => hg), trivial⟩ rfl (Nat.le_of_ble_eq_true rfl))) ?_)
  refine st (pg_ (u := .int .i64 (a0.seed.length : Int)) rfl (fun hg => (clenL (e := eU8) (l0 := a0.seed) rfl rfl (fun _ => hg))) ?_)
  refine st (pg_ (u := .bool ((a0.seed.length : Int) != 32)) rfl (fun hg => (cp_ ⟨(fun _ => hg), trivial, trivial⟩ rfl trivial)) ?_)
  refine st (pick_ rfl rfl rfl trivial (fun h => eqf h) rfl ?_)
  refine st (mv_ rfl trivial ?_)
  refine st (pg_ (u := .ptr 64 2) rfl (fun hg => (cp_ ⟨trivial, trivial⟩ rfl trivial)) ?_)
  refine sw ⟨[(1, .ptr 64 0), (15, .bool (bif (!r1) then true else ((a0.seed.length : Int) != 32))), (16, .may ((bif (!r1) then true else ((a0.seed.length : Int) != 32)) == false) (.ptr 64 2))], [(64, [.str a0.name_, .lst 1 (a0.seed.map eU8), .int .i64 a0.serial, .int .i64 a0.number, .str a0.suffix, .int .i64 a0.most, .lst 4 (a0.list_.map eDIssued)])], []⟩ (fgk (by kernel_rfl)) (pg_ (u := .int .i64 a0.serial) rfl (fun hg => (cp_ ⟨(fun _ => hg), trivial⟩ rfl (Nat.le_of_ble_eq_true rfl))) ?_)
  obtain ⟨r3, e4, h0⟩ := bnd h0
  refine st (callg_ (r := .bool r3) rfl false (fun hg => H56 a0.serial 1 1000000 r3 (ip hg e4)) ⟨(fun hg => hg), trivial, trivial, trivial⟩ (fun _ => rfl) (fun _ => rfl) (fun _ => rfl) (fun h => nomatch h) ?_)
  refine st (pg_ (u := .bool (!r3)) rfl (fun hg => (cp_ ⟨(fun _ => hg), trivial⟩ rfl trivial)) ?_)
  refine st (pick_ rfl rfl rfl trivial (fun h => eqf h) rfl ?_)
  refine st (mv_ rfl trivial ?_)
  refine st (pg_ (u := .ptr 64 3) rfl (fun hg => (cp_ ⟨trivial, trivial⟩ rfl trivial)) ?_)
  refine st (pg_ (u := .int .i64 a0.number) rfl (fun hg => (cp_ ⟨(fun _ => hg), trivial⟩ rfl (Nat.le_of_ble_eq_true rfl))) ?_)
  obtain ⟨r5, e6, h0⟩ := bnd h0
  refine sw ⟨[(1, .ptr 64 0), (21, .bool (bif (bif (!r1) then true else ((a0.seed.length : Int) != 32)) then true else (!r3))), (23, .may ((bif (bif (!r1) then true else ((a0.seed.length : Int) != 32)) then true else (!r3)) == false) (.int .i64 a0.number))], [(64, [.str a0.name_, .lst 1 (a0.seed.map eU8), .int .i64 a0.serial, .int .i64 a0.number, .str a0.suffix, .int .i64 a0.most, .lst 4 (a0.list_.map eDIssued)])], []⟩ (fgk (by kernel_rfl)) (callg_ (r := .bool r5) rfl false (fun hg => H56 a0.number 1 1000000 r5 (ip hg e6)) ⟨(fun hg => hg), trivial, trivial, trivial⟩ (fun _ => rfl) (fun _ => rfl) (fun _ => rfl) (fun h => nomatch h) ?_)
  refine st (pg_ (u := .bool (!r5)) rfl (fun hg => (cp_ ⟨(fun _ => hg), trivial⟩ rfl trivial)) ?_)
  refine st (pick_ rfl rfl rfl trivial (fun h => eqf h) rfl ?_)
  refine st (mv_ rfl trivial ?_)
  refine st (pg_ (u := .ptr 64 4) rfl (fun hg => (cp_ ⟨trivial, trivial⟩ rfl trivial)) ?_)
  refine st (pg_ (u := .str a0.suffix) rfl (fun hg => (cp_ ⟨(fun _ => hg), trivial⟩ rfl (Nat.le_of_ble_eq_true rfl))) ?_)
  refine st (pg_ (u := .int .i64 (a0.suffix.length : Int)) rfl (fun hg => (cp_ ⟨(fun _ => hg), trivial⟩ rfl trivial)) ?_)
  refine st (pg_ (u := .bool (decide ((a0.suffix.length : Int) > 40))) rfl (fun hg => (cp_ ⟨(fun _ => hg), trivial, trivial⟩ rfl trivial)) ?_)
  refine st (pick_ rfl rfl rfl trivial (fun h => eqf h) rfl ?_)
  refine st (mv_ rfl trivial ?_)
  refine st (pg_ (u := .ptr 64 4) rfl (fun hg => (cp_ ⟨trivial, trivial⟩ rfl trivial)) ?_)
  refine st (pg_ (u := .str a0.suffix) rfl (fun hg => (cp_ ⟨(fun _ => hg), trivial⟩ rfl (Nat.le_of_ble_eq_true rfl))) ?_)
  obtain ⟨r7, e8, h0⟩ := bnd h0
  refine sw ⟨[(1, .ptr 64 0), (33, .bool (bif (bif (bif (bif (!r1) then true else ((a0.seed.length : Int) != 32)) then true else (!r3)) then true else (!r5)) then true else (decide ((a0.suffix.length : Int) > 40)))), (35, .may ((bif (bif (bif (bif (!r1) then true else ((a0.seed.length : Int) != 32)) then true else (!r3)) then true else (!r5)) then true else (decide ((a0.suffix.length : Int) > 40))) == false) (.str a0.suffix))], [(64, [.str a0.name_, .lst 1 (a0.seed.map eU8), .int .i64 a0.serial, .int .i64 a0.number, .str a0.suffix, .int .i64 a0.most, .lst 4 (a0.list_.map eDIssued)])], []⟩ (fgk (by kernel_rfl)) (callg_ (r := .bool r7) rfl false (fun hg => H279 a0.suffix r7 (ip hg e8)) ⟨(fun hg => hg), trivial⟩ (fun _ => rfl) (fun _ => rfl) (fun _ => rfl) (fun h => nomatch h) ?_)
  refine st (pg_ (u := .bool (!r7)) rfl (fun hg => (cp_ ⟨(fun _ => hg), trivial⟩ rfl trivial)) ?_)
  refine st (pick_ rfl rfl rfl trivial (fun h => eqf h) rfl ?_)
  refine st (mv_ rfl trivial ?_)
  refine st (pg_ (u := .ptr 64 5) rfl (fun hg => (cp_ ⟨trivial, trivial⟩ rfl trivial)) ?_)
  refine st (pg_ (u := .int .i64 a0.most) rfl (fun hg => (cp_ ⟨(fun _ => hg), trivial⟩ rfl (Nat.le_of_ble_eq_true rfl))) ?_)
  obtain ⟨r9, e10, h0⟩ := bnd h0
  refine sw ⟨[(1, .ptr 64 0), (39, .bool (bif (bif (bif (bif (bif (!r1) then true else ((a0.seed.length : Int) != 32)) then true else (!r3)) then true else (!r5)) then true else (decide ((a0.suffix.length : Int) > 40))) then true else (!r7))), (41, .may ((bif (bif (bif (bif (bif (!r1) then true else ((a0.seed.length : Int) != 32)) then true else (!r3)) then true else (!r5)) then true else (decide ((a0.suffix.length : Int) > 40))) then true else (!r7)) == false) (.int .i64 a0.most))], [(64, [.str a0.name_, .lst 1 (a0.seed.map eU8), .int .i64 a0.serial, .int .i64 a0.number, .str a0.suffix, .int .i64 a0.most, .lst 4 (a0.list_.map eDIssued)])], []⟩ (fgk (by kernel_rfl)) (callg_ (r := .bool r9) rfl false (fun hg => H56 a0.most 1 253402300799 r9 (ip hg e10)) ⟨(fun hg => hg), trivial, trivial, trivial⟩ (fun _ => rfl) (fun _ => rfl) (fun _ => rfl) (fun h => nomatch h) ?_)
  refine st (pg_ (u := .bool (!r9)) rfl (fun hg => (cp_ ⟨(fun _ => hg), trivial⟩ rfl trivial)) ?_)
  refine st (pick_ rfl rfl rfl trivial (fun h => eqf h) rfl ?_)
  refine st (mv_ rfl trivial ?_)
  refine st (pg_ (u := .ptr 64 6) rfl (fun hg => (cp_ ⟨trivial, trivial⟩ rfl trivial)) ?_)
  refine st (pg_ (u := .lst 4 (a0.list_.map eDIssued)) rfl (fun hg => (cp_ ⟨(fun _ => hg), trivial⟩ rfl (Nat.le_of_ble_eq_true rfl))) ?_)
  refine st (pg_ (u := .int .i64 (a0.list_.length : Int)) rfl (fun hg => (clenL (e := eDIssued) (l0 := a0.list_) rfl rfl (fun _ => hg))) ?_)
  refine st (pg_ (u := .bool (decide ((a0.list_.length : Int) > 40))) rfl (fun hg => (cp_ ⟨(fun _ => hg), trivial, trivial⟩ rfl trivial)) ?_)
  refine st (pick_ rfl rfl rfl trivial (fun h => eqf h) rfl ?_)
  refine oe_ ?_
  obtain ⟨v11, e12, h0⟩ := bl h0
  refine wk_ ⟨[(1, .ptr 64 0), (50, .bool v11)], [(64, [.str a0.name_, .lst 1 (a0.seed.map eU8), .int .i64 a0.serial, .int .i64 a0.number, .str a0.suffix, .int .i64 a0.most, .lst 4 (a0.list_.map eDIssued)])], []⟩ (fgk (by subst e12; kernel_rfl)) ?_
  refine ite_ (cb := v11) rfl (fun c13 => ?_) (fun c13 => ?_)
  · replace h0 := ip c13 h0
    refine seq_ ?_
    refine reg_ ?_
    refine st (mvc_ trivial ?_)
    refine oe_ ?_
    refine wk_ ⟨[(2, .bool false)], [], []⟩ (fgk (by kernel_rfl)) ?_
    obtain rfl := Option.some.inj h0
    exact rt_ (ret_ rfl rfl rfl rfl rfl trivial)
  · replace h0 := inb c13 h0
    refine sk_ ?_
    refine wk_ ⟨[(1, .ptr 64 0)], [(64, [.str a0.name_, .lst 1 (a0.seed.map eU8), .int .i64 a0.serial, .int .i64 a0.number, .str a0.suffix, .int .i64 a0.most, .lst 4 (a0.list_.map eDIssued)])], []⟩ (fgk (by kernel_rfl)) ?_
    refine seq_ ?_
    refine seq_ ?_
    refine reg_ ?_
    refine st (mvc_ trivial ?_)
    refine oe_ ?_
    refine wk_ ⟨[(1, .ptr 64 0), (3, .int .i64 0)], [(64, [.str a0.name_, .lst 1 (a0.seed.map eU8), .int .i64 a0.serial, .int .i64 a0.number, .str a0.suffix, .int .i64 a0.most, .lst 4 (a0.list_.map eDIssued)])], []⟩ (fgk (by kernel_rfl)) ?_
    refine block_ ?_
    obtain ⟨r58, e59, h0⟩ := bnd h0
    refine loop_ (R := (fun S => .inl () = r58 ∧ S = ⟨[], [], []⟩)) (g224_l0 a0) (fun s S => match s with | p28 => S = ⟨[(1, .ptr 64 0), (3, .int .i64 p28)], [(64, [.str a0.name_, .lst 1 (a0.seed.map eU8), .int .i64 a0.serial, .int .i64 a0.number, .str a0.suffix, .int .i64 a0.most, .lst 4 (a0.list_.map eDIssued)])], []⟩) e59 ⟨[(1, .ptr 64 0), (3, .int .i64 0)], [(64, [.str a0.name_, .lst 1 (a0.seed.map eU8), .int .i64 a0.serial, .int .i64 a0.number, .str a0.suffix, .int .i64 a0.most, .lst 4 (a0.list_.map eDIssued)])], []⟩ (fgk (by kernel_rfl)) rfl 0 (fun _ => rfl) ?_ ?_
    · rintro S _ hfg ⟨rfl, rfl⟩
      refine wk_ ⟨[], [], []⟩ (fglk hfg (by kernel_rfl)) ?_
      refine seq_ ?_
      refine reg_ ?_
      refine st (mvc_ trivial ?_)
      refine oe_ ?_
      refine wk_ ⟨[(2, .bool true)], [], []⟩ (fgk (by kernel_rfl)) ?_
      obtain rfl := Option.some.inj h0
      exact rt_ (ret_ rfl rfl rfl rfl rfl trivial)
    · rintro p28 o1 _ K1 rfl h1 hx1 hK1 hE1 hR1
      refine seq_ ?_
      refine seq_ ?_
      refine reg_ ?_
      refine st (mv_ rfl trivial ?_)
      refine st (c_ (cp_ ⟨trivial, trivial⟩ rfl trivial) ?_)
      refine st (c_ (cp_ ⟨trivial, trivial⟩ rfl (Nat.le_of_ble_eq_true rfl)) ?_)
      refine st (c_ (clenL (e := eDIssued) (l0 := a0.list_) rfl rfl trivial) ?_)
      refine st (c_ (cp_ ⟨trivial, trivial, trivial⟩ rfl trivial) ?_)
      refine oe_ ?_
      refine wk_ ⟨[(1, .ptr 64 0), (3, .int .i64 p28), (55, .bool (decide (p28 < (a0.list_.length : Int))))], [(64, [.str a0.name_, .lst 1 (a0.seed.map eU8), .int .i64 a0.serial, .int .i64 a0.number, .str a0.suffix, .int .i64 a0.most, .lst 4 (a0.list_.map eDIssued)])], []⟩ (fgk (by kernel_rfl)) ?_
      refine ite_ (cb := (decide (p28 < (a0.list_.length : Int)))) rfl (fun c44 => ?_) (fun c44 => ?_)
      · replace h1 := ip c44 h1
        refine sk_ ?_
        refine wk_ ⟨[(1, .ptr 64 0), (3, .int .i64 p28)], [(64, [.str a0.name_, .lst 1 (a0.seed.map eU8), .int .i64 a0.serial, .int .i64 a0.number, .str a0.suffix, .int .i64 a0.most, .lst 4 (a0.list_.map eDIssued)])], []⟩ (fgk (by kernel_rfl)) ?_
        refine seq_ ?_
        refine block_ ?_
        refine seq_ ?_
        refine reg_ ?_
        refine st (c_ (cp_ ⟨trivial, trivial⟩ rfl trivial) ?_)
        refine st (c_ (cp_ ⟨trivial, trivial⟩ rfl (Nat.le_of_ble_eq_true rfl)) ?_)
        refine st (mv_ rfl trivial ?_)
        obtain ⟨y45, e46, h1⟩ := bnd h1
        refine st (c_ (cidxL (e := eDIssued) (y := y45) rfl rfl trivial rfl rfl trivial e46) ?_)
        refine st (c_ (v := .agg [.int .i64 y45.serial, .int .i64 y45.to_, .str y45.subject, .bool y45.revoked]) (cp_ ⟨trivial, trivial⟩ rfl (Nat.le_of_ble_eq_true rfl)) ?_)
        refine st (alloc_ ?_)
        refine st (stp_ rfl rfl trivial rfl rfl rfl (Nat.le_of_ble_eq_true rfl) ?_)
        refine oe_ ?_
        refine wk_ ⟨[(1, .ptr 64 0), (3, .int .i64 p28), (4, .ptr 256 0)], [(64, [.str a0.name_, .lst 1 (a0.seed.map eU8), .int .i64 a0.serial, .int .i64 a0.number, .str a0.suffix, .int .i64 a0.most, .lst 4 (a0.list_.map eDIssued)]), (256, [.int .i64 y45.serial, .int .i64 y45.to_, .str y45.subject, .bool y45.revoked])], []⟩ (fgk (by kernel_rfl)) ?_
        refine seq_ ?_
        obtain ⟨r47, e48, h1⟩ := bnd h1
        obtain ⟨y49, e50, h1⟩ := bnd h1
        obtain ⟨r51, e52, h1⟩ := bnd h1
        obtain ⟨r53, e54, h1⟩ := bnd h1
        refine draw_ ?_
        refine dtake trivial (c_ (cp_ ⟨trivial, trivial⟩ rfl trivial) ?_)
        refine ⟨trivial, ?_⟩
        refine dtake trivial (c_ (cp_ ⟨trivial, trivial⟩ rfl (Nat.le_of_ble_eq_true rfl)) ?_)
        refine ⟨trivial, ?_⟩
        refine dtake trivial (c_ (cp_ ⟨trivial, trivial⟩ rfl trivial) ?_)
        refine ⟨trivial, ?_⟩
        refine dtake trivial (c_ (cp_ ⟨trivial, trivial⟩ rfl (Nat.le_of_ble_eq_true rfl)) ?_)
        refine ⟨trivial, ?_⟩
        refine dtake trivial (c_ (cp_ ⟨trivial, trivial, trivial⟩ rfl trivial) ?_)
        refine ⟨trivial, ?_⟩
        refine dalt (call0_ (r := .bool r47) false (H56 y45.serial 1 (IntKind.i64.wrap (a0.serial - 1)) r47 e48) ⟨trivial, trivial, trivial, trivial⟩ rfl rfl (fun _ => rfl) ?_) dstop
        refine dkw ⟨[(1, .ptr 64 0), (3, .int .i64 p28), (4, .ptr 256 0), (68, .bool r47)], [(64, [.str a0.name_, .lst 1 (a0.seed.map eU8), .int .i64 a0.serial, .int .i64 a0.number, .str a0.suffix, .int .i64 a0.most, .lst 4 (a0.list_.map eDIssued)]), (256, [.int .i64 y45.serial, .int .i64 y45.to_, .str y45.subject, .bool y45.revoked])], []⟩ (fgk (by kernel_rfl)) ⟨[], trivial, trivial, ?_⟩
        refine dtake trivial (c_ (cp_ ⟨trivial, trivial⟩ rfl trivial) ?_)
        refine ⟨trivial, ?_⟩
        refine dtake trivial (mv_ rfl trivial ?_)
        refine ⟨trivial, ?_⟩
        refine dtake trivial (pg_ (u := .int .i64 p28) rfl (fun hg => (cmv (v := .int .i64 p28) rfl trivial)) ?_)
        refine ⟨trivial, ?_⟩
        refine dtake trivial (pg_ (u := .bool (decide (p28 > 0))) rfl (fun hg => (cp_ ⟨(fun _ => hg), trivial, trivial⟩ rfl trivial)) ?_)
        refine ⟨trivial, ?_⟩
        refine dtake trivial (pg_ (u := .bool (decide (p28 > 0))) rfl (fun hg => (cmv (v := .may ((!r47) == false) (.bool (decide (p28 > 0)))) rfl (fun _ => hg))) ?_)
        refine ⟨trivial, ?_⟩
        refine dtake trivial (pg_ (u := .ptr 64 6) rfl (fun hg => (cp_ ⟨trivial, trivial⟩ rfl trivial)) ?_)
        refine ⟨trivial, ?_⟩
        refine dtake trivial (pg_ (u := .lst 4 (a0.list_.map eDIssued)) rfl (fun hg => (cp_ ⟨(fun _ => hg), trivial⟩ rfl (Nat.le_of_ble_eq_true rfl))) ?_)
        refine ⟨trivial, ?_⟩
        refine dtake trivial (pg_ (u := .int .i64 p28) rfl (fun hg => (cmv (v := .int .i64 p28) rfl trivial)) ?_)
        refine ⟨trivial, ?_⟩
        refine dtake trivial (pg_ (u := .int .i64 (IntKind.i64.wrap (p28 - 1))) rfl (fun hg => (cp_ ⟨(fun _ => hg), trivial, trivial⟩ rfl trivial)) ?_)
        refine ⟨trivial, ?_⟩
        refine dtake trivial (pg_ (u := .iptr [.int .i64 y49.serial, .int .i64 y49.to_, .str y49.subject, .bool y49.revoked]) rfl (fun hg => (cidxL (e := eDIssued) (y := y49) rfl rfl (fun _ => hg) rfl rfl (fun _ => hg) (ip hg e50))) ?_)
        refine ⟨trivial, ?_⟩
        refine dtake trivial (pg_ (u := .iptr [.int .i64 y49.serial, .int .i64 y49.to_, .str y49.subject, .bool y49.revoked]) rfl (fun hg => (cp_ ⟨(fun _ => hg), trivial⟩ rfl (Nat.le_of_ble_eq_true rfl))) ?_)
        refine ⟨trivial, ?_⟩
        refine dtake trivial (pg_ (u := .int .i64 y49.serial) rfl (fun hg => (cp_ ⟨(fun _ => hg), trivial⟩ rfl (Nat.le_of_ble_eq_true rfl))) ?_)
        refine ⟨trivial, ?_⟩
        refine dtake trivial (pg_ (u := .ptr 256 0) rfl (fun hg => (cp_ ⟨trivial, trivial⟩ rfl trivial)) ?_)
        refine ⟨trivial, ?_⟩
        refine dtake trivial (pg_ (u := .int .i64 y45.serial) rfl (fun hg => (cp_ ⟨(fun _ => hg), trivial⟩ rfl (Nat.le_of_ble_eq_true rfl))) ?_)
        refine ⟨trivial, ?_⟩
        refine dtake trivial (pg_ (u := .bool (decide (y49.serial ≥ y45.serial))) rfl (fun hg => (cp_ ⟨(fun _ => hg), (fun _ => hg), trivial⟩ rfl trivial)) ?_)
        refine ⟨trivial, ?_⟩
        refine dtake trivial (pickg_ (u := .bool (bif (decide (p28 > 0)) then (decide (y49.serial ≥ y45.serial)) else false)) rfl (fun hg => cpick rfl rfl (fun _ => hg) rfl rfl (fun h => and_ hg (eqt h)) trivial rfl) ?_)
        refine ⟨trivial, ?_⟩
        refine dtake trivial (pick_ rfl rfl rfl trivial (fun h => eqf h) rfl ?_)
        refine ⟨trivial, ?_⟩
        refine dtake trivial (mv_ rfl trivial ?_)
        refine ⟨trivial, ?_⟩
        refine dtake trivial (pg_ (u := .ptr 256 1) rfl (fun hg => (cp_ ⟨trivial, trivial⟩ rfl trivial)) ?_)
        refine ⟨trivial, ?_⟩
        refine dtake trivial (pg_ (u := .int .i64 y45.to_) rfl (fun hg => (cp_ ⟨(fun _ => hg), trivial⟩ rfl (Nat.le_of_ble_eq_true rfl))) ?_)
        refine ⟨trivial, ?_⟩
        refine dalt (callg_ (r := .bool r51) rfl false (fun hg => H56 y45.to_ 0 253402300799 r51 (ip hg e52)) ⟨(fun hg => hg), trivial, trivial, trivial⟩ (fun _ => rfl) (fun _ => rfl) (fun _ => rfl) (fun h => nomatch h) ?_) dstop
        refine dkw ⟨[(1, .ptr 64 0), (3, .int .i64 p28), (4, .ptr 256 0), (86, .bool (bif (!r47) then true else (bif (decide (p28 > 0)) then (decide (y49.serial ≥ y45.serial)) else false))), (89, .may ((bif (!r47) then true else (bif (decide (p28 > 0)) then (decide (y49.serial ≥ y45.serial)) else false)) == false) (.bool r51))], [(64, [.str a0.name_, .lst 1 (a0.seed.map eU8), .int .i64 a0.serial, .int .i64 a0.number, .str a0.suffix, .int .i64 a0.most, .lst 4 (a0.list_.map eDIssued)]), (256, [.int .i64 y45.serial, .int .i64 y45.to_, .str y45.subject, .bool y45.revoked])], []⟩ (fgk (by kernel_rfl)) ⟨[], trivial, trivial, ?_⟩
        refine dtake trivial (pg_ (u := .bool (!r51)) rfl (fun hg => (cp_ ⟨(fun _ => hg), trivial⟩ rfl trivial)) ?_)
        refine ⟨trivial, ?_⟩
        refine dtake trivial (pick_ rfl rfl rfl trivial (fun h => eqf h) rfl ?_)
        refine ⟨trivial, ?_⟩
        refine dtake trivial (mv_ rfl trivial ?_)
        refine ⟨trivial, ?_⟩
        refine dtake trivial (pg_ (u := .ptr 256 2) rfl (fun hg => (cp_ ⟨trivial, trivial⟩ rfl trivial)) ?_)
        refine ⟨trivial, ?_⟩
        refine dtake trivial (pg_ (u := .str y45.subject) rfl (fun hg => (cp_ ⟨(fun _ => hg), trivial⟩ rfl (Nat.le_of_ble_eq_true rfl))) ?_)
        refine ⟨trivial, ?_⟩
        refine dalt (callg_ (r := .bool r53) rfl false (fun hg => H278 y45.subject r53 (ip hg e54)) ⟨(fun hg => hg), trivial⟩ (fun _ => rfl) (fun _ => rfl) (fun _ => rfl) (fun h => nomatch h) ?_) dstop
        refine dkw ⟨[(1, .ptr 64 0), (3, .int .i64 p28), (92, .bool (bif (bif (!r47) then true else (bif (decide (p28 > 0)) then (decide (y49.serial ≥ y45.serial)) else false)) then true else (!r51))), (95, .may ((bif (bif (!r47) then true else (bif (decide (p28 > 0)) then (decide (y49.serial ≥ y45.serial)) else false)) then true else (!r51)) == false) (.bool r53))], [(64, [.str a0.name_, .lst 1 (a0.seed.map eU8), .int .i64 a0.serial, .int .i64 a0.number, .str a0.suffix, .int .i64 a0.most, .lst 4 (a0.list_.map eDIssued)])], []⟩ (fgk (by kernel_rfl)) ⟨[], trivial, trivial, ?_⟩
        refine dtake trivial (pg_ (u := .bool (!r53)) rfl (fun hg => (cp_ ⟨(fun _ => hg), trivial⟩ rfl trivial)) ?_)
        refine ⟨trivial, ?_⟩
        refine dtake trivial (pick_ rfl rfl rfl trivial (fun h => eqf h) rfl ?_)
        refine ⟨trivial, ?_⟩
        refine dfin ?_
        obtain ⟨v55, e56, h1⟩ := bl h1
        refine wk_ ⟨[(1, .ptr 64 0), (3, .int .i64 p28), (97, .bool v55)], [(64, [.str a0.name_, .lst 1 (a0.seed.map eU8), .int .i64 a0.serial, .int .i64 a0.number, .str a0.suffix, .int .i64 a0.most, .lst 4 (a0.list_.map eDIssued)])], []⟩ (fgk (by subst e56; kernel_rfl)) ?_
        refine ite_ (cb := v55) rfl (fun c57 => ?_) (fun c57 => ?_)
        · replace h1 := ip c57 h1
          refine seq_ ?_
          refine reg_ ?_
          refine st (mvc_ trivial ?_)
          refine oe_ ?_
          refine wk_ ⟨[(2, .bool false)], [], []⟩ (fgk (by kernel_rfl)) ?_
          obtain rfl := Option.some.inj h1
          obtain rfl := hx1 _ rfl
          obtain rfl := Option.some.inj h0
          exact rt_ (hR1 _ (ret_ rfl rfl rfl rfl rfl trivial))
        · replace h1 := inb c57 h1
          refine sk_ ?_
          refine bn_ ?_
          refine wk_ ⟨[(1, .ptr 64 0), (3, .int .i64 p28)], [(64, [.str a0.name_, .lst 1 (a0.seed.map eU8), .int .i64 a0.serial, .int .i64 a0.number, .str a0.suffix, .int .i64 a0.most, .lst 4 (a0.list_.map eDIssued)])], []⟩ (fgk (by kernel_rfl)) ?_
          refine reg_ ?_
          refine st (mv_ rfl trivial ?_)
          refine st (c_ (cp_ ⟨trivial, trivial, trivial⟩ rfl trivial) ?_)
          refine st (mv_ rfl trivial ?_)
          refine oe_ ?_
          obtain rfl := Option.some.inj h1
          exact hK1 _ rfl _ ⟨[(1, .ptr 64 0), (3, .int .i64 (IntKind.i64.wrap (p28 + 1)))], [(64, [.str a0.name_, .lst 1 (a0.seed.map eU8), .int .i64 a0.serial, .int .i64 a0.number, .str a0.suffix, .int .i64 a0.most, .lst 4 (a0.list_.map eDIssued)])], []⟩ (fgk (by kernel_rfl)) rfl
      · replace h1 := inb c44 h1
        obtain rfl := Option.some.inj h1
        obtain rfl := hx1 _ rfl
        refine exQ rfl ?_
        exact hE1 _ ⟨[], [], []⟩ (fgk (by kernel_rfl)) ⟨rfl, rfl⟩

/- loop.example/g00149/spec.l10Revoked -/
def c299_r0 : List Ins := [⟨some 2, .box (.t 0), none⟩,
 ⟨some 4, .nilS 1, none⟩]
def c299_r1 : List Ins := [⟨some 7, .mkS 1 [(.int .i64 0)] 0 [], none⟩,
 ⟨some 5, .p (.mv (.t 7)), none⟩]
def c299_r2 : List Ins := [⟨some 6, .p (.mv (.c (.int .i64 0))), none⟩]
def c299_r3 : List Ins := [⟨some 8, .p (.mv (.t 6)), none⟩,
 ⟨some 9, .p (.fieldA (.t 2) 6), none⟩,
 ⟨some 10, .p (.load (.t 9) 1 false), none⟩,
 ⟨some 11, .p (.len (.t 10)), none⟩,
 ⟨some 12, .p (.bin .lss (.t 8) (.t 11)), none⟩]
def c299_r4 : List Ins := [⟨some 15, .p (.fieldA (.t 2) 6), none⟩,
 ⟨some 16, .p (.load (.t 15) 1 false), none⟩,
 ⟨some 17, .p (.mv (.t 6)), none⟩,
 ⟨some 18, .p (.idxA (.t 16) (.t 17) 4), none⟩,
 ⟨some 19, .p (.fieldA (.t 18) 3), none⟩,
 ⟨some 20, .p (.load (.t 19) 1 false), none⟩,
 ⟨some 21, .p (.mv (.t 20)), none⟩,
 ⟨some 22, .p (.fieldA (.t 2) 6), some (21, true)⟩,
 ⟨some 23, .p (.load (.t 22) 1 false), some (21, true)⟩,
 ⟨some 24, .p (.mv (.t 6)), some (21, true)⟩,
 ⟨some 25, .p (.idxA (.t 23) (.t 24) 4), some (21, true)⟩,
 ⟨some 26, .p (.fieldA (.t 25) 1), some (21, true)⟩,
 ⟨some 27, .p (.load (.t 26) 1 false), some (21, true)⟩,
 ⟨some 28, .p (.mv (.t 1)), some (21, true)⟩,
 ⟨some 29, .p (.bin .geq (.t 27) (.t 28)), some (21, true)⟩,
 ⟨some 30, .pick (.t 21) (.t 29) (.c (.bool false)), none⟩]
def c299_r5 : List Ins := [⟨some 31, .p (.mv (.t 5)), none⟩,
 ⟨some 32, .p (.fieldA (.t 2) 6), none⟩,
 ⟨some 33, .p (.load (.t 32) 1 false), none⟩,
 ⟨some 34, .p (.mv (.t 6)), none⟩,
 ⟨some 35, .p (.idxA (.t 33) (.t 34) 4), none⟩,
 ⟨some 36, .p (.fieldA (.t 35) 0), none⟩,
 ⟨some 37, .p (.load (.t 36) 1 false), none⟩,
 ⟨some 38, .mkS 1 [(.int .i64 0)] 1 [(0, (.t 37))], none⟩,
 ⟨some 39, .app 1 8 (.t 31) (.t 38), none⟩,
 ⟨some 5, .p (.mv (.t 39)), none⟩]
def c299_r6 : List Ins := [⟨some 13, .p (.mv (.t 6)), none⟩,
 ⟨some 14, .p (.bin .add (.t 13) (.c (.int .i64 1))), none⟩,
 ⟨some 6, .p (.mv (.t 14)), none⟩]
def c299_l0 : IR := (.seq (.seq (.reg c299_r3) (.ite (.t 12) .skip (.exit 0))) (.seq (.block 1 (.seq (.reg c299_r4) (.ite (.t 30) (.reg c299_r5) .skip))) (.reg c299_r6)))
def c299_r7 : List Ins := [⟨some 40, .p (.mv (.t 5)), none⟩,
 ⟨some 4, .p (.mv (.t 40)), none⟩]
def c299 : XFn := { np := 2, nt := 41, res := [.t 4], body := (.seq (.reg c299_r0) (.seq (.reg c299_r1) (.seq (.seq (.reg c299_r2) (.block 0 (.loop c299_l0))) (.seq (.reg c299_r7) .ret)))) }
def K299 (C : CRel) : Prop := ∀ (a0 : DAuthority) (a1 : Int) (r : (List Int)), g299 a0 a1 = some r → C 299 ⟨[.agg [.str a0.name_, .lst 1 (a0.seed.map eU8), .int .i64 a0.serial, .int .i64 a0.number, .str a0.suffix, .int .i64 a0.most, .lst 4 (a0.list_.map eDIssued)], .int .i64 a1], []⟩ ⟨.own 0 0 1 (r.map eI), [], []⟩
theorem F299 {C : CRel}  (a0 : DAuthority) (a1 : Int) (r : (List Int)) (h0 : g299 a0 a1 = some r) : FnOK C c299 ⟨[.agg [.str a0.name_, .lst 1 (a0.seed.map eU8), .int .i64 a0.serial, .int .i64 a0.number, .str a0.suffix, .int .i64 a0.most, .lst 4 (a0.list_.map eDIssued)], .int .i64 a1], []⟩ ⟨.own 0 0 1 (r.map eI), [], []⟩ := by
  refine fn_ (Nat.le_of_ble_eq_true rfl) ?_
  refine seq_ ?_
  refine reg_ ?_
  refine st (box_ rfl trivial rfl ?_)
  refine st (nilS_ ?_)
  refine oe_ ?_
  refine wk_ ⟨[(1, .int .i64 a1), (2, .ptr 128 0)], [(128, [.str a0.name_, .lst 1 (a0.seed.map eU8), .int .i64 a0.serial, .int .i64 a0.number, .str a0.suffix, .int .i64 a0.most, .lst 4 (a0.list_.map eDIssued)])], []⟩ (fgk (by kernel_rfl)) ?_
  refine seq_ ?_
  refine reg_ ?_
  refine st (mkS_ trivial trivial ?_)
  refine st (mv_ rfl trivial ?_)
  refine oe_ ?_
  refine wk_ ⟨[(1, .int .i64 a1), (2, .ptr 128 0), (5, .own 448 0 1 (([] : List Int).map eI))], [(128, [.str a0.name_, .lst 1 (a0.seed.map eU8), .int .i64 a0.serial, .int .i64 a0.number, .str a0.suffix, .int .i64 a0.most, .lst 4 (a0.list_.map eDIssued)])], []⟩ (fgk (by kernel_rfl)) ?_
  refine seq_ ?_
  refine seq_ ?_
  refine reg_ ?_
  refine st (mvc_ trivial ?_)
  refine oe_ ?_
  refine wk_ ⟨[(1, .int .i64 a1), (2, .ptr 128 0), (5, .own 448 0 1 (([] : List Int).map eI)), (6, .int .i64 0)], [(128, [.str a0.name_, .lst 1 (a0.seed.map eU8), .int .i64 a0.serial, .int .i64 a0.number, .str a0.suffix, .int .i64 a0.most, .lst 4 (a0.list_.map eDIssued)])], []⟩ (fgk (by kernel_rfl)) ?_
  refine block_ ?_
  obtain ⟨r45, e46, h0⟩ := bnd h0
  refine loop_ (R := (fun S => ∃ p25 : List Int, p25 = r45 ∧ S = ⟨[(5, .own 448 0 1 (p25.map eI))], [], []⟩)) (g299_l0 a0 a1) (fun s S => match s with | (p11, p12) => S = ⟨[(1, .int .i64 a1), (2, .ptr 128 0), (5, .own 448 0 1 (p11.map eI)), (6, .int .i64 p12)], [(128, [.str a0.name_, .lst 1 (a0.seed.map eU8), .int .i64 a0.serial, .int .i64 a0.number, .str a0.suffix, .int .i64 a0.most, .lst 4 (a0.list_.map eDIssued)])], []⟩) e46 ⟨[(1, .int .i64 a1), (2, .ptr 128 0), (5, .own 448 0 1 (([] : List Int).map eI)), (6, .int .i64 0)], [(128, [.str a0.name_, .lst 1 (a0.seed.map eU8), .int .i64 a0.serial, .int .i64 a0.number, .str a0.suffix, .int .i64 a0.most, .lst 4 (a0.list_.map eDIssued)])], []⟩ (fgk (by kernel_rfl)) rfl 0 (fun _ => rfl) ?_ ?_
  · rintro S _ hfg ⟨p25, rfl, rfl⟩
    refine wk_ ⟨[(5, .own 448 0 1 (p25.map eI))], [], []⟩ (fglk hfg (by kernel_rfl)) ?_
    refine seq_ ?_
    refine reg_ ?_
    refine st (mv_ rfl trivial ?_)
    refine st (mv_ rfl trivial ?_)
    refine oe_ ?_
    refine wk_ ⟨[(4, .own 448 0 1 (p25.map eI))], [], []⟩ (fgk (by kernel_rfl)) ?_
    obtain rfl := Option.some.inj h0
    exact rt_ (ret_ rfl rfl rfl rfl rfl trivial)
  · rintro ⟨p11, p12⟩ o1 _ K1 rfl h1 hx1 hK1 hE1 hR1
    refine seq_ ?_
    refine seq_ ?_
    refine reg_ ?_
    refine st (mv_ rfl trivial ?_)
    refine st (c_ (cp_ ⟨trivial, trivial⟩ rfl trivial) ?_)
    refine st (c_ (cp_ ⟨trivial, trivial⟩ rfl (Nat.le_of_ble_eq_true rfl)) ?_)
    refine st (c_ (clenL (e := eDIssued) (l0 := a0.list_) rfl rfl trivial) ?_)
    refine st (c_ (cp_ ⟨trivial, trivial, trivial⟩ rfl trivial) ?_)
    refine oe_ ?_
    refine wk_ ⟨[(1, .int .i64 a1), (2, .ptr 128 0), (5, .own 448 0 1 (p11.map eI)), (6, .int .i64 p12), (12, .bool (decide (p12 < (a0.list_.length : Int))))], [(128, [.str a0.name_, .lst 1 (a0.seed.map eU8), .int .i64 a0.serial, .int .i64 a0.number, .str a0.suffix, .int .i64 a0.most, .lst 4 (a0.list_.map eDIssued)])], []⟩ (fgk (by kernel_rfl)) ?_
    refine ite_ (cb := (decide (p12 < (a0.list_.length : Int)))) rfl (fun c26 => ?_) (fun c26 => ?_)
    · replace h1 := ip c26 h1
      refine sk_ ?_
      refine wk_ ⟨[(1, .int .i64 a1), (2, .ptr 128 0), (5, .own 448 0 1 (p11.map eI)), (6, .int .i64 p12)], [(128, [.str a0.name_, .lst 1 (a0.seed.map eU8), .int .i64 a0.serial, .int .i64 a0.number, .str a0.suffix, .int .i64 a0.most, .lst 4 (a0.list_.map eDIssued)])], []⟩ (fgk (by kernel_rfl)) ?_
      refine seq_ ?_
      refine blockJ (fun S => ∃ p35 : List Int, S = ⟨[(1, .int .i64 a1), (2, .ptr 128 0), (5, .own 448 0 1 (p35.map eI)), (6, .int .i64 p12)], [(128, [.str a0.name_, .lst 1 (a0.seed.map eU8), .int .i64 a0.serial, .int .i64 a0.number, .str a0.suffix, .int .i64 a0.most, .lst 4 (a0.list_.map eDIssued)])], []⟩ ∧ g299_j0 p12 p35 = some o1) ?_ (fun J36 => ?_)
      · rintro _ ⟨p35, rfl, h1⟩
        refine wk_ ⟨[(1, .int .i64 a1), (2, .ptr 128 0), (5, .own 448 0 1 (p35.map eI)), (6, .int .i64 p12)], [(128, [.str a0.name_, .lst 1 (a0.seed.map eU8), .int .i64 a0.serial, .int .i64 a0.number, .str a0.suffix, .int .i64 a0.most, .lst 4 (a0.list_.map eDIssued)])], []⟩ (fgk (by kernel_rfl)) ?_
        refine reg_ ?_
        refine st (mv_ rfl trivial ?_)
        refine st (c_ (cp_ ⟨trivial, trivial, trivial⟩ rfl trivial) ?_)
        refine st (mv_ rfl trivial ?_)
        refine oe_ ?_
        obtain rfl := Option.some.inj h1
        exact hK1 _ rfl _ ⟨[(1, .int .i64 a1), (2, .ptr 128 0), (5, .own 448 0 1 (p35.map eI)), (6, .int .i64 (IntKind.i64.wrap (p12 + 1)))], [(128, [.str a0.name_, .lst 1 (a0.seed.map eU8), .int .i64 a0.serial, .int .i64 a0.number, .str a0.suffix, .int .i64 a0.most, .lst 4 (a0.list_.map eDIssued)])], []⟩ (fgk (by kernel_rfl)) rfl
      · refine seq_ ?_
        refine reg_ ?_
        refine st (c_ (cp_ ⟨trivial, trivial⟩ rfl trivial) ?_)
        refine st (c_ (cp_ ⟨trivial, trivial⟩ rfl (Nat.le_of_ble_eq_true rfl)) ?_)
        refine st (mv_ rfl trivial ?_)
        obtain ⟨y37, e38, h1⟩ := bnd h1
        refine st (c_ (cidxL (e := eDIssued) (y := y37) rfl rfl trivial rfl rfl trivial e38) ?_)
        refine st (c_ (cp_ ⟨trivial, trivial⟩ rfl (Nat.le_of_ble_eq_true rfl)) ?_)
        refine st (c_ (cp_ ⟨trivial, trivial⟩ rfl (Nat.le_of_ble_eq_true rfl)) ?_)
        refine st (mv_ rfl trivial ?_)
        refine st (pg_ (u := .ptr 128 6) rfl (fun hg => (cp_ ⟨trivial, trivial⟩ rfl trivial)) ?_)
        refine st (pg_ (u := .lst 4 (a0.list_.map eDIssued)) rfl (fun hg => (cp_ ⟨(fun _ => hg), trivial⟩ rfl (Nat.le_of_ble_eq_true rfl))) ?_)
        refine st (pg_ (u := .int .i64 p12) rfl (fun hg => (cmv (v := .int .i64 p12) rfl trivial)) ?_)
        obtain ⟨y39, e40, h1⟩ := bnd h1
        refine st (pg_ (u := .iptr [.int .i64 y39.serial, .int .i64 y39.to_, .str y39.subject, .bool y39.revoked]) rfl (fun hg => (cidxL (e := eDIssued) (y := y39) rfl rfl (fun _ => hg) rfl rfl (fun _ => hg) (ip hg e40))) ?_)
        refine st (pg_ (u := .iptr [.int .i64 y39.to_, .str y39.subject, .bool y39.revoked]) rfl (fun hg => (cp_ ⟨(fun _ => hg), trivial⟩ rfl (Nat.le_of_ble_eq_true rfl))) ?_)
        refine st (pg_ (u := .int .i64 y39.to_) rfl (fun hg => (cp_ ⟨(fun _ => hg), trivial⟩ rfl (Nat.le_of_ble_eq_true rfl))) ?_)
        refine st (pg_ (u := .int .i64 a1) rfl (fun hg => (cmv (v := .int .i64 a1) rfl trivial)) ?_)
        refine st (pg_ (u := .bool (decide (y39.to_ ≥ a1))) rfl (fun hg => (cp_ ⟨(fun _ => hg), (fun _ => hg), trivial⟩ rfl trivial)) ?_)
        refine sw ⟨[(1, .int .i64 a1), (2, .ptr 128 0), (5, .own 448 0 1 (p11.map eI)), (6, .int .i64 p12), (21, .bool y37.revoked), (29, .may (y37.revoked == true) (.bool (decide (y39.to_ ≥ a1))))], [(128, [.str a0.name_, .lst 1 (a0.seed.map eU8), .int .i64 a0.serial, .int .i64 a0.number, .str a0.suffix, .int .i64 a0.most, .lst 4 (a0.list_.map eDIssued)])], []⟩ (fgk (by kernel_rfl)) (pick_ rfl rfl rfl (fun h => eqt h) trivial rfl ?_)
        refine oe_ ?_
        refine wk_ ⟨[(1, .int .i64 a1), (2, .ptr 128 0), (5, .own 448 0 1 (p11.map eI)), (6, .int .i64 p12), (30, .bool (bif y37.revoked then (decide (y39.to_ ≥ a1)) else false))], [(128, [.str a0.name_, .lst 1 (a0.seed.map eU8), .int .i64 a0.serial, .int .i64 a0.number, .str a0.suffix, .int .i64 a0.most, .lst 4 (a0.list_.map eDIssued)])], []⟩ (fgk (by kernel_rfl)) ?_
        refine ite_ (cb := (bif y37.revoked then (decide (y39.to_ ≥ a1)) else false)) rfl (fun c41 => ?_) (fun c41 => ?_)
        · replace h1 := ip c41 h1
          refine reg_ ?_
          refine st (mv_ rfl trivial ?_)
          refine st (c_ (cp_ ⟨trivial, trivial⟩ rfl trivial) ?_)
          refine st (c_ (cp_ ⟨trivial, trivial⟩ rfl (Nat.le_of_ble_eq_true rfl)) ?_)
          refine st (mv_ rfl trivial ?_)
          obtain ⟨y42, e43, h1⟩ := bnd h1
          refine st (c_ (cidxL (e := eDIssued) (y := y42) rfl rfl trivial rfl rfl trivial e43) ?_)
          refine st (c_ (cp_ ⟨trivial, trivial⟩ rfl (Nat.le_of_ble_eq_true rfl)) ?_)
          refine st (c_ (cp_ ⟨trivial, trivial⟩ rfl (Nat.le_of_ble_eq_true rfl)) ?_)
          refine st (mkS_ ⟨trivial, trivial⟩ ⟨⟨Nat.le_of_ble_eq_true rfl, rfl, rfl⟩, trivial⟩ ?_)
          obtain ⟨c44, h1⟩ := grd h1
          refine st (app_ (e := eI) (l0 := p11) (l1 := ([y42.serial] : List Int)) rfl rfl trivial rfl (by decide) c44 ?_)
          refine st (mv_ rfl trivial ?_)
          refine oe_ ?_
          refine bn_ ?_
          exact J36 _ ⟨[(1, .int .i64 a1), (2, .ptr 128 0), (5, .own 448 0 1 ((p11 ++ ([y42.serial] : List Int)).map eI)), (6, .int .i64 p12)], [(128, [.str a0.name_, .lst 1 (a0.seed.map eU8), .int .i64 a0.serial, .int .i64 a0.number, .str a0.suffix, .int .i64 a0.most, .lst 4 (a0.list_.map eDIssued)])], []⟩ (fgk (by kernel_rfl)) ⟨_, rfl, h1⟩
        · replace h1 := inb c41 h1
          refine sk_ ?_
          refine bn_ ?_
          exact J36 _ ⟨[(1, .int .i64 a1), (2, .ptr 128 0), (5, .own 448 0 1 (p11.map eI)), (6, .int .i64 p12)], [(128, [.str a0.name_, .lst 1 (a0.seed.map eU8), .int .i64 a0.serial, .int .i64 a0.number, .str a0.suffix, .int .i64 a0.most, .lst 4 (a0.list_.map eDIssued)])], []⟩ (fgk (by kernel_rfl)) ⟨_, rfl, h1⟩
    · replace h1 := inb c26 h1
      obtain rfl := Option.some.inj h1
      obtain rfl := hx1 _ rfl
      refine exQ rfl ?_
      exact hE1 _ ⟨[(5, .own 448 0 1 (p11.map eI))], [], []⟩ (fgk (by kernel_rfl)) ⟨_, rfl, rfl⟩

/- loop.example/g00149/spec.RevokedOf -/
def c237_r0 : List Ins := [⟨some 2, .box (.t 0), none⟩,
 ⟨some 4, .nilS 1, none⟩,
 ⟨some 5, .p (.mv (.c (.int .i64 0))), none⟩]
def c237_r1 : List Ins := [⟨some 6, .p (.load (.t 2) 7 true), none⟩,
 ⟨some 7, .call 224 [(.t 6)], none⟩,
 ⟨some 8, .p (.un .not (.t 7)), none⟩]
def c237_r2 : List Ins := [⟨some 9, .mkS 1 [(.int .i64 0)] 0 [], none⟩,
 ⟨some 4, .p (.mv (.t 9)), none⟩,
 ⟨some 5, .p (.mv (.c (.int .i64 1))), none⟩]
def c237_r3 : List Ins := [⟨some 10, .p (.load (.t 2) 7 true), none⟩,
 ⟨some 11, .p (.mv (.t 1)), none⟩,
 ⟨some 12, .call 299 [(.t 10), (.t 11)], none⟩,
 ⟨some 4, .p (.mv (.t 12)), none⟩,
 ⟨some 5, .p (.mv (.c (.int .i64 0))), none⟩]
def c237 : XFn := { np := 2, nt := 13, res := [.t 4, .t 5], body := (.seq (.reg c237_r0) (.seq (.seq (.reg c237_r1) (.ite (.t 8) (.seq (.reg c237_r2) .ret) .skip)) (.seq (.reg c237_r3) .ret))) }
def K237 (C : CRel) : Prop := ∀ (a0 : DAuthority) (a1 : Int) (r : (List Int) × Int), g237 a0 a1 = some r → C 237 ⟨[.agg [.str a0.name_, .lst 1 (a0.seed.map eU8), .int .i64 a0.serial, .int .i64 a0.number, .str a0.suffix, .int .i64 a0.most, .lst 4 (a0.list_.map eDIssued)], .int .i64 a1], []⟩ ⟨.tup [.own 0 0 1 (r.1.map eI), .int .i64 r.2], [], []⟩
theorem F237 {C : CRel} (H224 : K224 C) (H299 : K299 C) (a0 : DAuthority) (a1 : Int) (r : (List Int) × Int) (h0 : g237 a0 a1 = some r) : FnOK C c237 ⟨[.agg [.str a0.name_, .lst 1 (a0.seed.map eU8), .int .i64 a0.serial, .int .i64 a0.number, .str a0.suffix, .int .i64 a0.most, .lst 4 (a0.list_.map eDIssued)], .int .i64 a1], []⟩ ⟨.tup [.own 0 0 1 (r.1.map eI), .int .i64 r.2], [], []⟩ := by
  refine fn_ (Nat.le_of_ble_eq_true rfl) ?_
  refine seq_ ?_
  refine reg_ ?_
  refine st (box_ rfl trivial rfl ?_)
  refine st (nilS_ ?_)
  refine st (mvc_ trivial ?_)
  refine oe_ ?_
  refine wk_ ⟨[(1, .int .i64 a1), (2, .ptr 128 0)], [(128, [.str a0.name_, .lst 1 (a0.seed.map eU8), .int .i64 a0.serial, .int .i64 a0.number, .str a0.suffix, .int .i64 a0.most, .lst 4 (a0.list_.map eDIssued)])], []⟩ (fgk (by kernel_rfl)) ?_
  refine seq_ ?_
  refine seq_ ?_
  refine reg_ ?_
  refine st (c_ (v := .agg [.str a0.name_, .lst 1 (a0.seed.map eU8), .int .i64 a0.serial, .int .i64 a0.number, .str a0.suffix, .int .i64 a0.most, .lst 4 (a0.list_.map eDIssued)]) (cp_ ⟨trivial, trivial⟩ rfl (Nat.le_of_ble_eq_true rfl)) ?_)
  obtain ⟨r1, e2, h0⟩ := bnd h0
  refine st (call0_ (r := .bool r1) false (H224 a0 r1 e2) ⟨trivial, trivial⟩ rfl rfl (fun _ => rfl) ?_)
  refine st (c_ (cp_ ⟨trivial, trivial⟩ rfl trivial) ?_)
  refine oe_ ?_
  refine wk_ ⟨[(1, .int .i64 a1), (2, .ptr 128 0), (8, .bool (!r1))], [(128, [.str a0.name_, .lst 1 (a0.seed.map eU8), .int .i64 a0.serial, .int .i64 a0.number, .str a0.suffix, .int .i64 a0.most, .lst 4 (a0.list_.map eDIssued)])], []⟩ (fgk (by kernel_rfl)) ?_
  refine ite_ (cb := (!r1)) rfl (fun c3 => ?_) (fun c3 => ?_)
  · replace h0 := ip c3 h0
    refine seq_ ?_
    refine reg_ ?_
    refine st (mkS_ trivial trivial ?_)
    refine st (mv_ rfl trivial ?_)
    refine st (mvc_ trivial ?_)
    refine oe_ ?_
    refine wk_ ⟨[(4, .own 576 0 1 (([] : List Int).map eI)), (5, .int .i64 1)], [], []⟩ (fgk (by kernel_rfl)) ?_
    obtain rfl := Option.some.inj h0
    exact rt_ (ret_ rfl rfl rfl rfl rfl trivial)
  · replace h0 := inb c3 h0
    refine sk_ ?_
    refine wk_ ⟨[(1, .int .i64 a1), (2, .ptr 128 0)], [(128, [.str a0.name_, .lst 1 (a0.seed.map eU8), .int .i64 a0.serial, .int .i64 a0.number, .str a0.suffix, .int .i64 a0.most, .lst 4 (a0.list_.map eDIssued)])], []⟩ (fgk (by kernel_rfl)) ?_
    refine seq_ ?_
    refine reg_ ?_
    refine st (c_ (v := .agg [.str a0.name_, .lst 1 (a0.seed.map eU8), .int .i64 a0.serial, .int .i64 a0.number, .str a0.suffix, .int .i64 a0.most, .lst 4 (a0.list_.map eDIssued)]) (cp_ ⟨trivial, trivial⟩ rfl (Nat.le_of_ble_eq_true rfl)) ?_)
    refine st (mv_ rfl trivial ?_)
    obtain ⟨r4, e5, h0⟩ := bnd h0
    refine st (call0_ (r := .own 0 0 1 (r4.map eI)) false (H299 a0 a1 r4 e5) ⟨trivial, trivial, trivial⟩ rfl rfl (fun _ => (and_ (fl1 (fun _ => rfl)) rfl)) ?_)
    refine st (mv_ rfl trivial ?_)
    refine st (mvc_ trivial ?_)
    refine oe_ ?_
    refine wk_ ⟨[(4, .own 768 0 1 (r4.map eI)), (5, .int .i64 0)], [], []⟩ (fgk (by kernel_rfl)) ?_
    obtain rfl := Option.some.inj h0
    exact rt_ (ret_ rfl rfl rfl rfl rfl trivial)

/- loop.example/g00149/impl.within -/
def c63_r0 : List Ins := [⟨some 6, .p (.mv (.c (.bool false))), none⟩]
def c63_r1 : List Ins := [⟨some 7, .p (.mv (.t 1)), none⟩,
 ⟨some 8, .p (.mv (.t 0)), none⟩,
 ⟨some 9, .p (.bin .leq (.t 7) (.t 8)), none⟩,
 ⟨some 10, .p (.mv (.t 9)), none⟩,
 ⟨some 11, .p (.mv (.t 0)), some (10, true)⟩,
 ⟨some 12, .p (.mv (.t 2)), some (10, true)⟩,
 ⟨some 13, .p (.bin .leq (.t 11) (.t 12)), some (10, true)⟩,
 ⟨some 14, .pick (.t 10) (.t 13) (.c (.bool false)), none⟩,
 ⟨some 6, .p (.mv (.t 14)), none⟩]
def c63 : XFn := { np := 3, nt := 15, res := [.t 6], body := (.seq (.reg c63_r0) (.seq (.reg c63_r1) .ret)) }
def K63 (C : CRel) : Prop := ∀ (a0 : Int) (a1 : Int) (a2 : Int) (r : Bool), g63 a0 a1 a2 = some r → C 63 ⟨[.int .i64 a0, .int .i64 a1, .int .i64 a2], []⟩ ⟨.bool r, [], []⟩
theorem F63 {C : CRel}  (a0 : Int) (a1 : Int) (a2 : Int) (r : Bool) (h0 : g63 a0 a1 a2 = some r) : FnOK C c63 ⟨[.int .i64 a0, .int .i64 a1, .int .i64 a2], []⟩ ⟨.bool r, [], []⟩ := by
  refine fn_ (Nat.le_of_ble_eq_true rfl) ?_
  refine seq_ ?_
  refine reg_ ?_
  refine st (mvc_ trivial ?_)
  refine oe_ ?_
  refine wk_ ⟨[(0, .int .i64 a0), (1, .int .i64 a1), (2, .int .i64 a2)], [], []⟩ (fgk (by kernel_rfl)) ?_
  refine seq_ ?_
  refine reg_ ?_
  refine st (mv_ rfl trivial ?_)
  refine st (mv_ rfl trivial ?_)
  refine st (c_ (cp_ ⟨trivial, trivial, trivial⟩ rfl trivial) ?_)
  refine st (mv_ rfl trivial ?_)
  refine st (pg_ (u := .int .i64 a0) rfl (fun hg => (cmv (v := .int .i64 a0) rfl trivial)) ?_)
  refine st (pg_ (u := .int .i64 a2) rfl (fun hg => (cmv (v := .int .i64 a2) rfl trivial)) ?_)
  refine st (pg_ (u := .bool (decide (a0 ≤ a2))) rfl (fun hg => (cp_ ⟨(fun _ => hg), (fun _ => hg), trivial⟩ rfl trivial)) ?_)
  refine st (pick_ rfl rfl rfl (fun h => eqt h) trivial rfl ?_)
  refine st (mv_ rfl trivial ?_)
  refine oe_ ?_
  refine wk_ ⟨[(6, .bool (bif (decide (a1 ≤ a0)) then (decide (a0 ≤ a2)) else false))], [], []⟩ (fgk (by kernel_rfl)) ?_
  obtain rfl := Option.some.inj h0
  exact rt_ (ret_ rfl rfl rfl rfl rfl trivial)

/- loop.example/g00149/impl.isSerial -/
def c58_r0 : List Ins := [⟨some 2, .p (.mv (.c (.bool false))), none⟩]
def c58_r1 : List Ins := [⟨some 3, .p (.mv (.t 0)), none⟩,
 ⟨some 4, .call 63 [(.t 3), (.c (.int .i64 1)), (.c (.int .i64 1000000))], none⟩,
 ⟨some 2, .p (.mv (.t 4)), none⟩]
def c58 : XFn := { np := 1, nt := 5, res := [.t 2], body := (.seq (.reg c58_r0) (.seq (.reg c58_r1) .ret)) }
def K58 (C : CRel) : Prop := ∀ (a0 : Int) (r : Bool), g58 a0 = some r → C 58 ⟨[.int .i64 a0], []⟩ ⟨.bool r, [], []⟩
theorem F58 {C : CRel} (H63 : K63 C) (a0 : Int) (r : Bool) (h0 : g58 a0 = some r) : FnOK C c58 ⟨[.int .i64 a0], []⟩ ⟨.bool r, [], []⟩ := by
  refine fn_ (Nat.le_of_ble_eq_true rfl) ?_
  refine seq_ ?_
  refine reg_ ?_
  refine st (mvc_ trivial ?_)
  refine oe_ ?_
  refine wk_ ⟨[(0, .int .i64 a0)], [], []⟩ (fgk (by kernel_rfl)) ?_
  refine seq_ ?_
  refine reg_ ?_
  refine st (mv_ rfl trivial ?_)
  obtain ⟨r1, e2, h0⟩ := bnd h0
  refine st (call0_ (r := .bool r1) false (H63 a0 1 1000000 r1 e2) ⟨trivial, trivial, trivial, trivial⟩ rfl rfl (fun _ => rfl) ?_)
  refine st (mv_ rfl trivial ?_)
  refine oe_ ?_
  refine wk_ ⟨[(2, .bool r1)], [], []⟩ (fgk (by kernel_rfl)) ?_
  obtain rfl := Option.some.inj h0
  exact rt_ (ret_ rfl rfl rfl rfl rfl trivial)
end Go.Ev
