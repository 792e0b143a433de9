/- The walks of functions: the code comes to the answers that QgD tells. Written by a program of ours. -/
import Derived.Test.YtdkeomfbpdodiaaQgW2
set_option linter.all false
set_option maxHeartbeats 4000000
set_option linter.unusedVariables false
set_option maxRecDepth 100000
namespace Go.Ev

/- (*loop.example/g00149/spec.l00Src).byte -/
def c139_r0 : List Ins := [⟨some 2, .p (.mv (.c (iV 0))), none⟩]
def c139_r1 : List Ins := [(iQ 3 (.mv (.t 0))),
(iQ 4 (.nilc (.t 3))),
(iQ 5 (.fieldA (.t 4) 1)),
(iQ 6 (.load (.t 5) 1 false)),
⟨some 7, .p (.bin .add (.t 6) (.c (iV 1))), none⟩,
(iQ 8 (.nilc (.t 3))),
(iQ 9 (.fieldA (.t 8) 1)),
⟨none, .store (.t 9) (.t 7) 1, none⟩]
def c139_r2 : DP := (.take (iQ 10 (.mv (.t 0)))
(.take (iQ 11 (.nilc (.t 10)))
(.take (iQ 12 (.fieldA (.t 11) 1))
(.take (iQ 13 (.load (.t 12) 1 false))
(.take (iQ 14 (.mv (.t 0)))
(.take (iQ 15 (.nilc (.t 14)))
(.take (iQ 16 (.fieldA (.t 15) 0))
(.take (iQ 17 (.load (.t 16) 1 false))
(.take (iQ 18 (.len (.t 17)))
(.take (iQ 19 (.bin .leq (.t 13) (.t 18)))
.fin))))))))))
def c139_r3 : DP := (.take (iQ 20 (.mv (.t 0)))
(.take (iQ 21 (.mv (.t 0)))
(.take (iQ 22 (.nilc (.t 21)))
(.take (iQ 23 (.fieldA (.t 22) 2))
(.take (iQ 24 (.load (.t 23) 1 false))
(.take ⟨some 25, .p (.bin .mul (.t 24) (.c (iV 31))), none⟩
(.take (iQ 26 (.mv (.t 0)))
(.take (iQ 27 (.nilc (.t 26)))
(.take (iQ 28 (.fieldA (.t 27) 0))
(.take (iQ 29 (.load (.t 28) 1 false))
(.take (iQ 30 (.mv (.t 0)))
(.take (iQ 31 (.nilc (.t 30)))
(.take (iQ 32 (.fieldA (.t 31) 1))
(.take (iQ 33 (.load (.t 32) 1 false))
(.take ⟨some 34, .p (.bin .sub (.t 33) (.c (iV 1))), none⟩
(.take (iQ 35 (.idxA (.t 29) (.t 34) 1))
(.take (iQ 36 (.load (.t 35) 1 false))
(.take (iQ 37 (.conv .i64 (.t 36)))
(.take (iQ 38 (.bin .add (.t 25) (.t 37)))
(.take ⟨some 39, .p (.bin .add (.t 38) (.c (iV 7))), none⟩
(.take ⟨some 40, .p (.bin .rem (.t 39) (.c (iV 2147483648))), none⟩
(.take (iQ 41 (.nilc (.t 20)))
(.take (iQ 42 (.fieldA (.t 41) 2))
(.alt [] ⟨none, .store (.t 42) (.t 40) 1, none⟩
.fin
.stop))))))))))))))))))))))))
def c139_r4 : DP := (.take (iQ 43 (.mv (.t 0)))
(.take (iQ 44 (.nilc (.t 43)))
(.take (iQ 45 (.fieldA (.t 44) 0))
(.take (iQ 46 (.load (.t 45) 1 false))
(.take (iQ 47 (.mv (.t 0)))
(.take (iQ 48 (.nilc (.t 47)))
(.take (iQ 49 (.fieldA (.t 48) 1))
(.take (iQ 50 (.load (.t 49) 1 false))
(.take ⟨some 51, .p (.bin .sub (.t 50) (.c (iV 1))), none⟩
(.take (iQ 52 (.idxA (.t 46) (.t 51) 1))
(.take (iQ 53 (.load (.t 52) 1 false))
(.take (iQ 54 (.conv .i64 (.t 53)))
(.take (iQ 2 (.mv (.t 54)))
.fin)))))))))))))
def c139_r5 : List Ins := [(iQ 55 (.mv (.t 0))),
(iQ 56 (.nilc (.t 55))),
(iQ 57 (.fieldA (.t 56) 1)),
(iQ 58 (.load (.t 57) 1 false)),
⟨some 59, .p (.bin .gtr (.t 58) (.c (iV 3000))), none⟩]
def c139_r6 : List Ins := [⟨some 2, .p (.mv (.c (iV 0))), none⟩]
def c139_r7 : List Ins := [(iQ 60 (.mv (.t 0))),
(iQ 61 (.mv (.t 0))),
(iQ 62 (.nilc (.t 61))),
(iQ 63 (.fieldA (.t 62) 2)),
(iQ 64 (.load (.t 63) 1 false)),
⟨some 65, .p (.bin .mul (.t 64) (.c (iV 1103515245))), none⟩,
⟨some 66, .p (.bin .add (.t 65) (.c (iV 12345))), none⟩,
⟨some 67, .p (.bin .rem (.t 66) (.c (iV 2147483648))), none⟩,
(iQ 68 (.nilc (.t 60))),
(iQ 69 (.fieldA (.t 68) 2)),
⟨none, .store (.t 69) (.t 67) 1, none⟩]
def c139_r8 : List Ins := [(iQ 70 (.mv (.t 0))),
(iQ 71 (.nilc (.t 70))),
(iQ 72 (.fieldA (.t 71) 2)),
(iQ 73 (.load (.t 72) 1 false)),
⟨some 74, .p (.bin .quo (.t 73) (.c (iV 65536))), none⟩,
⟨some 75, .p (.bin .rem (.t 74) (.c (iV 256))), none⟩,
(iQ 2 (.mv (.t 75)))]
def c139 : XFn := { np := 1, nt := 76, res := [.t 2], body := (.seq (.reg c139_r0) (.seq (.reg c139_r1) (.seq (.seq (.draw c139_r2) (.ite (.t 19) (.seq (.draw c139_r3) (.seq (.draw c139_r4) .ret)) .skip)) (.seq (.seq (.reg c139_r5) (.ite (.t 59) (.seq (.reg c139_r6) .ret) .skip)) (.seq (.reg c139_r7) (.seq (.reg c139_r8) .ret)))))) }
def K139 (C : CRel) : Prop := ∀ (a0 : Dl00Src) (r : Int × Dl00Src), g139 a0 = some r → C 139 ⟨[.ptr 1048576 0], [[.lst 1 (a0.code_.map eU8), iV a0.at_, iV a0.seed]]⟩ ⟨iV r.1, [[.lst 1 (r.2.code_.map eU8), iV r.2.at_, iV r.2.seed]], []⟩
theorem F139 {C : CRel}  (a0 : Dl00Src) (r : Int × Dl00Src) (h0 : g139 a0 = some r) : FnOK C c139 ⟨[.ptr 1048576 0], [[.lst 1 (a0.code_.map eU8), iV a0.at_, iV a0.seed]]⟩ ⟨iV r.1, [[.lst 1 (r.2.code_.map eU8), iV r.2.at_, iV r.2.seed]], []⟩ := by
 refine fn_ (nl rfl) (seq_ (reg_ (st (mvc_ tv (oe_ (wk_ ⟨[(0, .ptr 1048576 0)], [(1048576, [.lst 1 (a0.code_.map eU8), iV a0.at_, iV a0.seed])], []⟩ (fgk (by kernel_rfl)) (seq_ (reg_ (st (mv_ rfl tv (st (c_ (cp_ ⟨tv, tv⟩ rfl tv) (st (c_ (cp_ ⟨tv, tv⟩ rfl tv) (st (c_ (cp_ ⟨tv, tv⟩ rfl (nl rfl)) (st (c_ (cp_ t3 rfl tv) (st (c_ (cp_ ⟨tv, tv⟩ rfl tv) (st (c_ (cp_ ⟨tv, tv⟩ rfl tv) (st (stp_ rfl rfl tv rfl rfl rfl (nl rfl) (oe_ (wk_ ⟨[(0, .ptr 1048576 0)], [(1048576, [.lst 1 (a0.code_.map eU8), iV (IntKind.i64.wrap (a0.at_ + 1)), iV a0.seed])], []⟩ (fgk (by kernel_rfl)) (seq_ (seq_ (draw_ (dtake tv (mv_ rfl tv (⟨tv, (dtake tv (c_ (cp_ ⟨tv, tv⟩ rfl tv) (⟨tv, (dtake tv (c_ (cp_ ⟨tv, tv⟩ rfl tv) (⟨tv, (dtake tv (c_ (cp_ ⟨tv, tv⟩ rfl (nl rfl)) (⟨tv, (dtake tv (mv_ rfl tv (⟨tv, ?_⟩)))⟩)))⟩)))⟩)))⟩))))))))))))))))))))))))))))))))
 refine dtake tv (c_ (cp_ ⟨tv, tv⟩ rfl tv) (⟨tv, (dtake tv (c_ (cp_ ⟨tv, tv⟩ rfl tv) (⟨tv, (dtake tv (c_ (cp_ ⟨tv, tv⟩ rfl (nl rfl)) (⟨tv, (dtake tv (c_ (clenL (e := eU8) (l0 := a0.code_) rfl rfl tv) (⟨tv, (dtake tv (c_ (cp_ t3 rfl tv) (⟨tv, (dfin (wk_ ⟨[(0, .ptr 1048576 0), (19, .bool (decide ((IntKind.i64.wrap (a0.at_ + 1)) ≤ (a0.code_.length : Int))))], [(1048576, [.lst 1 (a0.code_.map eU8), iV (IntKind.i64.wrap (a0.at_ + 1)), iV a0.seed])], []⟩ (fgk (by kernel_rfl)) (ite_ (cb := (decide ((IntKind.i64.wrap (a0.at_ + 1)) ≤ (a0.code_.length : Int)))) rfl (fun c1 => ?_) (fun c1 => ?_))))⟩)))⟩)))⟩)))⟩)))⟩))
 ·replace h0 := ip c1 h0
  refine seq_ ?_
  obtain ⟨y2, e3, h0⟩ := bnd h0
  refine draw_ (dtake tv (mv_ rfl tv (⟨tv, (dtake tv (mv_ rfl tv (⟨tv, (dtake tv (c_ (cp_ ⟨tv, tv⟩ rfl tv) (⟨tv, (dtake tv (c_ (cp_ ⟨tv, tv⟩ rfl tv) (⟨tv, (dtake tv (c_ (cp_ ⟨tv, tv⟩ rfl (nl rfl)) (⟨tv, (dtake tv (c_ (cp_ t3 rfl tv) (⟨tv, (dtake tv (mv_ rfl tv (⟨tv, (dtake tv (c_ (cp_ ⟨tv, tv⟩ rfl tv) (⟨tv, (dtake tv (c_ (cp_ ⟨tv, tv⟩ rfl tv) (⟨tv, (dtake tv (c_ (cp_ ⟨tv, tv⟩ rfl (nl rfl)) (⟨tv, (dtake tv (mv_ rfl tv (⟨tv, (dtake tv (c_ (cp_ ⟨tv, tv⟩ rfl tv) (⟨tv, (dtake tv (c_ (cp_ ⟨tv, tv⟩ rfl tv) (⟨tv, (dtake tv (c_ (cp_ ⟨tv, tv⟩ rfl (nl rfl)) (⟨tv, (dtake tv (c_ (cp_ t3 rfl tv) (⟨tv, ?_⟩)))⟩)))⟩)))⟩)))⟩)))⟩)))⟩)))⟩)))⟩)))⟩)))⟩)))⟩)))⟩)))⟩)))⟩)))
  refine dtake tv (c_ (cidxL (e := eU8) (y := y2) rfl rfl tv rfl rfl tv e3) (⟨tv, (dtake tv (c_ (cp_ ⟨tv, tv⟩ rfl (nl rfl)) (⟨tv, (dtake tv (c_ (cp_ ⟨tv, tv⟩ rfl tv) (⟨tv, (dtake tv (c_ (cp_ t3 rfl tv) (⟨tv, (dtake tv (c_ (cp_ t3 rfl tv) (⟨tv, (dtake tv (c_ (cp_ ⟨tv, tv, tv⟩ rfl (by decide)) (⟨tv, (dtake tv (c_ (cp_ ⟨tv, tv⟩ rfl tv) (⟨tv, (dtake tv (c_ (cp_ ⟨tv, tv⟩ rfl tv) (⟨tv, (dalt (stp_ rfl rfl tv rfl rfl rfl (nl rfl) (dk0 ⟨[], tv, tv, (dfin ?_)⟩)) dstop)⟩)))⟩)))⟩)))⟩)))⟩)))⟩)))⟩)))⟩))
  obtain ⟨v4, e5, h0⟩ := bl h0
  refine wk_ ⟨[(0, .ptr 1048576 0)], [(1048576, [.lst 1 (a0.code_.map eU8), iV (IntKind.i64.wrap (a0.at_ + 1)), iV v4])], []⟩ (fgk (by subst e5; kernel_rfl)) (seq_ ?_)
  obtain ⟨y6, e7, h0⟩ := bnd h0
  refine draw_ (dtake tv (mv_ rfl tv (⟨tv, (dtake tv (c_ (cp_ ⟨tv, tv⟩ rfl tv) (⟨tv, (dtake tv (c_ (cp_ ⟨tv, tv⟩ rfl tv) (⟨tv, (dtake tv (c_ (cp_ ⟨tv, tv⟩ rfl (nl rfl)) (⟨tv, (dtake tv (mv_ rfl tv (⟨tv, (dtake tv (c_ (cp_ ⟨tv, tv⟩ rfl tv) (⟨tv, (dtake tv (c_ (cp_ ⟨tv, tv⟩ rfl tv) (⟨tv, (dtake tv (c_ (cp_ ⟨tv, tv⟩ rfl (nl rfl)) (⟨tv, (dtake tv (c_ (cp_ t3 rfl tv) (⟨tv, (dtake tv (c_ (cidxL (e := eU8) (y := y6) rfl rfl tv rfl rfl tv e7) (⟨tv, (dtake tv (c_ (cp_ ⟨tv, tv⟩ rfl (nl rfl)) (⟨tv, (dtake tv (c_ (cp_ ⟨tv, tv⟩ rfl tv) (⟨tv, (dtake tv (mv_ rfl tv (⟨tv, (dfin (wk_ ⟨[(2, iV (IntKind.i64.wrap ((y6).toNat : Int)))], [(1048576, [.lst 1 (a0.code_.map eU8), iV (IntKind.i64.wrap (a0.at_ + 1)), iV v4])], []⟩ (fgk (by kernel_rfl)) ?_))⟩)))⟩)))⟩)))⟩)))⟩)))⟩)))⟩)))⟩)))⟩)))⟩)))⟩)))⟩)))⟩)))
  obtain rfl := Option.some.inj h0
  exact rt_ (ret_ rfl rfl rfl rfl rfl tv)
 ·replace h0 := inb c1 h0
  refine sk_ (wk_ ⟨[(0, .ptr 1048576 0)], [(1048576, [.lst 1 (a0.code_.map eU8), iV (IntKind.i64.wrap (a0.at_ + 1)), iV a0.seed])], []⟩ (fgk (by kernel_rfl)) (seq_ (seq_ (reg_ (st (mv_ rfl tv (st (c_ (cp_ ⟨tv, tv⟩ rfl tv) (st (c_ (cp_ ⟨tv, tv⟩ rfl tv) (st (c_ (cp_ ⟨tv, tv⟩ rfl (nl rfl)) (st (c_ (cp_ t3 rfl tv) (oe_ (wk_ ⟨[(0, .ptr 1048576 0), (59, .bool (decide ((IntKind.i64.wrap (a0.at_ + 1)) > 3000)))], [(1048576, [.lst 1 (a0.code_.map eU8), iV (IntKind.i64.wrap (a0.at_ + 1)), iV a0.seed])], []⟩ (fgk (by kernel_rfl)) (ite_ (cb := (decide ((IntKind.i64.wrap (a0.at_ + 1)) > 3000))) rfl (fun c8 => ?_) (fun c8 => ?_))))))))))))))))))
  ·replace h0 := ip c8 h0
   refine seq_ (reg_ (st (mvc_ tv (oe_ (wk_ ⟨[(2, iV 0)], [(1048576, [.lst 1 (a0.code_.map eU8), iV (IntKind.i64.wrap (a0.at_ + 1)), iV a0.seed])], []⟩ (fgk (by kernel_rfl)) ?_)))))
   obtain rfl := Option.some.inj h0
   exact rt_ (ret_ rfl rfl rfl rfl rfl tv)
  ·replace h0 := inb c8 h0
   refine sk_ (wk_ ⟨[(0, .ptr 1048576 0)], [(1048576, [.lst 1 (a0.code_.map eU8), iV (IntKind.i64.wrap (a0.at_ + 1)), iV a0.seed])], []⟩ (fgk (by kernel_rfl)) (seq_ (reg_ (st (mv_ rfl tv (st (mv_ rfl tv (st (c_ (cp_ ⟨tv, tv⟩ rfl tv) (st (c_ (cp_ ⟨tv, tv⟩ rfl tv) (st (c_ (cp_ ⟨tv, tv⟩ rfl (nl rfl)) (st (c_ (cp_ t3 rfl tv) (st (c_ (cp_ t3 rfl tv) (st (c_ (cp_ ⟨tv, tv, tv⟩ rfl (by decide)) (st (c_ (cp_ ⟨tv, tv⟩ rfl tv) (st (c_ (cp_ ⟨tv, tv⟩ rfl tv) (st (stp_ rfl rfl tv rfl rfl rfl (nl rfl) (oe_ ?_))))))))))))))))))))))))))
   obtain ⟨v9, e10, h0⟩ := bl h0
   refine wk_ ⟨[(0, .ptr 1048576 0)], [(1048576, [.lst 1 (a0.code_.map eU8), iV (IntKind.i64.wrap (a0.at_ + 1)), iV v9])], []⟩ (fgk (by subst e10; kernel_rfl)) (seq_ (reg_ (st (mv_ rfl tv (st (c_ (cp_ ⟨tv, tv⟩ rfl tv) (st (c_ (cp_ ⟨tv, tv⟩ rfl tv) (st (c_ (cp_ ⟨tv, tv⟩ rfl (nl rfl)) (st (c_ (cp_ ⟨tv, tv, tv⟩ rfl (by decide)) (st (c_ (cp_ ⟨tv, tv, tv⟩ rfl (by decide)) (st (mv_ rfl tv (oe_ (wk_ ⟨[(2, iV (((IntKind.i64.wrap ((v9).tdiv 65536))).tmod 256))], [(1048576, [.lst 1 (a0.code_.map eU8), iV (IntKind.i64.wrap (a0.at_ + 1)), iV v9])], []⟩ (fgk (by kernel_rfl)) ?_))))))))))))))))))
   obtain rfl := Option.some.inj h0
   exact rt_ (ret_ rfl rfl rfl rfl rfl tv)

/- (*loop.example/g00149/spec.l00Src).next -/
def c117_r0 : List Ins := [⟨some 4, .p (.mv (.c (iV 0))), none⟩]
def c117_r1 : List Ins := [(iQ 8 (.mv (.t 1))),
⟨some 9, .p (.bin .leq (.t 8) (.c (iV 1))), none⟩]
def c117_r2 : List Ins := [⟨some 4, .p (.mv (.c (iV 0))), none⟩]
def c117_r3 : List Ins := [(iQ 10 (.mv (.t 1))),
⟨some 11, .p (.bin .leq (.t 10) (.c (iV 256))), none⟩]
def c117_r4 : List Ins := [(iQ 12 (.mv (.t 0))),
⟨some 13, .call 139 [(.t 12)], none⟩,
(iQ 14 (.mv (.t 1))),
(iQ 15 (.bin .rem (.t 13) (.t 14))),
(iQ 4 (.mv (.t 15)))]
def c117_r5 : List Ins := [(iQ 16 (.mv (.t 0))),
⟨some 17, .call 139 [(.t 16)], none⟩,
(iQ 5 (.mv (.t 17)))]
def c117_r6 : List Ins := [(iQ 18 (.mv (.t 0))),
⟨some 19, .call 139 [(.t 18)], none⟩,
(iQ 6 (.mv (.t 19)))]
def c117_r7 : List Ins := [(iQ 20 (.mv (.t 0))),
⟨some 21, .call 139 [(.t 20)], none⟩,
(iQ 7 (.mv (.t 21)))]
def c117_r8 : List Ins := [(iQ 22 (.mv (.t 5))),
⟨some 23, .p (.bin .mul (.t 22) (.c (iV 65536))), none⟩,
(iQ 24 (.mv (.t 6))),
⟨some 25, .p (.bin .mul (.t 24) (.c (iV 256))), none⟩,
(iQ 26 (.bin .add (.t 23) (.t 25))),
(iQ 27 (.mv (.t 7))),
(iQ 28 (.bin .add (.t 26) (.t 27))),
(iQ 29 (.mv (.t 1))),
(iQ 30 (.bin .rem (.t 28) (.t 29))),
(iQ 4 (.mv (.t 30)))]
def c117 : XFn := { np := 2, nt := 31, res := [.t 4], body := (.seq (.reg c117_r0) (.seq (.seq (.reg c117_r1) (.ite (.t 9) (.seq (.reg c117_r2) .ret) .skip)) (.seq (.seq (.reg c117_r3) (.ite (.t 11) (.seq (.reg c117_r4) .ret) .skip)) (.seq (.reg c117_r5) (.seq (.reg c117_r6) (.seq (.reg c117_r7) (.seq (.reg c117_r8) .ret))))))) }
def K117 (C : CRel) : Prop := ∀ (a0 : Dl00Src) (a1 : Int) (r : Int × Dl00Src), g117 a0 a1 = some r → C 117 ⟨[.ptr 1048576 0, iV a1], [[.lst 1 (a0.code_.map eU8), iV a0.at_, iV a0.seed]]⟩ ⟨iV r.1, [[.lst 1 (r.2.code_.map eU8), iV r.2.at_, iV r.2.seed]], []⟩
theorem F117 {C : CRel} (H139 : K139 C) (a0 : Dl00Src) (a1 : Int) (r : Int × Dl00Src) (h0 : g117 a0 a1 = some r) : FnOK C c117 ⟨[.ptr 1048576 0, iV a1], [[.lst 1 (a0.code_.map eU8), iV a0.at_, iV a0.seed]]⟩ ⟨iV r.1, [[.lst 1 (r.2.code_.map eU8), iV r.2.at_, iV r.2.seed]], []⟩ := by
 refine fn_ (nl rfl) (seq_ (reg_ (st (mvc_ tv (oe_ (wk_ ⟨[(0, .ptr 1048576 0), (1, iV a1)], [(1048576, [.lst 1 (a0.code_.map eU8), iV a0.at_, iV a0.seed])], []⟩ (fgk (by kernel_rfl)) (seq_ (seq_ (reg_ (st (mv_ rfl tv (st (c_ (cp_ t3 rfl tv) (oe_ (wk_ ⟨[(0, .ptr 1048576 0), (1, iV a1), (9, .bool (decide (a1 ≤ 1)))], [(1048576, [.lst 1 (a0.code_.map eU8), iV a0.at_, iV a0.seed])], []⟩ (fgk (by kernel_rfl)) (ite_ (cb := (decide (a1 ≤ 1))) rfl (fun c1 => ?_) (fun c1 => ?_)))))))))))))))))
 ·replace h0 := ip c1 h0
  refine seq_ (reg_ (st (mvc_ tv (oe_ (wk_ ⟨[(4, iV 0)], [(1048576, [.lst 1 (a0.code_.map eU8), iV a0.at_, iV a0.seed])], []⟩ (fgk (by kernel_rfl)) ?_)))))
  obtain rfl := Option.some.inj h0
  exact rt_ (ret_ rfl rfl rfl rfl rfl tv)
 ·replace h0 := inb c1 h0
  refine sk_ (wk_ ⟨[(0, .ptr 1048576 0), (1, iV a1)], [(1048576, [.lst 1 (a0.code_.map eU8), iV a0.at_, iV a0.seed])], []⟩ (fgk (by kernel_rfl)) (seq_ (seq_ (reg_ (st (mv_ rfl tv (st (c_ (cp_ t3 rfl tv) (oe_ (wk_ ⟨[(0, .ptr 1048576 0), (1, iV a1), (11, .bool (decide (a1 ≤ 256)))], [(1048576, [.lst 1 (a0.code_.map eU8), iV a0.at_, iV a0.seed])], []⟩ (fgk (by kernel_rfl)) (ite_ (cb := (decide (a1 ≤ 256))) rfl (fun c2 => ?_) (fun c2 => ?_))))))))))))
  ·replace h0 := ip c2 h0
   refine seq_ (reg_ (st (mv_ rfl tv ?_)))
   obtain ⟨r3, e4, h0⟩ := bnd h0
   refine st (call1_ [1048576] [] [] true (H139 a0 r3 e4) ⟨tv, tv⟩ (by kernel_rfl) (by kernel_rfl) (by kernel_rfl) (by kernel_rfl) (fun h => nomatch h) (sw ⟨[(1, iV a1), (13, iV r3.1)], [(1048576, [.lst 1 (r3.2.code_.map eU8), iV r3.2.at_, iV r3.2.seed])], []⟩ (fgk (by kernel_rfl)) (mv_ rfl tv ?_)))
   obtain ⟨c5, h0⟩ := grd h0
   refine st (c_ (cp_ ⟨tv, tv, tv⟩ rfl c5) (st (mv_ rfl tv (oe_ (wk_ ⟨[(4, iV ((r3.1).tmod a1))], [(1048576, [.lst 1 (r3.2.code_.map eU8), iV r3.2.at_, iV r3.2.seed])], []⟩ (fgk (by kernel_rfl)) ?_)))))
   obtain rfl := Option.some.inj h0
   exact rt_ (ret_ rfl rfl rfl rfl rfl tv)
  ·replace h0 := inb c2 h0
   refine sk_ (wk_ ⟨[(0, .ptr 1048576 0), (1, iV a1)], [(1048576, [.lst 1 (a0.code_.map eU8), iV a0.at_, iV a0.seed])], []⟩ (fgk (by kernel_rfl)) (seq_ (reg_ (st (mv_ rfl tv ?_)))))
   obtain ⟨r6, e7, h0⟩ := bnd h0
   refine st (call1_ [1048576] [] [] true (H139 a0 r6 e7) ⟨tv, tv⟩ (by kernel_rfl) (by kernel_rfl) (by kernel_rfl) (by kernel_rfl) (fun h => nomatch h) (sw ⟨[(0, .ptr 1048576 0), (1, iV a1), (17, iV r6.1)], [(1048576, [.lst 1 (r6.2.code_.map eU8), iV r6.2.at_, iV r6.2.seed])], []⟩ (fgk (by kernel_rfl)) (mv_ rfl tv (oe_ (wk_ ⟨[(0, .ptr 1048576 0), (1, iV a1), (5, iV r6.1)], [(1048576, [.lst 1 (r6.2.code_.map eU8), iV r6.2.at_, iV r6.2.seed])], []⟩ (fgk (by kernel_rfl)) (seq_ (reg_ (st (mv_ rfl tv ?_)))))))))
   obtain ⟨r8, e9, h0⟩ := bnd h0
   refine st (call1_ [1048576] [] [] true (H139 r6.2 r8 e9) ⟨tv, tv⟩ (by kernel_rfl) (by kernel_rfl) (by kernel_rfl) (by kernel_rfl) (fun h => nomatch h) (sw ⟨[(0, .ptr 1048576 0), (1, iV a1), (5, iV r6.1), (19, iV r8.1)], [(1048576, [.lst 1 (r8.2.code_.map eU8), iV r8.2.at_, iV r8.2.seed])], []⟩ (fgk (by kernel_rfl)) (mv_ rfl tv (oe_ (wk_ ⟨[(0, .ptr 1048576 0), (1, iV a1), (5, iV r6.1), (6, iV r8.1)], [(1048576, [.lst 1 (r8.2.code_.map eU8), iV r8.2.at_, iV r8.2.seed])], []⟩ (fgk (by kernel_rfl)) (seq_ (reg_ (st (mv_ rfl tv ?_)))))))))
   obtain ⟨r10, e11, h0⟩ := bnd h0
   refine st (call1_ [1048576] [] [] true (H139 r8.2 r10 e11) ⟨tv, tv⟩ (by kernel_rfl) (by kernel_rfl) (by kernel_rfl) (by kernel_rfl) (fun h => nomatch h) (sw ⟨[(1, iV a1), (5, iV r6.1), (6, iV r8.1), (21, iV r10.1)], [(1048576, [.lst 1 (r10.2.code_.map eU8), iV r10.2.at_, iV r10.2.seed])], []⟩ (fgk (by kernel_rfl)) (mv_ rfl tv (oe_ (wk_ ⟨[(1, iV a1), (5, iV r6.1), (6, iV r8.1), (7, iV r10.1)], [(1048576, [.lst 1 (r10.2.code_.map eU8), iV r10.2.at_, iV r10.2.seed])], []⟩ (fgk (by kernel_rfl)) (seq_ (reg_ (st (mv_ rfl tv (st (c_ (cp_ t3 rfl tv) (st (mv_ rfl tv (st (c_ (cp_ t3 rfl tv) (st (c_ (cp_ t3 rfl tv) (st (mv_ rfl tv (st (c_ (cp_ t3 rfl tv) (st (mv_ rfl tv ?_)))))))))))))))))))))))
   obtain ⟨c12, h0⟩ := grd h0
   refine st (c_ (cp_ ⟨tv, tv, tv⟩ rfl c12) (st (mv_ rfl tv (oe_ ?_))))
   obtain ⟨v13, e14, h0⟩ := bl h0
   refine wk_ ⟨[(4, iV v13)], [(1048576, [.lst 1 (r10.2.code_.map eU8), iV r10.2.at_, iV r10.2.seed])], []⟩ (fgk (by subst e14; kernel_rfl)) ?_
   obtain rfl := Option.some.inj h0
   exact rt_ (ret_ rfl rfl rfl rfl rfl tv)

/- (*loop.example/g00149/spec.l00Src).size -/
def c118_r0 : List Ins := [⟨some 4, .p (.mv (.c (iV 0))), none⟩]
def c118_r1 : List Ins := [(iQ 5 (.mv (.t 0))),
(iQ 6 (.nilc (.t 5))),
(iQ 7 (.fieldA (.t 6) 0)),
(iQ 8 (.load (.t 7) 1 false)),
(iQ 9 (.len (.t 8))),
⟨some 10, .p (.bin .quo (.t 9) (.c (iV 12))), none⟩,
⟨some 11, .p (.bin .add (.c (iV 1)) (.t 10)), none⟩,
(iQ 12 (.mv (.t 1))),
(iQ 13 (.mn (.t 11) (.t 12))),
(iQ 4 (.mv (.t 13)))]
def c118 : XFn := { np := 2, nt := 14, res := [.t 4], body := (.seq (.reg c118_r0) (.seq (.reg c118_r1) .ret)) }
def K118 (C : CRel) : Prop := ∀ (a0 : Dl00Src) (a1 : Int) (r : Int), g118 a0 a1 = some r → C 118 ⟨[.iptr [.lst 1 (a0.code_.map eU8), iV a0.at_, iV a0.seed], iV a1], []⟩ ⟨iV r, [], []⟩
theorem F118 {C : CRel}  (a0 : Dl00Src) (a1 : Int) (r : Int) (h0 : g118 a0 a1 = some r) : FnOK C c118 ⟨[.iptr [.lst 1 (a0.code_.map eU8), iV a0.at_, iV a0.seed], iV a1], []⟩ ⟨iV r, [], []⟩ := by
 refine fn_ (nl rfl) (seq_ (reg_ (st (mvc_ tv (oe_ (wk_ ⟨[(0, .iptr [.lst 1 (a0.code_.map eU8), iV a0.at_, iV a0.seed]), (1, iV a1)], [], []⟩ (fgk (by kernel_rfl)) (seq_ (reg_ (st (mv_ rfl tv (st (c_ (cp_ ⟨tv, tv⟩ rfl tv) (st (c_ (cp_ ⟨tv, tv⟩ rfl (nl rfl)) (st (c_ (cp_ ⟨tv, tv⟩ rfl (nl rfl)) (st (c_ (clenL (e := eU8) (l0 := a0.code_) rfl rfl tv) (st (c_ (cp_ ⟨tv, tv, tv⟩ rfl (by decide)) (st (c_ (cp_ t3 rfl tv) (st (mv_ rfl tv (st (c_ (cp_ ⟨tv, tv, tv⟩ rfl rfl) (st (mv_ rfl tv (oe_ ?_)))))))))))))))))))))))))))))
 obtain ⟨v1, e2, h0⟩ := bl h0
 refine wk_ ⟨[(4, iV v1)], [], []⟩ (fgk (by subst e2; kernel_rfl)) ?_
 obtain rfl := Option.some.inj h0
 exact rt_ (ret_ rfl rfl rfl rfl rfl tv)

/- (*loop.example/g00149/spec.l00Src).chance -/
def c119_r0 : List Ins := [⟨some 4, .p (.mv (.c (.bool false))), none⟩]
def c119_r1 : List Ins := [(iQ 5 (.mv (.t 0))),
(iQ 6 (.mv (.t 1))),
⟨some 7, .call 117 [(.t 5), (.t 6)], none⟩,
(iQ 8 (.mv (.t 1))),
⟨some 9, .p (.bin .sub (.t 8) (.c (iV 1))), none⟩,
(iQ 10 (.bin .eql (.t 7) (.t 9))),
(iQ 4 (.mv (.t 10)))]
def c119 : XFn := { np := 2, nt := 11, res := [.t 4], body := (.seq (.reg c119_r0) (.seq (.reg c119_r1) .ret)) }
def K119 (C : CRel) : Prop := ∀ (a0 : Dl00Src) (a1 : Int) (r : Bool × Dl00Src), g119 a0 a1 = some r → C 119 ⟨[.ptr 1048576 0, iV a1], [[.lst 1 (a0.code_.map eU8), iV a0.at_, iV a0.seed]]⟩ ⟨.bool r.1, [[.lst 1 (r.2.code_.map eU8), iV r.2.at_, iV r.2.seed]], []⟩
theorem F119 {C : CRel} (H117 : K117 C) (a0 : Dl00Src) (a1 : Int) (r : Bool × Dl00Src) (h0 : g119 a0 a1 = some r) : FnOK C c119 ⟨[.ptr 1048576 0, iV a1], [[.lst 1 (a0.code_.map eU8), iV a0.at_, iV a0.seed]]⟩ ⟨.bool r.1, [[.lst 1 (r.2.code_.map eU8), iV r.2.at_, iV r.2.seed]], []⟩ := by
 refine fn_ (nl rfl) (seq_ (reg_ (st (mvc_ tv (oe_ (wk_ ⟨[(0, .ptr 1048576 0), (1, iV a1)], [(1048576, [.lst 1 (a0.code_.map eU8), iV a0.at_, iV a0.seed])], []⟩ (fgk (by kernel_rfl)) (seq_ (reg_ (st (mv_ rfl tv (st (mv_ rfl tv ?_))))))))))))
 obtain ⟨r1, e2, h0⟩ := bnd h0
 refine st (call1_ [1048576] [] [] true (H117 a0 a1 r1 e2) ⟨tv, tv, tv⟩ (by kernel_rfl) (by kernel_rfl) (by kernel_rfl) (by kernel_rfl) (fun h => nomatch h) (sw ⟨[(1, iV a1), (7, iV r1.1)], [(1048576, [.lst 1 (r1.2.code_.map eU8), iV r1.2.at_, iV r1.2.seed])], []⟩ (fgk (by kernel_rfl)) (mv_ rfl tv (st (c_ (cp_ t3 rfl tv) (st (c_ (cp_ t3 rfl tv) (st (mv_ rfl tv (oe_ (wk_ ⟨[(4, .bool (r1.1 == (IntKind.i64.wrap (a1 - 1))))], [(1048576, [.lst 1 (r1.2.code_.map eU8), iV r1.2.at_, iV r1.2.seed])], []⟩ (fgk (by kernel_rfl)) ?_)))))))))))
 obtain rfl := Option.some.inj h0
 exact rt_ (ret_ rfl rfl rfl rfl rfl tv)

/- (*loop.example/g00149/spec.l00Src).fates -/
def c147_r0 : List Ins := [⟨some 2, .nilS 1, none⟩]
def c147_r1 : List Ins := [⟨some 5, .mkS 1 [(iV 0)] 0 [], none⟩,
(iQ 3 (.mv (.t 5)))]
def c147_r2 : List Ins := [(iQ 6 (.mv (.t 0))),
⟨some 7, .call 117 [(.t 6), (.c (iV 4))], none⟩,
(iQ 4 (.mv (.t 7)))]
def c147_r3 : List Ins := [(iQ 8 (.mv (.t 4))),
⟨some 9, .p (.bin .gtr (.t 8) (.c (iV 0))), none⟩]
def c147_r4 : List Ins := [(iQ 12 (.mv (.t 3))),
(iQ 13 (.mv (.t 0))),
⟨some 14, .call 117 [(.t 13), (.c (iV 5))], none⟩,
⟨some 15, .p (.bin .rem (.t 14) (.c (iV 3))), none⟩,
⟨some 16, .mkS 1 [(iV 0)] 1 [(0, (.t 15))], none⟩,
⟨some 17, .app 1 8 (.t 12) (.t 16), none⟩,
(iQ 3 (.mv (.t 17)))]
def c147_r5 : List Ins := [(iQ 10 (.mv (.t 4))),
⟨some 11, .p (.bin .sub (.t 10) (.c (iV 1))), none⟩,
(iQ 4 (.mv (.t 11)))]
def c147_l0 : IR := (.seq (.seq (.reg c147_r3) (.ite (.t 9) .skip (.exit 0))) (.seq (.block 1 (.reg c147_r4)) (.reg c147_r5)))
def c147_r6 : List Ins := [(iQ 18 (.mv (.t 3))),
(iQ 2 (.mv (.t 18)))]
def c147 : XFn := { np := 1, nt := 19, res := [.t 2], body := (.seq (.reg c147_r0) (.seq (.reg c147_r1) (.seq (.seq (.reg c147_r2) (.block 0 (.loop c147_l0))) (.seq (.reg c147_r6) .ret)))) }
def K147 (C : CRel) : Prop := ∀ (a0 : Dl00Src) (r : (List Int) × Dl00Src), g147 a0 = some r → C 147 ⟨[.ptr 1048576 0], [[.lst 1 (a0.code_.map eU8), iV a0.at_, iV a0.seed]]⟩ ⟨.own 0 0 1 (r.1.map eI), [[.lst 1 (r.2.code_.map eU8), iV r.2.at_, iV r.2.seed]], []⟩
theorem F147 {C : CRel} (H117 : K117 C) (a0 : Dl00Src) (r : (List Int) × Dl00Src) (h0 : g147 a0 = some r) : FnOK C c147 ⟨[.ptr 1048576 0], [[.lst 1 (a0.code_.map eU8), iV a0.at_, iV a0.seed]]⟩ ⟨.own 0 0 1 (r.1.map eI), [[.lst 1 (r.2.code_.map eU8), iV r.2.at_, iV r.2.seed]], []⟩ := by
 refine fn_ (nl rfl) (seq_ (reg_ (st (nilS_ (oe_ (wk_ ⟨[(0, .ptr 1048576 0)], [(1048576, [.lst 1 (a0.code_.map eU8), iV a0.at_, iV a0.seed])], []⟩ (fgk (by kernel_rfl)) (seq_ (reg_ (st (mkS_ tv tv (st (mv_ rfl tv (oe_ (wk_ ⟨[(0, .ptr 1048576 0), (3, .own 320 0 1 (([] : List Int).map eI))], [(1048576, [.lst 1 (a0.code_.map eU8), iV a0.at_, iV a0.seed])], []⟩ (fgk (by kernel_rfl)) (seq_ (seq_ (reg_ (st (mv_ rfl tv ?_)))))))))))))))))))
 obtain ⟨r1, e2, h0⟩ := bnd h0
 refine st (call1_ [1048576] [] [] true (H117 a0 4 r1 e2) ⟨tv, tv, tv⟩ (by kernel_rfl) (by kernel_rfl) (by kernel_rfl) (by kernel_rfl) (fun h => nomatch h) (sw ⟨[(0, .ptr 1048576 0), (3, .own 320 0 1 (([] : List Int).map eI)), (7, iV r1.1)], [(1048576, [.lst 1 (r1.2.code_.map eU8), iV r1.2.at_, iV r1.2.seed])], []⟩ (fgk (by kernel_rfl)) (mv_ rfl tv (oe_ (wk_ ⟨[(0, .ptr 1048576 0), (3, .own 320 0 1 (([] : List Int).map eI)), (4, iV r1.1)], [(1048576, [.lst 1 (r1.2.code_.map eU8), iV r1.2.at_, iV r1.2.seed])], []⟩ (fgk (by kernel_rfl)) (block_ ?_))))))
 obtain ⟨r29, e30, h0⟩ := bnd h0
 refine loop_ (R := (fun S => ∃ p21 : List Int, ∃ p22 : List UInt8, ∃ p23 : Int, ∃ p24 : Int, (p21, p22, p23, p24) = r29 ∧ S = ⟨[(3, .own 320 0 1 (p21.map eI))], [(1048576, [.lst 1 (p22.map eU8), iV p23, iV p24])], []⟩)) (g147_l0) (fun s S => match s with | (p7, p8, p9, p10, p11) => S = ⟨[(0, .ptr 1048576 0), (3, .own 320 0 1 (p7.map eI)), (4, iV p8)], [(1048576, [.lst 1 (p9.map eU8), iV p10, iV p11])], []⟩) e30 ⟨[(0, .ptr 1048576 0), (3, .own 320 0 1 (([] : List Int).map eI)), (4, iV r1.1)], [(1048576, [.lst 1 (r1.2.code_.map eU8), iV r1.2.at_, iV r1.2.seed])], []⟩ (fgk (by kernel_rfl)) rfl 0 (fun _ => rfl) ?_ ?_
 ·rintro S _ hfg ⟨p21, p22, p23, p24, rfl, rfl⟩
  refine wk_ ⟨[(3, .own 320 0 1 (p21.map eI))], [(1048576, [.lst 1 (p22.map eU8), iV p23, iV p24])], []⟩ (fglk hfg (by kernel_rfl)) (seq_ (reg_ (st (mv_ rfl tv (st (mv_ rfl tv (oe_ (wk_ ⟨[(2, .own 320 0 1 (p21.map eI))], [(1048576, [.lst 1 (p22.map eU8), iV p23, iV p24])], []⟩ (fgk (by kernel_rfl)) ?_))))))))
  obtain rfl := Option.some.inj h0
  exact rt_ (ret_ rfl rfl rfl rfl rfl tv)
 ·rintro ⟨p7, p8, p9, p10, p11⟩ o1 _ K1 rfl h1 hx1 hK1 hE1 hR1
  refine seq_ (seq_ (reg_ (st (mv_ rfl tv (st (c_ (cp_ t3 rfl tv) (oe_ (wk_ ⟨[(0, .ptr 1048576 0), (3, .own 320 0 1 (p7.map eI)), (4, iV p8), (9, .bool (decide (p8 > 0)))], [(1048576, [.lst 1 (p9.map eU8), iV p10, iV p11])], []⟩ (fgk (by kernel_rfl)) (ite_ (cb := (decide (p8 > 0))) rfl (fun c25 => ?_) (fun c25 => ?_))))))))))
  ·replace h1 := ip c25 h1
   refine sk_ (wk_ ⟨[(0, .ptr 1048576 0), (3, .own 320 0 1 (p7.map eI)), (4, iV p8)], [(1048576, [.lst 1 (p9.map eU8), iV p10, iV p11])], []⟩ (fgk (by kernel_rfl)) (seq_ (block_ (reg_ (st (mv_ rfl tv (st (mv_ rfl tv ?_))))))))
   obtain ⟨r26, e27, h1⟩ := bnd h1
   refine st (call1_ [1048576] [] [] true (H117 (Dl00Src.mk p9 p10 p11) 5 r26 e27) ⟨tv, tv, tv⟩ (by kernel_rfl) (by kernel_rfl) (by kernel_rfl) (by kernel_rfl) (fun h => nomatch h) (sw ⟨[(0, .ptr 1048576 0), (4, iV p8), (12, .own 320 0 1 (p7.map eI)), (14, iV r26.1)], [(1048576, [.lst 1 (r26.2.code_.map eU8), iV r26.2.at_, iV r26.2.seed])], []⟩ (fgk (by kernel_rfl)) (c_ (cp_ ⟨tv, tv, tv⟩ rfl (by decide)) (st (mkS_ ⟨tv, tv⟩ ⟨⟨nl rfl, rfl, rfl⟩, tv⟩ ?_)))))
   obtain ⟨c28, h1⟩ := grd h1
   refine st (app_ (e := eI) (l0 := p7) (l1 := ([(r26.1).tmod 3] : List Int)) rfl rfl tv rfl (by decide) c28 (st (mv_ rfl tv (oe_ (bn_ (wk_ ⟨[(0, .ptr 1048576 0), (3, .own 320 0 1 ((p7 ++ ([(r26.1).tmod 3] : List Int)).map eI)), (4, iV p8)], [(1048576, [.lst 1 (r26.2.code_.map eU8), iV r26.2.at_, iV r26.2.seed])], []⟩ (fgk (by kernel_rfl)) (reg_ (st (mv_ rfl tv (st (c_ (cp_ t3 rfl tv) (st (mv_ rfl tv (oe_ ?_))))))))))))))
   obtain rfl := Option.some.inj h1
   exact hK1 _ rfl _ ⟨[(0, .ptr 1048576 0), (3, .own 320 0 1 ((p7 ++ ([(r26.1).tmod 3] : List Int)).map eI)), (4, iV (IntKind.i64.wrap (p8 - 1)))], [(1048576, [.lst 1 (r26.2.code_.map eU8), iV r26.2.at_, iV r26.2.seed])], []⟩ (fgk (by kernel_rfl)) rfl
  ·replace h1 := inb c25 h1
   obtain rfl := Option.some.inj h1
   obtain rfl := hx1 _ rfl
   refine exQ rfl ?_
   exact hE1 _ ⟨[(3, .own 320 0 1 (p7.map eI))], [(1048576, [.lst 1 (p9.map eU8), iV p10, iV p11])], []⟩ (fgk (by kernel_rfl)) ⟨_, _, _, _, rfl, rfl⟩

/- (*loop.example/g00149/spec.l00Src).vaultAct -/
def c135_r0 : List Ins := [⟨some 2, .alloc [(iV 0), (iV 0), (iV 0), (iV 0), (iV 0), (.own 134 0 1 []), (iV 0)], none⟩]
def c135_r1 : List Ins := [(iQ 4 (.mv (.t 0))),
⟨some 5, .call 117 [(.t 4), (.c (iV 9))], none⟩,
⟨some 6, .p (.bin .add (.c (iV 1)) (.t 5)), none⟩,
(iQ 7 (.mv (.t 0))),
⟨some 8, .call 147 [(.t 7)], none⟩,
⟨some 9, .p (.build [(iV 0), (iV 0), (iV 0), (iV 0), (iV 0), (.own 582 0 1 []), (iV 0)] [(0, 1, (.c (iV 1))), (2, 1, (.t 6)), (5, 1, (.t 8))]), none⟩,
⟨some 3, .alloc [(iV 0), (iV 0), (iV 0), (iV 0), (iV 0), (.own 198 0 1 []), (iV 0)], none⟩,
⟨none, .store (.t 3) (.t 9) 7, none⟩]
def c135_r2 : DP := (.take (iQ 10 (.fieldA (.t 3) 2))
(.take (iQ 11 (.load (.t 10) 1 false))
(.take (iQ 12 (.mv (.t 0)))
(.alt [(iQ 11 (.load (.t 10) 1 false)), (iQ 10 (.fieldA (.t 3) 2))] ⟨some 13, .call 117 [(.t 12), (.c (iV 9))], none⟩
(.take (iQ 14 (.bin .add (.t 11) (.t 13)))
(.take (iQ 15 (.fieldA (.t 3) 3))
(.alt [] ⟨none, .store (.t 15) (.t 14) 1, none⟩
.fin
.stop)))
.stop))))
def c135_r3 : List Ins := [(iQ 16 (.mv (.t 0))),
⟨some 17, .call 117 [(.t 16), (.c (iV 10))], none⟩]
def c135_r4 : List Ins := [⟨some 19, .p (.bin .eql (.t 17) (.c (iV 0))), none⟩,
(iQ 18 (.mv (.t 19)))]
def c135_r5 : List Ins := [(iQ 20 (.mv (.t 0))),
⟨some 21, .call 117 [(.t 20), (.c (iV 9))], none⟩,
⟨some 22, .p (.bin .add (.c (iV 1)) (.t 21)), none⟩,
(iQ 23 (.mv (.t 0))),
⟨some 24, .call 117 [(.t 23), (.c (iV 12))], none⟩,
⟨some 25, .p (.bin .add (.c (iV 1)) (.t 24)), none⟩,
⟨some 26, .p (.build [(iV 0), (iV 0), (iV 0), (iV 0), (iV 0), (.own 1670 0 1 []), (iV 0)] [(0, 1, (.c (iV 2))), (1, 1, (.t 22)), (2, 1, (.t 25))]), none⟩,
⟨none, .store (.t 3) (.t 26) 7, none⟩]
def c135_r6 : List Ins := [⟨some 28, .p (.bin .eql (.t 17) (.c (iV 1))), none⟩,
(iQ 27 (.mv (.t 28)))]
def c135_r7 : List Ins := [(iQ 29 (.mv (.t 0))),
⟨some 30, .call 117 [(.t 29), (.c (iV 9))], none⟩,
⟨some 31, .p (.bin .add (.c (iV 1)) (.t 30)), none⟩,
⟨some 32, .p (.build [(iV 0), (iV 0), (iV 0), (iV 0), (iV 0), (.own 2054 0 1 []), (iV 0)] [(0, 1, (.c (iV 3))), (1, 1, (.t 31))]), none⟩,
⟨none, .store (.t 3) (.t 32) 7, none⟩]
def c135_r8 : List Ins := [⟨some 34, .p (.bin .eql (.t 17) (.c (iV 2))), none⟩,
(iQ 33 (.mv (.t 34)))]
def c135_r9 : List Ins := [⟨some 35, .p (.bin .eql (.t 17) (.c (iV 3))), none⟩,
(iQ 33 (.mv (.t 35)))]
def c135_r10 : List Ins := [⟨some 36, .p (.bin .eql (.t 17) (.c (iV 4))), none⟩,
(iQ 33 (.mv (.t 36)))]
def c135_r11 : List Ins := [(iQ 37 (.mv (.t 0))),
⟨some 38, .call 117 [(.t 37), (.c (iV 60))], none⟩,
(iQ 39 (.mv (.t 0))),
⟨some 40, .call 147 [(.t 39)], none⟩,
⟨some 41, .p (.build [(iV 0), (iV 0), (iV 0), (iV 0), (iV 0), (.own 2630 0 1 []), (iV 0)] [(0, 1, (.c (iV 4))), (4, 1, (.t 38)), (5, 1, (.t 40))]), none⟩,
⟨none, .store (.t 3) (.t 41) 7, none⟩]
def c135_r12 : List Ins := [⟨some 43, .p (.bin .eql (.t 17) (.c (iV 5))), none⟩,
(iQ 42 (.mv (.t 43)))]
def c135_r13 : List Ins := [⟨some 44, .mkS 1 [(iV 0)] 4 [(0, (.c (iV 5))), (1, (.c (iV 6))), (2, (.c (iV 6))), (3, (.c (iV 6)))], none⟩,
(iQ 45 (.mv (.t 0))),
⟨some 46, .call 117 [(.t 45), (.c (iV 4))], none⟩,
(iQ 47 (.idxA (.t 44) (.t 46) 1)),
(iQ 48 (.load (.t 47) 1 false)),
⟨some 49, .p (.build [(iV 0), (iV 0), (iV 0), (iV 0), (iV 0), (.own 3142 0 1 []), (iV 0)] [(0, 1, (.t 48))]), none⟩,
⟨none, .store (.t 3) (.t 49) 7, none⟩]
def c135_r14 : List Ins := [(iQ 50 (.mv (.t 0))),
⟨some 51, .call 119 [(.t 50), (.c (iV 7))], none⟩]
def c135_r15 : List Ins := [(iQ 52 (.mv (.t 0))),
⟨some 53, .call 117 [(.t 52), (.c (iV 2))], none⟩,
⟨some 54, .p (.bin .add (.c (iV 1)) (.t 53)), none⟩,
(iQ 55 (.fieldA (.t 3) 6)),
⟨none, .store (.t 55) (.t 54) 1, none⟩]
def c135_r16 : List Ins := [(iQ 56 (.load (.t 3) 7 true)),
⟨none, .store (.t 2) (.t 56) 7, none⟩]
def c135 : XFn := { np := 1, nt := 57, res := [.cell 2 7 true], body := (.seq (.reg c135_r0) (.seq (.reg c135_r1) (.seq (.draw c135_r2) (.seq (.seq (.reg c135_r3) (.block 0 (.seq (.reg c135_r4) (.ite (.t 18) (.reg c135_r5) (.seq (.reg c135_r6) (.ite (.t 27) (.reg c135_r7) (.seq (.seq (.reg c135_r8) (.ite (.t 33) .skip (.seq (.reg c135_r9) (.ite (.t 33) .skip (.reg c135_r10))))) (.ite (.t 33) (.reg c135_r11) (.seq (.reg c135_r12) (.ite (.t 42) (.reg c135_r13) .skip)))))))))) (.seq (.seq (.reg c135_r14) (.ite (.t 51) (.reg c135_r15) .skip)) (.seq (.reg c135_r16) .ret)))))) }
def K135 (C : CRel) : Prop := ∀ (a0 : Dl00Src) (r : DVaultAct × Dl00Src), g135 a0 = some r → C 135 ⟨[.ptr 1048576 0], [[.lst 1 (a0.code_.map eU8), iV a0.at_, iV a0.seed]]⟩ ⟨.agg [iV r.1.kind, iV r.1.id, iV r.1.ttl, iV r.1.most, iV r.1.clock, .own 0 0 1 (r.1.fates.map eI), iV r.1.stop], [[.lst 1 (r.2.code_.map eU8), iV r.2.at_, iV r.2.seed]], []⟩
theorem F135 {C : CRel} (H117 : K117 C) (H119 : K119 C) (H147 : K147 C) (a0 : Dl00Src) (r : DVaultAct × Dl00Src) (h0 : g135 a0 = some r) : FnOK C c135 ⟨[.ptr 1048576 0], [[.lst 1 (a0.code_.map eU8), iV a0.at_, iV a0.seed]]⟩ ⟨.agg [iV r.1.kind, iV r.1.id, iV r.1.ttl, iV r.1.most, iV r.1.clock, .own 0 0 1 (r.1.fates.map eI), iV r.1.stop], [[.lst 1 (r.2.code_.map eU8), iV r.2.at_, iV r.2.seed]], []⟩ := by
 refine fn_ (nl rfl) (seq_ (reg_ (st (alloc_ (oe_ (wk_ ⟨[(0, .ptr 1048576 0), (2, .ptr 128 0)], [(128, [iV 0, iV 0, iV 0, iV 0, iV 0, .own 134 0 1 (([] : List Int).map eI), iV 0]), (1048576, [.lst 1 (a0.code_.map eU8), iV a0.at_, iV a0.seed])], []⟩ (fgk (by kernel_rfl)) (seq_ (reg_ (st (mv_ rfl tv ?_))))))))))
 obtain ⟨r1, e2, h0⟩ := bnd h0
 refine st (call1_ [1048576] [] [] true (H117 a0 9 r1 e2) ⟨tv, tv, tv⟩ (by kernel_rfl) (by kernel_rfl) (by kernel_rfl) (by kernel_rfl) (fun h => nomatch h) (sw ⟨[(0, .ptr 1048576 0), (2, .ptr 128 0), (5, iV r1.1)], [(128, [iV 0, iV 0, iV 0, iV 0, iV 0, .own 134 0 1 (([] : List Int).map eI), iV 0]), (1048576, [.lst 1 (r1.2.code_.map eU8), iV r1.2.at_, iV r1.2.seed])], []⟩ (fgk (by kernel_rfl)) (c_ (cp_ t3 rfl tv) (st (mv_ rfl tv ?_)))))
 obtain ⟨r3, e4, h0⟩ := bnd h0
 refine st (call1_ [1048576] [] [] true (H147 r1.2 r3 e4) ⟨tv, tv⟩ (by kernel_rfl) (by kernel_rfl) (by kernel_rfl) (by kernel_rfl) (fun h => nomatch h) (sw ⟨[(0, .ptr 1048576 0), (2, .ptr 128 0), (6, iV (IntKind.i64.wrap (1 + r1.1))), (8, .own 512 0 1 (r3.1.map eI))], [(128, [iV 0, iV 0, iV 0, iV 0, iV 0, .own 134 0 1 (([] : List Int).map eI), iV 0]), (1048576, [.lst 1 (r3.2.code_.map eU8), iV r3.2.at_, iV r3.2.seed])], []⟩ (fgk (by kernel_rfl)) (c_ (v := .agg [iV 1, iV 0, iV (IntKind.i64.wrap (1 + r1.1)), iV 0, iV 0, .own 512 0 1 (r3.1.map eI), iV 0]) (cp_ ⟨tv, tv, tv, tv⟩ rfl ⟨⟨rfl, rfl, nl rfl⟩, ⟨rfl, rfl, nl rfl⟩, ⟨rfl, rfl, nl rfl⟩, tv⟩) (st (alloc_ (st (stp_ rfl rfl tv rfl rfl rfl (nl rfl) (oe_ (wk_ ⟨[(0, .ptr 1048576 0), (2, .ptr 128 0), (3, .ptr 192 0)], [(128, [iV 0, iV 0, iV 0, iV 0, iV 0, .own 134 0 1 (([] : List Int).map eI), iV 0]), (192, [iV 1, iV 0, iV (IntKind.i64.wrap (1 + r1.1)), iV 0, iV 0, .own 512 0 1 (r3.1.map eI), iV 0]), (1048576, [.lst 1 (r3.2.code_.map eU8), iV r3.2.at_, iV r3.2.seed])], []⟩ (fgk (by kernel_rfl)) (seq_ ?_))))))))))
 obtain ⟨r5, e6, h0⟩ := bnd h0
 refine draw_ (dtake tv (c_ (cp_ ⟨tv, tv⟩ rfl tv) (⟨tv, (dtake tv (c_ (cp_ ⟨tv, tv⟩ rfl (nl rfl)) (⟨tv, (dtake tv (mv_ rfl tv (⟨tv, (dalt (call1_ [1048576] [] [] true (H117 r3.2 9 r5 e6) ⟨tv, tv, tv⟩ (by kernel_rfl) (by kernel_rfl) (by kernel_rfl) (by kernel_rfl) (fun h => nomatch h) (dkw ⟨[(0, .ptr 1048576 0), (2, .ptr 128 0), (3, .ptr 192 0), (10, .ptr 192 2), (11, iV (IntKind.i64.wrap (1 + r1.1))), (13, iV r5.1)], [(128, [iV 0, iV 0, iV 0, iV 0, iV 0, .own 134 0 1 (([] : List Int).map eI), iV 0]), (192, [iV 1, iV 0, iV (IntKind.i64.wrap (1 + r1.1)), iV 0, iV 0, .own 512 0 1 (r3.1.map eI), iV 0]), (1048576, [.lst 1 (r5.2.code_.map eU8), iV r5.2.at_, iV r5.2.seed])], []⟩ (fgk (by kernel_rfl)) ⟨[], ⟨⟨.inl tv, (again1 (cp_ ⟨tv, tv⟩ rfl (nl rfl)) rfl)⟩, ⟨.inl tv, (again1 (cp_ ⟨tv, tv⟩ rfl tv) rfl)⟩, tv⟩, tv, (dtake tv (c_ (cp_ t3 rfl tv) (⟨tv, (dtake tv (c_ (cp_ ⟨tv, tv⟩ rfl tv) (⟨tv, (dalt (stp_ rfl rfl tv rfl rfl rfl (nl rfl) (dk0 ⟨[], tv, tv, (dfin (wk_ ⟨[(0, .ptr 1048576 0), (2, .ptr 128 0), (3, .ptr 192 0)], [(128, [iV 0, iV 0, iV 0, iV 0, iV 0, .own 134 0 1 (([] : List Int).map eI), iV 0]), (192, [iV 1, iV 0, iV (IntKind.i64.wrap (1 + r1.1)), iV (IntKind.i64.wrap ((IntKind.i64.wrap (1 + r1.1)) + r5.1)), iV 0, .own 512 0 1 (r3.1.map eI), iV 0]), (1048576, [.lst 1 (r5.2.code_.map eU8), iV r5.2.at_, iV r5.2.seed])], []⟩ (fgk (by kernel_rfl)) (seq_ (seq_ (reg_ (st (mv_ rfl tv ?_)))))))⟩)) dstop)⟩)))⟩)))⟩)) dstop)⟩)))⟩)))⟩)))
 obtain ⟨r7, e8, h0⟩ := bnd h0
 refine st (call1_ [1048576] [] [] true (H117 r5.2 10 r7 e8) ⟨tv, tv, tv⟩ (by kernel_rfl) (by kernel_rfl) (by kernel_rfl) (by kernel_rfl) (fun h => nomatch h) (oe_ (wk_ ⟨[(0, .ptr 1048576 0), (2, .ptr 128 0), (3, .ptr 192 0), (17, iV r7.1)], [(128, [iV 0, iV 0, iV 0, iV 0, iV 0, .own 134 0 1 (([] : List Int).map eI), iV 0]), (192, [iV 1, iV 0, iV (IntKind.i64.wrap (1 + r1.1)), iV (IntKind.i64.wrap ((IntKind.i64.wrap (1 + r1.1)) + r5.1)), iV 0, .own 512 0 1 (r3.1.map eI), iV 0]), (1048576, [.lst 1 (r7.2.code_.map eU8), iV r7.2.at_, iV r7.2.seed])], []⟩ (fgk (by kernel_rfl)) (blockJ (fun S => ∃ p32 : Int, ∃ p33 : Int, ∃ p34 : Int, ∃ p35 : Int, ∃ p36 : Int, ∃ p37 : List Int, ∃ p38 : List UInt8, ∃ p39 : Int, ∃ p40 : Int, S = ⟨[(0, .ptr 1048576 0), (2, .ptr 128 0), (3, .ptr 192 0)], [(128, [iV 0, iV 0, iV 0, iV 0, iV 0, .own 134 0 1 (([] : List Int).map eI), iV 0]), (192, [iV p32, iV p33, iV p34, iV p35, iV p36, .own 1670 0 1 (p37.map eI), iV 0]), (1048576, [.lst 1 (p38.map eU8), iV p39, iV p40])], []⟩ ∧ g135_j0 p32 p33 p34 p35 p36 p37 p38 p39 p40 = some r) ?_ (fun J54 => ?_)))))
 ·rintro _ ⟨p32, p33, p34, p35, p36, p37, p38, p39, p40, rfl, h0⟩
  refine wk_ ⟨[(0, .ptr 1048576 0), (2, .ptr 128 0), (3, .ptr 192 0)], [(128, [iV 0, iV 0, iV 0, iV 0, iV 0, .own 134 0 1 (([] : List Int).map eI), iV 0]), (192, [iV p32, iV p33, iV p34, iV p35, iV p36, .own 1670 0 1 (p37.map eI), iV 0]), (1048576, [.lst 1 (p38.map eU8), iV p39, iV p40])], []⟩ (fgk (by kernel_rfl)) (seq_ (seq_ (reg_ (st (mv_ rfl tv ?_)))))
  obtain ⟨r41, e42, h0⟩ := bnd h0
  refine st (call1_ [1048576] [] [] true (H119 (Dl00Src.mk p38 p39 p40) 7 r41 e42) ⟨tv, tv, tv⟩ (by kernel_rfl) (by kernel_rfl) (by kernel_rfl) (by kernel_rfl) (fun h => nomatch h) (oe_ (wk_ ⟨[(0, .ptr 1048576 0), (2, .ptr 128 0), (3, .ptr 192 0), (51, .bool r41.1)], [(128, [iV 0, iV 0, iV 0, iV 0, iV 0, .own 134 0 1 (([] : List Int).map eI), iV 0]), (192, [iV p32, iV p33, iV p34, iV p35, iV p36, .own 1670 0 1 (p37.map eI), iV 0]), (1048576, [.lst 1 (r41.2.code_.map eU8), iV r41.2.at_, iV r41.2.seed])], []⟩ (fgk (by kernel_rfl)) (iteJ (cb := r41.1) (fun S => ∃ p46 : Int, ∃ p47 : List UInt8, ∃ p48 : Int, ∃ p49 : Int, S = ⟨[(2, .ptr 128 0), (3, .ptr 192 0)], [(128, [iV 0, iV 0, iV 0, iV 0, iV 0, .own 134 0 1 (([] : List Int).map eI), iV 0]), (192, [iV p32, iV p33, iV p34, iV p35, iV p36, .own 1670 0 1 (p37.map eI), iV p46]), (1048576, [.lst 1 (p47.map eU8), iV p48, iV p49])], []⟩ ∧ g135_j1 p32 p33 p34 p35 p36 p37 p46 p47 p48 p49 = some r) rfl ?_ (fun c51 J50 => ?_) (fun c51 J50 => ?_)))))
  ·rintro _ ⟨p46, p47, p48, p49, rfl, h0⟩
   refine wk_ ⟨[(2, .ptr 128 0), (3, .ptr 192 0)], [(128, [iV 0, iV 0, iV 0, iV 0, iV 0, .own 134 0 1 (([] : List Int).map eI), iV 0]), (192, [iV p32, iV p33, iV p34, iV p35, iV p36, .own 1670 0 1 (p37.map eI), iV p46]), (1048576, [.lst 1 (p47.map eU8), iV p48, iV p49])], []⟩ (fgk (by kernel_rfl)) (seq_ (reg_ (st (c_ (v := .agg [iV p32, iV p33, iV p34, iV p35, iV p36, .own 1670 0 1 (p37.map eI), iV p46]) (cp_ ⟨tv, tv⟩ rfl (nl rfl)) (st (stp_ rfl rfl tv rfl rfl rfl (nl rfl) (oe_ (wk_ ⟨[(2, .ptr 128 0)], [(128, [iV p32, iV p33, iV p34, iV p35, iV p36, .own 1670 0 1 (p37.map eI), iV p46]), (1048576, [.lst 1 (p47.map eU8), iV p48, iV p49])], []⟩ (fgk (by kernel_rfl)) ?_))))))))
   obtain rfl := Option.some.inj h0
   exact rt_ (ret_ rfl rfl rfl rfl rfl tv)
  ·replace h0 := ip c51 h0
   refine reg_ (st (mv_ rfl tv ?_))
   obtain ⟨r52, e53, h0⟩ := bnd h0
   refine st (call1_ [1048576] [] [] true (H117 r41.2 2 r52 e53) ⟨tv, tv, tv⟩ (by kernel_rfl) (by kernel_rfl) (by kernel_rfl) (by kernel_rfl) (fun h => nomatch h) (sw ⟨[(2, .ptr 128 0), (3, .ptr 192 0), (53, iV r52.1)], [(128, [iV 0, iV 0, iV 0, iV 0, iV 0, .own 134 0 1 (([] : List Int).map eI), iV 0]), (192, [iV p32, iV p33, iV p34, iV p35, iV p36, .own 1670 0 1 (p37.map eI), iV 0]), (1048576, [.lst 1 (r52.2.code_.map eU8), iV r52.2.at_, iV r52.2.seed])], []⟩ (fgk (by kernel_rfl)) (c_ (cp_ t3 rfl tv) (st (c_ (cp_ ⟨tv, tv⟩ rfl tv) (st (stp_ rfl rfl tv rfl rfl rfl (nl rfl) (oe_ ?_))))))))
   exact J50 _ ⟨[(2, .ptr 128 0), (3, .ptr 192 0)], [(128, [iV 0, iV 0, iV 0, iV 0, iV 0, .own 134 0 1 (([] : List Int).map eI), iV 0]), (192, [iV p32, iV p33, iV p34, iV p35, iV p36, .own 1670 0 1 (p37.map eI), iV (IntKind.i64.wrap (1 + r52.1))]), (1048576, [.lst 1 (r52.2.code_.map eU8), iV r52.2.at_, iV r52.2.seed])], []⟩ (fgk (by kernel_rfl)) ⟨_, _, _, _, rfl, h0⟩
  ·replace h0 := inb c51 h0
   refine sk_ ?_
   exact J50 _ ⟨[(2, .ptr 128 0), (3, .ptr 192 0)], [(128, [iV 0, iV 0, iV 0, iV 0, iV 0, .own 134 0 1 (([] : List Int).map eI), iV 0]), (192, [iV p32, iV p33, iV p34, iV p35, iV p36, .own 1670 0 1 (p37.map eI), iV 0]), (1048576, [.lst 1 (r41.2.code_.map eU8), iV r41.2.at_, iV r41.2.seed])], []⟩ (fgk (by kernel_rfl)) ⟨_, _, _, _, rfl, h0⟩
 ·refine seq_ ?_
  refine reg_ (st (c_ (cp_ t3 rfl tv) (st (mv_ rfl tv (oe_ (wk_ ⟨[(0, .ptr 1048576 0), (2, .ptr 128 0), (3, .ptr 192 0), (17, iV r7.1), (18, .bool (r7.1 == 0))], [(128, [iV 0, iV 0, iV 0, iV 0, iV 0, .own 134 0 1 (([] : List Int).map eI), iV 0]), (192, [iV 1, iV 0, iV (IntKind.i64.wrap (1 + r1.1)), iV (IntKind.i64.wrap ((IntKind.i64.wrap (1 + r1.1)) + r5.1)), iV 0, .own 512 0 1 (r3.1.map eI), iV 0]), (1048576, [.lst 1 (r7.2.code_.map eU8), iV r7.2.at_, iV r7.2.seed])], []⟩ (fgk (by kernel_rfl)) (ite_ (cb := (r7.1 == 0)) rfl (fun c55 => ?_) (fun c55 => ?_))))))))
  ·replace h0 := ip c55 h0
   refine reg_ (st (mv_ rfl tv ?_))
   obtain ⟨r56, e57, h0⟩ := bnd h0
   refine st (call1_ [1048576] [] [] true (H117 r7.2 9 r56 e57) ⟨tv, tv, tv⟩ (by kernel_rfl) (by kernel_rfl) (by kernel_rfl) (by kernel_rfl) (fun h => nomatch h) (sw ⟨[(0, .ptr 1048576 0), (2, .ptr 128 0), (3, .ptr 192 0), (21, iV r56.1)], [(128, [iV 0, iV 0, iV 0, iV 0, iV 0, .own 134 0 1 (([] : List Int).map eI), iV 0]), (192, [iV 1, iV 0, iV (IntKind.i64.wrap (1 + r1.1)), iV (IntKind.i64.wrap ((IntKind.i64.wrap (1 + r1.1)) + r5.1)), iV 0, .own 512 0 1 (r3.1.map eI), iV 0]), (1048576, [.lst 1 (r56.2.code_.map eU8), iV r56.2.at_, iV r56.2.seed])], []⟩ (fgk (by kernel_rfl)) (c_ (cp_ t3 rfl tv) (st (mv_ rfl tv ?_)))))
   obtain ⟨r58, e59, h0⟩ := bnd h0
   refine st (call1_ [1048576] [] [] true (H117 r56.2 12 r58 e59) ⟨tv, tv, tv⟩ (by kernel_rfl) (by kernel_rfl) (by kernel_rfl) (by kernel_rfl) (fun h => nomatch h) (sw ⟨[(0, .ptr 1048576 0), (2, .ptr 128 0), (3, .ptr 192 0), (22, iV (IntKind.i64.wrap (1 + r56.1))), (24, iV r58.1)], [(128, [iV 0, iV 0, iV 0, iV 0, iV 0, .own 134 0 1 (([] : List Int).map eI), iV 0]), (192, [iV 1, iV 0, iV (IntKind.i64.wrap (1 + r1.1)), iV (IntKind.i64.wrap ((IntKind.i64.wrap (1 + r1.1)) + r5.1)), iV 0, .own 512 0 1 (r3.1.map eI), iV 0]), (1048576, [.lst 1 (r58.2.code_.map eU8), iV r58.2.at_, iV r58.2.seed])], []⟩ (fgk (by kernel_rfl)) (c_ (cp_ t3 rfl tv) (st (c_ (v := .agg [iV 2, iV (IntKind.i64.wrap (1 + r56.1)), iV (IntKind.i64.wrap (1 + r58.1)), iV 0, iV 0, .own 1670 0 1 (([] : List Int).map eI), iV 0]) (cp_ ⟨tv, tv, tv, tv⟩ rfl ⟨⟨rfl, rfl, nl rfl⟩, ⟨rfl, rfl, nl rfl⟩, ⟨rfl, rfl, nl rfl⟩, tv⟩) (st (stp_ rfl rfl tv rfl rfl rfl (nl rfl) (oe_ (bn_ ?_)))))))))
   exact J54 _ ⟨[(0, .ptr 1048576 0), (2, .ptr 128 0), (3, .ptr 192 0)], [(128, [iV 0, iV 0, iV 0, iV 0, iV 0, .own 134 0 1 (([] : List Int).map eI), iV 0]), (192, [iV 2, iV (IntKind.i64.wrap (1 + r56.1)), iV (IntKind.i64.wrap (1 + r58.1)), iV 0, iV 0, .own 1670 0 1 (([] : List Int).map eI), iV 0]), (1048576, [.lst 1 (r58.2.code_.map eU8), iV r58.2.at_, iV r58.2.seed])], []⟩ (fgk (by kernel_rfl)) ⟨_, _, _, _, _, _, _, _, _, rfl, h0⟩
  ·replace h0 := inb c55 h0
   refine seq_ (reg_ (st (c_ (cp_ t3 rfl tv) (st (mv_ rfl tv (oe_ (wk_ ⟨[(0, .ptr 1048576 0), (2, .ptr 128 0), (3, .ptr 192 0), (17, iV r7.1), (27, .bool (r7.1 == 1))], [(128, [iV 0, iV 0, iV 0, iV 0, iV 0, .own 134 0 1 (([] : List Int).map eI), iV 0]), (192, [iV 1, iV 0, iV (IntKind.i64.wrap (1 + r1.1)), iV (IntKind.i64.wrap ((IntKind.i64.wrap (1 + r1.1)) + r5.1)), iV 0, .own 512 0 1 (r3.1.map eI), iV 0]), (1048576, [.lst 1 (r7.2.code_.map eU8), iV r7.2.at_, iV r7.2.seed])], []⟩ (fgk (by kernel_rfl)) (ite_ (cb := (r7.1 == 1)) rfl (fun c60 => ?_) (fun c60 => ?_)))))))))
   ·replace h0 := ip c60 h0
    refine reg_ (st (mv_ rfl tv ?_))
    obtain ⟨r61, e62, h0⟩ := bnd h0
    refine st (call1_ [1048576] [] [] true (H117 r7.2 9 r61 e62) ⟨tv, tv, tv⟩ (by kernel_rfl) (by kernel_rfl) (by kernel_rfl) (by kernel_rfl) (fun h => nomatch h) (sw ⟨[(0, .ptr 1048576 0), (2, .ptr 128 0), (3, .ptr 192 0), (30, iV r61.1)], [(128, [iV 0, iV 0, iV 0, iV 0, iV 0, .own 134 0 1 (([] : List Int).map eI), iV 0]), (192, [iV 1, iV 0, iV (IntKind.i64.wrap (1 + r1.1)), iV (IntKind.i64.wrap ((IntKind.i64.wrap (1 + r1.1)) + r5.1)), iV 0, .own 512 0 1 (r3.1.map eI), iV 0]), (1048576, [.lst 1 (r61.2.code_.map eU8), iV r61.2.at_, iV r61.2.seed])], []⟩ (fgk (by kernel_rfl)) (c_ (cp_ t3 rfl tv) (st (c_ (v := .agg [iV 3, iV (IntKind.i64.wrap (1 + r61.1)), iV 0, iV 0, iV 0, .own 2054 0 1 (([] : List Int).map eI), iV 0]) (cp_ ⟨tv, tv, tv⟩ rfl ⟨⟨rfl, rfl, nl rfl⟩, ⟨rfl, rfl, nl rfl⟩, tv⟩) (st (stp_ rfl rfl tv rfl rfl rfl (nl rfl) (oe_ (bn_ ?_)))))))))
    exact J54 _ ⟨[(0, .ptr 1048576 0), (2, .ptr 128 0), (3, .ptr 192 0)], [(128, [iV 0, iV 0, iV 0, iV 0, iV 0, .own 134 0 1 (([] : List Int).map eI), iV 0]), (192, [iV 3, iV (IntKind.i64.wrap (1 + r61.1)), iV 0, iV 0, iV 0, .own 1670 0 1 (([] : List Int).map eI), iV 0]), (1048576, [.lst 1 (r61.2.code_.map eU8), iV r61.2.at_, iV r61.2.seed])], []⟩ (fgsk [] [(2054, 1670)] rfl (by kernel_rfl)) ⟨_, _, _, _, _, _, _, _, _, rfl, h0⟩
   ·replace h0 := inb c60 h0
    refine seq_ (seq_ (reg_ (st (c_ (cp_ t3 rfl tv) (st (mv_ rfl tv (oe_ (wk_ ⟨[(0, .ptr 1048576 0), (2, .ptr 128 0), (3, .ptr 192 0), (17, iV r7.1), (33, .bool (r7.1 == 2))], [(128, [iV 0, iV 0, iV 0, iV 0, iV 0, .own 134 0 1 (([] : List Int).map eI), iV 0]), (192, [iV 1, iV 0, iV (IntKind.i64.wrap (1 + r1.1)), iV (IntKind.i64.wrap ((IntKind.i64.wrap (1 + r1.1)) + r5.1)), iV 0, .own 512 0 1 (r3.1.map eI), iV 0]), (1048576, [.lst 1 (r7.2.code_.map eU8), iV r7.2.at_, iV r7.2.seed])], []⟩ (fgk (by kernel_rfl)) (iteJ (cb := (r7.1 == 2)) (fun S => ∃ p65 : Bool, S = ⟨[(0, .ptr 1048576 0), (2, .ptr 128 0), (3, .ptr 192 0), (17, iV r7.1), (33, .bool p65)], [(128, [iV 0, iV 0, iV 0, iV 0, iV 0, .own 134 0 1 (([] : List Int).map eI), iV 0]), (192, [iV 1, iV 0, iV (IntKind.i64.wrap (1 + r1.1)), iV (IntKind.i64.wrap ((IntKind.i64.wrap (1 + r1.1)) + r5.1)), iV 0, .own 512 0 1 (r3.1.map eI), iV 0]), (1048576, [.lst 1 (r7.2.code_.map eU8), iV r7.2.at_, iV r7.2.seed])], []⟩ ∧ g135_j2 r1 r3 r5 r7 p65 = some r) rfl ?_ (fun c79 J78 => ?_) (fun c79 J78 => ?_))))))))))
    ·rintro _ ⟨p65, rfl, h0⟩
     refine wk_ ⟨[(0, .ptr 1048576 0), (2, .ptr 128 0), (3, .ptr 192 0), (17, iV r7.1), (33, .bool p65)], [(128, [iV 0, iV 0, iV 0, iV 0, iV 0, .own 134 0 1 (([] : List Int).map eI), iV 0]), (192, [iV 1, iV 0, iV (IntKind.i64.wrap (1 + r1.1)), iV (IntKind.i64.wrap ((IntKind.i64.wrap (1 + r1.1)) + r5.1)), iV 0, .own 512 0 1 (r3.1.map eI), iV 0]), (1048576, [.lst 1 (r7.2.code_.map eU8), iV r7.2.at_, iV r7.2.seed])], []⟩ (fgk (by kernel_rfl)) (ite_ (cb := p65) rfl (fun c66 => ?_) (fun c66 => ?_))
     ·replace h0 := ip c66 h0
      refine reg_ (st (mv_ rfl tv ?_))
      obtain ⟨r67, e68, h0⟩ := bnd h0
      refine st (call1_ [1048576] [] [] true (H117 r7.2 60 r67 e68) ⟨tv, tv, tv⟩ (by kernel_rfl) (by kernel_rfl) (by kernel_rfl) (by kernel_rfl) (fun h => nomatch h) (sw ⟨[(0, .ptr 1048576 0), (2, .ptr 128 0), (3, .ptr 192 0), (38, iV r67.1)], [(128, [iV 0, iV 0, iV 0, iV 0, iV 0, .own 134 0 1 (([] : List Int).map eI), iV 0]), (192, [iV 1, iV 0, iV (IntKind.i64.wrap (1 + r1.1)), iV (IntKind.i64.wrap ((IntKind.i64.wrap (1 + r1.1)) + r5.1)), iV 0, .own 512 0 1 (r3.1.map eI), iV 0]), (1048576, [.lst 1 (r67.2.code_.map eU8), iV r67.2.at_, iV r67.2.seed])], []⟩ (fgk (by kernel_rfl)) (mv_ rfl tv ?_)))
      obtain ⟨r69, e70, h0⟩ := bnd h0
      refine st (call1_ [1048576] [] [] true (H147 r67.2 r69 e70) ⟨tv, tv⟩ (by kernel_rfl) (by kernel_rfl) (by kernel_rfl) (by kernel_rfl) (fun h => nomatch h) (sw ⟨[(0, .ptr 1048576 0), (2, .ptr 128 0), (3, .ptr 192 0), (38, iV r67.1), (40, .own 2560 0 1 (r69.1.map eI))], [(128, [iV 0, iV 0, iV 0, iV 0, iV 0, .own 134 0 1 (([] : List Int).map eI), iV 0]), (192, [iV 1, iV 0, iV (IntKind.i64.wrap (1 + r1.1)), iV (IntKind.i64.wrap ((IntKind.i64.wrap (1 + r1.1)) + r5.1)), iV 0, .own 512 0 1 (r3.1.map eI), iV 0]), (1048576, [.lst 1 (r69.2.code_.map eU8), iV r69.2.at_, iV r69.2.seed])], []⟩ (fgk (by kernel_rfl)) (c_ (v := .agg [iV 4, iV 0, iV 0, iV 0, iV r67.1, .own 2560 0 1 (r69.1.map eI), iV 0]) (cp_ ⟨tv, tv, tv, tv⟩ rfl ⟨⟨rfl, rfl, nl rfl⟩, ⟨rfl, rfl, nl rfl⟩, ⟨rfl, rfl, nl rfl⟩, tv⟩) (st (stp_ rfl rfl tv rfl rfl rfl (nl rfl) (oe_ (bn_ ?_)))))))
      exact J54 _ ⟨[(0, .ptr 1048576 0), (2, .ptr 128 0), (3, .ptr 192 0)], [(128, [iV 0, iV 0, iV 0, iV 0, iV 0, .own 134 0 1 (([] : List Int).map eI), iV 0]), (192, [iV 4, iV 0, iV 0, iV 0, iV r67.1, .own 1670 0 1 (r69.1.map eI), iV 0]), (1048576, [.lst 1 (r69.2.code_.map eU8), iV r69.2.at_, iV r69.2.seed])], []⟩ (fgsk [] [(2560, 1670)] rfl (by kernel_rfl)) ⟨_, _, _, _, _, _, _, _, _, rfl, h0⟩
     ·replace h0 := inb c66 h0
      refine seq_ (reg_ (st (c_ (cp_ t3 rfl tv) (st (mv_ rfl tv (oe_ (wk_ ⟨[(0, .ptr 1048576 0), (2, .ptr 128 0), (3, .ptr 192 0), (42, .bool (r7.1 == 5))], [(128, [iV 0, iV 0, iV 0, iV 0, iV 0, .own 134 0 1 (([] : List Int).map eI), iV 0]), (192, [iV 1, iV 0, iV (IntKind.i64.wrap (1 + r1.1)), iV (IntKind.i64.wrap ((IntKind.i64.wrap (1 + r1.1)) + r5.1)), iV 0, .own 512 0 1 (r3.1.map eI), iV 0]), (1048576, [.lst 1 (r7.2.code_.map eU8), iV r7.2.at_, iV r7.2.seed])], []⟩ (fgk (by kernel_rfl)) (ite_ (cb := (r7.1 == 5)) rfl (fun c71 => ?_) (fun c71 => ?_)))))))))
      ·replace h0 := ip c71 h0
       refine reg_ (st (mkS_ ⟨tv, tv, tv, tv, tv⟩ ⟨⟨nl rfl, rfl, rfl⟩, ⟨nl rfl, rfl, rfl⟩, ⟨nl rfl, rfl, rfl⟩, ⟨nl rfl, rfl, rfl⟩, tv⟩ (st (mv_ rfl tv ?_))))
       obtain ⟨r72, e73, h0⟩ := bnd h0
       refine st (call1_ [1048576] [] [] true (H117 r7.2 4 r72 e73) ⟨tv, tv, tv⟩ (by kernel_rfl) (by kernel_rfl) (by kernel_rfl) (by kernel_rfl) (fun h => nomatch h) ?_)
       obtain ⟨y74, e75, h0⟩ := bnd h0
       refine sw ⟨[(0, .ptr 1048576 0), (2, .ptr 128 0), (3, .ptr 192 0), (44, .own 2816 0 1 (([5, 6, 6, 6] : List Int).map eI)), (46, iV r72.1)], [(128, [iV 0, iV 0, iV 0, iV 0, iV 0, .own 134 0 1 (([] : List Int).map eI), iV 0]), (192, [iV 1, iV 0, iV (IntKind.i64.wrap (1 + r1.1)), iV (IntKind.i64.wrap ((IntKind.i64.wrap (1 + r1.1)) + r5.1)), iV 0, .own 512 0 1 (r3.1.map eI), iV 0]), (1048576, [.lst 1 (r72.2.code_.map eU8), iV r72.2.at_, iV r72.2.seed])], []⟩ (fgk (by kernel_rfl)) (c_ (cidxO (e := eI) (y := y74) rfl rfl tv rfl rfl tv e75) ?_)
       obtain ⟨y76, e77, h0⟩ := bnd h0
       refine st (c_ (cloadO (e := eI) (y := y76) (v := iV y76) rfl rfl tv rfl rfl e77 rfl (nl rfl) rfl) (st (c_ (v := .agg [iV y76, iV 0, iV 0, iV 0, iV 0, .own 3142 0 1 (([] : List Int).map eI), iV 0]) (cp_ ⟨tv, tv⟩ rfl ⟨⟨rfl, rfl, nl rfl⟩, tv⟩) (st (stp_ rfl rfl tv rfl rfl rfl (nl rfl) (oe_ (bn_ ?_)))))))
       exact J54 _ ⟨[(0, .ptr 1048576 0), (2, .ptr 128 0), (3, .ptr 192 0)], [(128, [iV 0, iV 0, iV 0, iV 0, iV 0, .own 134 0 1 (([] : List Int).map eI), iV 0]), (192, [iV y76, iV 0, iV 0, iV 0, iV 0, .own 1670 0 1 (([] : List Int).map eI), iV 0]), (1048576, [.lst 1 (r72.2.code_.map eU8), iV r72.2.at_, iV r72.2.seed])], []⟩ (fgsk [] [(3142, 1670)] rfl (by kernel_rfl)) ⟨_, _, _, _, _, _, _, _, _, rfl, h0⟩
      ·replace h0 := inb c71 h0
       refine sk_ (bn_ ?_)
       exact J54 _ ⟨[(0, .ptr 1048576 0), (2, .ptr 128 0), (3, .ptr 192 0)], [(128, [iV 0, iV 0, iV 0, iV 0, iV 0, .own 134 0 1 (([] : List Int).map eI), iV 0]), (192, [iV 1, iV 0, iV (IntKind.i64.wrap (1 + r1.1)), iV (IntKind.i64.wrap ((IntKind.i64.wrap (1 + r1.1)) + r5.1)), iV 0, .own 1670 0 1 (r3.1.map eI), iV 0]), (1048576, [.lst 1 (r7.2.code_.map eU8), iV r7.2.at_, iV r7.2.seed])], []⟩ (fgsk [] [(512, 1670)] rfl (by kernel_rfl)) ⟨_, _, _, _, _, _, _, _, _, rfl, h0⟩
    ·replace h0 := ip c79 h0
     refine sk_ ?_
     exact J78 _ ⟨[(0, .ptr 1048576 0), (2, .ptr 128 0), (3, .ptr 192 0), (17, iV r7.1), (33, .bool (r7.1 == 2))], [(128, [iV 0, iV 0, iV 0, iV 0, iV 0, .own 134 0 1 (([] : List Int).map eI), iV 0]), (192, [iV 1, iV 0, iV (IntKind.i64.wrap (1 + r1.1)), iV (IntKind.i64.wrap ((IntKind.i64.wrap (1 + r1.1)) + r5.1)), iV 0, .own 512 0 1 (r3.1.map eI), iV 0]), (1048576, [.lst 1 (r7.2.code_.map eU8), iV r7.2.at_, iV r7.2.seed])], []⟩ (fgk (by kernel_rfl)) ⟨_, rfl, h0⟩
    ·replace h0 := inb c79 h0
     refine seq_ (reg_ (st (c_ (cp_ t3 rfl tv) (st (mv_ rfl tv (oe_ (wk_ ⟨[(0, .ptr 1048576 0), (2, .ptr 128 0), (3, .ptr 192 0), (17, iV r7.1), (33, .bool (r7.1 == 3))], [(128, [iV 0, iV 0, iV 0, iV 0, iV 0, .own 134 0 1 (([] : List Int).map eI), iV 0]), (192, [iV 1, iV 0, iV (IntKind.i64.wrap (1 + r1.1)), iV (IntKind.i64.wrap ((IntKind.i64.wrap (1 + r1.1)) + r5.1)), iV 0, .own 512 0 1 (r3.1.map eI), iV 0]), (1048576, [.lst 1 (r7.2.code_.map eU8), iV r7.2.at_, iV r7.2.seed])], []⟩ (fgk (by kernel_rfl)) (ite_ (cb := (r7.1 == 3)) rfl (fun c80 => ?_) (fun c80 => ?_)))))))))
     ·replace h0 := ip c80 h0
      refine sk_ ?_
      exact J78 _ ⟨[(0, .ptr 1048576 0), (2, .ptr 128 0), (3, .ptr 192 0), (17, iV r7.1), (33, .bool (r7.1 == 3))], [(128, [iV 0, iV 0, iV 0, iV 0, iV 0, .own 134 0 1 (([] : List Int).map eI), iV 0]), (192, [iV 1, iV 0, iV (IntKind.i64.wrap (1 + r1.1)), iV (IntKind.i64.wrap ((IntKind.i64.wrap (1 + r1.1)) + r5.1)), iV 0, .own 512 0 1 (r3.1.map eI), iV 0]), (1048576, [.lst 1 (r7.2.code_.map eU8), iV r7.2.at_, iV r7.2.seed])], []⟩ (fgk (by kernel_rfl)) ⟨_, rfl, h0⟩
     ·replace h0 := inb c80 h0
      refine reg_ (st (c_ (cp_ t3 rfl tv) (st (mv_ rfl tv (oe_ ?_)))))
      exact J78 _ ⟨[(0, .ptr 1048576 0), (2, .ptr 128 0), (3, .ptr 192 0), (17, iV r7.1), (33, .bool (r7.1 == 4))], [(128, [iV 0, iV 0, iV 0, iV 0, iV 0, .own 134 0 1 (([] : List Int).map eI), iV 0]), (192, [iV 1, iV 0, iV (IntKind.i64.wrap (1 + r1.1)), iV (IntKind.i64.wrap ((IntKind.i64.wrap (1 + r1.1)) + r5.1)), iV 0, .own 512 0 1 (r3.1.map eI), iV 0]), (1048576, [.lst 1 (r7.2.code_.map eU8), iV r7.2.at_, iV r7.2.seed])], []⟩ (fgk (by kernel_rfl)) ⟨_, rfl, h0⟩

/- (*loop.example/g00149/spec.l00Src).vaultActs -/
def c103_r0 : List Ins := [⟨some 2, .nilS 7, none⟩]
def c103_r1 : List Ins := [⟨some 6, .mkS 7 [(iV 0), (iV 0), (iV 0), (iV 0), (iV 0), (.lst 1 []), (iV 0)] 0 [], none⟩,
(iQ 3 (.mv (.t 6)))]
def c103_r2 : List Ins := [(iQ 7 (.mv (.t 0))),
(iQ 8 (.mv (.t 0))),
⟨some 9, .call 118 [(.t 8), (.c (iV 16))], none⟩,
⟨some 10, .p (.bin .add (.t 9) (.c (iV 3))), none⟩,
⟨some 11, .call 117 [(.t 7), (.t 10)], none⟩,
(iQ 4 (.mv (.t 11)))]
def c103_r3 : List Ins := [(iQ 12 (.mv (.t 4))),
⟨some 13, .p (.bin .gtr (.t 12) (.c (iV 0))), none⟩]
def c103_r4 : List Ins := [(iQ 16 (.mv (.t 0))),
⟨some 17, .call 135 [(.t 16)], none⟩,
⟨some 5, .alloc [(iV 0), (iV 0), (iV 0), (iV 0), (iV 0), (.own 326 0 1 []), (iV 0)], none⟩,
⟨none, .store (.t 5) (.t 17) 7, none⟩]
def c103_r5 : List Ins := [(iQ 18 (.mv (.t 3))),
(iQ 19 (.load (.t 5) 7 true)),
⟨some 20, .mkS 7 [(iV 0), (iV 0), (iV 0), (iV 0), (iV 0), (.lst 1 []), (iV 0)] 1 [(0, (.t 19))], none⟩,
⟨some 21, .app 7 72 (.t 18) (.t 20), none⟩,
(iQ 3 (.mv (.t 21)))]
def c103_r6 : List Ins := [(iQ 22 (.fieldA (.t 5) 6)),
(iQ 23 (.load (.t 22) 1 false)),
⟨some 24, .p (.bin .neq (.t 23) (.c (iV 0))), none⟩,
(iQ 25 (.mv (.t 24))),
⟨some 26, .p (.fieldA (.t 5) 0), some (25, false)⟩,
⟨some 27, .p (.load (.t 26) 1 false), some (25, false)⟩,
⟨some 28, .p (.bin .eql (.t 27) (.c (iV 5))), some (25, false)⟩,
⟨some 29, .pick (.t 25) (.c (.bool true)) (.t 28), none⟩]
def c103_r7 : List Ins := [(iQ 30 (.mv (.t 3))),
⟨some 31, .p (.build [(iV 0), (iV 0), (iV 0), (iV 0), (iV 0), (.own 1990 0 1 []), (iV 0)] [(0, 1, (.c (iV 6)))]), none⟩,
⟨some 32, .mkS 7 [(iV 0), (iV 0), (iV 0), (iV 0), (iV 0), (.lst 1 []), (iV 0)] 1 [(0, (.t 31))], none⟩,
⟨some 33, .app 7 72 (.t 30) (.t 32), none⟩,
(iQ 3 (.mv (.t 33)))]
def c103_r8 : List Ins := [(iQ 14 (.mv (.t 4))),
⟨some 15, .p (.bin .sub (.t 14) (.c (iV 1))), none⟩,
(iQ 4 (.mv (.t 15)))]
def c103_l0 : IR := (.seq (.seq (.reg c103_r3) (.ite (.t 13) .skip (.exit 0))) (.seq (.block 1 (.seq (.reg c103_r4) (.seq (.reg c103_r5) (.seq (.reg c103_r6) (.ite (.t 29) (.reg c103_r7) .skip))))) (.reg c103_r8)))
def c103_r9 : List Ins := [(iQ 34 (.mv (.t 3))),
(iQ 35 (.mv (.t 3))),
(iQ 36 (.len (.t 35))),
⟨some 37, .p (.mn (.t 36) (.c (iV 120))), none⟩,
⟨some 38, .p (.slice (.t 34) none (some (.t 37)) 7), none⟩,
(iQ 2 (.mv (.t 38)))]
def c103 : XFn := { np := 1, nt := 39, res := [.t 2], body := (.seq (.reg c103_r0) (.seq (.reg c103_r1) (.seq (.seq (.reg c103_r2) (.block 0 (.loop c103_l0))) (.seq (.reg c103_r9) .ret)))) }
def K103 (C : CRel) : Prop := ∀ (a0 : Dl00Src) (r : (List DVaultAct) × Dl00Src), g103 a0 = some r → C 103 ⟨[.ptr 1048576 0], [[.lst 1 (a0.code_.map eU8), iV a0.at_, iV a0.seed]]⟩ ⟨.own 0 0 7 (r.1.map eDVaultAct), [[.lst 1 (r.2.code_.map eU8), iV r.2.at_, iV r.2.seed]], []⟩
theorem F103 {C : CRel} (H117 : K117 C) (H118 : K118 C) (H135 : K135 C) (a0 : Dl00Src) (r : (List DVaultAct) × Dl00Src) (h0 : g103 a0 = some r) : FnOK C c103 ⟨[.ptr 1048576 0], [[.lst 1 (a0.code_.map eU8), iV a0.at_, iV a0.seed]]⟩ ⟨.own 0 0 7 (r.1.map eDVaultAct), [[.lst 1 (r.2.code_.map eU8), iV r.2.at_, iV r.2.seed]], []⟩ := by
 refine fn_ (nl rfl) (seq_ (reg_ (st (nilS_ (oe_ (wk_ ⟨[(0, .ptr 1048576 0)], [(1048576, [.lst 1 (a0.code_.map eU8), iV a0.at_, iV a0.seed])], []⟩ (fgk (by kernel_rfl)) (seq_ (reg_ (st (mkS_ tv tv (st (mv_ rfl tv (oe_ (wk_ ⟨[(0, .ptr 1048576 0), (3, .own 384 0 7 (([] : List DVaultAct).map eDVaultAct))], [(1048576, [.lst 1 (a0.code_.map eU8), iV a0.at_, iV a0.seed])], []⟩ (fgk (by kernel_rfl)) (seq_ (seq_ (reg_ (st (mv_ rfl tv (st (mv_ rfl tv ?_)))))))))))))))))))))
 obtain ⟨r1, e2, h0⟩ := bnd h0
 refine st (call0_ (r := iV r1) false (H118 a0 16 r1 e2) ⟨tv, tv, tv⟩ rfl rfl (fun _ => rfl) (st (c_ (cp_ t3 rfl tv) ?_)))
 obtain ⟨r3, e4, h0⟩ := bnd h0
 refine sw ⟨[(0, .ptr 1048576 0), (3, .own 384 0 7 (([] : List DVaultAct).map eDVaultAct)), (7, .ptr 1048576 0), (10, iV (IntKind.i64.wrap (r1 + 3)))], [(1048576, [.lst 1 (a0.code_.map eU8), iV a0.at_, iV a0.seed])], []⟩ (fgk (by kernel_rfl)) (call1_ [1048576] [] [] true (H117 a0 (IntKind.i64.wrap (r1 + 3)) r3 e4) ⟨tv, tv, tv⟩ (by kernel_rfl) (by kernel_rfl) (by kernel_rfl) (by kernel_rfl) (fun h => nomatch h) (sw ⟨[(0, .ptr 1048576 0), (3, .own 384 0 7 (([] : List DVaultAct).map eDVaultAct)), (11, iV r3.1)], [(1048576, [.lst 1 (r3.2.code_.map eU8), iV r3.2.at_, iV r3.2.seed])], []⟩ (fgk (by kernel_rfl)) (mv_ rfl tv (oe_ (wk_ ⟨[(0, .ptr 1048576 0), (3, .own 384 0 7 (([] : List DVaultAct).map eDVaultAct)), (4, iV r3.1)], [(1048576, [.lst 1 (r3.2.code_.map eU8), iV r3.2.at_, iV r3.2.seed])], []⟩ (fgk (by kernel_rfl)) (block_ ?_))))))
 obtain ⟨r55, e56, h0⟩ := bnd h0
 refine loop_ (R := (fun S => ∃ p35 : List DVaultAct, ∃ p36 : List UInt8, ∃ p37 : Int, ∃ p38 : Int, (p35, p36, p37, p38) = r55 ∧ S = ⟨[(3, .own 384 0 7 (p35.map eDVaultAct))], [(1048576, [.lst 1 (p36.map eU8), iV p37, iV p38])], []⟩)) (g103_l0) (fun s S => match s with | (p15, p16, p17, p18, p19) => S = ⟨[(0, .ptr 1048576 0), (3, .own 384 0 7 (p15.map eDVaultAct)), (4, iV p16)], [(1048576, [.lst 1 (p17.map eU8), iV p18, iV p19])], []⟩) e56 ⟨[(0, .ptr 1048576 0), (3, .own 384 0 7 (([] : List DVaultAct).map eDVaultAct)), (4, iV r3.1)], [(1048576, [.lst 1 (r3.2.code_.map eU8), iV r3.2.at_, iV r3.2.seed])], []⟩ (fgk (by kernel_rfl)) rfl 0 (fun _ => rfl) ?_ ?_
 ·rintro S _ hfg ⟨p35, p36, p37, p38, rfl, rfl⟩
  refine wk_ ⟨[(3, .own 384 0 7 (p35.map eDVaultAct))], [(1048576, [.lst 1 (p36.map eU8), iV p37, iV p38])], []⟩ (fglk hfg (by kernel_rfl)) (seq_ (reg_ (st (mv_ rfl tv (st (mv_ rfl tv (st (c_ (clenO (e := eDVaultAct) (l0 := p35) rfl rfl tv) (st (c_ (cp_ ⟨tv, tv, tv⟩ rfl rfl) ?_))))))))))
  obtain ⟨s57, e58, h0⟩ := bnd h0
  refine st (c_ (csliceO (e := eDVaultAct) (y := s57) rfl rfl tv ⟨tv, tv⟩ rfl rfl e58) (st (mv_ rfl tv (oe_ (wk_ ⟨[(2, .own 384 0 7 (s57.map eDVaultAct))], [(1048576, [.lst 1 (p36.map eU8), iV p37, iV p38])], []⟩ (fgk (by kernel_rfl)) ?_)))))
  obtain rfl := Option.some.inj h0
  exact rt_ (ret_ rfl rfl rfl rfl rfl tv)
 ·rintro ⟨p15, p16, p17, p18, p19⟩ o1 _ K1 rfl h1 hx1 hK1 hE1 hR1
  refine seq_ (seq_ (reg_ (st (mv_ rfl tv (st (c_ (cp_ t3 rfl tv) (oe_ (wk_ ⟨[(0, .ptr 1048576 0), (3, .own 384 0 7 (p15.map eDVaultAct)), (4, iV p16), (13, .bool (decide (p16 > 0)))], [(1048576, [.lst 1 (p17.map eU8), iV p18, iV p19])], []⟩ (fgk (by kernel_rfl)) (ite_ (cb := (decide (p16 > 0))) rfl (fun c39 => ?_) (fun c39 => ?_))))))))))
  ·replace h1 := ip c39 h1
   refine sk_ (wk_ ⟨[(0, .ptr 1048576 0), (3, .own 384 0 7 (p15.map eDVaultAct)), (4, iV p16)], [(1048576, [.lst 1 (p17.map eU8), iV p18, iV p19])], []⟩ (fgk (by kernel_rfl)) (seq_ (blockJ (fun S => ∃ p45 : List DVaultAct, ∃ p46 : List UInt8, ∃ p47 : Int, ∃ p48 : Int, S = ⟨[(0, .ptr 1048576 0), (3, .own 384 0 7 (p45.map eDVaultAct)), (4, iV p16)], [(1048576, [.lst 1 (p46.map eU8), iV p47, iV p48])], []⟩ ∧ g103_j0 p16 p45 p46 p47 p48 = some o1) ?_ (fun J49 => ?_))))
   ·rintro _ ⟨p45, p46, p47, p48, rfl, h1⟩
    refine wk_ ⟨[(0, .ptr 1048576 0), (3, .own 384 0 7 (p45.map eDVaultAct)), (4, iV p16)], [(1048576, [.lst 1 (p46.map eU8), iV p47, iV p48])], []⟩ (fgk (by kernel_rfl)) (reg_ (st (mv_ rfl tv (st (c_ (cp_ t3 rfl tv) (st (mv_ rfl tv (oe_ ?_))))))))
    obtain rfl := Option.some.inj h1
    exact hK1 _ rfl _ ⟨[(0, .ptr 1048576 0), (3, .own 384 0 7 (p45.map eDVaultAct)), (4, iV (IntKind.i64.wrap (p16 - 1)))], [(1048576, [.lst 1 (p46.map eU8), iV p47, iV p48])], []⟩ (fgk (by kernel_rfl)) rfl
   ·refine seq_ ?_
    refine reg_ (st (mv_ rfl tv ?_))
    obtain ⟨r50, e51, h1⟩ := bnd h1
    refine st (call1_ [1048576] [] [] true (H135 (Dl00Src.mk p17 p18 p19) r50 e51) ⟨tv, tv⟩ (by kernel_rfl) (by kernel_rfl) (by kernel_rfl) (by kernel_rfl) (fun h => nomatch h) (sw ⟨[(0, .ptr 1048576 0), (3, .own 384 0 7 (p15.map eDVaultAct)), (4, iV p16), (17, .agg [iV r50.1.kind, iV r50.1.id, iV r50.1.ttl, iV r50.1.most, iV r50.1.clock, .own 1088 0 1 (r50.1.fates.map eI), iV r50.1.stop])], [(1048576, [.lst 1 (r50.2.code_.map eU8), iV r50.2.at_, iV r50.2.seed])], []⟩ (fgk (by kernel_rfl)) (alloc_ (st (stp_ rfl rfl tv rfl rfl rfl (nl rfl) (oe_ (wk_ ⟨[(0, .ptr 1048576 0), (3, .own 384 0 7 (p15.map eDVaultAct)), (4, iV p16), (5, .ptr 320 0)], [(320, [iV r50.1.kind, iV r50.1.id, iV r50.1.ttl, iV r50.1.most, iV r50.1.clock, .own 1088 0 1 (r50.1.fates.map eI), iV r50.1.stop]), (1048576, [.lst 1 (r50.2.code_.map eU8), iV r50.2.at_, iV r50.2.seed])], []⟩ (fgk (by kernel_rfl)) (seq_ (reg_ (st (mv_ rfl tv (st (c_ (v := .agg [iV r50.1.kind, iV r50.1.id, iV r50.1.ttl, iV r50.1.most, iV r50.1.clock, .own 1088 0 1 (r50.1.fates.map eI), iV r50.1.stop]) (cp_ ⟨tv, tv⟩ rfl (nl rfl)) (st (mkS_ ⟨tv, tv⟩ ⟨⟨nl rfl, rfl, rfl⟩, tv⟩ ?_)))))))))))))))
    obtain ⟨c52, h1⟩ := grd h1
    refine st (app_ (e := eDVaultAct) (l0 := p15) (l1 := ([r50.1] : List DVaultAct)) rfl rfl tv rfl (by decide) c52 (st (mv_ rfl tv (oe_ (wk_ ⟨[(0, .ptr 1048576 0), (3, .own 384 0 7 ((p15 ++ ([r50.1] : List DVaultAct)).map eDVaultAct)), (4, iV p16), (5, .ptr 320 0)], [(320, [iV r50.1.kind, iV r50.1.id, iV r50.1.ttl, iV r50.1.most, iV r50.1.clock, .lst 1 (r50.1.fates.map eI), iV r50.1.stop]), (1048576, [.lst 1 (r50.2.code_.map eU8), iV r50.2.at_, iV r50.2.seed])], []⟩ (fgk (by kernel_rfl)) (seq_ (reg_ (st (c_ (cp_ ⟨tv, tv⟩ rfl tv) (st (c_ (cp_ ⟨tv, tv⟩ rfl (nl rfl)) (st (c_ (cp_ t3 rfl tv) (st (mv_ rfl tv (st (pg_ (u := .ptr 320 0) rfl (fun hg => (cp_ ⟨tv, tv⟩ rfl tv)) (st (pg_ (u := iV r50.1.kind) rfl (fun hg => (cp_ ⟨(fun _ => hg), tv⟩ rfl (nl rfl))) (st (pg_ (u := .bool (r50.1.kind == 5)) rfl (fun hg => (cp_ ⟨(fun _ => hg), tv, tv⟩ rfl tv)) (st (pick_ rfl rfl rfl tv (fun h => eqf h) rfl (oe_ (wk_ ⟨[(0, .ptr 1048576 0), (3, .own 384 0 7 ((p15 ++ ([r50.1] : List DVaultAct)).map eDVaultAct)), (4, iV p16), (29, .bool (bif (r50.1.stop != 0) then true else (r50.1.kind == 5)))], [(1048576, [.lst 1 (r50.2.code_.map eU8), iV r50.2.at_, iV r50.2.seed])], []⟩ (fgk (by kernel_rfl)) (ite_ (cb := (bif (r50.1.stop != 0) then true else (r50.1.kind == 5))) rfl (fun c53 => ?_) (fun c53 => ?_)))))))))))))))))))))))))))
    ·replace h1 := ip c53 h1
     refine reg_ (st (mv_ rfl tv (st (c_ (v := .agg [iV 6, iV 0, iV 0, iV 0, iV 0, .own 1990 0 1 (([] : List Int).map eI), iV 0]) (cp_ ⟨tv, tv⟩ rfl ⟨⟨rfl, rfl, nl rfl⟩, tv⟩) (st (mkS_ ⟨tv, tv⟩ ⟨⟨nl rfl, rfl, rfl⟩, tv⟩ ?_))))))
     obtain ⟨c54, h1⟩ := grd h1
     refine st (app_ (e := eDVaultAct) (l0 := p15 ++ ([r50.1] : List DVaultAct)) (l1 := ([(DVaultAct.mk 6 0 0 0 0 ([] : List Int) 0)] : List DVaultAct)) rfl rfl tv rfl (by decide) c54 (st (mv_ rfl tv (oe_ (bn_ ?_)))))
     exact J49 _ ⟨[(0, .ptr 1048576 0), (3, .own 384 0 7 (((p15 ++ ([r50.1] : List DVaultAct)) ++ ([(DVaultAct.mk 6 0 0 0 0 ([] : List Int) 0)] : List DVaultAct)).map eDVaultAct)), (4, iV p16)], [(1048576, [.lst 1 (r50.2.code_.map eU8), iV r50.2.at_, iV r50.2.seed])], []⟩ (fgk (by kernel_rfl)) ⟨_, _, _, _, rfl, h1⟩
    ·replace h1 := inb c53 h1
     refine sk_ (bn_ ?_)
     exact J49 _ ⟨[(0, .ptr 1048576 0), (3, .own 384 0 7 ((p15 ++ ([r50.1] : List DVaultAct)).map eDVaultAct)), (4, iV p16)], [(1048576, [.lst 1 (r50.2.code_.map eU8), iV r50.2.at_, iV r50.2.seed])], []⟩ (fgk (by kernel_rfl)) ⟨_, _, _, _, rfl, h1⟩
  ·replace h1 := inb c39 h1
   obtain rfl := Option.some.inj h1
   obtain rfl := hx1 _ rfl
   refine exQ rfl ?_
   exact hE1 _ ⟨[(3, .own 384 0 7 (p15.map eDVaultAct))], [(1048576, [.lst 1 (p17.map eU8), iV p18, iV p19])], []⟩ (fgk (by kernel_rfl)) ⟨_, _, _, _, rfl, rfl⟩

/- loop.example/g00149/spec.VaultActsOf -/
def c51_r0 : List Ins := [⟨some 2, .nilS 7, none⟩]
def c51_r1 : List Ins := [(iQ 3 (.mv (.t 0))),
⟨some 4, .call 83 [(.t 3)], none⟩,
⟨some 5, .call 103 [(.t 4)], none⟩,
(iQ 2 (.mv (.t 5)))]
def c51 : XFn := { np := 1, nt := 6, res := [.t 2], body := (.seq (.reg c51_r0) (.seq (.reg c51_r1) .ret)) }
def K51 (C : CRel) : Prop := ∀ (a0 : List UInt8) (r : (List DVaultAct)), g51 a0 = some r → C 51 ⟨[.lst 1 (a0.map eU8)], []⟩ ⟨.own 0 0 7 (r.map eDVaultAct), [], []⟩
theorem F51 {C : CRel} (H83 : K83 C) (H103 : K103 C) (a0 : List UInt8) (r : (List DVaultAct)) (h0 : g51 a0 = some r) : FnOK C c51 ⟨[.lst 1 (a0.map eU8)], []⟩ ⟨.own 0 0 7 (r.map eDVaultAct), [], []⟩ := by
 refine fn_ (nl rfl) (seq_ (reg_ (st (nilS_ (oe_ (wk_ ⟨[(0, .lst 1 (a0.map eU8))], [], []⟩ (fgk (by kernel_rfl)) (seq_ (reg_ (st (mv_ rfl tv ?_))))))))))
 obtain ⟨r1, e2, h0⟩ := bnd h0
 refine st (call1_ [] [] [] true (H83 a0 r1 e2) ⟨tv, tv⟩ (by kernel_rfl) (by kernel_rfl) (by kernel_rfl) (by kernel_rfl) (fun h => nomatch h) ?_)
 obtain ⟨r3, e4, h0⟩ := bnd h0
 refine sw ⟨[(4, .ptr 256 0)], [(256, [.lst 1 (r1.code_.map eU8), iV r1.at_, iV r1.seed])], []⟩ (fgk (by kernel_rfl)) (call1_ [256] [] [] true (H103 r1 r3 e4) ⟨tv, tv⟩ (by kernel_rfl) (by kernel_rfl) (by kernel_rfl) (by kernel_rfl) (fun h => nomatch h) (sw ⟨[(5, .own 320 0 7 (r3.1.map eDVaultAct))], [], []⟩ (fgk (by kernel_rfl)) (mv_ rfl tv (oe_ (wk_ ⟨[(2, .own 320 0 7 (r3.1.map eDVaultAct))], [], []⟩ (fgk (by kernel_rfl)) ?_)))))
 obtain rfl := Option.some.inj h0
 exact rt_ (ret_ rfl rfl rfl rfl rfl tv)

/- loop.example/g00149/laws.sameInts -/
def c52_r0 : List Ins := [⟨some 4, .p (.mv (.c (.bool false))), none⟩]
def c52_r1 : List Ins := [(iQ 6 (.mv (.t 0))),
(iQ 7 (.len (.t 6))),
(iQ 8 (.mv (.t 1))),
(iQ 9 (.len (.t 8))),
(iQ 10 (.bin .neq (.t 7) (.t 9)))]
def c52_r2 : List Ins := [⟨some 4, .p (.mv (.c (.bool false))), none⟩]
def c52_r3 : List Ins := [⟨some 5, .p (.mv (.c (iV 0))), none⟩]
def c52_r4 : List Ins := [(iQ 11 (.mv (.t 5))),
(iQ 12 (.mv (.t 0))),
(iQ 13 (.len (.t 12))),
(iQ 14 (.bin .lss (.t 11) (.t 13)))]
def c52_r5 : DP := (.take (iQ 17 (.mv (.t 0)))
(.take (iQ 18 (.mv (.t 5)))
(.take (iQ 19 (.idxA (.t 17) (.t 18) 1))
(.take (iQ 20 (.load (.t 19) 1 false))
(.take (iQ 21 (.mv (.t 1)))
(.take (iQ 22 (.mv (.t 5)))
(.take (iQ 23 (.idxA (.t 21) (.t 22) 1))
(.take (iQ 24 (.load (.t 23) 1 false))
(.take (iQ 25 (.bin .neq (.t 20) (.t 24)))
.fin)))))))))
def c52_r6 : List Ins := [⟨some 4, .p (.mv (.c (.bool false))), none⟩]
def c52_r7 : List Ins := [(iQ 15 (.mv (.t 5))),
⟨some 16, .p (.bin .add (.t 15) (.c (iV 1))), none⟩,
(iQ 5 (.mv (.t 16)))]
def c52_l0 : IR := (.seq (.seq (.reg c52_r4) (.ite (.t 14) .skip (.exit 0))) (.seq (.block 1 (.seq (.draw c52_r5) (.ite (.t 25) (.seq (.reg c52_r6) .ret) .skip))) (.reg c52_r7)))
def c52_r8 : List Ins := [⟨some 4, .p (.mv (.c (.bool true))), none⟩]
def c52 : XFn := { np := 2, nt := 26, res := [.t 4], body := (.seq (.reg c52_r0) (.seq (.seq (.reg c52_r1) (.ite (.t 10) (.seq (.reg c52_r2) .ret) .skip)) (.seq (.seq (.reg c52_r3) (.block 0 (.loop c52_l0))) (.seq (.reg c52_r8) .ret)))) }
def K52 (C : CRel) : Prop := ∀ (a0 : List Int) (a1 : List Int) (r : Bool), g52 a0 a1 = some r → C 52 ⟨[.lst 1 (a0.map eI), .lst 1 (a1.map eI)], []⟩ ⟨.bool r, [], []⟩
theorem F52 {C : CRel}  (a0 : List Int) (a1 : List Int) (r : Bool) (h0 : g52 a0 a1 = some r) : FnOK C c52 ⟨[.lst 1 (a0.map eI), .lst 1 (a1.map eI)], []⟩ ⟨.bool r, [], []⟩ := by
 refine fn_ (nl rfl) (seq_ (reg_ (st (mvc_ tv (oe_ (wk_ ⟨[(0, .lst 1 (a0.map eI)), (1, .lst 1 (a1.map eI))], [], []⟩ (fgk (by kernel_rfl)) (seq_ (seq_ (reg_ (st (mv_ rfl tv (st (c_ (clenL (e := eI) (l0 := a0) rfl rfl tv) (st (mv_ rfl tv (st (c_ (clenL (e := eI) (l0 := a1) rfl rfl tv) (st (c_ (cp_ t3 rfl tv) (oe_ (wk_ ⟨[(0, .lst 1 (a0.map eI)), (1, .lst 1 (a1.map eI)), (10, .bool ((a0.length : Int) != (a1.length : Int)))], [], []⟩ (fgk (by kernel_rfl)) (ite_ (cb := ((a0.length : Int) != (a1.length : Int))) rfl (fun c1 => ?_) (fun c1 => ?_)))))))))))))))))))))))
 ·replace h0 := ip c1 h0
  refine seq_ (reg_ (st (mvc_ tv (oe_ (wk_ ⟨[(4, .bool false)], [], []⟩ (fgk (by kernel_rfl)) ?_)))))
  obtain rfl := Option.some.inj h0
  exact rt_ (ret_ rfl rfl rfl rfl rfl tv)
 ·replace h0 := inb c1 h0
  refine sk_ (wk_ ⟨[(0, .lst 1 (a0.map eI)), (1, .lst 1 (a1.map eI))], [], []⟩ (fgk (by kernel_rfl)) (seq_ (seq_ (reg_ (st (mvc_ tv (oe_ (wk_ ⟨[(0, .lst 1 (a0.map eI)), (1, .lst 1 (a1.map eI)), (5, iV 0)], [], []⟩ (fgk (by kernel_rfl)) (block_ ?_)))))))))
  obtain ⟨r22, e23, h0⟩ := bnd h0
  refine loop_ (R := (fun S => .inl () = r22 ∧ S = ⟨[], [], []⟩)) (g52_l0 a0 a1) (fun s S => match s with | p8 => S = ⟨[(0, .lst 1 (a0.map eI)), (1, .lst 1 (a1.map eI)), (5, iV p8)], [], []⟩) e23 ⟨[(0, .lst 1 (a0.map eI)), (1, .lst 1 (a1.map eI)), (5, iV 0)], [], []⟩ (fgk (by kernel_rfl)) rfl 0 (fun _ => rfl) ?_ ?_
  ·rintro S _ hfg ⟨rfl, rfl⟩
   refine wk_ ⟨[], [], []⟩ (fglk hfg (by kernel_rfl)) (seq_ (reg_ (st (mvc_ tv (oe_ (wk_ ⟨[(4, .bool true)], [], []⟩ (fgk (by kernel_rfl)) ?_))))))
   obtain rfl := Option.some.inj h0
   exact rt_ (ret_ rfl rfl rfl rfl rfl tv)
  ·rintro p8 o1 _ K1 rfl h1 hx1 hK1 hE1 hR1
   refine seq_ (seq_ (reg_ (st (mv_ rfl tv (st (mv_ rfl tv (st (c_ (clenL (e := eI) (l0 := a0) rfl rfl tv) (st (c_ (cp_ t3 rfl tv) (oe_ (wk_ ⟨[(0, .lst 1 (a0.map eI)), (1, .lst 1 (a1.map eI)), (5, iV p8), (14, .bool (decide (p8 < (a0.length : Int))))], [], []⟩ (fgk (by kernel_rfl)) (ite_ (cb := (decide (p8 < (a0.length : Int)))) rfl (fun c16 => ?_) (fun c16 => ?_))))))))))))))
   ·replace h1 := ip c16 h1
    refine sk_ (wk_ ⟨[(0, .lst 1 (a0.map eI)), (1, .lst 1 (a1.map eI)), (5, iV p8)], [], []⟩ (fgk (by kernel_rfl)) (seq_ (block_ (seq_ ?_))))
    obtain ⟨y17, e18, h1⟩ := bnd h1
    obtain ⟨y19, e20, h1⟩ := bnd h1
    refine draw_ (dtake tv (mv_ rfl tv (⟨tv, (dtake tv (mv_ rfl tv (⟨tv, (dtake tv (c_ (cidxL (e := eI) (y := y17) rfl rfl tv rfl rfl tv e18) (⟨tv, (dtake tv (c_ (cp_ ⟨tv, tv⟩ rfl (nl rfl)) (⟨tv, (dtake tv (mv_ rfl tv (⟨tv, (dtake tv (mv_ rfl tv (⟨tv, (dtake tv (c_ (cidxL (e := eI) (y := y19) rfl rfl tv rfl rfl tv e20) (⟨tv, (dtake tv (c_ (cp_ ⟨tv, tv⟩ rfl (nl rfl)) (⟨tv, (dtake tv (c_ (cp_ t3 rfl tv) (⟨tv, (dfin (wk_ ⟨[(0, .lst 1 (a0.map eI)), (1, .lst 1 (a1.map eI)), (5, iV p8), (25, .bool (y17 != y19))], [], []⟩ (fgk (by kernel_rfl)) (ite_ (cb := (y17 != y19)) rfl (fun c21 => ?_) (fun c21 => ?_))))⟩)))⟩)))⟩)))⟩)))⟩)))⟩)))⟩)))⟩)))⟩)))
    ·replace h1 := ip c21 h1
     refine seq_ (reg_ (st (mvc_ tv (oe_ (wk_ ⟨[(4, .bool false)], [], []⟩ (fgk (by kernel_rfl)) ?_)))))
     obtain rfl := Option.some.inj h1
     obtain rfl := hx1 _ rfl
     obtain rfl := Option.some.inj h0
     exact rt_ (hR1 _ (ret_ rfl rfl rfl rfl rfl tv))
    ·replace h1 := inb c21 h1
     refine sk_ (bn_ (wk_ ⟨[(0, .lst 1 (a0.map eI)), (1, .lst 1 (a1.map eI)), (5, iV p8)], [], []⟩ (fgk (by kernel_rfl)) (reg_ (st (mv_ rfl tv (st (c_ (cp_ t3 rfl tv) (st (mv_ rfl tv (oe_ ?_))))))))))
     obtain rfl := Option.some.inj h1
     exact hK1 _ rfl _ ⟨[(0, .lst 1 (a0.map eI)), (1, .lst 1 (a1.map eI)), (5, iV (IntKind.i64.wrap (p8 + 1)))], [], []⟩ (fgk (by kernel_rfl)) rfl
   ·replace h1 := inb c16 h1
    obtain rfl := Option.some.inj h1
    obtain rfl := hx1 _ rfl
    refine exQ rfl ?_
    exact hE1 _ ⟨[], [], []⟩ (fgk (by kernel_rfl)) ⟨rfl, rfl⟩

/- loop.example/g00149/laws.FnCalls -/
def c14_r0 : List Ins := [⟨some 4, .p (.mv (.c (.bool false))), none⟩]
def c14_r1 : List Ins := [(iQ 21 (.mv (.t 0))),
(iQ 22 (.len (.t 21))),
⟨some 23, .p (.bin .gtr (.t 22) (.c (iV 1048576))), none⟩,
(iQ 24 (.mv (.t 23))),
⟨some 25, .p (.mv (.t 1)), some (24, false)⟩,
⟨some 26, .p (.len (.t 25)), some (24, false)⟩,
⟨some 27, .p (.bin .gtr (.t 26) (.c (iV 1048576))), some (24, false)⟩,
⟨some 28, .pick (.t 24) (.c (.bool true)) (.t 27), none⟩]
def c14_r2 : List Ins := [⟨some 4, .p (.mv (.c (.bool true))), none⟩]
def c14_r3 : List Ins := [(iQ 30 (.mv (.t 0))),
⟨some 31, .call 51 [(.t 30)], none⟩,
⟨some 32, .call 50 [(.t 31)], none⟩,
(iQ 29 (.mv (.t 32))),
(iQ 33 (.ext (.t 29) 0)),
(iQ 34 (.ext (.t 29) 1)),
(iQ 35 (.ext (.t 29) 2)),
⟨some 5, .alloc [(iV 0), (iV 0), (.own 323 0 4 []), (.own 324 0 2 []), (.own 325 0 1 []), (.bool false)], none⟩,
⟨none, .store (.t 5) (.t 33) 6, none⟩,
(iQ 6 (.mv (.t 34))),
(iQ 7 (.mv (.t 35)))]
def c14_r4 : List Ins := [(iQ 36 (.mv (.t 1))),
⟨some 37, .call 40 [(.t 36), (.c (iV 0)), (.c (iV 12))], none⟩,
⟨some 38, .p (.bin .add (.c (iV 1)) (.t 37)), none⟩,
(iQ 8 (.mv (.t 38)))]
def c14_r5 : List Ins := [(iQ 40 (.fieldA (.t 5) 4)),
(iQ 41 (.load (.t 40) 1 false)),
(iQ 42 (.mv (.t 8))),
⟨some 43, .call 44 [(.t 41), (.t 42), (.c (.bool true)), (.c (iV 0))], none⟩,
(iQ 39 (.mv (.t 43))),
(iQ 44 (.ext (.t 39) 0)),
(iQ 45 (.ext (.t 39) 1)),
(iQ 9 (.mv (.t 44))),
(iQ 10 (.mv (.t 45)))]
def c14_r6 : List Ins := [(iQ 47 (.mv (.t 9))),
(iQ 48 (.mv (.t 8))),
⟨some 49, .call 44 [(.t 47), (.t 48), (.c (.bool true)), (.c (iV 2))], none⟩,
(iQ 46 (.mv (.t 49))),
(iQ 50 (.ext (.t 46) 0)),
(iQ 51 (.ext (.t 46) 1)),
(iQ 11 (.mv (.t 50))),
(iQ 12 (.mv (.t 51)))]
def c14_r7 : List Ins := [(iQ 53 (.mv (.t 9))),
(iQ 54 (.mv (.t 8))),
⟨some 55, .call 44 [(.t 53), (.t 54), (.c (.bool false)), (.c (iV 2))], none⟩,
(iQ 52 (.mv (.t 55))),
(iQ 56 (.ext (.t 52) 0)),
(iQ 57 (.ext (.t 52) 1)),
(iQ 13 (.mv (.t 56))),
(iQ 14 (.mv (.t 57)))]
def c14_r8 : List Ins := [(iQ 59 (.mv (.t 13))),
(iQ 60 (.mv (.t 8))),
⟨some 61, .call 44 [(.t 59), (.t 60), (.c (.bool false)), (.c (iV 0))], none⟩,
(iQ 58 (.mv (.t 61))),
(iQ 62 (.ext (.t 58) 0)),
(iQ 63 (.ext (.t 58) 1)),
(iQ 15 (.mv (.t 62))),
(iQ 16 (.mv (.t 63)))]
def c14_r9 : List Ins := [(iQ 65 (.fieldA (.t 5) 4)),
(iQ 66 (.load (.t 65) 1 false)),
(iQ 67 (.mv (.t 8))),
⟨some 68, .call 44 [(.t 66), (.t 67), (.c (.bool true)), (.c (iV 1))], none⟩,
(iQ 64 (.mv (.t 68))),
(iQ 69 (.ext (.t 64) 0)),
(iQ 70 (.ext (.t 64) 1)),
(iQ 17 (.mv (.t 69))),
(iQ 18 (.mv (.t 70)))]
def c14_r10 : List Ins := [(iQ 72 (.fieldA (.t 5) 4)),
(iQ 73 (.load (.t 72) 1 false)),
(iQ 74 (.mv (.t 8))),
⟨some 75, .call 42 [(.t 73), (.t 74), (.c (.bool true)), (.c (iV 0))], none⟩,
(iQ 71 (.mv (.t 75))),
(iQ 76 (.ext (.t 71) 0)),
(iQ 77 (.ext (.t 71) 1)),
(iQ 19 (.mv (.t 76))),
(iQ 20 (.mv (.t 77)))]
def c14_r11 : List Ins := [(iQ 78 (.mv (.t 10))),
⟨some 79, .p (.bin .eql (.t 78) (.c (iV 0))), none⟩,
(iQ 80 (.mv (.t 79))),
⟨some 81, .p (.mv (.t 12)), some (80, true)⟩,
⟨some 82, .p (.bin .eql (.t 81) (.c (iV 15))), some (80, true)⟩,
⟨some 83, .pick (.t 80) (.t 82) (.c (.bool false)), none⟩,
(iQ 84 (.mv (.t 83))),
⟨some 85, .p (.mv (.t 14)), some (84, true)⟩,
⟨some 86, .p (.bin .eql (.t 85) (.c (iV 15))), some (84, true)⟩,
⟨some 87, .pick (.t 84) (.t 86) (.c (.bool false)), none⟩,
(iQ 88 (.mv (.t 87))),
⟨some 89, .p (.mv (.t 16)), some (88, true)⟩,
⟨some 90, .p (.bin .eql (.t 89) (.c (iV 0))), some (88, true)⟩,
⟨some 91, .pick (.t 88) (.t 90) (.c (.bool false)), none⟩,
(iQ 92 (.mv (.t 91))),
⟨some 93, .p (.mv (.t 18)), some (92, true)⟩,
⟨some 94, .p (.bin .eql (.t 93) (.c (iV 13))), some (92, true)⟩,
⟨some 95, .pick (.t 92) (.t 94) (.c (.bool false)), none⟩,
(iQ 96 (.mv (.t 95))),
⟨some 97, .p (.mv (.t 9)), some (96, true)⟩,
⟨some 98, .p (.mv (.t 19)), some (96, true)⟩,
⟨some 99, .call 52 [(.t 97), (.t 98)], some (96, true)⟩,
⟨some 100, .pick (.t 96) (.t 99) (.c (.bool false)), none⟩,
(iQ 101 (.mv (.t 100))),
⟨some 102, .p (.mv (.t 9)), some (101, true)⟩,
⟨some 103, .p (.mv (.t 11)), some (101, true)⟩,
⟨some 104, .call 52 [(.t 102), (.t 103)], some (101, true)⟩,
⟨some 105, .pick (.t 101) (.t 104) (.c (.bool false)), none⟩,
(iQ 106 (.mv (.t 105))),
⟨some 107, .p (.mv (.t 13)), some (106, true)⟩,
⟨some 108, .p (.mv (.t 15)), some (106, true)⟩,
⟨some 109, .call 52 [(.t 107), (.t 108)], some (106, true)⟩,
⟨some 110, .pick (.t 106) (.t 109) (.c (.bool false)), none⟩,
(iQ 111 (.mv (.t 110))),
⟨some 112, .p (.mv (.t 17)), some (111, true)⟩,
⟨some 113, .p (.fieldA (.t 5) 4), some (111, true)⟩,
⟨some 114, .p (.load (.t 113) 1 false), some (111, true)⟩,
⟨some 115, .call 52 [(.t 112), (.t 114)], some (111, true)⟩,
⟨some 116, .pick (.t 111) (.t 115) (.c (.bool false)), none⟩,
(iQ 4 (.mv (.t 116)))]
def c14 : XFn := { np := 2, nt := 117, res := [.t 4], body := (.seq (.reg c14_r0) (.seq (.seq (.reg c14_r1) (.ite (.t 28) (.seq (.reg c14_r2) .ret) .skip)) (.seq (.reg c14_r3) (.seq (.reg c14_r4) (.seq (.reg c14_r5) (.seq (.reg c14_r6) (.seq (.reg c14_r7) (.seq (.reg c14_r8) (.seq (.reg c14_r9) (.seq (.reg c14_r10) (.seq (.reg c14_r11) .ret))))))))))) }
def K14 (C : CRel) : Prop := ∀ (a0 : List UInt8) (a1 : List UInt8) (r : Bool), g14 a0 a1 = some r → C 14 ⟨[.lst 1 (a0.map eU8), .lst 1 (a1.map eU8)], []⟩ ⟨.bool r, [], []⟩
theorem F14 {C : CRel} (H40 : K40 C) (H42 : K42 C) (H44 : K44 C) (H50 : K50 C) (H51 : K51 C) (H52 : K52 C) (a0 : List UInt8) (a1 : List UInt8) (r : Bool) (h0 : g14 a0 a1 = some r) : FnOK C c14 ⟨[.lst 1 (a0.map eU8), .lst 1 (a1.map eU8)], []⟩ ⟨.bool r, [], []⟩ := by
 refine fn_ (nl rfl) (seq_ (reg_ (st (mvc_ tv (oe_ (wk_ ⟨[(0, .lst 1 (a0.map eU8)), (1, .lst 1 (a1.map eU8))], [], []⟩ (fgk (by kernel_rfl)) (seq_ (seq_ (reg_ (st (mv_ rfl tv (st (c_ (clenL (e := eU8) (l0 := a0) rfl rfl tv) (st (c_ (cp_ t3 rfl tv) (st (mv_ rfl tv (st (pg_ (u := .lst 1 (a1.map eU8)) rfl (fun hg => (cmv (v := .lst 1 (a1.map eU8)) rfl tv)) (st (pg_ (u := iV (a1.length : Int)) rfl (fun hg => (clenL (e := eU8) (l0 := a1) rfl rfl (fun _ => hg))) (st (pg_ (u := .bool (decide ((a1.length : Int) > 1048576))) rfl (fun hg => (cp_ ⟨(fun _ => hg), tv, tv⟩ rfl tv)) (st (pick_ rfl rfl rfl tv (fun h => eqf h) rfl (oe_ ?_))))))))))))))))))))))))))
 obtain ⟨v1, e2, h0⟩ := bl h0
 refine wk_ ⟨[(0, .lst 1 (a0.map eU8)), (1, .lst 1 (a1.map eU8)), (28, .bool v1)], [], []⟩ (fgk (by subst e2; kernel_rfl)) (ite_ (cb := v1) rfl (fun c3 => ?_) (fun c3 => ?_))
 ·replace h0 := ip c3 h0
  refine seq_ (reg_ (st (mvc_ tv (oe_ (wk_ ⟨[(4, .bool true)], [], []⟩ (fgk (by kernel_rfl)) ?_)))))
  obtain rfl := Option.some.inj h0
  exact rt_ (ret_ rfl rfl rfl rfl rfl tv)
 ·replace h0 := inb c3 h0
  refine sk_ (wk_ ⟨[(0, .lst 1 (a0.map eU8)), (1, .lst 1 (a1.map eU8))], [], []⟩ (fgk (by kernel_rfl)) (seq_ (reg_ (st (mv_ rfl tv ?_)))))
  obtain ⟨r4, e5, h0⟩ := bnd h0
  refine st (call0_ (r := .own 0 0 7 (r4.map eDVaultAct)) true (H51 a0 r4 e5) ⟨tv, tv⟩ rfl rfl (fun h => nomatch h) ?_)
  obtain ⟨r6, e7, h0⟩ := bnd h0
  refine st (call0_ (r := .tup [.agg [iV r6.1.table.clock, iV r6.1.table.next, .own 0 0 4 (r6.1.table.list_.map eDLease), .own 1 0 2 (r6.1.intents.map eDIntent), .own 2 0 1 (r6.1.accounts.map eI), .bool r6.1.sealed], .own 3 0 2 (r6.2.1.map eDVaultReply), iV r6.2.2]) false (H50 r4 r6 e7) ⟨tv, tv⟩ rfl rfl (fun _ => (and_ rfl (and_ rfl (and_ (fl1 (fun _ => rfl)) (and_ (fl1 (fun _ => rfl)) (and_ (fl1 (fun _ => rfl)) (and_ rfl (and_ (fl1 (fun _ => rfl)) (and_ rfl rfl))))))))) (st (mv_ rfl tv (st (c_ (cp_ ⟨tv, tv⟩ rfl tv) (st (c_ (cp_ ⟨tv, tv⟩ rfl tv) (st (c_ (cp_ ⟨tv, tv⟩ rfl tv) (st (alloc_ (sw ⟨[(1, .lst 1 (a1.map eU8)), (5, .ptr 320 0), (33, .agg [iV r6.1.table.clock, iV r6.1.table.next, .own 2048 0 4 (r6.1.table.list_.map eDLease), .own 2049 0 2 (r6.1.intents.map eDIntent), .own 2050 0 1 (r6.1.accounts.map eI), .bool r6.1.sealed]), (34, .own 2051 0 2 (r6.2.1.map eDVaultReply)), (35, iV r6.2.2)], [(320, [iV 0, iV 0, .own 323 0 4 (([] : List DLease).map eDLease), .own 324 0 2 (([] : List DIntent).map eDIntent), .own 325 0 1 (([] : List Int).map eI), .bool false])], []⟩ (fgk (by kernel_rfl)) (stp_ rfl rfl tv rfl rfl rfl (nl rfl) (st (mv_ rfl tv (st (mv_ rfl tv (oe_ (wk_ ⟨[(1, .lst 1 (a1.map eU8)), (5, .ptr 320 0)], [(320, [iV r6.1.table.clock, iV r6.1.table.next, .own 2048 0 4 (r6.1.table.list_.map eDLease), .own 2049 0 2 (r6.1.intents.map eDIntent), .own 2050 0 1 (r6.1.accounts.map eI), .bool r6.1.sealed])], []⟩ (fgk (by kernel_rfl)) (seq_ (reg_ (st (mv_ rfl tv ?_)))))))))))))))))))))))
  obtain ⟨r8, e9, h0⟩ := bnd h0
  refine st (call0_ (r := iV r8) false (H40 a1 0 12 r8 e9) ⟨tv, tv, tv, tv⟩ rfl rfl (fun _ => rfl) (st (c_ (cp_ t3 rfl tv) (st (mv_ rfl tv (oe_ (wk_ ⟨[(5, .ptr 320 0), (8, iV (IntKind.i64.wrap (1 + r8)))], [(320, [iV r6.1.table.clock, iV r6.1.table.next, .own 2048 0 4 (r6.1.table.list_.map eDLease), .own 2049 0 2 (r6.1.intents.map eDIntent), .own 2050 0 1 (r6.1.accounts.map eI), .bool r6.1.sealed])], []⟩ (fgk (by kernel_rfl)) (seq_ (reg_ (st (c_ (cp_ ⟨tv, tv⟩ rfl tv) (st (c_ (cp_ ⟨tv, tv⟩ rfl (nl rfl)) (st (mv_ rfl tv ?_)))))))))))))))
  obtain ⟨r10, e11, h0⟩ := bnd h0
  refine st (call0_ (r := .tup [.own 0 0 1 (r10.1.map eI), iV r10.2]) false (H44 r6.1.accounts (IntKind.i64.wrap (1 + r8)) true 0 r10 e11) ⟨tv, tv, tv, tv, tv⟩ rfl rfl (fun _ => (and_ (fl1 (fun _ => rfl)) (and_ rfl rfl))) (st (mv_ rfl tv (st (c_ (cp_ ⟨tv, tv⟩ rfl tv) (st (c_ (cp_ ⟨tv, tv⟩ rfl tv) (st (mv_ rfl tv (st (mv_ rfl tv (oe_ (wk_ ⟨[(5, .ptr 320 0), (8, iV (IntKind.i64.wrap (1 + r8))), (9, .own 2752 0 1 (r10.1.map eI)), (10, iV r10.2)], [(320, [iV r6.1.table.clock, iV r6.1.table.next, .own 2048 0 4 (r6.1.table.list_.map eDLease), .own 2049 0 2 (r6.1.intents.map eDIntent), .own 2050 0 1 (r6.1.accounts.map eI), .bool r6.1.sealed])], []⟩ (fgk (by kernel_rfl)) (seq_ (reg_ (st (mv_ rfl tv (st (mv_ rfl tv ?_)))))))))))))))))))
  obtain ⟨r12, e13, h0⟩ := bnd h0
  refine st (call0_ (r := .tup [.own 0 0 1 (r12.1.map eI), iV r12.2]) false (H44 r10.1 (IntKind.i64.wrap (1 + r8)) true 2 r12 e13) ⟨tv, tv, tv, tv, tv⟩ rfl rfl (fun _ => (and_ (fl1 (fun _ => rfl)) (and_ rfl rfl))) (st (mv_ rfl tv (st (c_ (cp_ ⟨tv, tv⟩ rfl tv) (st (c_ (cp_ ⟨tv, tv⟩ rfl tv) (st (mv_ rfl tv (st (mv_ rfl tv (oe_ (wk_ ⟨[(5, .ptr 320 0), (8, iV (IntKind.i64.wrap (1 + r8))), (9, .own 2752 0 1 (r10.1.map eI)), (10, iV r10.2), (11, .own 3136 0 1 (r12.1.map eI)), (12, iV r12.2)], [(320, [iV r6.1.table.clock, iV r6.1.table.next, .own 2048 0 4 (r6.1.table.list_.map eDLease), .own 2049 0 2 (r6.1.intents.map eDIntent), .own 2050 0 1 (r6.1.accounts.map eI), .bool r6.1.sealed])], []⟩ (fgk (by kernel_rfl)) (seq_ (reg_ (st (mv_ rfl tv (st (mv_ rfl tv ?_)))))))))))))))))))
  obtain ⟨r14, e15, h0⟩ := bnd h0
  refine st (call0_ (r := .tup [.own 0 0 1 (r14.1.map eI), iV r14.2]) false (H44 r10.1 (IntKind.i64.wrap (1 + r8)) false 2 r14 e15) ⟨tv, tv, tv, tv, tv⟩ rfl rfl (fun _ => (and_ (fl1 (fun _ => rfl)) (and_ rfl rfl))) (st (mv_ rfl tv (st (c_ (cp_ ⟨tv, tv⟩ rfl tv) (st (c_ (cp_ ⟨tv, tv⟩ rfl tv) (st (mv_ rfl tv (st (mv_ rfl tv (oe_ (wk_ ⟨[(5, .ptr 320 0), (8, iV (IntKind.i64.wrap (1 + r8))), (9, .own 2752 0 1 (r10.1.map eI)), (10, iV r10.2), (11, .own 3136 0 1 (r12.1.map eI)), (12, iV r12.2), (13, .own 3520 0 1 (r14.1.map eI)), (14, iV r14.2)], [(320, [iV r6.1.table.clock, iV r6.1.table.next, .own 2048 0 4 (r6.1.table.list_.map eDLease), .own 2049 0 2 (r6.1.intents.map eDIntent), .own 2050 0 1 (r6.1.accounts.map eI), .bool r6.1.sealed])], []⟩ (fgk (by kernel_rfl)) (seq_ (reg_ (st (mv_ rfl tv (st (mv_ rfl tv ?_)))))))))))))))))))
  obtain ⟨r16, e17, h0⟩ := bnd h0
  refine st (call0_ (r := .tup [.own 0 0 1 (r16.1.map eI), iV r16.2]) false (H44 r14.1 (IntKind.i64.wrap (1 + r8)) false 0 r16 e17) ⟨tv, tv, tv, tv, tv⟩ rfl rfl (fun _ => (and_ (fl1 (fun _ => rfl)) (and_ rfl rfl))) (st (mv_ rfl tv (st (c_ (cp_ ⟨tv, tv⟩ rfl tv) (st (c_ (cp_ ⟨tv, tv⟩ rfl tv) (st (mv_ rfl tv (st (mv_ rfl tv (oe_ (wk_ ⟨[(5, .ptr 320 0), (8, iV (IntKind.i64.wrap (1 + r8))), (9, .own 2752 0 1 (r10.1.map eI)), (10, iV r10.2), (11, .own 3136 0 1 (r12.1.map eI)), (12, iV r12.2), (13, .own 3520 0 1 (r14.1.map eI)), (14, iV r14.2), (15, .own 3904 0 1 (r16.1.map eI)), (16, iV r16.2)], [(320, [iV r6.1.table.clock, iV r6.1.table.next, .own 2048 0 4 (r6.1.table.list_.map eDLease), .own 2049 0 2 (r6.1.intents.map eDIntent), .own 2050 0 1 (r6.1.accounts.map eI), .bool r6.1.sealed])], []⟩ (fgk (by kernel_rfl)) (seq_ (reg_ (st (c_ (cp_ ⟨tv, tv⟩ rfl tv) (st (c_ (cp_ ⟨tv, tv⟩ rfl (nl rfl)) (st (mv_ rfl tv ?_)))))))))))))))))))))
  obtain ⟨r18, e19, h0⟩ := bnd h0
  refine st (call0_ (r := .tup [.own 0 0 1 (r18.1.map eI), iV r18.2]) false (H44 r6.1.accounts (IntKind.i64.wrap (1 + r8)) true 1 r18 e19) ⟨tv, tv, tv, tv, tv⟩ rfl rfl (fun _ => (and_ (fl1 (fun _ => rfl)) (and_ rfl rfl))) (st (mv_ rfl tv (st (c_ (cp_ ⟨tv, tv⟩ rfl tv) (st (c_ (cp_ ⟨tv, tv⟩ rfl tv) (st (mv_ rfl tv (st (mv_ rfl tv (oe_ (wk_ ⟨[(5, .ptr 320 0), (8, iV (IntKind.i64.wrap (1 + r8))), (9, .own 2752 0 1 (r10.1.map eI)), (10, iV r10.2), (11, .own 3136 0 1 (r12.1.map eI)), (12, iV r12.2), (13, .own 3520 0 1 (r14.1.map eI)), (14, iV r14.2), (15, .own 3904 0 1 (r16.1.map eI)), (16, iV r16.2), (17, .own 4352 0 1 (r18.1.map eI)), (18, iV r18.2)], [(320, [iV r6.1.table.clock, iV r6.1.table.next, .own 2048 0 4 (r6.1.table.list_.map eDLease), .own 2049 0 2 (r6.1.intents.map eDIntent), .own 2050 0 1 (r6.1.accounts.map eI), .bool r6.1.sealed])], []⟩ (fgk (by kernel_rfl)) (seq_ (reg_ (st (c_ (cp_ ⟨tv, tv⟩ rfl tv) (st (c_ (cp_ ⟨tv, tv⟩ rfl (nl rfl)) (st (mv_ rfl tv ?_)))))))))))))))))))))
  obtain ⟨r20, e21, h0⟩ := bnd h0
  refine st (call0_ (r := .tup [.own 0 0 1 (r20.1.map eI), iV r20.2]) false (H42 r6.1.accounts (IntKind.i64.wrap (1 + r8)) true 0 r20 e21) ⟨tv, tv, tv, tv, tv⟩ rfl rfl (fun _ => (and_ (fl1 (fun _ => rfl)) (and_ rfl rfl))) (st (mv_ rfl tv (st (c_ (cp_ ⟨tv, tv⟩ rfl tv) (st (c_ (cp_ ⟨tv, tv⟩ rfl tv) (st (mv_ rfl tv (st (mv_ rfl tv (oe_ (wk_ ⟨[(5, .ptr 320 0), (9, .own 2752 0 1 (r10.1.map eI)), (10, iV r10.2), (11, .own 3136 0 1 (r12.1.map eI)), (12, iV r12.2), (13, .own 3520 0 1 (r14.1.map eI)), (14, iV r14.2), (15, .own 3904 0 1 (r16.1.map eI)), (16, iV r16.2), (17, .own 4352 0 1 (r18.1.map eI)), (18, iV r18.2), (19, .own 4800 0 1 (r20.1.map eI))], [(320, [iV r6.1.table.clock, iV r6.1.table.next, .own 2048 0 4 (r6.1.table.list_.map eDLease), .own 2049 0 2 (r6.1.intents.map eDIntent), .own 2050 0 1 (r6.1.accounts.map eI), .bool r6.1.sealed])], []⟩ (fgk (by kernel_rfl)) (seq_ (reg_ (st (mv_ rfl tv (st (c_ (cp_ t3 rfl tv) (st (mv_ rfl tv (st (pg_ (u := iV r12.2) rfl (fun hg => (cmv (v := iV r12.2) rfl tv)) (st (pg_ (u := .bool (r12.2 == 15)) rfl (fun hg => (cp_ ⟨(fun _ => hg), tv, tv⟩ rfl tv)) (st (pick_ rfl rfl rfl (fun h => eqt h) tv rfl (st (mv_ rfl tv (st (pg_ (u := iV r14.2) rfl (fun hg => (cmv (v := iV r14.2) rfl tv)) (st (pg_ (u := .bool (r14.2 == 15)) rfl (fun hg => (cp_ ⟨(fun _ => hg), tv, tv⟩ rfl tv)) (st (pick_ rfl rfl rfl (fun h => eqt h) tv rfl (st (mv_ rfl tv (st (pg_ (u := iV r16.2) rfl (fun hg => (cmv (v := iV r16.2) rfl tv)) (st (pg_ (u := .bool (r16.2 == 0)) rfl (fun hg => (cp_ ⟨(fun _ => hg), tv, tv⟩ rfl tv)) (st (pick_ rfl rfl rfl (fun h => eqt h) tv rfl (st (mv_ rfl tv (sw ⟨[(5, .ptr 320 0), (9, .own 2752 0 1 (r10.1.map eI)), (11, .own 3136 0 1 (r12.1.map eI)), (13, .own 3520 0 1 (r14.1.map eI)), (15, .own 3904 0 1 (r16.1.map eI)), (17, .own 4352 0 1 (r18.1.map eI)), (18, iV r18.2), (19, .own 4800 0 1 (r20.1.map eI)), (92, .bool (bif (bif (bif (r10.2 == 0) then (r12.2 == 15) else false) then (r14.2 == 15) else false) then (r16.2 == 0) else false))], [(320, [iV r6.1.table.clock, iV r6.1.table.next, .own 2048 0 4 (r6.1.table.list_.map eDLease), .own 2049 0 2 (r6.1.intents.map eDIntent), .own 2050 0 1 (r6.1.accounts.map eI), .bool r6.1.sealed])], []⟩ (fgk (by kernel_rfl)) (pg_ (u := iV r18.2) rfl (fun hg => (cmv (v := iV r18.2) rfl tv)) (st (pg_ (u := .bool (r18.2 == 13)) rfl (fun hg => (cp_ ⟨(fun _ => hg), tv, tv⟩ rfl tv)) (st (pick_ rfl rfl rfl (fun h => eqt h) tv rfl (st (mv_ rfl tv (st (pg_ (u := .own 2752 0 1 (r10.1.map eI)) rfl (fun hg => (cmv (v := .own 2752 0 1 (r10.1.map eI)) rfl tv)) (st (pg_ (u := .own 4800 0 1 (r20.1.map eI)) rfl (fun hg => (cmv (v := .own 4800 0 1 (r20.1.map eI)) rfl tv)) ?_)))))))))))))))))))))))))))))))))))))))))))))))))))))))))
  obtain ⟨r22, e23, h0⟩ := bnd h0
  refine st (callg_ (r := .bool r22) rfl false (fun hg => H52 r10.1 r20.1 r22 (ip hg e23)) ⟨(fun hg => hg), (fun hg => hg), tv⟩ (fun _ => rfl) (fun _ => rfl) (fun _ => rfl) (fun h => nomatch h) (st (pick_ rfl rfl rfl (fun h => eqt h) tv rfl (st (mv_ rfl tv (st (pg_ (u := .own 2752 0 1 (r10.1.map eI)) rfl (fun hg => (cmv (v := .own 2752 0 1 (r10.1.map eI)) rfl tv)) (st (pg_ (u := .own 3136 0 1 (r12.1.map eI)) rfl (fun hg => (cmv (v := .own 3136 0 1 (r12.1.map eI)) rfl tv)) ?_)))))))))
  obtain ⟨r24, e25, h0⟩ := bnd h0
  refine sw ⟨[(5, .ptr 320 0), (13, .own 3520 0 1 (r14.1.map eI)), (15, .own 3904 0 1 (r16.1.map eI)), (17, .own 4352 0 1 (r18.1.map eI)), (101, .bool (bif (bif (bif (bif (bif (r10.2 == 0) then (r12.2 == 15) else false) then (r14.2 == 15) else false) then (r16.2 == 0) else false) then (r18.2 == 13) else false) then r22 else false)), (102, .may ((bif (bif (bif (bif (bif (r10.2 == 0) then (r12.2 == 15) else false) then (r14.2 == 15) else false) then (r16.2 == 0) else false) then (r18.2 == 13) else false) then r22 else false) == true) (.own 2752 0 1 (r10.1.map eI))), (103, .may ((bif (bif (bif (bif (bif (r10.2 == 0) then (r12.2 == 15) else false) then (r14.2 == 15) else false) then (r16.2 == 0) else false) then (r18.2 == 13) else false) then r22 else false) == true) (.own 3136 0 1 (r12.1.map eI)))], [(320, [iV r6.1.table.clock, iV r6.1.table.next, .own 2048 0 4 (r6.1.table.list_.map eDLease), .own 2049 0 2 (r6.1.intents.map eDIntent), .own 2050 0 1 (r6.1.accounts.map eI), .bool r6.1.sealed])], []⟩ (fgk (by kernel_rfl)) (callg_ (r := .bool r24) rfl false (fun hg => H52 r10.1 r12.1 r24 (ip hg e25)) ⟨(fun hg => hg), (fun hg => hg), tv⟩ (fun _ => rfl) (fun _ => rfl) (fun _ => rfl) (fun h => nomatch h) (st (pick_ rfl rfl rfl (fun h => eqt h) tv rfl (st (mv_ rfl tv (st (pg_ (u := .own 3520 0 1 (r14.1.map eI)) rfl (fun hg => (cmv (v := .own 3520 0 1 (r14.1.map eI)) rfl tv)) (st (pg_ (u := .own 3904 0 1 (r16.1.map eI)) rfl (fun hg => (cmv (v := .own 3904 0 1 (r16.1.map eI)) rfl tv)) ?_)))))))))
  obtain ⟨r26, e27, h0⟩ := bnd h0
  refine sw ⟨[(5, .ptr 320 0), (17, .own 4352 0 1 (r18.1.map eI)), (106, .bool (bif (bif (bif (bif (bif (bif (r10.2 == 0) then (r12.2 == 15) else false) then (r14.2 == 15) else false) then (r16.2 == 0) else false) then (r18.2 == 13) else false) then r22 else false) then r24 else false)), (107, .may ((bif (bif (bif (bif (bif (bif (r10.2 == 0) then (r12.2 == 15) else false) then (r14.2 == 15) else false) then (r16.2 == 0) else false) then (r18.2 == 13) else false) then r22 else false) then r24 else false) == true) (.own 3520 0 1 (r14.1.map eI))), (108, .may ((bif (bif (bif (bif (bif (bif (r10.2 == 0) then (r12.2 == 15) else false) then (r14.2 == 15) else false) then (r16.2 == 0) else false) then (r18.2 == 13) else false) then r22 else false) then r24 else false) == true) (.own 3904 0 1 (r16.1.map eI)))], [(320, [iV r6.1.table.clock, iV r6.1.table.next, .own 2048 0 4 (r6.1.table.list_.map eDLease), .own 2049 0 2 (r6.1.intents.map eDIntent), .own 2050 0 1 (r6.1.accounts.map eI), .bool r6.1.sealed])], []⟩ (fgk (by kernel_rfl)) (callg_ (r := .bool r26) rfl false (fun hg => H52 r14.1 r16.1 r26 (ip hg e27)) ⟨(fun hg => hg), (fun hg => hg), tv⟩ (fun _ => rfl) (fun _ => rfl) (fun _ => rfl) (fun h => nomatch h) (st (pick_ rfl rfl rfl (fun h => eqt h) tv rfl (st (mv_ rfl tv (st (pg_ (u := .own 4352 0 1 (r18.1.map eI)) rfl (fun hg => (cmv (v := .own 4352 0 1 (r18.1.map eI)) rfl tv)) (st (pg_ (u := .ptr 320 4) rfl (fun hg => (cp_ ⟨tv, tv⟩ rfl tv)) (st (pg_ (u := .own 2050 0 1 (r6.1.accounts.map eI)) rfl (fun hg => (cp_ ⟨(fun _ => hg), tv⟩ rfl (nl rfl))) ?_)))))))))))
  obtain ⟨r28, e29, h0⟩ := bnd h0
  refine sw ⟨[(111, .bool (bif (bif (bif (bif (bif (bif (bif (r10.2 == 0) then (r12.2 == 15) else false) then (r14.2 == 15) else false) then (r16.2 == 0) else false) then (r18.2 == 13) else false) then r22 else false) then r24 else false) then r26 else false)), (112, .may ((bif (bif (bif (bif (bif (bif (bif (r10.2 == 0) then (r12.2 == 15) else false) then (r14.2 == 15) else false) then (r16.2 == 0) else false) then (r18.2 == 13) else false) then r22 else false) then r24 else false) then r26 else false) == true) (.own 4352 0 1 (r18.1.map eI))), (114, .may ((bif (bif (bif (bif (bif (bif (bif (r10.2 == 0) then (r12.2 == 15) else false) then (r14.2 == 15) else false) then (r16.2 == 0) else false) then (r18.2 == 13) else false) then r22 else false) then r24 else false) then r26 else false) == true) (.own 2050 0 1 (r6.1.accounts.map eI)))], [], []⟩ (fgk (by kernel_rfl)) (callg_ (r := .bool r28) rfl false (fun hg => H52 r18.1 r6.1.accounts r28 (ip hg e29)) ⟨(fun hg => hg), (fun hg => hg), tv⟩ (fun _ => rfl) (fun _ => rfl) (fun _ => rfl) (fun h => nomatch h) (st (pick_ rfl rfl rfl (fun h => eqt h) tv rfl (st (mv_ rfl tv (oe_ ?_))))))
  obtain ⟨v30, e31, h0⟩ := bl h0
  refine wk_ ⟨[(4, .bool v30)], [], []⟩ (fgk (by subst e31; kernel_rfl)) ?_
  obtain rfl := Option.some.inj h0
  exact rt_ (ret_ rfl rfl rfl rfl rfl tv)
end Go.Ev
