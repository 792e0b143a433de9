/- The walks of functions: the code comes to the answers that QgD tells. Written by a program of ours. -/
import Derived.Test.YtdkeomfbpdodiaaQgW3
set_option linter.all false
set_option maxHeartbeats 4000000
set_option linter.unusedVariables false
set_option maxRecDepth 100000
namespace Go.Ev

/- (*loop.example/g00149/spec.l00Src).table -/
def c84_r0 : List Ins := [⟨some 2, .alloc [(iV 0), (iV 0), (.own 131 0 4 [])], none⟩]
def c84_r1 : List Ins := [⟨some 6, .p (.build [(iV 0), (iV 0), (.own 387 0 4 [])] [(1, 1, (.c (iV 1)))]), none⟩,
⟨some 3, .alloc [(iV 0), (iV 0), (.own 195 0 4 [])], none⟩,
⟨none, .store (.t 3) (.t 6) 3, none⟩]
def c84_r2 : List Ins := [(iQ 7 (.mv (.t 0))),
(iQ 8 (.mv (.t 0))),
⟨some 9, .call 118 [(.t 8), (.c (iV 10))], none⟩,
⟨some 10, .p (.bin .add (.t 9) (.c (iV 2))), none⟩,
⟨some 11, .call 117 [(.t 7), (.t 10)], none⟩,
(iQ 4 (.mv (.t 11)))]
def c84_r3 : List Ins := [(iQ 12 (.mv (.t 4))),
⟨some 13, .p (.bin .gtr (.t 12) (.c (iV 0))), none⟩]
def c84_r4 : List Ins := [(iQ 16 (.mv (.t 0))),
⟨some 17, .call 117 [(.t 16), (.c (iV 6))], none⟩]
def c84_r5 : List Ins := [⟨some 33, .p (.bin .eql (.t 17) (.c (iV 0))), none⟩,
(iQ 32 (.mv (.t 33)))]
def c84_r6 : DP := (.take (iQ 35 (.load (.t 3) 3 true))
(.take (iQ 36 (.fieldA (.t 3) 0))
(.take (iQ 37 (.load (.t 36) 1 false))
(.take (iQ 38 (.mv (.t 0)))
(.alt [(iQ 37 (.load (.t 36) 1 false)), (iQ 36 (.fieldA (.t 3) 0)), (iQ 35 (.load (.t 3) 3 true))] ⟨some 39, .call 117 [(.t 38), (.c (iV 9))], none⟩
(.take (iQ 40 (.bin .add (.t 37) (.t 39)))
(.alt [] ⟨some 41, .call 81 [(.t 35), (.t 40)], none⟩
(.take (iQ 34 (.mv (.t 41)))
(.take (iQ 42 (.ext (.t 34) 0))
(.take (iQ 43 (.ext (.t 34) 1))
(.alt [(iQ 43 (.ext (.t 34) 1))] ⟨none, .store (.t 3) (.t 42) 3, none⟩
.fin
.stop))))
.stop))
.stop)))))
def c84_r7 : List Ins := [⟨some 45, .p (.bin .eql (.t 17) (.c (iV 1))), none⟩,
(iQ 44 (.mv (.t 45)))]
def c84_r8 : DP := (.take (iQ 47 (.load (.t 3) 3 true))
(.take (iQ 48 (.mv (.t 0)))
(.alt [(iQ 47 (.load (.t 3) 3 true))] ⟨some 49, .call 117 [(.t 48), (.c (iV 9))], none⟩
(.take ⟨some 50, .p (.bin .add (.c (iV 1)) (.t 49)), none⟩
(.alt [] ⟨some 51, .call 74 [(.t 47), (.t 50)], none⟩
(.take (iQ 46 (.mv (.t 51)))
(.take (iQ 52 (.ext (.t 46) 0))
(.take (iQ 53 (.ext (.t 46) 1))
(.alt [(iQ 53 (.ext (.t 46) 1))] ⟨none, .store (.t 3) (.t 52) 3, none⟩
.fin
.stop))))
.stop))
.stop)))
def c84_r9 : List Ins := [⟨some 55, .p (.bin .eql (.t 17) (.c (iV 2))), none⟩,
(iQ 54 (.mv (.t 55)))]
def c84_r10 : DP := (.take (iQ 57 (.load (.t 3) 3 true))
(.take (iQ 58 (.mv (.t 0)))
(.take (iQ 61 (.mv (.t 0)))
(.alt [(iQ 61 (.mv (.t 0))), (iQ 57 (.load (.t 3) 3 true))] ⟨some 59, .call 117 [(.t 58), (.c (iV 9))], none⟩
(.take ⟨some 60, .p (.bin .add (.c (iV 1)) (.t 59)), none⟩
(.alt [⟨some 60, .p (.bin .add (.c (iV 1)) (.t 59)), none⟩, (iQ 57 (.load (.t 3) 3 true))] ⟨some 62, .call 117 [(.t 61), (.c (iV 20))], none⟩
(.take ⟨some 63, .p (.bin .add (.c (iV 1)) (.t 62)), none⟩
(.alt [] ⟨some 64, .call 79 [(.t 57), (.t 60), (.t 63)], none⟩
(.take (iQ 56 (.mv (.t 64)))
(.take (iQ 65 (.ext (.t 56) 0))
(.take (iQ 66 (.ext (.t 56) 1))
(.alt [(iQ 66 (.ext (.t 56) 1))] ⟨none, .store (.t 3) (.t 65) 3, none⟩
.fin
.stop))))
.stop))
.stop))
.stop))))
def c84_r11 : List Ins := [(iQ 18 (.mv (.t 0))),
⟨some 19, .call 117 [(.t 18), (.c (iV 12))], none⟩,
⟨some 20, .p (.bin .add (.c (iV 1)) (.t 19)), none⟩,
(iQ 5 (.mv (.t 20)))]
def c84_r12 : DP := (.take (iQ 22 (.load (.t 3) 3 true))
(.take (iQ 23 (.mv (.t 5)))
(.take (iQ 24 (.mv (.t 5)))
(.take (iQ 25 (.mv (.t 0)))
(.alt [(iQ 24 (.mv (.t 5))), (iQ 23 (.mv (.t 5))), (iQ 22 (.load (.t 3) 3 true))] ⟨some 26, .call 117 [(.t 25), (.c (iV 12))], none⟩
(.take (iQ 27 (.bin .add (.t 24) (.t 26)))
(.alt [] ⟨some 28, .call 70 [(.t 22), (.t 23), (.t 27)], none⟩
(.take (iQ 21 (.mv (.t 28)))
(.take (iQ 29 (.ext (.t 21) 0))
(.take (iQ 30 (.ext (.t 21) 1))
(.take (iQ 31 (.ext (.t 21) 2))
(.alt [(iQ 31 (.ext (.t 21) 2)), (iQ 30 (.ext (.t 21) 1))] ⟨none, .store (.t 3) (.t 29) 3, none⟩
.fin
.stop)))))
.stop))
.stop)))))
def c84_r13 : List Ins := [(iQ 14 (.mv (.t 4))),
⟨some 15, .p (.bin .sub (.t 14) (.c (iV 1))), none⟩,
(iQ 4 (.mv (.t 15)))]
def c84_l0 : IR := (.seq (.seq (.reg c84_r3) (.ite (.t 13) .skip (.exit 0))) (.seq (.block 1 (.seq (.reg c84_r4) (.block 2 (.seq (.reg c84_r5) (.ite (.t 32) (.draw c84_r6) (.seq (.reg c84_r7) (.ite (.t 44) (.draw c84_r8) (.seq (.reg c84_r9) (.ite (.t 54) (.draw c84_r10) (.seq (.reg c84_r11) (.draw c84_r12))))))))))) (.reg c84_r13)))
def c84_r14 : List Ins := [(iQ 67 (.mv (.t 0))),
⟨some 68, .call 119 [(.t 67), (.c (iV 20))], none⟩]
def c84_r15 : DP := (.take (iQ 70 (.load (.t 3) 3 true))
(.take (iQ 71 (.mv (.t 0)))
(.alt [(iQ 70 (.load (.t 3) 3 true))] ⟨some 72, .call 117 [(.t 71), (.c (iV 20))], none⟩
(.take ⟨some 73, .p (.bin .sub (.c (iV 9223372036854775807)) (.t 72)), none⟩
(.alt [] ⟨some 74, .call 81 [(.t 70), (.t 73)], none⟩
(.take (iQ 69 (.mv (.t 74)))
(.take (iQ 75 (.ext (.t 69) 0))
(.take (iQ 76 (.ext (.t 69) 1))
(.alt [(iQ 76 (.ext (.t 69) 1))] ⟨none, .store (.t 3) (.t 75) 3, none⟩
.fin
.stop))))
.stop))
.stop)))
def c84_r16 : List Ins := [(iQ 77 (.load (.t 3) 3 true)),
⟨none, .store (.t 2) (.t 77) 3, none⟩]
def c84 : XFn := { np := 1, nt := 78, res := [.cell 2 3 true], body := (.seq (.reg c84_r0) (.seq (.reg c84_r1) (.seq (.seq (.reg c84_r2) (.block 0 (.loop c84_l0))) (.seq (.seq (.reg c84_r14) (.ite (.t 68) (.draw c84_r15) .skip)) (.seq (.reg c84_r16) .ret))))) }
def K84 (C : CRel) : Prop := ∀ (a0 : Dl00Src) (r : DTable × Dl00Src), g84 a0 = some r → C 84 ⟨[.ptr 1048576 0], [[.lst 1 (a0.code_.map eU8), iV a0.at_, iV a0.seed]]⟩ ⟨.agg [iV r.1.clock, iV r.1.next, .lst 4 (r.1.list_.map eDLease)], [[.lst 1 (r.2.code_.map eU8), iV r.2.at_, iV r.2.seed]], []⟩
theorem F84 {C : CRel} (H70 : K70 C) (H74 : K74 C) (H79 : K79 C) (H81 : K81 C) (H117 : K117 C) (H118 : K118 C) (H119 : K119 C) (a0 : Dl00Src) (r : DTable × Dl00Src) (h0 : g84 a0 = some r) : FnOK C c84 ⟨[.ptr 1048576 0], [[.lst 1 (a0.code_.map eU8), iV a0.at_, iV a0.seed]]⟩ ⟨.agg [iV r.1.clock, iV r.1.next, .lst 4 (r.1.list_.map eDLease)], [[.lst 1 (r.2.code_.map eU8), iV r.2.at_, iV r.2.seed]], []⟩ := by
 refine fn_ (nl rfl) (seq_ (reg_ (st (alloc_ (oe_ (wk_ ⟨[(0, .ptr 1048576 0), (2, .ptr 128 0)], [(128, [iV 0, iV 0, .own 131 0 4 (([] : List DLease).map eDLease)]), (1048576, [.lst 1 (a0.code_.map eU8), iV a0.at_, iV a0.seed])], []⟩ (fgk (by kernel_rfl)) (seq_ (reg_ (st (c_ (v := .agg [iV 0, iV 1, .own 387 0 4 (([] : List DLease).map eDLease)]) (cp_ ⟨tv, tv⟩ rfl ⟨⟨rfl, rfl, nl rfl⟩, tv⟩) (st (alloc_ (st (stp_ rfl rfl tv rfl rfl rfl (nl rfl) (oe_ (wk_ ⟨[(0, .ptr 1048576 0), (2, .ptr 128 0), (3, .ptr 192 0)], [(128, [iV 0, iV 0, .own 131 0 4 (([] : List DLease).map eDLease)]), (192, [iV 0, iV 1, .own 387 0 4 (([] : List DLease).map eDLease)]), (1048576, [.lst 1 (a0.code_.map eU8), iV a0.at_, iV a0.seed])], []⟩ (fgk (by kernel_rfl)) (seq_ (seq_ (reg_ (st (mv_ rfl tv (st (mv_ rfl tv ?_)))))))))))))))))))))))
 obtain ⟨r1, e2, h0⟩ := bnd h0
 refine st (call0_ (r := iV r1) false (H118 a0 10 r1 e2) ⟨tv, tv, tv⟩ rfl rfl (fun _ => rfl) (st (c_ (cp_ t3 rfl tv) ?_)))
 obtain ⟨r3, e4, h0⟩ := bnd h0
 refine sw ⟨[(0, .ptr 1048576 0), (2, .ptr 128 0), (3, .ptr 192 0), (7, .ptr 1048576 0), (10, iV (IntKind.i64.wrap (r1 + 2)))], [(128, [iV 0, iV 0, .own 131 0 4 (([] : List DLease).map eDLease)]), (192, [iV 0, iV 1, .own 387 0 4 (([] : List DLease).map eDLease)]), (1048576, [.lst 1 (a0.code_.map eU8), iV a0.at_, iV a0.seed])], []⟩ (fgk (by kernel_rfl)) (call1_ [1048576] [] [] true (H117 a0 (IntKind.i64.wrap (r1 + 2)) r3 e4) ⟨tv, tv, tv⟩ (by kernel_rfl) (by kernel_rfl) (by kernel_rfl) (by kernel_rfl) (fun h => nomatch h) (sw ⟨[(0, .ptr 1048576 0), (2, .ptr 128 0), (3, .ptr 192 0), (11, iV r3.1)], [(128, [iV 0, iV 0, .own 131 0 4 (([] : List DLease).map eDLease)]), (192, [iV 0, iV 1, .own 387 0 4 (([] : List DLease).map eDLease)]), (1048576, [.lst 1 (r3.2.code_.map eU8), iV r3.2.at_, iV r3.2.seed])], []⟩ (fgk (by kernel_rfl)) (mv_ rfl tv (oe_ (wk_ ⟨[(0, .ptr 1048576 0), (2, .ptr 128 0), (3, .ptr 192 0), (4, iV r3.1)], [(128, [iV 0, iV 0, .own 131 0 4 (([] : List DLease).map eDLease)]), (192, [iV 0, iV 1, .own 387 0 4 (([] : List DLease).map eDLease)]), (1048576, [.lst 1 (r3.2.code_.map eU8), iV r3.2.at_, iV r3.2.seed])], []⟩ (fgk (by kernel_rfl)) (block_ ?_))))))
 obtain ⟨r147, e148, h0⟩ := bnd h0
 refine loop_ (R := (fun S => ∃ p83 : Int, ∃ p84 : Int, ∃ p85 : List DLease, ∃ p86 : List UInt8, ∃ p87 : Int, ∃ p88 : Int, (p83, p84, p85, p86, p87, p88) = r147 ∧ S = ⟨[(0, .ptr 1048576 0), (2, .ptr 128 0), (3, .ptr 192 0)], [(128, [iV 0, iV 0, .own 131 0 4 (([] : List DLease).map eDLease)]), (192, [iV p83, iV p84, .lst 4 (p85.map eDLease)]), (1048576, [.lst 1 (p86.map eU8), iV p87, iV p88])], []⟩)) (g84_l0) (fun s S => match s with | (p37, p38, p39, p40, p41, p42, p43) => S = ⟨[(0, .ptr 1048576 0), (2, .ptr 128 0), (3, .ptr 192 0), (4, iV p37)], [(128, [iV 0, iV 0, .own 131 0 4 (([] : List DLease).map eDLease)]), (192, [iV p38, iV p39, .lst 4 (p40.map eDLease)]), (1048576, [.lst 1 (p41.map eU8), iV p42, iV p43])], []⟩) e148 ⟨[(0, .ptr 1048576 0), (2, .ptr 128 0), (3, .ptr 192 0), (4, iV r3.1)], [(128, [iV 0, iV 0, .own 131 0 4 (([] : List DLease).map eDLease)]), (192, [iV 0, iV 1, .lst 4 (([] : List DLease).map eDLease)]), (1048576, [.lst 1 (r3.2.code_.map eU8), iV r3.2.at_, iV r3.2.seed])], []⟩ (fgzk [387] (by kernel_rfl)) rfl 0 (fun _ => rfl) ?_ ?_
 ·rintro S _ hfg ⟨p83, p84, p85, p86, p87, p88, rfl, rfl⟩
  refine wk_ ⟨[(0, .ptr 1048576 0), (2, .ptr 128 0), (3, .ptr 192 0)], [(128, [iV 0, iV 0, .own 131 0 4 (([] : List DLease).map eDLease)]), (192, [iV p83, iV p84, .lst 4 (p85.map eDLease)]), (1048576, [.lst 1 (p86.map eU8), iV p87, iV p88])], []⟩ (fglk hfg (by kernel_rfl)) (seq_ (seq_ (reg_ (st (mv_ rfl tv ?_)))))
  obtain ⟨r149, e150, h0⟩ := bnd h0
  refine st (call1_ [1048576] [] [] true (H119 (Dl00Src.mk p86 p87 p88) 20 r149 e150) ⟨tv, tv, tv⟩ (by kernel_rfl) (by kernel_rfl) (by kernel_rfl) (by kernel_rfl) (fun h => nomatch h) (oe_ (wk_ ⟨[(0, .ptr 1048576 0), (2, .ptr 128 0), (3, .ptr 192 0), (68, .bool r149.1)], [(128, [iV 0, iV 0, .own 131 0 4 (([] : List DLease).map eDLease)]), (192, [iV p83, iV p84, .lst 4 (p85.map eDLease)]), (1048576, [.lst 1 (r149.2.code_.map eU8), iV r149.2.at_, iV r149.2.seed])], []⟩ (fgk (by kernel_rfl)) (iteJ (cb := r149.1) (fun S => ∃ p156 : Int, ∃ p157 : Int, ∃ p158 : List DLease, ∃ p159 : List UInt8, ∃ p160 : Int, ∃ p161 : Int, S = ⟨[(2, .ptr 128 0), (3, .ptr 192 0)], [(128, [iV 0, iV 0, .own 131 0 4 (([] : List DLease).map eDLease)]), (192, [iV p156, iV p157, .lst 4 (p158.map eDLease)]), (1048576, [.lst 1 (p159.map eU8), iV p160, iV p161])], []⟩ ∧ g84_j1 p156 p157 p158 p159 p160 p161 = some r) rfl ?_ (fun c163 J162 => ?_) (fun c163 J162 => ?_)))))
  ·rintro _ ⟨p156, p157, p158, p159, p160, p161, rfl, h0⟩
   refine wk_ ⟨[(2, .ptr 128 0), (3, .ptr 192 0)], [(128, [iV 0, iV 0, .own 131 0 4 (([] : List DLease).map eDLease)]), (192, [iV p156, iV p157, .lst 4 (p158.map eDLease)]), (1048576, [.lst 1 (p159.map eU8), iV p160, iV p161])], []⟩ (fgk (by kernel_rfl)) (seq_ (reg_ (st (c_ (v := .agg [iV p156, iV p157, .lst 4 (p158.map eDLease)]) (cp_ ⟨tv, tv⟩ rfl (nl rfl)) (st (stp_ rfl rfl tv rfl rfl rfl (nl rfl) (oe_ (wk_ ⟨[(2, .ptr 128 0)], [(128, [iV p156, iV p157, .lst 4 (p158.map eDLease)]), (1048576, [.lst 1 (p159.map eU8), iV p160, iV p161])], []⟩ (fgk (by kernel_rfl)) ?_))))))))
   obtain rfl := Option.some.inj h0
   exact rt_ (ret_ rfl rfl rfl rfl rfl tv)
  ·replace h0 := ip c163 h0
   obtain ⟨r164, e165, h0⟩ := bnd h0
   obtain ⟨r166, e167, h0⟩ := bnd h0
   refine draw_ (dtake tv (c_ (v := .agg [iV p83, iV p84, .lst 4 (p85.map eDLease)]) (cp_ ⟨tv, tv⟩ rfl (nl rfl)) (⟨tv, (dtake tv (mv_ rfl tv (⟨tv, (dalt (call1_ [1048576] [] [] true (H117 r149.2 20 r164 e165) ⟨tv, tv, tv⟩ (by kernel_rfl) (by kernel_rfl) (by kernel_rfl) (by kernel_rfl) (fun h => nomatch h) (dkw ⟨[(2, .ptr 128 0), (3, .ptr 192 0), (70, .agg [iV p83, iV p84, .lst 4 (p85.map eDLease)]), (72, iV r164.1)], [(128, [iV 0, iV 0, .own 131 0 4 (([] : List DLease).map eDLease)]), (192, [iV p83, iV p84, .lst 4 (p85.map eDLease)]), (1048576, [.lst 1 (r164.2.code_.map eU8), iV r164.2.at_, iV r164.2.seed])], []⟩ (fgk (by kernel_rfl)) ⟨[], ⟨⟨.inl tv, (again1 (cp_ ⟨tv, tv⟩ rfl (nl rfl)) rfl)⟩, tv⟩, tv, (dtake tv (c_ (cp_ t3 rfl tv) (⟨tv, (dalt (call0_ (r := .tup [.agg [iV r166.1.clock, iV r166.1.next, .own 0 0 4 (r166.1.list_.map eDLease)], .own 1 0 1 (r166.2.map eI)]) false (H81 (DTable.mk p83 p84 p85) (IntKind.i64.wrap (9223372036854775807 - r164.1)) r166 e167) ⟨tv, tv, tv⟩ rfl rfl (fun _ => (and_ rfl (and_ rfl (and_ (fl1 (fun _ => rfl)) (and_ (fl1 (fun _ => rfl)) rfl))))) (dkw ⟨[(2, .ptr 128 0), (3, .ptr 192 0), (74, .tup [.agg [iV r166.1.clock, iV r166.1.next, .own 4736 0 4 (r166.1.list_.map eDLease)], .own 4737 0 1 (r166.2.map eI)])], [(128, [iV 0, iV 0, .own 131 0 4 (([] : List DLease).map eDLease)]), (192, [iV p83, iV p84, .lst 4 (p85.map eDLease)]), (1048576, [.lst 1 (r164.2.code_.map eU8), iV r164.2.at_, iV r164.2.seed])], []⟩ (fgk (by kernel_rfl)) ⟨[], tv, tv, (dtake tv (mv_ rfl tv (⟨tv, (dtake tv (c_ (cp_ ⟨tv, tv⟩ rfl tv) (⟨tv, (dtake tv (c_ (cp_ ⟨tv, tv⟩ rfl tv) (⟨tv, (dalt (stp_ rfl rfl tv rfl rfl rfl (nl rfl) (dk0 ⟨[], ⟨⟨.inl tv, (again1 (cp_ ⟨tv, tv⟩ rfl tv) rfl)⟩, tv⟩, tv, (dfin ?_)⟩)) dstop)⟩)))⟩)))⟩)))⟩)) dstop)⟩)))⟩)) dstop)⟩)))⟩)))
   exact J162 _ ⟨[(2, .ptr 128 0), (3, .ptr 192 0)], [(128, [iV 0, iV 0, .own 131 0 4 (([] : List DLease).map eDLease)]), (192, [iV r166.1.clock, iV r166.1.next, .lst 4 (r166.1.list_.map eDLease)]), (1048576, [.lst 1 (r164.2.code_.map eU8), iV r164.2.at_, iV r164.2.seed])], []⟩ (fgzk [4736] (by kernel_rfl)) ⟨_, _, _, _, _, _, rfl, h0⟩
  ·replace h0 := inb c163 h0
   refine sk_ ?_
   exact J162 _ ⟨[(2, .ptr 128 0), (3, .ptr 192 0)], [(128, [iV 0, iV 0, .own 131 0 4 (([] : List DLease).map eDLease)]), (192, [iV p83, iV p84, .lst 4 (p85.map eDLease)]), (1048576, [.lst 1 (r149.2.code_.map eU8), iV r149.2.at_, iV r149.2.seed])], []⟩ (fgk (by kernel_rfl)) ⟨_, _, _, _, _, _, rfl, h0⟩
 ·rintro ⟨p37, p38, p39, p40, p41, p42, p43⟩ o1 _ K1 rfl h1 hx1 hK1 hE1 hR1
  refine seq_ (seq_ (reg_ (st (mv_ rfl tv (st (c_ (cp_ t3 rfl tv) (oe_ (wk_ ⟨[(0, .ptr 1048576 0), (2, .ptr 128 0), (3, .ptr 192 0), (4, iV p37), (13, .bool (decide (p37 > 0)))], [(128, [iV 0, iV 0, .own 131 0 4 (([] : List DLease).map eDLease)]), (192, [iV p38, iV p39, .lst 4 (p40.map eDLease)]), (1048576, [.lst 1 (p41.map eU8), iV p42, iV p43])], []⟩ (fgk (by kernel_rfl)) (ite_ (cb := (decide (p37 > 0))) rfl (fun c89 => ?_) (fun c89 => ?_))))))))))
  ·replace h1 := ip c89 h1
   refine sk_ (wk_ ⟨[(0, .ptr 1048576 0), (2, .ptr 128 0), (3, .ptr 192 0), (4, iV p37)], [(128, [iV 0, iV 0, .own 131 0 4 (([] : List DLease).map eDLease)]), (192, [iV p38, iV p39, .lst 4 (p40.map eDLease)]), (1048576, [.lst 1 (p41.map eU8), iV p42, iV p43])], []⟩ (fgk (by kernel_rfl)) (seq_ (blockJ (fun S => ∃ p115 : Int, ∃ p116 : Int, ∃ p117 : List DLease, ∃ p118 : List UInt8, ∃ p119 : Int, ∃ p120 : Int, S = ⟨[(0, .ptr 1048576 0), (2, .ptr 128 0), (3, .ptr 192 0), (4, iV p37)], [(128, [iV 0, iV 0, .own 131 0 4 (([] : List DLease).map eDLease)]), (192, [iV p115, iV p116, .lst 4 (p117.map eDLease)]), (1048576, [.lst 1 (p118.map eU8), iV p119, iV p120])], []⟩ ∧ g84_j0 p37 p115 p116 p117 p118 p119 p120 = some o1) ?_ (fun J121 => ?_))))
   ·rintro _ ⟨p115, p116, p117, p118, p119, p120, rfl, h1⟩
    refine wk_ ⟨[(0, .ptr 1048576 0), (2, .ptr 128 0), (3, .ptr 192 0), (4, iV p37)], [(128, [iV 0, iV 0, .own 131 0 4 (([] : List DLease).map eDLease)]), (192, [iV p115, iV p116, .lst 4 (p117.map eDLease)]), (1048576, [.lst 1 (p118.map eU8), iV p119, iV p120])], []⟩ (fgk (by kernel_rfl)) (reg_ (st (mv_ rfl tv (st (c_ (cp_ t3 rfl tv) (st (mv_ rfl tv (oe_ ?_))))))))
    obtain rfl := Option.some.inj h1
    exact hK1 _ rfl _ ⟨[(0, .ptr 1048576 0), (2, .ptr 128 0), (3, .ptr 192 0), (4, iV (IntKind.i64.wrap (p37 - 1)))], [(128, [iV 0, iV 0, .own 131 0 4 (([] : List DLease).map eDLease)]), (192, [iV p115, iV p116, .lst 4 (p117.map eDLease)]), (1048576, [.lst 1 (p118.map eU8), iV p119, iV p120])], []⟩ (fgk (by kernel_rfl)) rfl
   ·refine seq_ ?_
    refine reg_ (st (mv_ rfl tv ?_))
    obtain ⟨r122, e123, h1⟩ := bnd h1
    refine st (call1_ [1048576] [] [] true (H117 (Dl00Src.mk p41 p42 p43) 6 r122 e123) ⟨tv, tv, tv⟩ (by kernel_rfl) (by kernel_rfl) (by kernel_rfl) (by kernel_rfl) (fun h => nomatch h) (oe_ (wk_ ⟨[(0, .ptr 1048576 0), (2, .ptr 128 0), (3, .ptr 192 0), (4, iV p37), (17, iV r122.1)], [(128, [iV 0, iV 0, .own 131 0 4 (([] : List DLease).map eDLease)]), (192, [iV p38, iV p39, .lst 4 (p40.map eDLease)]), (1048576, [.lst 1 (r122.2.code_.map eU8), iV r122.2.at_, iV r122.2.seed])], []⟩ (fgk (by kernel_rfl)) (block_ (seq_ (reg_ (st (c_ (cp_ t3 rfl tv) (st (mv_ rfl tv (oe_ (wk_ ⟨[(0, .ptr 1048576 0), (2, .ptr 128 0), (3, .ptr 192 0), (4, iV p37), (17, iV r122.1), (32, .bool (r122.1 == 0))], [(128, [iV 0, iV 0, .own 131 0 4 (([] : List DLease).map eDLease)]), (192, [iV p38, iV p39, .lst 4 (p40.map eDLease)]), (1048576, [.lst 1 (r122.2.code_.map eU8), iV r122.2.at_, iV r122.2.seed])], []⟩ (fgk (by kernel_rfl)) (ite_ (cb := (r122.1 == 0)) rfl (fun c124 => ?_) (fun c124 => ?_))))))))))))))
    ·replace h1 := ip c124 h1
     obtain ⟨r125, e126, h1⟩ := bnd h1
     obtain ⟨r127, e128, h1⟩ := bnd h1
     refine draw_ (dtake tv (c_ (v := .agg [iV p38, iV p39, .lst 4 (p40.map eDLease)]) (cp_ ⟨tv, tv⟩ rfl (nl rfl)) (⟨tv, (dtake tv (c_ (cp_ ⟨tv, tv⟩ rfl tv) (⟨tv, (dtake tv (c_ (cp_ ⟨tv, tv⟩ rfl (nl rfl)) (⟨tv, (dtake tv (mv_ rfl tv (⟨tv, (dalt (call1_ [1048576] [] [] true (H117 r122.2 9 r125 e126) ⟨tv, tv, tv⟩ (by kernel_rfl) (by kernel_rfl) (by kernel_rfl) (by kernel_rfl) (fun h => nomatch h) (dkw ⟨[(0, .ptr 1048576 0), (2, .ptr 128 0), (3, .ptr 192 0), (4, iV p37), (35, .agg [iV p38, iV p39, .lst 4 (p40.map eDLease)]), (36, .ptr 192 0), (37, iV p38), (39, iV r125.1)], [(128, [iV 0, iV 0, .own 131 0 4 (([] : List DLease).map eDLease)]), (192, [iV p38, iV p39, .lst 4 (p40.map eDLease)]), (1048576, [.lst 1 (r125.2.code_.map eU8), iV r125.2.at_, iV r125.2.seed])], []⟩ (fgk (by kernel_rfl)) ⟨[], ⟨⟨.inl tv, (again1 (cp_ ⟨tv, tv⟩ rfl (nl rfl)) rfl)⟩, ⟨.inl tv, (again1 (cp_ ⟨tv, tv⟩ rfl tv) rfl)⟩, ⟨.inl tv, (again1 (cp_ ⟨tv, tv⟩ rfl (nl rfl)) rfl)⟩, tv⟩, tv, (dtake tv (c_ (cp_ t3 rfl tv) (⟨tv, (dalt (call0_ (r := .tup [.agg [iV r127.1.clock, iV r127.1.next, .own 0 0 4 (r127.1.list_.map eDLease)], .own 1 0 1 (r127.2.map eI)]) false (H81 (DTable.mk p38 p39 p40) (IntKind.i64.wrap (p38 + r125.1)) r127 e128) ⟨tv, tv, tv⟩ rfl rfl (fun _ => (and_ rfl (and_ rfl (and_ (fl1 (fun _ => rfl)) (and_ (fl1 (fun _ => rfl)) rfl))))) (dkw ⟨[(0, .ptr 1048576 0), (2, .ptr 128 0), (3, .ptr 192 0), (4, iV p37), (41, .tup [.agg [iV r127.1.clock, iV r127.1.next, .own 2624 0 4 (r127.1.list_.map eDLease)], .own 2625 0 1 (r127.2.map eI)])], [(128, [iV 0, iV 0, .own 131 0 4 (([] : List DLease).map eDLease)]), (192, [iV p38, iV p39, .lst 4 (p40.map eDLease)]), (1048576, [.lst 1 (r125.2.code_.map eU8), iV r125.2.at_, iV r125.2.seed])], []⟩ (fgk (by kernel_rfl)) ⟨[], tv, tv, (dtake tv (mv_ rfl tv (⟨tv, (dtake tv (c_ (cp_ ⟨tv, tv⟩ rfl tv) (⟨tv, (dtake tv (c_ (cp_ ⟨tv, tv⟩ rfl tv) (⟨tv, (dalt (stp_ rfl rfl tv rfl rfl rfl (nl rfl) (dk0 ⟨[], ⟨⟨.inl tv, (again1 (cp_ ⟨tv, tv⟩ rfl tv) rfl)⟩, tv⟩, tv, (dfin (bn_ (bn_ ?_)))⟩)) dstop)⟩)))⟩)))⟩)))⟩)) dstop)⟩)))⟩)) dstop)⟩)))⟩)))⟩)))⟩)))
     exact J121 _ ⟨[(0, .ptr 1048576 0), (2, .ptr 128 0), (3, .ptr 192 0), (4, iV p37)], [(128, [iV 0, iV 0, .own 131 0 4 (([] : List DLease).map eDLease)]), (192, [iV r127.1.clock, iV r127.1.next, .lst 4 (r127.1.list_.map eDLease)]), (1048576, [.lst 1 (r125.2.code_.map eU8), iV r125.2.at_, iV r125.2.seed])], []⟩ (fgzk [2624] (by kernel_rfl)) ⟨_, _, _, _, _, _, rfl, h1⟩
    ·replace h1 := inb c124 h1
     refine seq_ (reg_ (st (c_ (cp_ t3 rfl tv) (st (mv_ rfl tv (oe_ (wk_ ⟨[(0, .ptr 1048576 0), (2, .ptr 128 0), (3, .ptr 192 0), (4, iV p37), (17, iV r122.1), (44, .bool (r122.1 == 1))], [(128, [iV 0, iV 0, .own 131 0 4 (([] : List DLease).map eDLease)]), (192, [iV p38, iV p39, .lst 4 (p40.map eDLease)]), (1048576, [.lst 1 (r122.2.code_.map eU8), iV r122.2.at_, iV r122.2.seed])], []⟩ (fgk (by kernel_rfl)) (ite_ (cb := (r122.1 == 1)) rfl (fun c129 => ?_) (fun c129 => ?_)))))))))
     ·replace h1 := ip c129 h1
      obtain ⟨r130, e131, h1⟩ := bnd h1
      obtain ⟨r132, e133, h1⟩ := bnd h1
      refine draw_ (dtake tv (c_ (v := .agg [iV p38, iV p39, .lst 4 (p40.map eDLease)]) (cp_ ⟨tv, tv⟩ rfl (nl rfl)) (⟨tv, (dtake tv (mv_ rfl tv (⟨tv, (dalt (call1_ [1048576] [] [] true (H117 r122.2 9 r130 e131) ⟨tv, tv, tv⟩ (by kernel_rfl) (by kernel_rfl) (by kernel_rfl) (by kernel_rfl) (fun h => nomatch h) (dkw ⟨[(0, .ptr 1048576 0), (2, .ptr 128 0), (3, .ptr 192 0), (4, iV p37), (47, .agg [iV p38, iV p39, .lst 4 (p40.map eDLease)]), (49, iV r130.1)], [(128, [iV 0, iV 0, .own 131 0 4 (([] : List DLease).map eDLease)]), (192, [iV p38, iV p39, .lst 4 (p40.map eDLease)]), (1048576, [.lst 1 (r130.2.code_.map eU8), iV r130.2.at_, iV r130.2.seed])], []⟩ (fgk (by kernel_rfl)) ⟨[], ⟨⟨.inl tv, (again1 (cp_ ⟨tv, tv⟩ rfl (nl rfl)) rfl)⟩, tv⟩, tv, (dtake tv (c_ (cp_ t3 rfl tv) (⟨tv, (dalt (call0_ (r := .tup [.agg [iV r132.1.clock, iV r132.1.next, .lst 4 (r132.1.list_.map eDLease)], iV r132.2]) true (H74 (DTable.mk p38 p39 p40) (IntKind.i64.wrap (1 + r130.1)) r132 e133) ⟨tv, tv, tv⟩ rfl rfl (fun h => nomatch h) (dkw ⟨[(0, .ptr 1048576 0), (2, .ptr 128 0), (3, .ptr 192 0), (4, iV p37), (51, .tup [.agg [iV r132.1.clock, iV r132.1.next, .lst 4 (r132.1.list_.map eDLease)], iV r132.2])], [(128, [iV 0, iV 0, .own 131 0 4 (([] : List DLease).map eDLease)]), (192, [iV p38, iV p39, .lst 4 (p40.map eDLease)]), (1048576, [.lst 1 (r130.2.code_.map eU8), iV r130.2.at_, iV r130.2.seed])], []⟩ (fgk (by kernel_rfl)) ⟨[], tv, tv, (dtake tv (mv_ rfl tv (⟨tv, (dtake tv (c_ (cp_ ⟨tv, tv⟩ rfl tv) (⟨tv, (dtake tv (c_ (cp_ ⟨tv, tv⟩ rfl tv) (⟨tv, (dalt (stp_ rfl rfl tv rfl rfl rfl (nl rfl) (dk0 ⟨[], ⟨⟨.inl tv, (again1 (cp_ ⟨tv, tv⟩ rfl tv) rfl)⟩, tv⟩, tv, (dfin (bn_ (bn_ ?_)))⟩)) dstop)⟩)))⟩)))⟩)))⟩)) dstop)⟩)))⟩)) dstop)⟩)))⟩)))
      exact J121 _ ⟨[(0, .ptr 1048576 0), (2, .ptr 128 0), (3, .ptr 192 0), (4, iV p37)], [(128, [iV 0, iV 0, .own 131 0 4 (([] : List DLease).map eDLease)]), (192, [iV r132.1.clock, iV r132.1.next, .lst 4 (r132.1.list_.map eDLease)]), (1048576, [.lst 1 (r130.2.code_.map eU8), iV r130.2.at_, iV r130.2.seed])], []⟩ (fgk (by kernel_rfl)) ⟨_, _, _, _, _, _, rfl, h1⟩
     ·replace h1 := inb c129 h1
      refine seq_ (reg_ (st (c_ (cp_ t3 rfl tv) (st (mv_ rfl tv (oe_ (wk_ ⟨[(0, .ptr 1048576 0), (2, .ptr 128 0), (3, .ptr 192 0), (4, iV p37), (54, .bool (r122.1 == 2))], [(128, [iV 0, iV 0, .own 131 0 4 (([] : List DLease).map eDLease)]), (192, [iV p38, iV p39, .lst 4 (p40.map eDLease)]), (1048576, [.lst 1 (r122.2.code_.map eU8), iV r122.2.at_, iV r122.2.seed])], []⟩ (fgk (by kernel_rfl)) (ite_ (cb := (r122.1 == 2)) rfl (fun c134 => ?_) (fun c134 => ?_)))))))))
      ·replace h1 := ip c134 h1
       obtain ⟨r135, e136, h1⟩ := bnd h1
       obtain ⟨r137, e138, h1⟩ := bnd h1
       obtain ⟨r139, e140, h1⟩ := bnd h1
       refine draw_ (dtake tv (c_ (v := .agg [iV p38, iV p39, .lst 4 (p40.map eDLease)]) (cp_ ⟨tv, tv⟩ rfl (nl rfl)) (⟨tv, (dtake tv (mv_ rfl tv (⟨tv, (dtake tv (mv_ rfl tv (⟨tv, (dalt (call1_ [1048576] [] [] true (H117 r122.2 9 r135 e136) ⟨tv, tv, tv⟩ (by kernel_rfl) (by kernel_rfl) (by kernel_rfl) (by kernel_rfl) (fun h => nomatch h) (dkw ⟨[(0, .ptr 1048576 0), (2, .ptr 128 0), (3, .ptr 192 0), (4, iV p37), (57, .agg [iV p38, iV p39, .lst 4 (p40.map eDLease)]), (59, iV r135.1), (61, .ptr 1048576 0)], [(128, [iV 0, iV 0, .own 131 0 4 (([] : List DLease).map eDLease)]), (192, [iV p38, iV p39, .lst 4 (p40.map eDLease)]), (1048576, [.lst 1 (r135.2.code_.map eU8), iV r135.2.at_, iV r135.2.seed])], []⟩ (fgk (by kernel_rfl)) ⟨[], ⟨⟨.inl tv, (again1 (cmv (v := .ptr 1048576 0) rfl tv) rfl)⟩, ⟨.inl tv, (again1 (cp_ ⟨tv, tv⟩ rfl (nl rfl)) rfl)⟩, tv⟩, tv, (dtake tv (c_ (cp_ t3 rfl tv) (⟨tv, (dalt (call1_ [1048576] [] [] true (H117 r135.2 20 r137 e138) ⟨tv, tv, tv⟩ (by kernel_rfl) (by kernel_rfl) (by kernel_rfl) (by kernel_rfl) (fun h => nomatch h) (dkw ⟨[(0, .ptr 1048576 0), (2, .ptr 128 0), (3, .ptr 192 0), (4, iV p37), (57, .agg [iV p38, iV p39, .lst 4 (p40.map eDLease)]), (59, iV r135.1), (60, iV (IntKind.i64.wrap (1 + r135.1))), (62, iV r137.1)], [(128, [iV 0, iV 0, .own 131 0 4 (([] : List DLease).map eDLease)]), (192, [iV p38, iV p39, .lst 4 (p40.map eDLease)]), (1048576, [.lst 1 (r137.2.code_.map eU8), iV r137.2.at_, iV r137.2.seed])], []⟩ (fgk (by kernel_rfl)) ⟨[], ⟨⟨.inl tv, (again1 (cp_ t3 rfl tv) rfl)⟩, ⟨.inl tv, (again1 (cp_ ⟨tv, tv⟩ rfl (nl rfl)) rfl)⟩, tv⟩, tv, (dtake tv (c_ (cp_ t3 rfl tv) (⟨tv, (dalt (call0_ (r := .tup [.agg [iV r139.1.clock, iV r139.1.next, .lst 4 (r139.1.list_.map eDLease)], iV r139.2]) true (H79 (DTable.mk p38 p39 p40) (IntKind.i64.wrap (1 + r135.1)) (IntKind.i64.wrap (1 + r137.1)) r139 e140) ⟨tv, tv, tv, tv⟩ rfl rfl (fun h => nomatch h) (dkw ⟨[(0, .ptr 1048576 0), (2, .ptr 128 0), (3, .ptr 192 0), (4, iV p37), (64, .tup [.agg [iV r139.1.clock, iV r139.1.next, .lst 4 (r139.1.list_.map eDLease)], iV r139.2])], [(128, [iV 0, iV 0, .own 131 0 4 (([] : List DLease).map eDLease)]), (192, [iV p38, iV p39, .lst 4 (p40.map eDLease)]), (1048576, [.lst 1 (r137.2.code_.map eU8), iV r137.2.at_, iV r137.2.seed])], []⟩ (fgk (by kernel_rfl)) ⟨[], tv, tv, (dtake tv (mv_ rfl tv (⟨tv, (dtake tv (c_ (cp_ ⟨tv, tv⟩ rfl tv) (⟨tv, (dtake tv (c_ (cp_ ⟨tv, tv⟩ rfl tv) (⟨tv, (dalt (stp_ rfl rfl tv rfl rfl rfl (nl rfl) (dk0 ⟨[], ⟨⟨.inl tv, (again1 (cp_ ⟨tv, tv⟩ rfl tv) rfl)⟩, tv⟩, tv, (dfin (bn_ (bn_ ?_)))⟩)) dstop)⟩)))⟩)))⟩)))⟩)) dstop)⟩)))⟩)) dstop)⟩)))⟩)) dstop)⟩)))⟩)))⟩)))
       exact J121 _ ⟨[(0, .ptr 1048576 0), (2, .ptr 128 0), (3, .ptr 192 0), (4, iV p37)], [(128, [iV 0, iV 0, .own 131 0 4 (([] : List DLease).map eDLease)]), (192, [iV r139.1.clock, iV r139.1.next, .lst 4 (r139.1.list_.map eDLease)]), (1048576, [.lst 1 (r137.2.code_.map eU8), iV r137.2.at_, iV r137.2.seed])], []⟩ (fgk (by kernel_rfl)) ⟨_, _, _, _, _, _, rfl, h1⟩
      ·replace h1 := inb c134 h1
       refine seq_ (reg_ (st (mv_ rfl tv ?_)))
       obtain ⟨r141, e142, h1⟩ := bnd h1
       refine st (call1_ [1048576] [] [] true (H117 r122.2 12 r141 e142) ⟨tv, tv, tv⟩ (by kernel_rfl) (by kernel_rfl) (by kernel_rfl) (by kernel_rfl) (fun h => nomatch h) (sw ⟨[(0, .ptr 1048576 0), (2, .ptr 128 0), (3, .ptr 192 0), (4, iV p37), (19, iV r141.1)], [(128, [iV 0, iV 0, .own 131 0 4 (([] : List DLease).map eDLease)]), (192, [iV p38, iV p39, .lst 4 (p40.map eDLease)]), (1048576, [.lst 1 (r141.2.code_.map eU8), iV r141.2.at_, iV r141.2.seed])], []⟩ (fgk (by kernel_rfl)) (c_ (cp_ t3 rfl tv) (st (mv_ rfl tv (oe_ (wk_ ⟨[(0, .ptr 1048576 0), (2, .ptr 128 0), (3, .ptr 192 0), (4, iV p37), (5, iV (IntKind.i64.wrap (1 + r141.1)))], [(128, [iV 0, iV 0, .own 131 0 4 (([] : List DLease).map eDLease)]), (192, [iV p38, iV p39, .lst 4 (p40.map eDLease)]), (1048576, [.lst 1 (r141.2.code_.map eU8), iV r141.2.at_, iV r141.2.seed])], []⟩ (fgk (by kernel_rfl)) ?_)))))))
       obtain ⟨r143, e144, h1⟩ := bnd h1
       obtain ⟨r145, e146, h1⟩ := bnd h1
       refine draw_ (dtake tv (c_ (v := .agg [iV p38, iV p39, .lst 4 (p40.map eDLease)]) (cp_ ⟨tv, tv⟩ rfl (nl rfl)) (⟨tv, (dtake tv (mv_ rfl tv (⟨tv, (dtake tv (mv_ rfl tv (⟨tv, (dtake tv (mv_ rfl tv (⟨tv, (dalt (call1_ [1048576] [] [] true (H117 r141.2 12 r143 e144) ⟨tv, tv, tv⟩ (by kernel_rfl) (by kernel_rfl) (by kernel_rfl) (by kernel_rfl) (fun h => nomatch h) (dkw ⟨[(0, .ptr 1048576 0), (2, .ptr 128 0), (3, .ptr 192 0), (4, iV p37), (5, iV (IntKind.i64.wrap (1 + r141.1))), (22, .agg [iV p38, iV p39, .lst 4 (p40.map eDLease)]), (23, iV (IntKind.i64.wrap (1 + r141.1))), (24, iV (IntKind.i64.wrap (1 + r141.1))), (26, iV r143.1)], [(128, [iV 0, iV 0, .own 131 0 4 (([] : List DLease).map eDLease)]), (192, [iV p38, iV p39, .lst 4 (p40.map eDLease)]), (1048576, [.lst 1 (r143.2.code_.map eU8), iV r143.2.at_, iV r143.2.seed])], []⟩ (fgk (by kernel_rfl)) ⟨[], ⟨⟨.inl tv, (again1 (cmv (v := iV (IntKind.i64.wrap (1 + r141.1))) rfl tv) rfl)⟩, ⟨.inl tv, (again1 (cmv (v := iV (IntKind.i64.wrap (1 + r141.1))) rfl tv) rfl)⟩, ⟨.inl tv, (again1 (cp_ ⟨tv, tv⟩ rfl (nl rfl)) rfl)⟩, tv⟩, tv, (dtake tv (c_ (cp_ t3 rfl tv) (⟨tv, (dalt (call0_ (r := .tup [.agg [iV r145.1.clock, iV r145.1.next, .lst 4 (r145.1.list_.map eDLease)], iV r145.2.1, iV r145.2.2]) true (H70 (DTable.mk p38 p39 p40) (IntKind.i64.wrap (1 + r141.1)) (IntKind.i64.wrap ((IntKind.i64.wrap (1 + r141.1)) + r143.1)) r145 e146) ⟨tv, tv, tv, tv⟩ rfl rfl (fun h => nomatch h) (dkw ⟨[(0, .ptr 1048576 0), (2, .ptr 128 0), (3, .ptr 192 0), (4, iV p37), (28, .tup [.agg [iV r145.1.clock, iV r145.1.next, .lst 4 (r145.1.list_.map eDLease)], iV r145.2.1, iV r145.2.2])], [(128, [iV 0, iV 0, .own 131 0 4 (([] : List DLease).map eDLease)]), (192, [iV p38, iV p39, .lst 4 (p40.map eDLease)]), (1048576, [.lst 1 (r143.2.code_.map eU8), iV r143.2.at_, iV r143.2.seed])], []⟩ (fgk (by kernel_rfl)) ⟨[], tv, tv, (dtake tv (mv_ rfl tv (⟨tv, (dtake tv (c_ (cp_ ⟨tv, tv⟩ rfl tv) (⟨tv, (dtake tv (c_ (cp_ ⟨tv, tv⟩ rfl tv) (⟨tv, (dtake tv (c_ (cp_ ⟨tv, tv⟩ rfl tv) (⟨tv, (dalt (stp_ rfl rfl tv rfl rfl rfl (nl rfl) (dk0 ⟨[], ⟨⟨.inl tv, (again1 (cp_ ⟨tv, tv⟩ rfl tv) rfl)⟩, ⟨.inl tv, (again1 (cp_ ⟨tv, tv⟩ rfl tv) rfl)⟩, tv⟩, tv, (dfin (bn_ (bn_ ?_)))⟩)) dstop)⟩)))⟩)))⟩)))⟩)))⟩)) dstop)⟩)))⟩)) dstop)⟩)))⟩)))⟩)))⟩)))
       exact J121 _ ⟨[(0, .ptr 1048576 0), (2, .ptr 128 0), (3, .ptr 192 0), (4, iV p37)], [(128, [iV 0, iV 0, .own 131 0 4 (([] : List DLease).map eDLease)]), (192, [iV r145.1.clock, iV r145.1.next, .lst 4 (r145.1.list_.map eDLease)]), (1048576, [.lst 1 (r143.2.code_.map eU8), iV r143.2.at_, iV r143.2.seed])], []⟩ (fgk (by kernel_rfl)) ⟨_, _, _, _, _, _, rfl, h1⟩
  ·replace h1 := inb c89 h1
   obtain rfl := Option.some.inj h1
   obtain rfl := hx1 _ rfl
   refine exQ rfl ?_
   exact hE1 _ ⟨[(0, .ptr 1048576 0), (2, .ptr 128 0), (3, .ptr 192 0)], [(128, [iV 0, iV 0, .own 131 0 4 (([] : List DLease).map eDLease)]), (192, [iV p38, iV p39, .lst 4 (p40.map eDLease)]), (1048576, [.lst 1 (p41.map eU8), iV p42, iV p43])], []⟩ (fgk (by kernel_rfl)) ⟨_, _, _, _, _, _, rfl, rfl⟩

/- loop.example/g00149/spec.TableOf -/
def c39_r0 : List Ins := [⟨some 2, .alloc [(iV 0), (iV 0), (.own 131 0 4 [])], none⟩]
def c39_r1 : List Ins := [(iQ 3 (.mv (.t 0))),
⟨some 4, .call 83 [(.t 3)], none⟩,
⟨some 5, .call 84 [(.t 4)], none⟩,
⟨none, .store (.t 2) (.t 5) 3, none⟩]
def c39 : XFn := { np := 1, nt := 6, res := [.cell 2 3 true], body := (.seq (.reg c39_r0) (.seq (.reg c39_r1) .ret)) }
def K39 (C : CRel) : Prop := ∀ (a0 : List UInt8) (r : DTable), g39 a0 = some r → C 39 ⟨[.lst 1 (a0.map eU8)], []⟩ ⟨.agg (eDTable r), [], []⟩
theorem F39 {C : CRel} (H83 : K83 C) (H84 : K84 C) (a0 : List UInt8) (r : DTable) (h0 : g39 a0 = some r) : FnOK C c39 ⟨[.lst 1 (a0.map eU8)], []⟩ ⟨.agg (eDTable r), [], []⟩ := by
 refine fn_ (nl rfl) (seq_ (reg_ (st (alloc_ (oe_ (wk_ ⟨[(0, .lst 1 (a0.map eU8)), (2, .ptr 128 0)], [(128, [iV 0, iV 0, .own 131 0 4 (([] : List DLease).map eDLease)])], []⟩ (fgk (by kernel_rfl)) (seq_ (reg_ (st (mv_ rfl tv ?_))))))))))
 obtain ⟨r1, e2, h0⟩ := bnd h0
 refine st (call1_ [] [] [] true (H83 a0 r1 e2) ⟨tv, tv⟩ (by kernel_rfl) (by kernel_rfl) (by kernel_rfl) (by kernel_rfl) (fun h => nomatch h) ?_)
 obtain ⟨r3, e4, h0⟩ := bnd h0
 refine sw ⟨[(2, .ptr 128 0), (4, .ptr 256 0)], [(128, [iV 0, iV 0, .own 131 0 4 (([] : List DLease).map eDLease)]), (256, [.lst 1 (r1.code_.map eU8), iV r1.at_, iV r1.seed])], []⟩ (fgk (by kernel_rfl)) (call1_ [256] [] [] true (H84 r1 r3 e4) ⟨tv, tv⟩ (by kernel_rfl) (by kernel_rfl) (by kernel_rfl) (by kernel_rfl) (fun h => nomatch h) (sw ⟨[(2, .ptr 128 0), (5, .agg [iV r3.1.clock, iV r3.1.next, .lst 4 (r3.1.list_.map eDLease)])], [(128, [iV 0, iV 0, .own 131 0 4 (([] : List DLease).map eDLease)])], []⟩ (fgk (by kernel_rfl)) (stp_ rfl rfl tv rfl rfl rfl (nl rfl) (oe_ (wk_ ⟨[(2, .ptr 128 0)], [(128, [iV r3.1.clock, iV r3.1.next, .lst 4 (r3.1.list_.map eDLease)])], []⟩ (fgk (by kernel_rfl)) ?_)))))
 obtain rfl := Option.some.inj h0
 exact rt_ (ret_ rfl rfl rfl rfl rfl tv)

/- loop.example/g00149/laws.at -/
def c40_r0 : List Ins := [⟨some 6, .p (.mv (.c (iV 0))), none⟩]
def c40_r1 : List Ins := [(iQ 7 (.mv (.t 2))),
⟨some 8, .p (.bin .leq (.t 7) (.c (iV 1))), none⟩]
def c40_r2 : List Ins := [⟨some 6, .p (.mv (.c (iV 0))), none⟩]
def c40_r3 : List Ins := [(iQ 9 (.mv (.t 0))),
(iQ 10 (.len (.t 9))),
⟨some 11, .p (.bin .eql (.t 10) (.c (iV 0))), none⟩]
def c40_r4 : List Ins := [(iQ 12 (.mv (.t 1))),
⟨some 13, .p (.bin .mul (.t 12) (.c (iV 7))), none⟩,
(iQ 14 (.mv (.t 2))),
(iQ 15 (.bin .rem (.t 13) (.t 14))),
(iQ 6 (.mv (.t 15)))]
def c40_r5 : DP := (.take (iQ 16 (.mv (.t 0)))
(.take (iQ 17 (.mv (.t 1)))
(.take (iQ 18 (.mv (.t 0)))
(.take (iQ 19 (.len (.t 18)))
(.take (iQ 20 (.bin .rem (.t 17) (.t 19)))
(.take (iQ 21 (.idxA (.t 16) (.t 20) 1))
(.take (iQ 22 (.load (.t 21) 1 false))
(.take (iQ 23 (.conv .i64 (.t 22)))
(.take ⟨some 24, .p (.bin .mul (.t 23) (.c (iV 31))), none⟩
(.take (iQ 25 (.mv (.t 0)))
(.take (iQ 26 (.mv (.t 1)))
(.take ⟨some 27, .p (.bin .add (.t 26) (.c (iV 1))), none⟩
(.take (iQ 28 (.mv (.t 0)))
(.take (iQ 29 (.len (.t 28)))
(.take (iQ 30 (.bin .rem (.t 27) (.t 29)))
(.take (iQ 31 (.idxA (.t 25) (.t 30) 1))
(.take (iQ 32 (.load (.t 31) 1 false))
(.take (iQ 33 (.conv .i64 (.t 32)))
(.take (iQ 34 (.bin .add (.t 24) (.t 33)))
(.take (iQ 35 (.mv (.t 1)))
(.take (iQ 36 (.mv (.t 0)))
(.take (iQ 37 (.len (.t 36)))
(.take (iQ 38 (.bin .quo (.t 35) (.t 37)))
(.take (iQ 39 (.bin .add (.t 34) (.t 38)))
(.take (iQ 40 (.mv (.t 2)))
(.take (iQ 41 (.bin .rem (.t 39) (.t 40)))
(.take (iQ 6 (.mv (.t 41)))
.fin)))))))))))))))))))))))))))
def c40 : XFn := { np := 3, nt := 42, res := [.t 6], body := (.seq (.reg c40_r0) (.seq (.seq (.reg c40_r1) (.ite (.t 8) (.seq (.reg c40_r2) .ret) .skip)) (.seq (.seq (.reg c40_r3) (.ite (.t 11) (.seq (.reg c40_r4) .ret) .skip)) (.seq (.draw c40_r5) .ret)))) }
def K40 (C : CRel) : Prop := ∀ (a0 : List UInt8) (a1 : Int) (a2 : Int) (r : Int), g40 a0 a1 a2 = some r → C 40 ⟨[.lst 1 (a0.map eU8), iV a1, iV a2], []⟩ ⟨iV r, [], []⟩
theorem F40 {C : CRel}  (a0 : List UInt8) (a1 : Int) (a2 : Int) (r : Int) (h0 : g40 a0 a1 a2 = some r) : FnOK C c40 ⟨[.lst 1 (a0.map eU8), iV a1, iV a2], []⟩ ⟨iV r, [], []⟩ := by
 refine fn_ (nl rfl) (seq_ (reg_ (st (mvc_ tv (oe_ (wk_ ⟨[(0, .lst 1 (a0.map eU8)), (1, iV a1), (2, iV a2)], [], []⟩ (fgk (by kernel_rfl)) (seq_ (seq_ (reg_ (st (mv_ rfl tv (st (c_ (cp_ t3 rfl tv) (oe_ (wk_ ⟨[(0, .lst 1 (a0.map eU8)), (1, iV a1), (2, iV a2), (8, .bool (decide (a2 ≤ 1)))], [], []⟩ (fgk (by kernel_rfl)) (ite_ (cb := (decide (a2 ≤ 1))) rfl (fun c1 => ?_) (fun c1 => ?_)))))))))))))))))
 ·replace h0 := ip c1 h0
  refine seq_ (reg_ (st (mvc_ tv (oe_ (wk_ ⟨[(6, iV 0)], [], []⟩ (fgk (by kernel_rfl)) ?_)))))
  obtain rfl := Option.some.inj h0
  exact rt_ (ret_ rfl rfl rfl rfl rfl tv)
 ·replace h0 := inb c1 h0
  refine sk_ (wk_ ⟨[(0, .lst 1 (a0.map eU8)), (1, iV a1), (2, iV a2)], [], []⟩ (fgk (by kernel_rfl)) (seq_ (seq_ (reg_ (st (mv_ rfl tv (st (c_ (clenL (e := eU8) (l0 := a0) rfl rfl tv) (st (c_ (cp_ t3 rfl tv) (oe_ (wk_ ⟨[(0, .lst 1 (a0.map eU8)), (1, iV a1), (2, iV a2), (11, .bool ((a0.length : Int) == 0))], [], []⟩ (fgk (by kernel_rfl)) (ite_ (cb := ((a0.length : Int) == 0)) rfl (fun c2 => ?_) (fun c2 => ?_))))))))))))))
  ·replace h0 := ip c2 h0
   refine seq_ (reg_ (st (mv_ rfl tv (st (c_ (cp_ t3 rfl tv) (st (mv_ rfl tv ?_)))))))
   obtain ⟨c3, h0⟩ := grd h0
   refine st (c_ (cp_ ⟨tv, tv, tv⟩ rfl c3) (st (mv_ rfl tv (oe_ (wk_ ⟨[(6, iV (((IntKind.i64.wrap (a1 * 7))).tmod a2))], [], []⟩ (fgk (by kernel_rfl)) ?_)))))
   obtain rfl := Option.some.inj h0
   exact rt_ (ret_ rfl rfl rfl rfl rfl tv)
  ·replace h0 := inb c2 h0
   refine sk_ (wk_ ⟨[(0, .lst 1 (a0.map eU8)), (1, iV a1), (2, iV a2)], [], []⟩ (fgk (by kernel_rfl)) (seq_ ?_))
   obtain ⟨c4, h0⟩ := grd h0
   obtain ⟨y5, e6, h0⟩ := bnd h0
   obtain ⟨y7, e8, h0⟩ := bnd h0
   obtain ⟨c9, h0⟩ := grd h0
   refine draw_ (dtake tv (mv_ rfl tv (⟨tv, (dtake tv (mv_ rfl tv (⟨tv, (dtake tv (mv_ rfl tv (⟨tv, (dtake tv (c_ (clenL (e := eU8) (l0 := a0) rfl rfl tv) (⟨tv, (dtake tv (c_ (cp_ ⟨tv, tv, tv⟩ rfl c4) (⟨tv, (dtake tv (c_ (cidxL (e := eU8) (y := y5) rfl rfl tv rfl rfl tv e6) (⟨tv, (dtake tv (c_ (cp_ ⟨tv, tv⟩ rfl (nl rfl)) (⟨tv, (dtake tv (c_ (cp_ ⟨tv, tv⟩ rfl tv) (⟨tv, (dtake tv (c_ (cp_ t3 rfl tv) (⟨tv, (dtake tv (mv_ rfl tv (⟨tv, (dtake tv (mv_ rfl tv (⟨tv, (dtake tv (c_ (cp_ t3 rfl tv) (⟨tv, (dtake tv (mv_ rfl tv (⟨tv, (dtake tv (c_ (clenL (e := eU8) (l0 := a0) rfl rfl tv) (⟨tv, (dtake tv (c_ (cp_ ⟨tv, tv, tv⟩ rfl c4) (⟨tv, ?_⟩)))⟩)))⟩)))⟩)))⟩)))⟩)))⟩)))⟩)))⟩)))⟩)))⟩)))⟩)))⟩)))⟩)))⟩)))
   refine dtake tv (c_ (cidxL (e := eU8) (y := y7) rfl rfl tv rfl rfl tv e8) (⟨tv, (dtake tv (c_ (cp_ ⟨tv, tv⟩ rfl (nl rfl)) (⟨tv, (dtake tv (c_ (cp_ ⟨tv, tv⟩ rfl tv) (⟨tv, (dtake tv (c_ (cp_ t3 rfl tv) (⟨tv, (dtake tv (mv_ rfl tv (⟨tv, (dtake tv (mv_ rfl tv (⟨tv, (dtake tv (c_ (clenL (e := eU8) (l0 := a0) rfl rfl tv) (⟨tv, (dtake tv (c_ (cp_ ⟨tv, tv, tv⟩ rfl c4) (⟨tv, (dtake tv (c_ (cp_ t3 rfl tv) (⟨tv, (dtake tv (mv_ rfl tv (⟨tv, (dtake tv (c_ (cp_ ⟨tv, tv, tv⟩ rfl c9) (⟨tv, (dtake tv (mv_ rfl tv (⟨tv, (dfin ?_)⟩)))⟩)))⟩)))⟩)))⟩)))⟩)))⟩)))⟩)))⟩)))⟩)))⟩)))⟩))
   obtain ⟨v10, e11, h0⟩ := bl h0
   refine wk_ ⟨[(6, iV v10)], [], []⟩ (fgk (by subst e11; kernel_rfl)) ?_
   obtain rfl := Option.some.inj h0
   exact rt_ (ret_ rfl rfl rfl rfl rfl tv)

/- loop.example/g00149/laws.sameTable -/
def c41_r0 : List Ins := [⟨some 2, .box (.t 0), none⟩,
⟨some 3, .box (.t 1), none⟩,
⟨some 4, .p (.mv (.c (.bool false))), none⟩]
def c41_r1 : List Ins := [(iQ 6 (.fieldA (.t 2) 0)),
(iQ 7 (.load (.t 6) 1 false)),
(iQ 8 (.fieldA (.t 3) 0)),
(iQ 9 (.load (.t 8) 1 false)),
(iQ 10 (.bin .neq (.t 7) (.t 9))),
(iQ 11 (.mv (.t 10))),
⟨some 12, .p (.fieldA (.t 2) 1), some (11, false)⟩,
⟨some 13, .p (.load (.t 12) 1 false), some (11, false)⟩,
⟨some 14, .p (.fieldA (.t 3) 1), some (11, false)⟩,
⟨some 15, .p (.load (.t 14) 1 false), some (11, false)⟩,
⟨some 16, .p (.bin .neq (.t 13) (.t 15)), some (11, false)⟩,
⟨some 17, .pick (.t 11) (.c (.bool true)) (.t 16), none⟩,
(iQ 18 (.mv (.t 17))),
⟨some 19, .p (.fieldA (.t 2) 2), some (18, false)⟩,
⟨some 20, .p (.load (.t 19) 1 false), some (18, false)⟩,
⟨some 21, .p (.len (.t 20)), some (18, false)⟩,
⟨some 22, .p (.fieldA (.t 3) 2), some (18, false)⟩,
⟨some 23, .p (.load (.t 22) 1 false), some (18, false)⟩,
⟨some 24, .p (.len (.t 23)), some (18, false)⟩,
⟨some 25, .p (.bin .neq (.t 21) (.t 24)), some (18, false)⟩,
⟨some 26, .pick (.t 18) (.c (.bool true)) (.t 25), none⟩]
def c41_r2 : List Ins := [⟨some 4, .p (.mv (.c (.bool false))), none⟩]
def c41_r3 : List Ins := [⟨some 5, .p (.mv (.c (iV 0))), none⟩]
def c41_r4 : List Ins := [(iQ 27 (.mv (.t 5))),
(iQ 28 (.fieldA (.t 2) 2)),
(iQ 29 (.load (.t 28) 1 false)),
(iQ 30 (.len (.t 29))),
(iQ 31 (.bin .lss (.t 27) (.t 30)))]
def c41_r5 : DP := (.take (iQ 34 (.fieldA (.t 2) 2))
(.take (iQ 35 (.load (.t 34) 1 false))
(.take (iQ 36 (.mv (.t 5)))
(.take (iQ 37 (.idxA (.t 35) (.t 36) 4))
(.take (iQ 38 (.load (.t 37) 4 true))
(.take (iQ 39 (.fieldA (.t 3) 2))
(.take (iQ 40 (.load (.t 39) 1 false))
(.take (iQ 41 (.mv (.t 5)))
(.take (iQ 42 (.idxA (.t 40) (.t 41) 4))
(.take (iQ 43 (.load (.t 42) 4 true))
(.take (iQ 44 (.eqs true [0, 0, 0, 1] (.t 38) (.t 43)))
.fin)))))))))))
def c41_r6 : List Ins := [⟨some 4, .p (.mv (.c (.bool false))), none⟩]
def c41_r7 : List Ins := [(iQ 32 (.mv (.t 5))),
⟨some 33, .p (.bin .add (.t 32) (.c (iV 1))), none⟩,
(iQ 5 (.mv (.t 33)))]
def c41_l0 : IR := (.seq (.seq (.reg c41_r4) (.ite (.t 31) .skip (.exit 0))) (.seq (.block 1 (.seq (.draw c41_r5) (.ite (.t 44) (.seq (.reg c41_r6) .ret) .skip))) (.reg c41_r7)))
def c41_r8 : List Ins := [⟨some 4, .p (.mv (.c (.bool true))), none⟩]
def c41 : XFn := { np := 2, nt := 45, res := [.t 4], body := (.seq (.reg c41_r0) (.seq (.seq (.reg c41_r1) (.ite (.t 26) (.seq (.reg c41_r2) .ret) .skip)) (.seq (.seq (.reg c41_r3) (.block 0 (.loop c41_l0))) (.seq (.reg c41_r8) .ret)))) }
def K41 (C : CRel) : Prop := ∀ (a0 : DTable) (a1 : DTable) (r : Bool), g41 a0 a1 = some r → C 41 ⟨[.agg (eDTable a0), .agg (eDTable a1)], []⟩ ⟨.bool r, [], []⟩
theorem F41 {C : CRel}  (a0 : DTable) (a1 : DTable) (r : Bool) (h0 : g41 a0 a1 = some r) : FnOK C c41 ⟨[.agg (eDTable a0), .agg (eDTable a1)], []⟩ ⟨.bool r, [], []⟩ := by
 refine fn_ (nl rfl) (seq_ (reg_ (st (box_ rfl tv rfl (st (box_ rfl tv rfl (st (mvc_ tv (oe_ (wk_ ⟨[(2, .ptr 128 0), (3, .ptr 192 0)], [(128, [iV a0.clock, iV a0.next, .lst 4 (a0.list_.map eDLease)]), (192, [iV a1.clock, iV a1.next, .lst 4 (a1.list_.map eDLease)])], []⟩ (fgk (by kernel_rfl)) (seq_ (seq_ (reg_ (st (c_ (cp_ ⟨tv, tv⟩ rfl tv) (st (c_ (cp_ ⟨tv, tv⟩ rfl (nl rfl)) (st (c_ (cp_ ⟨tv, tv⟩ rfl tv) (st (c_ (cp_ ⟨tv, tv⟩ rfl (nl rfl)) (st (c_ (cp_ t3 rfl tv) (st (mv_ rfl tv (st (pg_ (u := .ptr 128 1) rfl (fun hg => (cp_ ⟨tv, tv⟩ rfl tv)) (st (pg_ (u := iV a0.next) rfl (fun hg => (cp_ ⟨(fun _ => hg), tv⟩ rfl (nl rfl))) (st (pg_ (u := .ptr 192 1) rfl (fun hg => (cp_ ⟨tv, tv⟩ rfl tv)) (st (pg_ (u := iV a1.next) rfl (fun hg => (cp_ ⟨(fun _ => hg), tv⟩ rfl (nl rfl))) (st (pg_ (u := .bool (a0.next != a1.next)) rfl (fun hg => (cp_ ⟨(fun _ => hg), (fun _ => hg), tv⟩ rfl tv)) (st (pick_ rfl rfl rfl tv (fun h => eqf h) rfl (st (mv_ rfl tv (st (pg_ (u := .ptr 128 2) rfl (fun hg => (cp_ ⟨tv, tv⟩ rfl tv)) (st (pg_ (u := .lst 4 (a0.list_.map eDLease)) rfl (fun hg => (cp_ ⟨(fun _ => hg), tv⟩ rfl (nl rfl))) (sw ⟨[(2, .ptr 128 0), (3, .ptr 192 0), (18, .bool (bif (a0.clock != a1.clock) then true else (a0.next != a1.next))), (20, .may ((bif (a0.clock != a1.clock) then true else (a0.next != a1.next)) == false) (.lst 4 (a0.list_.map eDLease)))], [(128, [iV a0.clock, iV a0.next, .lst 4 (a0.list_.map eDLease)]), (192, [iV a1.clock, iV a1.next, .lst 4 (a1.list_.map eDLease)])], []⟩ (fgk (by kernel_rfl)) (pg_ (u := iV (a0.list_.length : Int)) rfl (fun hg => (clenL (e := eDLease) (l0 := a0.list_) rfl rfl (fun _ => hg))) (st (pg_ (u := .ptr 192 2) rfl (fun hg => (cp_ ⟨tv, tv⟩ rfl tv)) (st (pg_ (u := .lst 4 (a1.list_.map eDLease)) rfl (fun hg => (cp_ ⟨(fun _ => hg), tv⟩ rfl (nl rfl))) (st (pg_ (u := iV (a1.list_.length : Int)) rfl (fun hg => (clenL (e := eDLease) (l0 := a1.list_) rfl rfl (fun _ => hg))) (st (pg_ (u := .bool ((a0.list_.length : Int) != (a1.list_.length : Int))) rfl (fun hg => (cp_ ⟨(fun _ => hg), (fun _ => hg), tv⟩ rfl tv)) ?_)))))))))))))))))))))))))))))))))))))))))))))))))))))
 refine st (pick_ rfl rfl rfl tv (fun h => eqf h) rfl (oe_ ?_))
 obtain ⟨v1, e2, h0⟩ := bl h0
 refine wk_ ⟨[(2, .ptr 128 0), (3, .ptr 192 0), (26, .bool v1)], [(128, [iV a0.clock, iV a0.next, .lst 4 (a0.list_.map eDLease)]), (192, [iV a1.clock, iV a1.next, .lst 4 (a1.list_.map eDLease)])], []⟩ (fgk (by subst e2; kernel_rfl)) (ite_ (cb := v1) rfl (fun c3 => ?_) (fun c3 => ?_))
 ·replace h0 := ip c3 h0
  refine seq_ (reg_ (st (mvc_ tv (oe_ (wk_ ⟨[(4, .bool false)], [], []⟩ (fgk (by kernel_rfl)) ?_)))))
  obtain rfl := Option.some.inj h0
  exact rt_ (ret_ rfl rfl rfl rfl rfl tv)
 ·replace h0 := inb c3 h0
  refine sk_ (wk_ ⟨[(2, .ptr 128 0), (3, .ptr 192 0)], [(128, [iV a0.clock, iV a0.next, .lst 4 (a0.list_.map eDLease)]), (192, [iV a1.clock, iV a1.next, .lst 4 (a1.list_.map eDLease)])], []⟩ (fgk (by kernel_rfl)) (seq_ (seq_ (reg_ (st (mvc_ tv (oe_ (wk_ ⟨[(2, .ptr 128 0), (3, .ptr 192 0), (5, iV 0)], [(128, [iV a0.clock, iV a0.next, .lst 4 (a0.list_.map eDLease)]), (192, [iV a1.clock, iV a1.next, .lst 4 (a1.list_.map eDLease)])], []⟩ (fgk (by kernel_rfl)) (block_ ?_)))))))))
  obtain ⟨r30, e31, h0⟩ := bnd h0
  refine loop_ (R := (fun S => .inl () = r30 ∧ S = ⟨[], [], []⟩)) (g41_l0 a0 a1) (fun s S => match s with | p12 => S = ⟨[(2, .ptr 128 0), (3, .ptr 192 0), (5, iV p12)], [(128, [iV a0.clock, iV a0.next, .lst 4 (a0.list_.map eDLease)]), (192, [iV a1.clock, iV a1.next, .lst 4 (a1.list_.map eDLease)])], []⟩) e31 ⟨[(2, .ptr 128 0), (3, .ptr 192 0), (5, iV 0)], [(128, [iV a0.clock, iV a0.next, .lst 4 (a0.list_.map eDLease)]), (192, [iV a1.clock, iV a1.next, .lst 4 (a1.list_.map eDLease)])], []⟩ (fgk (by kernel_rfl)) rfl 0 (fun _ => rfl) ?_ ?_
  ·rintro S _ hfg ⟨rfl, rfl⟩
   refine wk_ ⟨[], [], []⟩ (fglk hfg (by kernel_rfl)) (seq_ (reg_ (st (mvc_ tv (oe_ (wk_ ⟨[(4, .bool true)], [], []⟩ (fgk (by kernel_rfl)) ?_))))))
   obtain rfl := Option.some.inj h0
   exact rt_ (ret_ rfl rfl rfl rfl rfl tv)
  ·rintro p12 o1 _ K1 rfl h1 hx1 hK1 hE1 hR1
   refine seq_ (seq_ (reg_ (st (mv_ rfl tv (st (c_ (cp_ ⟨tv, tv⟩ rfl tv) (st (c_ (cp_ ⟨tv, tv⟩ rfl (nl rfl)) (st (c_ (clenL (e := eDLease) (l0 := a0.list_) rfl rfl tv) (st (c_ (cp_ t3 rfl tv) (oe_ (wk_ ⟨[(2, .ptr 128 0), (3, .ptr 192 0), (5, iV p12), (31, .bool (decide (p12 < (a0.list_.length : Int))))], [(128, [iV a0.clock, iV a0.next, .lst 4 (a0.list_.map eDLease)]), (192, [iV a1.clock, iV a1.next, .lst 4 (a1.list_.map eDLease)])], []⟩ (fgk (by kernel_rfl)) (ite_ (cb := (decide (p12 < (a0.list_.length : Int)))) rfl (fun c22 => ?_) (fun c22 => ?_))))))))))))))))
   ·replace h1 := ip c22 h1
    refine sk_ (wk_ ⟨[(2, .ptr 128 0), (3, .ptr 192 0), (5, iV p12)], [(128, [iV a0.clock, iV a0.next, .lst 4 (a0.list_.map eDLease)]), (192, [iV a1.clock, iV a1.next, .lst 4 (a1.list_.map eDLease)])], []⟩ (fgk (by kernel_rfl)) (seq_ (block_ (seq_ ?_))))
    obtain ⟨y23, e24, h1⟩ := bnd h1
    obtain ⟨y25, e26, h1⟩ := bnd h1
    refine draw_ (dtake tv (c_ (cp_ ⟨tv, tv⟩ rfl tv) (⟨tv, (dtake tv (c_ (cp_ ⟨tv, tv⟩ rfl (nl rfl)) (⟨tv, (dtake tv (mv_ rfl tv (⟨tv, (dtake tv (c_ (cidxL (e := eDLease) (y := y23) rfl rfl tv rfl rfl tv e24) (⟨tv, (dtake tv (c_ (v := .agg (eDLease y23)) (cp_ ⟨tv, tv⟩ rfl (nl rfl)) (⟨tv, (dtake tv (c_ (cp_ ⟨tv, tv⟩ rfl tv) (⟨tv, (dtake tv (c_ (cp_ ⟨tv, tv⟩ rfl (nl rfl)) (⟨tv, (dtake tv (mv_ rfl tv (⟨tv, (dtake tv (c_ (cidxL (e := eDLease) (y := y25) rfl rfl tv rfl rfl tv e26) (⟨tv, (dtake tv (c_ (v := .agg (eDLease y25)) (cp_ ⟨tv, tv⟩ rfl (nl rfl)) (⟨tv, (dtake tv (c_ (cp_ t3 rfl tv) (⟨tv, (dfin ?_)⟩)))⟩)))⟩)))⟩)))⟩)))⟩)))⟩)))⟩)))⟩)))⟩)))⟩)))
    obtain ⟨v27, e28, h1⟩ := bl h1
    refine wk_ ⟨[(2, .ptr 128 0), (3, .ptr 192 0), (5, iV p12), (44, .bool v27)], [(128, [iV a0.clock, iV a0.next, .lst 4 (a0.list_.map eDLease)]), (192, [iV a1.clock, iV a1.next, .lst 4 (a1.list_.map eDLease)])], []⟩ (fgk (by subst e28; kernel_rfl)) (ite_ (cb := v27) rfl (fun c29 => ?_) (fun c29 => ?_))
    ·replace h1 := ip c29 h1
     refine seq_ (reg_ (st (mvc_ tv (oe_ (wk_ ⟨[(4, .bool false)], [], []⟩ (fgk (by kernel_rfl)) ?_)))))
     obtain rfl := Option.some.inj h1
     obtain rfl := hx1 _ rfl
     obtain rfl := Option.some.inj h0
     exact rt_ (hR1 _ (ret_ rfl rfl rfl rfl rfl tv))
    ·replace h1 := inb c29 h1
     refine sk_ (bn_ (wk_ ⟨[(2, .ptr 128 0), (3, .ptr 192 0), (5, iV p12)], [(128, [iV a0.clock, iV a0.next, .lst 4 (a0.list_.map eDLease)]), (192, [iV a1.clock, iV a1.next, .lst 4 (a1.list_.map eDLease)])], []⟩ (fgk (by kernel_rfl)) (reg_ (st (mv_ rfl tv (st (c_ (cp_ t3 rfl tv) (st (mv_ rfl tv (oe_ ?_))))))))))
     obtain rfl := Option.some.inj h1
     exact hK1 _ rfl _ ⟨[(2, .ptr 128 0), (3, .ptr 192 0), (5, iV (IntKind.i64.wrap (p12 + 1)))], [(128, [iV a0.clock, iV a0.next, .lst 4 (a0.list_.map eDLease)]), (192, [iV a1.clock, iV a1.next, .lst 4 (a1.list_.map eDLease)])], []⟩ (fgk (by kernel_rfl)) rfl
   ·replace h1 := inb c22 h1
    obtain rfl := Option.some.inj h1
    obtain rfl := hx1 _ rfl
    refine exQ rfl ?_
    exact hE1 _ ⟨[], [], []⟩ (fgk (by kernel_rfl)) ⟨rfl, rfl⟩

/- loop.example/g00149/laws.FnLeases -/
def c11_r0 : List Ins := [⟨some 4, .p (.mv (.c (.bool false))), none⟩]
def c11_r1 : List Ins := [(iQ 23 (.mv (.t 0))),
(iQ 24 (.len (.t 23))),
⟨some 25, .p (.bin .gtr (.t 24) (.c (iV 1048576))), none⟩,
(iQ 26 (.mv (.t 25))),
⟨some 27, .p (.mv (.t 1)), some (26, false)⟩,
⟨some 28, .p (.len (.t 27)), some (26, false)⟩,
⟨some 29, .p (.bin .gtr (.t 28) (.c (iV 1048576))), some (26, false)⟩,
⟨some 30, .pick (.t 26) (.c (.bool true)) (.t 29), none⟩]
def c11_r2 : List Ins := [⟨some 4, .p (.mv (.c (.bool true))), none⟩]
def c11_r3 : List Ins := [(iQ 31 (.mv (.t 0))),
⟨some 32, .call 39 [(.t 31)], none⟩,
⟨some 5, .alloc [(iV 0), (iV 0), (.own 323 0 4 [])], none⟩,
⟨none, .store (.t 5) (.t 32) 3, none⟩]
def c11_r4 : DP := (.take (iQ 33 (.fieldA (.t 5) 0))
(.take (iQ 34 (.load (.t 33) 1 false))
(.take (iQ 35 (.mv (.t 1)))
(.alt [(iQ 34 (.load (.t 33) 1 false)), (iQ 33 (.fieldA (.t 5) 0))] ⟨some 36, .call 40 [(.t 35), (.c (iV 0)), (.c (iV 40))], none⟩
(.take (iQ 37 (.bin .add (.t 34) (.t 36)))
(.take ⟨some 38, .p (.bin .sub (.t 37) (.c (iV 5))), none⟩
(.take (iQ 6 (.mv (.t 38)))
.fin)))
.stop))))
def c11_r5 : List Ins := [(iQ 40 (.load (.t 5) 3 true)),
(iQ 41 (.mv (.t 6))),
⟨some 42, .call 35 [(.t 40), (.t 41)], none⟩,
(iQ 39 (.mv (.t 42))),
(iQ 43 (.ext (.t 39) 0)),
(iQ 44 (.ext (.t 39) 1)),
(iQ 45 (.ext (.t 39) 2)),
⟨some 7, .alloc [(iV 0), (iV 0), (.own 451 0 4 [])], none⟩,
⟨none, .store (.t 7) (.t 43) 3, none⟩,
(iQ 8 (.mv (.t 44))),
(iQ 9 (.mv (.t 45)))]
def c11_r6 : List Ins := [(iQ 47 (.load (.t 5) 3 true)),
(iQ 48 (.mv (.t 6))),
⟨some 49, .call 34 [(.t 47), (.t 48)], none⟩,
(iQ 46 (.mv (.t 49))),
(iQ 50 (.ext (.t 46) 0)),
(iQ 51 (.ext (.t 46) 1)),
(iQ 52 (.ext (.t 46) 2)),
⟨some 10, .alloc [(iV 0), (iV 0), (.own 643 0 4 [])], none⟩,
⟨none, .store (.t 10) (.t 50) 3, none⟩,
(iQ 11 (.mv (.t 51))),
(iQ 12 (.mv (.t 52)))]
def c11_r7 : List Ins := [(iQ 53 (.mv (.t 9))),
⟨some 54, .p (.bin .neq (.t 53) (.c (iV 0))), none⟩,
(iQ 55 (.mv (.t 54))),
⟨some 56, .p (.load (.t 7) 3 true), some (55, false)⟩,
⟨some 57, .p (.load (.t 10) 3 true), some (55, false)⟩,
⟨some 58, .call 41 [(.t 56), (.t 57)], some (55, false)⟩,
⟨some 59, .p (.un .not (.t 58)), some (55, false)⟩,
⟨some 60, .pick (.t 55) (.c (.bool true)) (.t 59), none⟩,
(iQ 61 (.mv (.t 60))),
⟨some 62, .p (.load (.t 7) 3 true), some (61, false)⟩,
⟨some 63, .call 20 [(.t 62)], some (61, false)⟩,
⟨some 64, .p (.un .not (.t 63)), some (61, false)⟩,
⟨some 65, .pick (.t 61) (.c (.bool true)) (.t 64), none⟩,
(iQ 66 (.mv (.t 65))),
⟨some 67, .p (.fieldA (.t 7) 0), some (66, false)⟩,
⟨some 68, .p (.load (.t 67) 1 false), some (66, false)⟩,
⟨some 69, .p (.fieldA (.t 5) 0), some (66, false)⟩,
⟨some 70, .p (.load (.t 69) 1 false), some (66, false)⟩,
⟨some 71, .p (.bin .lss (.t 68) (.t 70)), some (66, false)⟩,
⟨some 72, .pick (.t 66) (.c (.bool true)) (.t 71), none⟩]
def c11_r8 : List Ins := [⟨some 4, .p (.mv (.c (.bool false))), none⟩]
def c11_r9 : List Ins := [⟨some 13, .p (.mv (.c (iV 0))), none⟩]
def c11_r10 : List Ins := [⟨some 14, .p (.mv (.c (iV 0))), none⟩]
def c11_r11 : List Ins := [(iQ 73 (.mv (.t 14))),
(iQ 74 (.mv (.t 8))),
(iQ 75 (.len (.t 74))),
(iQ 76 (.bin .lss (.t 73) (.t 75)))]
def c11_r12 : List Ins := [⟨some 15, .p (.mv (.c (iV 0))), none⟩]
def c11_r13 : List Ins := [(iQ 79 (.mv (.t 15))),
(iQ 80 (.fieldA (.t 7) 2)),
(iQ 81 (.load (.t 80) 1 false)),
(iQ 82 (.len (.t 81))),
(iQ 83 (.bin .lss (.t 79) (.t 82)))]
def c11_r14 : List Ins := [(iQ 86 (.fieldA (.t 7) 2)),
(iQ 87 (.load (.t 86) 1 false)),
(iQ 88 (.mv (.t 15))),
(iQ 89 (.idxA (.t 87) (.t 88) 4)),
(iQ 90 (.load (.t 89) 4 true)),
⟨some 16, .alloc [(iV 0), (iV 0), (iV 0), (.bool false)], none⟩,
⟨none, .store (.t 16) (.t 90) 4, none⟩]
def c11_r15 : DP := (.take (iQ 91 (.fieldA (.t 16) 0))
(.take (iQ 92 (.load (.t 91) 1 false))
(.take (iQ 93 (.mv (.t 8)))
(.take (iQ 94 (.mv (.t 14)))
(.take (iQ 95 (.idxA (.t 93) (.t 94) 1))
(.take (iQ 96 (.load (.t 95) 1 false))
(.take (iQ 97 (.bin .eql (.t 92) (.t 96)))
.fin)))))))
def c11_r16 : List Ins := [(iQ 98 (.fieldA (.t 16) 3)),
(iQ 99 (.load (.t 98) 1 false)),
(iQ 100 (.un .not (.t 99))),
(iQ 101 (.mv (.t 100))),
⟨some 102, .p (.fieldA (.t 16) 1), some (101, false)⟩,
⟨some 103, .p (.load (.t 102) 1 false), some (101, false)⟩,
⟨some 104, .p (.fieldA (.t 7) 0), some (101, false)⟩,
⟨some 105, .p (.load (.t 104) 1 false), some (101, false)⟩,
⟨some 106, .p (.bin .gtr (.t 103) (.t 105)), some (101, false)⟩,
⟨some 107, .pick (.t 101) (.c (.bool true)) (.t 106), none⟩,
(iQ 108 (.mv (.t 107))),
⟨some 109, .p (.fieldA (.t 16) 1), some (108, false)⟩,
⟨some 110, .p (.load (.t 109) 1 false), some (108, false)⟩,
⟨some 111, .p (.mv (.t 13)), some (108, false)⟩,
⟨some 112, .p (.bin .lss (.t 110) (.t 111)), some (108, false)⟩,
⟨some 113, .pick (.t 108) (.c (.bool true)) (.t 112), none⟩]
def c11_r17 : List Ins := [⟨some 4, .p (.mv (.c (.bool false))), none⟩]
def c11_r18 : List Ins := [(iQ 114 (.fieldA (.t 16) 1)),
(iQ 115 (.load (.t 114) 1 false)),
(iQ 13 (.mv (.t 115)))]
def c11_r19 : List Ins := [(iQ 84 (.mv (.t 15))),
⟨some 85, .p (.bin .add (.t 84) (.c (iV 1))), none⟩,
(iQ 15 (.mv (.t 85)))]
def c11_l0 : IR := (.seq (.seq (.reg c11_r13) (.ite (.t 83) .skip (.exit 2))) (.seq (.block 3 (.seq (.reg c11_r14) (.seq (.draw c11_r15) (.ite (.t 97) (.seq (.seq (.reg c11_r16) (.ite (.t 113) (.seq (.reg c11_r17) .ret) .skip)) (.reg c11_r18)) .skip)))) (.reg c11_r19)))
def c11_r20 : List Ins := [(iQ 77 (.mv (.t 14))),
⟨some 78, .p (.bin .add (.t 77) (.c (iV 1))), none⟩,
(iQ 14 (.mv (.t 78)))]
def c11_l1 : IR := (.seq (.seq (.reg c11_r11) (.ite (.t 76) .skip (.exit 0))) (.seq (.block 1 (.seq (.reg c11_r12) (.block 2 (.loop c11_l0)))) (.reg c11_r20)))
def c11_r21 : List Ins := [⟨some 17, .p (.mv (.c (iV 0))), none⟩]
def c11_r22 : List Ins := [(iQ 116 (.mv (.t 17))),
(iQ 117 (.fieldA (.t 7) 2)),
(iQ 118 (.load (.t 117) 1 false)),
(iQ 119 (.len (.t 118))),
(iQ 120 (.bin .lss (.t 116) (.t 119)))]
def c11_r23 : List Ins := [(iQ 123 (.fieldA (.t 7) 2)),
(iQ 124 (.load (.t 123) 1 false)),
(iQ 125 (.mv (.t 17))),
(iQ 126 (.idxA (.t 124) (.t 125) 4)),
(iQ 127 (.fieldA (.t 126) 0)),
(iQ 128 (.load (.t 127) 1 false)),
(iQ 18 (.mv (.t 128)))]
def c11_r24 : DP := (.take (iQ 130 (.load (.t 7) 3 true))
(.take (iQ 131 (.mv (.t 18)))
(.take (iQ 132 (.mv (.t 1)))
(.take (iQ 133 (.mv (.t 17)))
(.alt [(iQ 131 (.mv (.t 18))), (iQ 130 (.load (.t 7) 3 true))] ⟨some 134, .call 40 [(.t 132), (.t 133), (.c (iV 50))], none⟩
(.take ⟨some 135, .p (.bin .add (.c (iV 1)) (.t 134)), none⟩
(.alt [] ⟨some 136, .call 33 [(.t 130), (.t 131), (.t 135)], none⟩
(.take (iQ 129 (.mv (.t 136)))
(.take (iQ 137 (.ext (.t 129) 0))
(.take (iQ 138 (.ext (.t 129) 1))
(.alt [(iQ 138 (.ext (.t 129) 1)), (iQ 137 (.ext (.t 129) 0)), (iQ 129 (.mv (.t 136)))] ⟨some 19, .alloc [(iV 0), (iV 0), (.own 1219 0 4 [])], none⟩
(.alt [(iQ 138 (.ext (.t 129) 1))] ⟨none, .store (.t 19) (.t 137) 3, none⟩
(.take (iQ 20 (.mv (.t 138)))
.fin)
.stop)
.stop))))
(.alt [⟨some 135, .p (.bin .add (.c (iV 1)) (.t 134)), none⟩, (iQ 131 (.mv (.t 18))), (iQ 130 (.load (.t 7) 3 true))] ⟨some 19, .alloc [(iV 0), (iV 0), (.own 1219 0 4 [])], none⟩
(.alt [] ⟨some 136, .call 33 [(.t 130), (.t 131), (.t 135)], none⟩
(.take (iQ 129 (.mv (.t 136)))
(.take (iQ 137 (.ext (.t 129) 0))
(.take (iQ 138 (.ext (.t 129) 1))
(.alt [(iQ 138 (.ext (.t 129) 1))] ⟨none, .store (.t 19) (.t 137) 3, none⟩
(.take (iQ 20 (.mv (.t 138)))
.fin)
.stop))))
.stop)
.stop)))
(.alt [(iQ 133 (.mv (.t 17))), (iQ 132 (.mv (.t 1))), (iQ 131 (.mv (.t 18))), (iQ 130 (.load (.t 7) 3 true))] ⟨some 19, .alloc [(iV 0), (iV 0), (.own 1219 0 4 [])], none⟩
(.alt [(iQ 131 (.mv (.t 18))), (iQ 130 (.load (.t 7) 3 true))] ⟨some 134, .call 40 [(.t 132), (.t 133), (.c (iV 50))], none⟩
(.take ⟨some 135, .p (.bin .add (.c (iV 1)) (.t 134)), none⟩
(.alt [] ⟨some 136, .call 33 [(.t 130), (.t 131), (.t 135)], none⟩
(.take (iQ 129 (.mv (.t 136)))
(.take (iQ 137 (.ext (.t 129) 0))
(.take (iQ 138 (.ext (.t 129) 1))
(.alt [(iQ 138 (.ext (.t 129) 1))] ⟨none, .store (.t 19) (.t 137) 3, none⟩
(.take (iQ 20 (.mv (.t 138)))
.fin)
.stop))))
.stop))
.stop)
.stop))))))
def c11_r25 : List Ins := [(iQ 140 (.load (.t 7) 3 true)),
(iQ 141 (.mv (.t 18))),
⟨some 142, .call 31 [(.t 140), (.t 141)], none⟩,
(iQ 139 (.mv (.t 142))),
(iQ 143 (.ext (.t 139) 0)),
(iQ 144 (.ext (.t 139) 1)),
⟨some 21, .alloc [(iV 0), (iV 0), (.own 1347 0 4 [])], none⟩,
⟨none, .store (.t 21) (.t 143) 3, none⟩,
(iQ 22 (.mv (.t 144)))]
def c11_r26 : List Ins := [(iQ 145 (.fieldA (.t 7) 2)),
(iQ 146 (.load (.t 145) 1 false)),
(iQ 147 (.mv (.t 17))),
(iQ 148 (.idxA (.t 146) (.t 147) 4)),
(iQ 149 (.fieldA (.t 148) 3)),
(iQ 150 (.load (.t 149) 1 false))]
def c11_r27 : List Ins := [(iQ 151 (.mv (.t 20))),
⟨some 152, .p (.bin .neq (.t 151) (.c (iV 13))), none⟩,
(iQ 153 (.mv (.t 152))),
⟨some 154, .p (.mv (.t 22)), some (153, false)⟩,
⟨some 155, .p (.bin .neq (.t 154) (.c (iV 0))), some (153, false)⟩,
⟨some 156, .pick (.t 153) (.c (.bool true)) (.t 155), none⟩,
(iQ 157 (.mv (.t 156))),
⟨some 158, .p (.fieldA (.t 21) 2), some (157, false)⟩,
⟨some 159, .p (.load (.t 158) 1 false), some (157, false)⟩,
⟨some 160, .p (.len (.t 159)), some (157, false)⟩,
⟨some 161, .p (.fieldA (.t 7) 2), some (157, false)⟩,
⟨some 162, .p (.load (.t 161) 1 false), some (157, false)⟩,
⟨some 163, .p (.len (.t 162)), some (157, false)⟩,
⟨some 164, .p (.bin .sub (.t 163) (.c (iV 1))), some (157, false)⟩,
⟨some 165, .p (.bin .neq (.t 160) (.t 164)), some (157, false)⟩,
⟨some 166, .pick (.t 157) (.c (.bool true)) (.t 165), none⟩]
def c11_r28 : List Ins := [⟨some 4, .p (.mv (.c (.bool false))), none⟩]
def c11_r29 : DP := (.take (iQ 167 (.mv (.t 20)))
(.take ⟨some 168, .p (.bin .neq (.t 167) (.c (iV 0))), none⟩
(.take (iQ 169 (.mv (.t 168)))
(.take ⟨some 170, .p (.mv (.t 22)), some (169, false)⟩
(.take ⟨some 171, .p (.bin .neq (.t 170) (.c (iV 13))), some (169, false)⟩
(.take ⟨some 172, .pick (.t 169) (.c (.bool true)) (.t 171), none⟩
(.take (iQ 173 (.mv (.t 172)))
(.take ⟨some 174, .p (.fieldA (.t 19) 2), some (173, false)⟩
(.take ⟨some 175, .p (.load (.t 174) 1 false), some (173, false)⟩
(.take ⟨some 176, .p (.mv (.t 17)), some (173, false)⟩
(.take ⟨some 177, .p (.idxA (.t 175) (.t 176) 4), some (173, false)⟩
(.take ⟨some 178, .p (.fieldA (.t 177) 1), some (173, false)⟩
(.take ⟨some 179, .p (.load (.t 178) 1 false), some (173, false)⟩
(.take ⟨some 180, .p (.fieldA (.t 7) 2), some (173, false)⟩
(.take ⟨some 181, .p (.load (.t 180) 1 false), some (173, false)⟩
(.take ⟨some 182, .p (.mv (.t 17)), some (173, false)⟩
(.take ⟨some 183, .p (.idxA (.t 181) (.t 182) 4), some (173, false)⟩
(.take ⟨some 184, .p (.fieldA (.t 183) 2), some (173, false)⟩
(.take ⟨some 185, .p (.load (.t 184) 1 false), some (173, false)⟩
(.take ⟨some 186, .p (.bin .gtr (.t 179) (.t 185)), some (173, false)⟩
(.take ⟨some 187, .pick (.t 173) (.c (.bool true)) (.t 186), none⟩
(.take (iQ 188 (.mv (.t 187)))
(.take ⟨some 189, .p (.load (.t 19) 3 true), some (188, false)⟩
(.alt [] ⟨some 190, .call 20 [(.t 189)], some (188, false)⟩
(.take ⟨some 191, .p (.un .not (.t 190)), some (188, false)⟩
(.take ⟨some 192, .pick (.t 188) (.c (.bool true)) (.t 191), none⟩
.fin))
.stop))))))))))))))))))))))))
def c11_r30 : List Ins := [⟨some 4, .p (.mv (.c (.bool false))), none⟩]
def c11_r31 : List Ins := [(iQ 121 (.mv (.t 17))),
⟨some 122, .p (.bin .add (.t 121) (.c (iV 1))), none⟩,
(iQ 17 (.mv (.t 122)))]
def c11_l2 : IR := (.seq (.seq (.reg c11_r22) (.ite (.t 120) .skip (.exit 4))) (.seq (.block 5 (.seq (.reg c11_r23) (.seq (.draw c11_r24) (.seq (.reg c11_r25) (.seq (.reg c11_r26) (.ite (.t 150) (.seq (.reg c11_r27) (.ite (.t 166) (.seq (.reg c11_r28) .ret) .skip)) (.seq (.draw c11_r29) (.ite (.t 192) (.seq (.reg c11_r30) .ret) .skip)))))))) (.reg c11_r31)))
def c11_r32 : List Ins := [⟨some 4, .p (.mv (.c (.bool true))), none⟩]
def c11 : XFn := { np := 2, nt := 193, res := [.t 4], body := (.seq (.reg c11_r0) (.seq (.seq (.reg c11_r1) (.ite (.t 30) (.seq (.reg c11_r2) .ret) .skip)) (.seq (.reg c11_r3) (.seq (.draw c11_r4) (.seq (.reg c11_r5) (.seq (.reg c11_r6) (.seq (.seq (.reg c11_r7) (.ite (.t 72) (.seq (.reg c11_r8) .ret) .skip)) (.seq (.reg c11_r9) (.seq (.seq (.reg c11_r10) (.block 0 (.loop c11_l1))) (.seq (.seq (.reg c11_r21) (.block 4 (.loop c11_l2))) (.seq (.reg c11_r32) .ret))))))))))) }
def K11 (C : CRel) : Prop := ∀ (a0 : List UInt8) (a1 : List UInt8) (r : Bool), g11 a0 a1 = some r → C 11 ⟨[.lst 1 (a0.map eU8), .lst 1 (a1.map eU8)], []⟩ ⟨.bool r, [], []⟩
theorem F11 {C : CRel} (H20 : K20 C) (H31 : K31 C) (H33 : K33 C) (H34 : K34 C) (H35 : K35 C) (H39 : K39 C) (H40 : K40 C) (H41 : K41 C) (a0 : List UInt8) (a1 : List UInt8) (r : Bool) (h0 : g11 a0 a1 = some r) : FnOK C c11 ⟨[.lst 1 (a0.map eU8), .lst 1 (a1.map eU8)], []⟩ ⟨.bool r, [], []⟩ := by
 refine fn_ (nl rfl) (seq_ (reg_ (st (mvc_ tv (oe_ (wk_ ⟨[(0, .lst 1 (a0.map eU8)), (1, .lst 1 (a1.map eU8))], [], []⟩ (fgk (by kernel_rfl)) (seq_ (seq_ (reg_ (st (mv_ rfl tv (st (c_ (clenL (e := eU8) (l0 := a0) rfl rfl tv) (st (c_ (cp_ t3 rfl tv) (st (mv_ rfl tv (st (pg_ (u := .lst 1 (a1.map eU8)) rfl (fun hg => (cmv (v := .lst 1 (a1.map eU8)) rfl tv)) (st (pg_ (u := iV (a1.length : Int)) rfl (fun hg => (clenL (e := eU8) (l0 := a1) rfl rfl (fun _ => hg))) (st (pg_ (u := .bool (decide ((a1.length : Int) > 1048576))) rfl (fun hg => (cp_ ⟨(fun _ => hg), tv, tv⟩ rfl tv)) (st (pick_ rfl rfl rfl tv (fun h => eqf h) rfl (oe_ ?_))))))))))))))))))))))))))
 obtain ⟨v1, e2, h0⟩ := bl h0
 refine wk_ ⟨[(0, .lst 1 (a0.map eU8)), (1, .lst 1 (a1.map eU8)), (30, .bool v1)], [], []⟩ (fgk (by subst e2; kernel_rfl)) (ite_ (cb := v1) rfl (fun c3 => ?_) (fun c3 => ?_))
 ·replace h0 := ip c3 h0
  refine seq_ (reg_ (st (mvc_ tv (oe_ (wk_ ⟨[(4, .bool true)], [], []⟩ (fgk (by kernel_rfl)) ?_)))))
  obtain rfl := Option.some.inj h0
  exact rt_ (ret_ rfl rfl rfl rfl rfl tv)
 ·replace h0 := inb c3 h0
  refine sk_ (wk_ ⟨[(0, .lst 1 (a0.map eU8)), (1, .lst 1 (a1.map eU8))], [], []⟩ (fgk (by kernel_rfl)) (seq_ (reg_ (st (mv_ rfl tv ?_)))))
  obtain ⟨r4, e5, h0⟩ := bnd h0
  refine st (call0_ (r := .agg (eDTable r4)) true (H39 a0 r4 e5) ⟨tv, tv⟩ rfl rfl (fun h => nomatch h) (st (alloc_ (st (stp_ rfl rfl tv rfl rfl rfl (nl rfl) (oe_ (wk_ ⟨[(1, .lst 1 (a1.map eU8)), (5, .ptr 320 0)], [(320, [iV r4.clock, iV r4.next, .lst 4 (r4.list_.map eDLease)])], []⟩ (fgk (by kernel_rfl)) (seq_ ?_))))))))
  obtain ⟨r6, e7, h0⟩ := bnd h0
  refine draw_ (dtake tv (c_ (cp_ ⟨tv, tv⟩ rfl tv) (⟨tv, (dtake tv (c_ (cp_ ⟨tv, tv⟩ rfl (nl rfl)) (⟨tv, (dtake tv (mv_ rfl tv (⟨tv, (dalt (call0_ (r := iV r6) false (H40 a1 0 40 r6 e7) ⟨tv, tv, tv, tv⟩ rfl rfl (fun _ => rfl) (dkw ⟨[(1, .lst 1 (a1.map eU8)), (5, .ptr 320 0), (33, .ptr 320 0), (34, iV r4.clock), (36, iV r6)], [(320, [iV r4.clock, iV r4.next, .lst 4 (r4.list_.map eDLease)])], []⟩ (fgk (by kernel_rfl)) ⟨[], ⟨⟨.inl tv, (again1 (cp_ ⟨tv, tv⟩ rfl (nl rfl)) rfl)⟩, ⟨.inl tv, (again1 (cp_ ⟨tv, tv⟩ rfl tv) rfl)⟩, tv⟩, tv, (dtake tv (c_ (cp_ t3 rfl tv) (⟨tv, (dtake tv (c_ (cp_ t3 rfl tv) (⟨tv, (dtake tv (mv_ rfl tv (⟨tv, (dfin (wk_ ⟨[(1, .lst 1 (a1.map eU8)), (5, .ptr 320 0), (6, iV (IntKind.i64.wrap ((IntKind.i64.wrap (r4.clock + r6)) - 5)))], [(320, [iV r4.clock, iV r4.next, .lst 4 (r4.list_.map eDLease)])], []⟩ (fgk (by kernel_rfl)) (seq_ (reg_ (st (c_ (v := .agg (eDTable r4)) (cp_ ⟨tv, tv⟩ rfl (nl rfl)) (st (mv_ rfl tv ?_))))))))⟩)))⟩)))⟩)))⟩)) dstop)⟩)))⟩)))⟩)))
  obtain ⟨r8, e9, h0⟩ := bnd h0
  refine st (call0_ (r := .tup [.agg [iV r8.1.clock, iV r8.1.next, .own 0 0 4 (r8.1.list_.map eDLease)], .own 1 0 1 (r8.2.1.map eI), iV r8.2.2]) false (H35 r4 (IntKind.i64.wrap ((IntKind.i64.wrap (r4.clock + r6)) - 5)) r8 e9) ⟨tv, tv, tv⟩ rfl rfl (fun _ => (and_ rfl (and_ rfl (and_ (fl1 (fun _ => rfl)) (and_ (fl1 (fun _ => rfl)) (and_ rfl rfl)))))) (st (mv_ rfl tv (st (c_ (cp_ ⟨tv, tv⟩ rfl tv) (st (c_ (cp_ ⟨tv, tv⟩ rfl tv) (st (c_ (cp_ ⟨tv, tv⟩ rfl tv) (st (alloc_ (st (stp_ rfl rfl tv rfl rfl rfl (nl rfl) (sw ⟨[(1, .lst 1 (a1.map eU8)), (5, .ptr 320 0), (6, iV (IntKind.i64.wrap ((IntKind.i64.wrap (r4.clock + r6)) - 5))), (7, .ptr 448 0), (44, .own 2689 0 1 (r8.2.1.map eI)), (45, iV r8.2.2)], [(320, [iV r4.clock, iV r4.next, .lst 4 (r4.list_.map eDLease)]), (448, [iV r8.1.clock, iV r8.1.next, .own 2688 0 4 (r8.1.list_.map eDLease)])], []⟩ (fgk (by kernel_rfl)) (mv_ rfl tv (st (mv_ rfl tv (oe_ (wk_ ⟨[(1, .lst 1 (a1.map eU8)), (5, .ptr 320 0), (6, iV (IntKind.i64.wrap ((IntKind.i64.wrap (r4.clock + r6)) - 5))), (7, .ptr 448 0), (8, .own 2689 0 1 (r8.2.1.map eI)), (9, iV r8.2.2)], [(320, [iV r4.clock, iV r4.next, .lst 4 (r4.list_.map eDLease)]), (448, [iV r8.1.clock, iV r8.1.next, .own 2688 0 4 (r8.1.list_.map eDLease)])], []⟩ (fgk (by kernel_rfl)) (seq_ (reg_ (st (c_ (v := .agg (eDTable r4)) (cp_ ⟨tv, tv⟩ rfl (nl rfl)) (st (mv_ rfl tv ?_)))))))))))))))))))))))))
  obtain ⟨r10, e11, h0⟩ := bnd h0
  refine st (call0_ (r := .tup [.agg [iV r10.1.clock, iV r10.1.next, .own 0 0 4 (r10.1.list_.map eDLease)], .own 1 0 1 (r10.2.1.map eI), iV r10.2.2]) false (H34 r4 (IntKind.i64.wrap ((IntKind.i64.wrap (r4.clock + r6)) - 5)) r10 e11) ⟨tv, tv, tv⟩ rfl rfl (fun _ => (and_ rfl (and_ rfl (and_ (fl1 (fun _ => rfl)) (and_ (fl1 (fun _ => rfl)) (and_ rfl rfl)))))) (st (mv_ rfl tv (st (c_ (cp_ ⟨tv, tv⟩ rfl tv) (st (c_ (cp_ ⟨tv, tv⟩ rfl tv) (st (c_ (cp_ ⟨tv, tv⟩ rfl tv) (st (alloc_ (st (stp_ rfl rfl tv rfl rfl rfl (nl rfl) (sw ⟨[(1, .lst 1 (a1.map eU8)), (5, .ptr 320 0), (7, .ptr 448 0), (8, .own 2689 0 1 (r8.2.1.map eI)), (9, iV r8.2.2), (10, .ptr 640 0), (51, .own 3137 0 1 (r10.2.1.map eI)), (52, iV r10.2.2)], [(320, [iV r4.clock, iV r4.next, .lst 4 (r4.list_.map eDLease)]), (448, [iV r8.1.clock, iV r8.1.next, .own 2688 0 4 (r8.1.list_.map eDLease)]), (640, [iV r10.1.clock, iV r10.1.next, .own 3136 0 4 (r10.1.list_.map eDLease)])], []⟩ (fgk (by kernel_rfl)) (mv_ rfl tv (st (mv_ rfl tv (oe_ (wk_ ⟨[(1, .lst 1 (a1.map eU8)), (5, .ptr 320 0), (7, .ptr 448 0), (8, .own 2689 0 1 (r8.2.1.map eI)), (9, iV r8.2.2), (10, .ptr 640 0)], [(320, [iV r4.clock, iV r4.next, .lst 4 (r4.list_.map eDLease)]), (448, [iV r8.1.clock, iV r8.1.next, .own 2688 0 4 (r8.1.list_.map eDLease)]), (640, [iV r10.1.clock, iV r10.1.next, .own 3136 0 4 (r10.1.list_.map eDLease)])], []⟩ (fgk (by kernel_rfl)) (seq_ (seq_ (reg_ (st (mv_ rfl tv (st (c_ (cp_ t3 rfl tv) (st (mv_ rfl tv (st (pg_ (u := .agg [iV r8.1.clock, iV r8.1.next, .own 2688 0 4 (r8.1.list_.map eDLease)]) rfl (fun hg => (cp_ ⟨tv, tv⟩ rfl (nl rfl))) (st (pg_ (u := .agg [iV r10.1.clock, iV r10.1.next, .own 3136 0 4 (r10.1.list_.map eDLease)]) rfl (fun hg => (cp_ ⟨tv, tv⟩ rfl (nl rfl))) ?_))))))))))))))))))))))))))))))))
  obtain ⟨r12, e13, h0⟩ := bnd h0
  refine st (callg_ (r := .bool r12) rfl false (fun hg => H41 r8.1 r10.1 r12 (ip hg e13)) ⟨(fun hg => hg), (fun hg => hg), tv⟩ (fun _ => rfl) (fun _ => rfl) (fun _ => rfl) (fun h => nomatch h) (st (pg_ (u := .bool (!r12)) rfl (fun hg => (cp_ ⟨(fun _ => hg), tv⟩ rfl tv)) (st (pick_ rfl rfl rfl tv (fun h => eqf h) rfl (st (mv_ rfl tv (st (pg_ (u := .agg [iV r8.1.clock, iV r8.1.next, .own 2688 0 4 (r8.1.list_.map eDLease)]) rfl (fun hg => (cp_ ⟨tv, tv⟩ rfl (nl rfl))) ?_)))))))))
  obtain ⟨r14, e15, h0⟩ := bnd h0
  refine sw ⟨[(1, .lst 1 (a1.map eU8)), (5, .ptr 320 0), (7, .ptr 448 0), (8, .own 2689 0 1 (r8.2.1.map eI)), (61, .bool (bif (r8.2.2 != 0) then true else (!r12))), (62, .may ((bif (r8.2.2 != 0) then true else (!r12)) == false) (.agg [iV r8.1.clock, iV r8.1.next, .own 2688 0 4 (r8.1.list_.map eDLease)]))], [(320, [iV r4.clock, iV r4.next, .lst 4 (r4.list_.map eDLease)]), (448, [iV r8.1.clock, iV r8.1.next, .own 2688 0 4 (r8.1.list_.map eDLease)])], []⟩ (fgk (by kernel_rfl)) (callg_ (r := .bool r14) rfl false (fun hg => H20 r8.1 r14 (ip hg e15)) ⟨(fun hg => hg), tv⟩ (fun _ => rfl) (fun _ => rfl) (fun _ => rfl) (fun h => nomatch h) (st (pg_ (u := .bool (!r14)) rfl (fun hg => (cp_ ⟨(fun _ => hg), tv⟩ rfl tv)) (st (pick_ rfl rfl rfl tv (fun h => eqf h) rfl (st (mv_ rfl tv (st (pg_ (u := .ptr 448 0) rfl (fun hg => (cp_ ⟨tv, tv⟩ rfl tv)) (st (pg_ (u := iV r8.1.clock) rfl (fun hg => (cp_ ⟨(fun _ => hg), tv⟩ rfl (nl rfl))) (st (pg_ (u := .ptr 320 0) rfl (fun hg => (cp_ ⟨tv, tv⟩ rfl tv)) (st (pg_ (u := iV r4.clock) rfl (fun hg => (cp_ ⟨(fun _ => hg), tv⟩ rfl (nl rfl))) (st (pg_ (u := .bool (decide (r8.1.clock < r4.clock))) rfl (fun hg => (cp_ ⟨(fun _ => hg), (fun _ => hg), tv⟩ rfl tv)) (st (pick_ rfl rfl rfl tv (fun h => eqf h) rfl (oe_ ?_))))))))))))))))))))
  obtain ⟨v16, e17, h0⟩ := bl h0
  refine wk_ ⟨[(1, .lst 1 (a1.map eU8)), (7, .ptr 448 0), (8, .own 2689 0 1 (r8.2.1.map eI)), (72, .bool v16)], [(448, [iV r8.1.clock, iV r8.1.next, .own 2688 0 4 (r8.1.list_.map eDLease)])], []⟩ (fgk (by subst e17; kernel_rfl)) (ite_ (cb := v16) rfl (fun c18 => ?_) (fun c18 => ?_))
  ·replace h0 := ip c18 h0
   refine seq_ (reg_ (st (mvc_ tv (oe_ (wk_ ⟨[(4, .bool false)], [], []⟩ (fgk (by kernel_rfl)) ?_)))))
   obtain rfl := Option.some.inj h0
   exact rt_ (ret_ rfl rfl rfl rfl rfl tv)
  ·replace h0 := inb c18 h0
   refine sk_ (wk_ ⟨[(1, .lst 1 (a1.map eU8)), (7, .ptr 448 0), (8, .own 2689 0 1 (r8.2.1.map eI))], [(448, [iV r8.1.clock, iV r8.1.next, .own 2688 0 4 (r8.1.list_.map eDLease)])], []⟩ (fgk (by kernel_rfl)) (seq_ (reg_ (st (mvc_ tv (oe_ (wk_ ⟨[(1, .lst 1 (a1.map eU8)), (7, .ptr 448 0), (8, .own 2689 0 1 (r8.2.1.map eI)), (13, iV 0)], [(448, [iV r8.1.clock, iV r8.1.next, .own 2688 0 4 (r8.1.list_.map eDLease)])], []⟩ (fgk (by kernel_rfl)) (seq_ (seq_ (reg_ (st (mvc_ tv (oe_ (wk_ ⟨[(1, .lst 1 (a1.map eU8)), (7, .ptr 448 0), (8, .own 2689 0 1 (r8.2.1.map eI)), (13, iV 0), (14, iV 0)], [(448, [iV r8.1.clock, iV r8.1.next, .own 2688 0 4 (r8.1.list_.map eDLease)])], []⟩ (fgk (by kernel_rfl)) (block_ ?_)))))))))))))))
   obtain ⟨r154, e155, h0⟩ := bnd h0
   refine loop_ (R := (fun S => .inl () = r154 ∧ S = ⟨[(1, .lst 1 (a1.map eU8)), (7, .ptr 448 0)], [(448, [iV r8.1.clock, iV r8.1.next, .own 2688 0 4 (r8.1.list_.map eDLease)])], []⟩)) (g11_l0 r8) (fun s S => match s with | (p53, p54) => S = ⟨[(1, .lst 1 (a1.map eU8)), (7, .ptr 448 0), (8, .own 2689 0 1 (r8.2.1.map eI)), (13, iV p53), (14, iV p54)], [(448, [iV r8.1.clock, iV r8.1.next, .own 2688 0 4 (r8.1.list_.map eDLease)])], []⟩) e155 ⟨[(1, .lst 1 (a1.map eU8)), (7, .ptr 448 0), (8, .own 2689 0 1 (r8.2.1.map eI)), (13, iV 0), (14, iV 0)], [(448, [iV r8.1.clock, iV r8.1.next, .own 2688 0 4 (r8.1.list_.map eDLease)])], []⟩ (fgk (by kernel_rfl)) rfl 0 (fun _ => rfl) ?_ ?_
   ·rintro S _ hfg ⟨rfl, rfl⟩
    refine wk_ ⟨[(1, .lst 1 (a1.map eU8)), (7, .ptr 448 0)], [(448, [iV r8.1.clock, iV r8.1.next, .own 2688 0 4 (r8.1.list_.map eDLease)])], []⟩ (fglk hfg (by kernel_rfl)) (seq_ (seq_ (reg_ (st (mvc_ tv (oe_ (wk_ ⟨[(1, .lst 1 (a1.map eU8)), (7, .ptr 448 0), (17, iV 0)], [(448, [iV r8.1.clock, iV r8.1.next, .own 2688 0 4 (r8.1.list_.map eDLease)])], []⟩ (fgk (by kernel_rfl)) (block_ ?_))))))))
    obtain ⟨r290, e291, h0⟩ := bnd h0
    refine loop_ (R := (fun S => .inl () = r290 ∧ S = ⟨[], [], []⟩)) (g11_l2 a1 r8) (fun s S => match s with | p189 => S = ⟨[(1, .lst 1 (a1.map eU8)), (7, .ptr 448 0), (17, iV p189)], [(448, [iV r8.1.clock, iV r8.1.next, .own 2688 0 4 (r8.1.list_.map eDLease)])], []⟩) e291 ⟨[(1, .lst 1 (a1.map eU8)), (7, .ptr 448 0), (17, iV 0)], [(448, [iV r8.1.clock, iV r8.1.next, .own 2688 0 4 (r8.1.list_.map eDLease)])], []⟩ (fgk (by kernel_rfl)) rfl 4 (fun _ => rfl) ?_ ?_
    ·rintro S _ hfg ⟨rfl, rfl⟩
     refine wk_ ⟨[], [], []⟩ (fglk hfg (by kernel_rfl)) (seq_ (reg_ (st (mvc_ tv (oe_ (wk_ ⟨[(4, .bool true)], [], []⟩ (fgk (by kernel_rfl)) ?_))))))
     obtain rfl := Option.some.inj h0
     exact rt_ (ret_ rfl rfl rfl rfl rfl tv)
    ·rintro p189 o1 _ K1 rfl h1 hx1 hK1 hE1 hR1
     refine seq_ (seq_ (reg_ (st (mv_ rfl tv (st (c_ (cp_ ⟨tv, tv⟩ rfl tv) (st (c_ (cp_ ⟨tv, tv⟩ rfl (nl rfl)) (st (c_ (clenO (e := eDLease) (l0 := r8.1.list_) rfl rfl tv) (st (c_ (cp_ t3 rfl tv) (oe_ (wk_ ⟨[(1, .lst 1 (a1.map eU8)), (7, .ptr 448 0), (17, iV p189), (120, .bool (decide (p189 < (r8.1.list_.length : Int))))], [(448, [iV r8.1.clock, iV r8.1.next, .own 2688 0 4 (r8.1.list_.map eDLease)])], []⟩ (fgk (by kernel_rfl)) (ite_ (cb := (decide (p189 < (r8.1.list_.length : Int)))) rfl (fun c224 => ?_) (fun c224 => ?_))))))))))))))))
     ·replace h1 := ip c224 h1
      refine sk_ (wk_ ⟨[(1, .lst 1 (a1.map eU8)), (7, .ptr 448 0), (17, iV p189)], [(448, [iV r8.1.clock, iV r8.1.next, .own 2688 0 4 (r8.1.list_.map eDLease)])], []⟩ (fgk (by kernel_rfl)) (seq_ (blockJ (fun S => S = ⟨[(1, .lst 1 (a1.map eU8)), (7, .ptr 448 0), (17, iV p189)], [(448, [iV r8.1.clock, iV r8.1.next, .own 2688 0 4 (r8.1.list_.map eDLease)])], []⟩ ∧ g11_j1 p189 = some o1) ?_ (fun J257 => ?_))))
      ·rintro _ ⟨rfl, h1⟩
       refine wk_ ⟨[(1, .lst 1 (a1.map eU8)), (7, .ptr 448 0), (17, iV p189)], [(448, [iV r8.1.clock, iV r8.1.next, .own 2688 0 4 (r8.1.list_.map eDLease)])], []⟩ (fgk (by kernel_rfl)) (reg_ (st (mv_ rfl tv (st (c_ (cp_ t3 rfl tv) (st (mv_ rfl tv (oe_ ?_))))))))
       obtain rfl := Option.some.inj h1
       exact hK1 _ rfl _ ⟨[(1, .lst 1 (a1.map eU8)), (7, .ptr 448 0), (17, iV (IntKind.i64.wrap (p189 + 1)))], [(448, [iV r8.1.clock, iV r8.1.next, .own 2688 0 4 (r8.1.list_.map eDLease)])], []⟩ (fgk (by kernel_rfl)) rfl
      ·refine seq_ ?_
       refine reg_ (st (c_ (cp_ ⟨tv, tv⟩ rfl tv) (st (c_ (cp_ ⟨tv, tv⟩ rfl (nl rfl)) (st (mv_ rfl tv ?_))))))
       obtain ⟨y258, e259, h1⟩ := bnd h1
       refine st (c_ (cidxO (e := eDLease) (y := y258) rfl rfl tv rfl rfl tv e259) (st (c_ (cp_ ⟨tv, tv⟩ rfl tv) ?_)))
       obtain ⟨y260, e261, h1⟩ := bnd h1
       refine st (c_ (cloadO (e := eDLease) (y := y260) (v := iV y260.id) rfl rfl tv rfl rfl e261 rfl (nl rfl) rfl) (st (mv_ rfl tv (oe_ (wk_ ⟨[(1, .lst 1 (a1.map eU8)), (7, .ptr 448 0), (17, iV p189), (18, iV y260.id)], [(448, [iV r8.1.clock, iV r8.1.next, .own 2688 0 4 (r8.1.list_.map eDLease)])], []⟩ (fgk (by kernel_rfl)) (seq_ ?_))))))
       obtain ⟨r262, e263, h1⟩ := bnd h1
       obtain ⟨r264, e265, h1⟩ := bnd h1
       refine drawJ (fun S => S = ⟨[(1, .lst 1 (a1.map eU8)), (7, .ptr 448 0), (17, iV p189), (18, iV y260.id), (19, .ptr 1216 0), (20, iV r264.2)], [(448, [iV r8.1.clock, iV r8.1.next, .own 2688 0 4 (r8.1.list_.map eDLease)]), (1216, [iV r264.1.clock, iV r264.1.next, .own 8704 0 4 (r264.1.list_.map eDLease)])], []⟩) ?_ (fun J266 => ?_)
       ·rintro _ rfl
        refine seq_ (reg_ (st (c_ (v := .agg [iV r8.1.clock, iV r8.1.next, .own 2688 0 4 (r8.1.list_.map eDLease)]) (cp_ ⟨tv, tv⟩ rfl (nl rfl)) (st (mv_ rfl tv ?_)))))
        obtain ⟨r267, e268, h1⟩ := bnd h1
        refine st (call0_ (r := .tup [.agg [iV r267.1.clock, iV r267.1.next, .own 0 0 4 (r267.1.list_.map eDLease)], iV r267.2]) false (H31 r8.1 y260.id r267 e268) ⟨tv, tv, tv⟩ rfl rfl (fun _ => (and_ rfl (and_ rfl (and_ (fl1 (fun _ => rfl)) (and_ rfl rfl))))) (st (mv_ rfl tv (st (c_ (cp_ ⟨tv, tv⟩ rfl tv) (st (c_ (cp_ ⟨tv, tv⟩ rfl tv) (st (alloc_ (st (stp_ rfl rfl tv rfl rfl rfl (nl rfl) (sw ⟨[(1, .lst 1 (a1.map eU8)), (7, .ptr 448 0), (17, iV p189), (19, .ptr 1216 0), (20, iV r264.2), (21, .ptr 1344 0), (144, iV r267.2)], [(448, [iV r8.1.clock, iV r8.1.next, .own 2688 0 4 (r8.1.list_.map eDLease)]), (1216, [iV r264.1.clock, iV r264.1.next, .own 8704 0 4 (r264.1.list_.map eDLease)]), (1344, [iV r267.1.clock, iV r267.1.next, .own 9088 0 4 (r267.1.list_.map eDLease)])], []⟩ (fgk (by kernel_rfl)) (mv_ rfl tv (oe_ (wk_ ⟨[(1, .lst 1 (a1.map eU8)), (7, .ptr 448 0), (17, iV p189), (19, .ptr 1216 0), (20, iV r264.2), (21, .ptr 1344 0), (22, iV r267.2)], [(448, [iV r8.1.clock, iV r8.1.next, .own 2688 0 4 (r8.1.list_.map eDLease)]), (1216, [iV r264.1.clock, iV r264.1.next, .own 8704 0 4 (r264.1.list_.map eDLease)]), (1344, [iV r267.1.clock, iV r267.1.next, .own 9088 0 4 (r267.1.list_.map eDLease)])], []⟩ (fgk (by kernel_rfl)) (seq_ (reg_ (st (c_ (cp_ ⟨tv, tv⟩ rfl tv) (st (c_ (cp_ ⟨tv, tv⟩ rfl (nl rfl)) (st (mv_ rfl tv ?_)))))))))))))))))))))))
        obtain ⟨y269, e270, h1⟩ := bnd h1
        refine st (c_ (cidxO (e := eDLease) (y := y269) rfl rfl tv rfl rfl tv e270) (st (c_ (cp_ ⟨tv, tv⟩ rfl tv) ?_)))
        obtain ⟨y271, e272, h1⟩ := bnd h1
        refine st (c_ (cloadO (e := eDLease) (y := y271) (v := .bool y271.queued) rfl rfl tv rfl rfl e272 rfl (nl rfl) rfl) (oe_ (wk_ ⟨[(1, .lst 1 (a1.map eU8)), (7, .ptr 448 0), (17, iV p189), (19, .ptr 1216 0), (20, iV r264.2), (21, .ptr 1344 0), (22, iV r267.2), (150, .bool y271.queued)], [(448, [iV r8.1.clock, iV r8.1.next, .own 2688 0 4 (r8.1.list_.map eDLease)]), (1216, [iV r264.1.clock, iV r264.1.next, .own 8704 0 4 (r264.1.list_.map eDLease)]), (1344, [iV r267.1.clock, iV r267.1.next, .own 9088 0 4 (r267.1.list_.map eDLease)])], []⟩ (fgk (by kernel_rfl)) (ite_ (cb := y271.queued) rfl (fun c273 => ?_) (fun c273 => ?_)))))
        ·replace h1 := ip c273 h1
         refine seq_ (reg_ (st (mv_ rfl tv (st (c_ (cp_ t3 rfl tv) (st (mv_ rfl tv (st (pg_ (u := iV r267.2) rfl (fun hg => (cmv (v := iV r267.2) rfl tv)) (st (pg_ (u := .bool (r267.2 != 0)) rfl (fun hg => (cp_ ⟨(fun _ => hg), tv, tv⟩ rfl tv)) (st (pick_ rfl rfl rfl tv (fun h => eqf h) rfl (st (mv_ rfl tv (st (pg_ (u := .ptr 1344 2) rfl (fun hg => (cp_ ⟨tv, tv⟩ rfl tv)) (st (pg_ (u := .own 9088 0 4 (r267.1.list_.map eDLease)) rfl (fun hg => (cp_ ⟨(fun _ => hg), tv⟩ rfl (nl rfl))) (st (pg_ (u := iV (r267.1.list_.length : Int)) rfl (fun hg => (clenO (e := eDLease) (l0 := r267.1.list_) rfl rfl (fun _ => hg))) (st (pg_ (u := .ptr 448 2) rfl (fun hg => (cp_ ⟨tv, tv⟩ rfl tv)) (st (pg_ (u := .own 2688 0 4 (r8.1.list_.map eDLease)) rfl (fun hg => (cp_ ⟨(fun _ => hg), tv⟩ rfl (nl rfl))) (st (pg_ (u := iV (r8.1.list_.length : Int)) rfl (fun hg => (clenO (e := eDLease) (l0 := r8.1.list_) rfl rfl (fun _ => hg))) (st (pg_ (u := iV (IntKind.i64.wrap ((r8.1.list_.length : Int) - 1))) rfl (fun hg => (cp_ ⟨(fun _ => hg), tv, tv⟩ rfl tv)) (st (pg_ (u := .bool ((r267.1.list_.length : Int) != (IntKind.i64.wrap ((r8.1.list_.length : Int) - 1)))) rfl (fun hg => (cp_ ⟨(fun _ => hg), (fun _ => hg), tv⟩ rfl tv)) (sw ⟨[(1, .lst 1 (a1.map eU8)), (7, .ptr 448 0), (17, iV p189), (157, .bool (bif (r264.2 != 13) then true else (r267.2 != 0))), (165, .may ((bif (r264.2 != 13) then true else (r267.2 != 0)) == false) (.bool ((r267.1.list_.length : Int) != (IntKind.i64.wrap ((r8.1.list_.length : Int) - 1)))))], [(448, [iV r8.1.clock, iV r8.1.next, .own 2688 0 4 (r8.1.list_.map eDLease)])], []⟩ (fgk (by kernel_rfl)) (pick_ rfl rfl rfl tv (fun h => eqf h) rfl (oe_ ?_))))))))))))))))))))))))))))))))))
         obtain ⟨v274, e275, h1⟩ := bl h1
         refine wk_ ⟨[(1, .lst 1 (a1.map eU8)), (7, .ptr 448 0), (17, iV p189), (166, .bool v274)], [(448, [iV r8.1.clock, iV r8.1.next, .own 2688 0 4 (r8.1.list_.map eDLease)])], []⟩ (fgk (by subst e275; kernel_rfl)) (ite_ (cb := v274) rfl (fun c276 => ?_) (fun c276 => ?_))
         ·replace h1 := ip c276 h1
          refine seq_ (reg_ (st (mvc_ tv (oe_ (wk_ ⟨[(4, .bool false)], [], []⟩ (fgk (by kernel_rfl)) ?_)))))
          obtain rfl := Option.some.inj h1
          obtain rfl := hx1 _ rfl
          obtain rfl := Option.some.inj h0
          exact rt_ (hR1 _ (ret_ rfl rfl rfl rfl rfl tv))
         ·replace h1 := inb c276 h1
          refine sk_ (bn_ ?_)
          exact J257 _ ⟨[(1, .lst 1 (a1.map eU8)), (7, .ptr 448 0), (17, iV p189)], [(448, [iV r8.1.clock, iV r8.1.next, .own 2688 0 4 (r8.1.list_.map eDLease)])], []⟩ (fgk (by kernel_rfl)) ⟨rfl, h1⟩
        ·replace h1 := inb c273 h1
         refine seq_ ?_
         obtain ⟨y277, e278, h1⟩ := bnd h1
         obtain ⟨y279, e280, h1⟩ := bnd h1
         obtain ⟨y281, e282, h1⟩ := bnd h1
         obtain ⟨y283, e284, h1⟩ := bnd h1
         obtain ⟨r285, e286, h1⟩ := bnd h1
         refine draw_ (dtake tv (mv_ rfl tv (⟨tv, (dtake tv (c_ (cp_ t3 rfl tv) (⟨tv, (dtake tv (mv_ rfl tv (⟨tv, (dtake tv (pg_ (u := iV r267.2) rfl (fun hg => (cmv (v := iV r267.2) rfl tv)) (⟨tv, (dtake tv (pg_ (u := .bool (r267.2 != 13)) rfl (fun hg => (cp_ ⟨(fun _ => hg), tv, tv⟩ rfl tv)) (⟨tv, (dtake tv (pick_ rfl rfl rfl tv (fun h => eqf h) rfl (⟨tv, (dtake tv (mv_ rfl tv (⟨tv, (dtake tv (pg_ (u := .ptr 1216 2) rfl (fun hg => (cp_ ⟨tv, tv⟩ rfl tv)) (⟨tv, (dtake tv (pg_ (u := .own 8704 0 4 (r264.1.list_.map eDLease)) rfl (fun hg => (cp_ ⟨(fun _ => hg), tv⟩ rfl (nl rfl))) (⟨tv, (dtake tv (pg_ (u := iV p189) rfl (fun hg => (cmv (v := iV p189) rfl tv)) (⟨tv, (dtake tv (pg_ (u := .optr 8704 4 (0 + p189.toNat) 0) rfl (fun hg => (cidxO (e := eDLease) (y := y277) rfl rfl (fun _ => hg) rfl rfl (fun _ => hg) (ip hg e278))) (⟨tv, (dtake tv (pg_ (u := .optr 8704 4 (0 + p189.toNat) 1) rfl (fun hg => (cp_ ⟨(fun _ => hg), tv⟩ rfl tv)) (⟨tv, (dtakeO (pg_ (u := iV y279.until_) rfl (fun hg => (cloadO (e := eDLease) (y := y279) (v := iV y279.until_) rfl rfl (fun _ => hg) rfl rfl (ip hg e280) rfl (nl rfl) rfl)) (⟨⟨(againg (v := iV y279.until_) rfl (fun hg => (cloadO (e := eDLease) (y := y279) (v := iV y279.until_) rfl rfl (fun _ => hg) rfl rfl (ip hg e280) rfl (nl rfl) rfl)) rfl), tv⟩, (dtake tv (pg_ (u := .ptr 448 2) rfl (fun hg => (cp_ ⟨tv, tv⟩ rfl tv)) (⟨⟨(againg (v := iV y279.until_) rfl (fun hg => (cloadO (e := eDLease) (y := y279) (v := iV y279.until_) rfl rfl (fun _ => hg) rfl rfl (ip hg e280) rfl (nl rfl) rfl)) rfl), tv⟩, (dtake tv (pg_ (u := .own 2688 0 4 (r8.1.list_.map eDLease)) rfl (fun hg => (cp_ ⟨(fun _ => hg), tv⟩ rfl (nl rfl))) (⟨⟨(againg (v := iV y279.until_) rfl (fun hg => (cloadO (e := eDLease) (y := y279) (v := iV y279.until_) rfl rfl (fun _ => hg) rfl rfl (ip hg e280) rfl (nl rfl) rfl)) rfl), tv⟩, ?_⟩)))⟩)))⟩)))⟩)))⟩)))⟩)))⟩)))⟩)))⟩)))⟩)))⟩)))⟩)))⟩)))⟩)))⟩)))
         refine dtake tv (pg_ (u := iV p189) rfl (fun hg => (cmv (v := iV p189) rfl tv)) (⟨⟨(againg (v := iV y279.until_) rfl (fun hg => (cloadO (e := eDLease) (y := y279) (v := iV y279.until_) rfl rfl (fun _ => hg) rfl rfl (ip hg e280) rfl (nl rfl) rfl)) rfl), tv⟩, (dtake tv (pg_ (u := .optr 2688 4 (0 + p189.toNat) 0) rfl (fun hg => (cidxO (e := eDLease) (y := y281) rfl rfl (fun _ => hg) rfl rfl (fun _ => hg) (ip hg e282))) (⟨⟨(againg (v := iV y279.until_) rfl (fun hg => (cloadO (e := eDLease) (y := y279) (v := iV y279.until_) rfl rfl (fun _ => hg) rfl rfl (ip hg e280) rfl (nl rfl) rfl)) rfl), tv⟩, (dtake tv (pg_ (u := .optr 2688 4 (0 + p189.toNat) 2) rfl (fun hg => (cp_ ⟨(fun _ => hg), tv⟩ rfl tv)) (⟨⟨(againg (v := iV y279.until_) rfl (fun hg => (cloadO (e := eDLease) (y := y279) (v := iV y279.until_) rfl rfl (fun _ => hg) rfl rfl (ip hg e280) rfl (nl rfl) rfl)) rfl), tv⟩, (dtakeO (pg_ (u := iV y283.cap) rfl (fun hg => (cloadO (e := eDLease) (y := y283) (v := iV y283.cap) rfl rfl (fun _ => hg) rfl rfl (ip hg e284) rfl (nl rfl) rfl)) (⟨⟨(againg (v := iV y283.cap) rfl (fun hg => (cloadO (e := eDLease) (y := y283) (v := iV y283.cap) rfl rfl (fun _ => hg) rfl rfl (ip hg e284) rfl (nl rfl) rfl)) rfl), (againg (v := iV y279.until_) rfl (fun hg => (cloadO (e := eDLease) (y := y279) (v := iV y279.until_) rfl rfl (fun _ => hg) rfl rfl (ip hg e280) rfl (nl rfl) rfl)) rfl), tv⟩, (dtake tv (pg_ (u := .bool (decide (y279.until_ > y283.cap))) rfl (fun hg => (cp_ ⟨(fun _ => hg), (fun _ => hg), tv⟩ rfl tv)) (⟨⟨(againg (v := iV y283.cap) rfl (fun hg => (cloadO (e := eDLease) (y := y283) (v := iV y283.cap) rfl rfl (fun _ => hg) rfl rfl (ip hg e284) rfl (nl rfl) rfl)) rfl), (againg (v := iV y279.until_) rfl (fun hg => (cloadO (e := eDLease) (y := y279) (v := iV y279.until_) rfl rfl (fun _ => hg) rfl rfl (ip hg e280) rfl (nl rfl) rfl)) rfl), tv⟩, (dtake tv (pick_ rfl rfl rfl tv (fun h => eqf h) rfl (⟨⟨(againg (v := iV y283.cap) rfl (fun hg => (cloadO (e := eDLease) (y := y283) (v := iV y283.cap) rfl rfl (fun _ => hg) rfl rfl (ip hg e284) rfl (nl rfl) rfl)) rfl), (againg (v := iV y279.until_) rfl (fun hg => (cloadO (e := eDLease) (y := y279) (v := iV y279.until_) rfl rfl (fun _ => hg) rfl rfl (ip hg e280) rfl (nl rfl) rfl)) rfl), tv⟩, (dtake tv (mv_ rfl tv (⟨⟨(againg (v := iV y283.cap) rfl (fun hg => (cloadO (e := eDLease) (y := y283) (v := iV y283.cap) rfl rfl (fun _ => hg) rfl rfl (ip hg e284) rfl (nl rfl) rfl)) rfl), (againg (v := iV y279.until_) rfl (fun hg => (cloadO (e := eDLease) (y := y279) (v := iV y279.until_) rfl rfl (fun _ => hg) rfl rfl (ip hg e280) rfl (nl rfl) rfl)) rfl), tv⟩, (dtake tv (pg_ (u := .agg [iV r264.1.clock, iV r264.1.next, .own 8704 0 4 (r264.1.list_.map eDLease)]) rfl (fun hg => (cp_ ⟨tv, tv⟩ rfl (nl rfl))) (⟨⟨(againg (v := iV y283.cap) rfl (fun hg => (cloadO (e := eDLease) (y := y283) (v := iV y283.cap) rfl rfl (fun _ => hg) rfl rfl (ip hg e284) rfl (nl rfl) rfl)) rfl), (againg (v := iV y279.until_) rfl (fun hg => (cloadO (e := eDLease) (y := y279) (v := iV y279.until_) rfl rfl (fun _ => hg) rfl rfl (ip hg e280) rfl (nl rfl) rfl)) rfl), tv⟩, (dalt (callg_ (r := .bool r285) rfl false (fun hg => H20 r264.1 r285 (ip hg e286)) ⟨(fun hg => hg), tv⟩ (fun _ => rfl) (fun _ => rfl) (fun _ => rfl) (fun h => nomatch h) (dkw ⟨[(1, .lst 1 (a1.map eU8)), (7, .ptr 448 0), (17, iV p189), (188, .bool (bif (bif (r264.2 != 0) then true else (r267.2 != 13)) then true else (decide (y279.until_ > y283.cap)))), (190, .may ((bif (bif (r264.2 != 0) then true else (r267.2 != 13)) then true else (decide (y279.until_ > y283.cap))) == false) (.bool r285))], [(448, [iV r8.1.clock, iV r8.1.next, .own 2688 0 4 (r8.1.list_.map eDLease)])], []⟩ (fgk (by kernel_rfl)) ⟨[], tv, tv, (dtake tv (pg_ (u := .bool (!r285)) rfl (fun hg => (cp_ ⟨(fun _ => hg), tv⟩ rfl tv)) (⟨tv, (dtake tv (pick_ rfl rfl rfl tv (fun h => eqf h) rfl (⟨tv, (dfin ?_)⟩)))⟩)))⟩)) dstop)⟩)))⟩)))⟩)))⟩)))⟩)))⟩)))⟩)))⟩))
         obtain ⟨v287, e288, h1⟩ := bl h1
         refine wk_ ⟨[(1, .lst 1 (a1.map eU8)), (7, .ptr 448 0), (17, iV p189), (192, .bool v287)], [(448, [iV r8.1.clock, iV r8.1.next, .own 2688 0 4 (r8.1.list_.map eDLease)])], []⟩ (fgk (by subst e288; kernel_rfl)) (ite_ (cb := v287) rfl (fun c289 => ?_) (fun c289 => ?_))
         ·replace h1 := ip c289 h1
          refine seq_ (reg_ (st (mvc_ tv (oe_ (wk_ ⟨[(4, .bool false)], [], []⟩ (fgk (by kernel_rfl)) ?_)))))
          obtain rfl := Option.some.inj h1
          obtain rfl := hx1 _ rfl
          obtain rfl := Option.some.inj h0
          exact rt_ (hR1 _ (ret_ rfl rfl rfl rfl rfl tv))
         ·replace h1 := inb c289 h1
          refine sk_ (bn_ ?_)
          exact J257 _ ⟨[(1, .lst 1 (a1.map eU8)), (7, .ptr 448 0), (17, iV p189)], [(448, [iV r8.1.clock, iV r8.1.next, .own 2688 0 4 (r8.1.list_.map eDLease)])], []⟩ (fgk (by kernel_rfl)) ⟨rfl, h1⟩
       ·refine dtake tv (c_ (v := .agg [iV r8.1.clock, iV r8.1.next, .own 2688 0 4 (r8.1.list_.map eDLease)]) (cp_ ⟨tv, tv⟩ rfl (nl rfl)) ?_)
        refine ⟨tv, (dtake tv (mv_ rfl tv (⟨tv, (dtake tv (mv_ rfl tv (⟨tv, (dtake tv (mv_ rfl tv (⟨tv, (dalt (call0_ (r := iV r262) false (H40 a1 p189 50 r262 e263) ⟨tv, tv, tv, tv⟩ rfl rfl (fun _ => rfl) ?_) ?_)⟩)))⟩)))⟩)))⟩
        ·refine dkw ⟨[(1, .lst 1 (a1.map eU8)), (7, .ptr 448 0), (17, iV p189), (18, iV y260.id), (130, .agg [iV r8.1.clock, iV r8.1.next, .own 2688 0 4 (r8.1.list_.map eDLease)]), (131, iV y260.id), (134, iV r262)], [(448, [iV r8.1.clock, iV r8.1.next, .own 2688 0 4 (r8.1.list_.map eDLease)])], []⟩ (fgk (by kernel_rfl)) ⟨[], ⟨⟨.inl tv, (again1 (cmv (v := iV y260.id) rfl tv) rfl)⟩, ⟨.inl tv, (again1 (cp_ ⟨tv, tv⟩ rfl (nl rfl)) rfl)⟩, tv⟩, tv, ?_⟩
         refine dtake tv (c_ (cp_ t3 rfl tv) (⟨tv, (dalt (call0_ (r := .tup [.agg [iV r264.1.clock, iV r264.1.next, .own 0 0 4 (r264.1.list_.map eDLease)], iV r264.2]) false (H33 r8.1 y260.id (IntKind.i64.wrap (1 + r262)) r264 e265) ⟨tv, tv, tv, tv⟩ rfl rfl (fun _ => (and_ rfl (and_ rfl (and_ (fl1 (fun _ => rfl)) (and_ rfl rfl))))) ?_) ?_)⟩))
         ·refine dkw ⟨[(1, .lst 1 (a1.map eU8)), (7, .ptr 448 0), (17, iV p189), (18, iV y260.id), (136, .tup [.agg [iV r264.1.clock, iV r264.1.next, .own 8704 0 4 (r264.1.list_.map eDLease)], iV r264.2])], [(448, [iV r8.1.clock, iV r8.1.next, .own 2688 0 4 (r8.1.list_.map eDLease)])], []⟩ (fgk (by kernel_rfl)) ⟨[], tv, tv, ?_⟩
          refine dtake tv (mv_ rfl tv (⟨tv, (dtake tv (c_ (cp_ ⟨tv, tv⟩ rfl tv) (⟨tv, (dtake tv (c_ (cp_ ⟨tv, tv⟩ rfl tv) (⟨tv, (dalt (alloc_ (dk0 ⟨[], ⟨⟨.inl tv, (again1 (cp_ ⟨tv, tv⟩ rfl tv) rfl)⟩, ⟨.inl tv, (again1 (cp_ ⟨tv, tv⟩ rfl tv) rfl)⟩, ⟨.inl tv, (again1 (cmv (v := .tup [.agg [iV r264.1.clock, iV r264.1.next, .own 8704 0 4 (r264.1.list_.map eDLease)], iV r264.2]) rfl tv) rfl)⟩, tv⟩, tv, (dalt (stp_ rfl rfl tv rfl rfl rfl (nl rfl) (dk0 ⟨[], ⟨⟨.inl tv, (again1 (cp_ ⟨tv, tv⟩ rfl tv) rfl)⟩, tv⟩, tv, (dtake tv (mv_ rfl tv (⟨tv, (dfin ?_)⟩)))⟩)) dstop)⟩)) dstop)⟩)))⟩)))⟩))
          exact J266 _ ⟨[(1, .lst 1 (a1.map eU8)), (7, .ptr 448 0), (17, iV p189), (18, iV y260.id), (19, .ptr 1216 0), (20, iV r264.2)], [(448, [iV r8.1.clock, iV r8.1.next, .own 2688 0 4 (r8.1.list_.map eDLease)]), (1216, [iV r264.1.clock, iV r264.1.next, .own 8704 0 4 (r264.1.list_.map eDLease)])], []⟩ (fgk (by kernel_rfl)) rfl
         ·refine dalt (alloc_ ?_) dstop
          refine dk0 ⟨[], ⟨⟨.inl tv, (again1 (cp_ t3 rfl tv) rfl)⟩, ⟨.inl tv, (again1 (cmv (v := iV y260.id) rfl tv) rfl)⟩, ⟨.inl tv, (again1 (cp_ ⟨tv, tv⟩ rfl (nl rfl)) rfl)⟩, tv⟩, tv, (dalt (call0_ (r := .tup [.agg [iV r264.1.clock, iV r264.1.next, .own 0 0 4 (r264.1.list_.map eDLease)], iV r264.2]) false (H33 r8.1 y260.id (IntKind.i64.wrap (1 + r262)) r264 e265) ⟨tv, tv, tv, tv⟩ rfl rfl (fun _ => (and_ rfl (and_ rfl (and_ (fl1 (fun _ => rfl)) (and_ rfl rfl))))) (dkw ⟨[(1, .lst 1 (a1.map eU8)), (7, .ptr 448 0), (17, iV p189), (18, iV y260.id), (19, .ptr 1216 0), (136, .tup [.agg [iV r264.1.clock, iV r264.1.next, .own 8704 0 4 (r264.1.list_.map eDLease)], iV r264.2])], [(448, [iV r8.1.clock, iV r8.1.next, .own 2688 0 4 (r8.1.list_.map eDLease)]), (1216, [iV 0, iV 0, .own 1219 0 4 (([] : List DLease).map eDLease)])], []⟩ (fgk (by kernel_rfl)) ⟨[], tv, tv, (dtake tv (mv_ rfl tv (⟨tv, (dtake tv (c_ (cp_ ⟨tv, tv⟩ rfl tv) (⟨tv, (dtake tv (c_ (cp_ ⟨tv, tv⟩ rfl tv) (⟨tv, (dalt (stp_ rfl rfl tv rfl rfl rfl (nl rfl) (dk0 ⟨[], ⟨⟨.inl tv, (again1 (cp_ ⟨tv, tv⟩ rfl tv) rfl)⟩, tv⟩, tv, (dtake tv (mv_ rfl tv (⟨tv, (dfin ?_)⟩)))⟩)) dstop)⟩)))⟩)))⟩)))⟩)) dstop)⟩
          exact J266 _ ⟨[(1, .lst 1 (a1.map eU8)), (7, .ptr 448 0), (17, iV p189), (18, iV y260.id), (19, .ptr 1216 0), (20, iV r264.2)], [(448, [iV r8.1.clock, iV r8.1.next, .own 2688 0 4 (r8.1.list_.map eDLease)]), (1216, [iV r264.1.clock, iV r264.1.next, .own 8704 0 4 (r264.1.list_.map eDLease)])], []⟩ (fgk (by kernel_rfl)) rfl
        ·refine dalt (alloc_ ?_) dstop
         refine dk0 ⟨[], ⟨⟨.inl tv, (again1 (cmv (v := iV p189) rfl tv) rfl)⟩, ⟨.inl tv, (again1 (cmv (v := .lst 1 (a1.map eU8)) rfl tv) rfl)⟩, ⟨.inl tv, (again1 (cmv (v := iV y260.id) rfl tv) rfl)⟩, ⟨.inl tv, (again1 (cp_ ⟨tv, tv⟩ rfl (nl rfl)) rfl)⟩, tv⟩, tv, (dalt (call0_ (r := iV r262) false (H40 a1 p189 50 r262 e263) ⟨tv, tv, tv, tv⟩ rfl rfl (fun _ => rfl) (dkw ⟨[(1, .lst 1 (a1.map eU8)), (7, .ptr 448 0), (17, iV p189), (18, iV y260.id), (19, .ptr 1216 0), (130, .agg [iV r8.1.clock, iV r8.1.next, .own 2688 0 4 (r8.1.list_.map eDLease)]), (131, iV y260.id), (134, iV r262)], [(448, [iV r8.1.clock, iV r8.1.next, .own 2688 0 4 (r8.1.list_.map eDLease)]), (1216, [iV 0, iV 0, .own 1219 0 4 (([] : List DLease).map eDLease)])], []⟩ (fgk (by kernel_rfl)) ⟨[], ⟨⟨.inl tv, (again1 (cmv (v := iV y260.id) rfl tv) rfl)⟩, ⟨.inl tv, (again1 (cp_ ⟨tv, tv⟩ rfl (nl rfl)) rfl)⟩, tv⟩, tv, (dtake tv (c_ (cp_ t3 rfl tv) (⟨tv, (dalt (call0_ (r := .tup [.agg [iV r264.1.clock, iV r264.1.next, .own 0 0 4 (r264.1.list_.map eDLease)], iV r264.2]) false (H33 r8.1 y260.id (IntKind.i64.wrap (1 + r262)) r264 e265) ⟨tv, tv, tv, tv⟩ rfl rfl (fun _ => (and_ rfl (and_ rfl (and_ (fl1 (fun _ => rfl)) (and_ rfl rfl))))) (dkw ⟨[(1, .lst 1 (a1.map eU8)), (7, .ptr 448 0), (17, iV p189), (18, iV y260.id), (19, .ptr 1216 0), (136, .tup [.agg [iV r264.1.clock, iV r264.1.next, .own 8704 0 4 (r264.1.list_.map eDLease)], iV r264.2])], [(448, [iV r8.1.clock, iV r8.1.next, .own 2688 0 4 (r8.1.list_.map eDLease)]), (1216, [iV 0, iV 0, .own 1219 0 4 (([] : List DLease).map eDLease)])], []⟩ (fgk (by kernel_rfl)) ⟨[], tv, tv, (dtake tv (mv_ rfl tv (⟨tv, (dtake tv (c_ (cp_ ⟨tv, tv⟩ rfl tv) (⟨tv, (dtake tv (c_ (cp_ ⟨tv, tv⟩ rfl tv) (⟨tv, (dalt (stp_ rfl rfl tv rfl rfl rfl (nl rfl) (dk0 ⟨[], ⟨⟨.inl tv, (again1 (cp_ ⟨tv, tv⟩ rfl tv) rfl)⟩, tv⟩, tv, (dtake tv (mv_ rfl tv (⟨tv, (dfin ?_)⟩)))⟩)) dstop)⟩)))⟩)))⟩)))⟩)) dstop)⟩)))⟩)) dstop)⟩
         exact J266 _ ⟨[(1, .lst 1 (a1.map eU8)), (7, .ptr 448 0), (17, iV p189), (18, iV y260.id), (19, .ptr 1216 0), (20, iV r264.2)], [(448, [iV r8.1.clock, iV r8.1.next, .own 2688 0 4 (r8.1.list_.map eDLease)]), (1216, [iV r264.1.clock, iV r264.1.next, .own 8704 0 4 (r264.1.list_.map eDLease)])], []⟩ (fgk (by kernel_rfl)) rfl
     ·replace h1 := inb c224 h1
      obtain rfl := Option.some.inj h1
      obtain rfl := hx1 _ rfl
      refine exQ rfl ?_
      exact hE1 _ ⟨[], [], []⟩ (fgk (by kernel_rfl)) ⟨rfl, rfl⟩
   ·rintro ⟨p53, p54⟩ o1 _ K1 rfl h1 hx1 hK1 hE1 hR1
    refine seq_ (seq_ (reg_ (st (mv_ rfl tv (st (mv_ rfl tv (st (c_ (clenO (e := eI) (l0 := r8.2.1) rfl rfl tv) (st (c_ (cp_ t3 rfl tv) (oe_ (wk_ ⟨[(1, .lst 1 (a1.map eU8)), (7, .ptr 448 0), (8, .own 2689 0 1 (r8.2.1.map eI)), (13, iV p53), (14, iV p54), (76, .bool (decide (p54 < (r8.2.1.length : Int))))], [(448, [iV r8.1.clock, iV r8.1.next, .own 2688 0 4 (r8.1.list_.map eDLease)])], []⟩ (fgk (by kernel_rfl)) (ite_ (cb := (decide (p54 < (r8.2.1.length : Int)))) rfl (fun c91 => ?_) (fun c91 => ?_))))))))))))))
    ·replace h1 := ip c91 h1
     refine sk_ (wk_ ⟨[(1, .lst 1 (a1.map eU8)), (7, .ptr 448 0), (8, .own 2689 0 1 (r8.2.1.map eI)), (13, iV p53), (14, iV p54)], [(448, [iV r8.1.clock, iV r8.1.next, .own 2688 0 4 (r8.1.list_.map eDLease)])], []⟩ (fgk (by kernel_rfl)) (seq_ (block_ (seq_ (reg_ (st (mvc_ tv (oe_ (wk_ ⟨[(1, .lst 1 (a1.map eU8)), (7, .ptr 448 0), (8, .own 2689 0 1 (r8.2.1.map eI)), (13, iV p53), (14, iV p54), (15, iV 0)], [(448, [iV r8.1.clock, iV r8.1.next, .own 2688 0 4 (r8.1.list_.map eDLease)])], []⟩ (fgk (by kernel_rfl)) (block_ ?_))))))))))
     obtain ⟨r152, e153, h1⟩ := bnd h1
     refine loop_ (R := (fun S => ∃ p124 : Int, .inl p124 = r152 ∧ S = ⟨[(1, .lst 1 (a1.map eU8)), (7, .ptr 448 0), (8, .own 2689 0 1 (r8.2.1.map eI)), (13, iV p124), (14, iV p54)], [(448, [iV r8.1.clock, iV r8.1.next, .own 2688 0 4 (r8.1.list_.map eDLease)])], []⟩)) (g11_l1 r8 p54) (fun s S => match s with | (p106, p107) => S = ⟨[(1, .lst 1 (a1.map eU8)), (7, .ptr 448 0), (8, .own 2689 0 1 (r8.2.1.map eI)), (13, iV p106), (14, iV p54), (15, iV p107)], [(448, [iV r8.1.clock, iV r8.1.next, .own 2688 0 4 (r8.1.list_.map eDLease)])], []⟩) e153 ⟨[(1, .lst 1 (a1.map eU8)), (7, .ptr 448 0), (8, .own 2689 0 1 (r8.2.1.map eI)), (13, iV p53), (14, iV p54), (15, iV 0)], [(448, [iV r8.1.clock, iV r8.1.next, .own 2688 0 4 (r8.1.list_.map eDLease)])], []⟩ (fgk (by kernel_rfl)) rfl 2 (fun _ => rfl) ?_ ?_
     ·rintro S _ hfg ⟨p124, rfl, rfl⟩
      refine bn_ (wk_ ⟨[(1, .lst 1 (a1.map eU8)), (7, .ptr 448 0), (8, .own 2689 0 1 (r8.2.1.map eI)), (13, iV p124), (14, iV p54)], [(448, [iV r8.1.clock, iV r8.1.next, .own 2688 0 4 (r8.1.list_.map eDLease)])], []⟩ (fglk hfg (by kernel_rfl)) (reg_ (st (mv_ rfl tv (st (c_ (cp_ t3 rfl tv) (st (mv_ rfl tv (oe_ ?_)))))))))
      obtain rfl := Option.some.inj h1
      exact hK1 _ rfl _ ⟨[(1, .lst 1 (a1.map eU8)), (7, .ptr 448 0), (8, .own 2689 0 1 (r8.2.1.map eI)), (13, iV p124), (14, iV (IntKind.i64.wrap (p54 + 1)))], [(448, [iV r8.1.clock, iV r8.1.next, .own 2688 0 4 (r8.1.list_.map eDLease)])], []⟩ (fgk (by kernel_rfl)) rfl
     ·rintro ⟨p106, p107⟩ o2 _ K2 rfl h2 hx2 hK2 hE2 hR2
      refine seq_ (seq_ (reg_ (st (mv_ rfl tv (st (c_ (cp_ ⟨tv, tv⟩ rfl tv) (st (c_ (cp_ ⟨tv, tv⟩ rfl (nl rfl)) (st (c_ (clenO (e := eDLease) (l0 := r8.1.list_) rfl rfl tv) (st (c_ (cp_ t3 rfl tv) (oe_ (wk_ ⟨[(1, .lst 1 (a1.map eU8)), (7, .ptr 448 0), (8, .own 2689 0 1 (r8.2.1.map eI)), (13, iV p106), (14, iV p54), (15, iV p107), (83, .bool (decide (p107 < (r8.1.list_.length : Int))))], [(448, [iV r8.1.clock, iV r8.1.next, .own 2688 0 4 (r8.1.list_.map eDLease)])], []⟩ (fgk (by kernel_rfl)) (ite_ (cb := (decide (p107 < (r8.1.list_.length : Int)))) rfl (fun c125 => ?_) (fun c125 => ?_))))))))))))))))
      ·replace h2 := ip c125 h2
       refine sk_ (wk_ ⟨[(1, .lst 1 (a1.map eU8)), (7, .ptr 448 0), (8, .own 2689 0 1 (r8.2.1.map eI)), (13, iV p106), (14, iV p54), (15, iV p107)], [(448, [iV r8.1.clock, iV r8.1.next, .own 2688 0 4 (r8.1.list_.map eDLease)])], []⟩ (fgk (by kernel_rfl)) (seq_ (blockJ (fun S => ∃ p138 : Int, S = ⟨[(1, .lst 1 (a1.map eU8)), (7, .ptr 448 0), (8, .own 2689 0 1 (r8.2.1.map eI)), (13, iV p138), (14, iV p54), (15, iV p107)], [(448, [iV r8.1.clock, iV r8.1.next, .own 2688 0 4 (r8.1.list_.map eDLease)])], []⟩ ∧ g11_j0 p107 p138 = some o2) ?_ (fun J139 => ?_))))
       ·rintro _ ⟨p138, rfl, h2⟩
        refine wk_ ⟨[(1, .lst 1 (a1.map eU8)), (7, .ptr 448 0), (8, .own 2689 0 1 (r8.2.1.map eI)), (13, iV p138), (14, iV p54), (15, iV p107)], [(448, [iV r8.1.clock, iV r8.1.next, .own 2688 0 4 (r8.1.list_.map eDLease)])], []⟩ (fgk (by kernel_rfl)) (reg_ (st (mv_ rfl tv (st (c_ (cp_ t3 rfl tv) (st (mv_ rfl tv (oe_ ?_))))))))
        obtain rfl := Option.some.inj h2
        exact hK2 _ rfl _ ⟨[(1, .lst 1 (a1.map eU8)), (7, .ptr 448 0), (8, .own 2689 0 1 (r8.2.1.map eI)), (13, iV p138), (14, iV p54), (15, iV (IntKind.i64.wrap (p107 + 1)))], [(448, [iV r8.1.clock, iV r8.1.next, .own 2688 0 4 (r8.1.list_.map eDLease)])], []⟩ (fgk (by kernel_rfl)) rfl
       ·refine seq_ ?_
        refine reg_ (st (c_ (cp_ ⟨tv, tv⟩ rfl tv) (st (c_ (cp_ ⟨tv, tv⟩ rfl (nl rfl)) (st (mv_ rfl tv ?_))))))
        obtain ⟨y140, e141, h2⟩ := bnd h2
        refine st (c_ (cidxO (e := eDLease) (y := y140) rfl rfl tv rfl rfl tv e141) ?_)
        obtain ⟨y142, e143, h2⟩ := bnd h2
        refine st (c_ (v := .agg (eDLease y142)) (cloadO (e := eDLease) (y := y142) (v := .agg (eDLease y142)) rfl rfl tv rfl rfl e143 rfl (nl rfl) rfl) (st (alloc_ (st (stp_ rfl rfl tv rfl rfl rfl (nl rfl) (oe_ (wk_ ⟨[(1, .lst 1 (a1.map eU8)), (7, .ptr 448 0), (8, .own 2689 0 1 (r8.2.1.map eI)), (13, iV p106), (14, iV p54), (15, iV p107), (16, .ptr 1024 0)], [(448, [iV r8.1.clock, iV r8.1.next, .own 2688 0 4 (r8.1.list_.map eDLease)]), (1024, [iV y142.id, iV y142.until_, iV y142.cap, .bool y142.queued])], []⟩ (fgk (by kernel_rfl)) (seq_ ?_))))))))
        obtain ⟨y144, e145, h2⟩ := bnd h2
        obtain ⟨y146, e147, h2⟩ := bnd h2
        refine draw_ (dtake tv (c_ (cp_ ⟨tv, tv⟩ rfl tv) (⟨tv, (dtake tv (c_ (cp_ ⟨tv, tv⟩ rfl (nl rfl)) (⟨tv, (dtake tv (mv_ rfl tv (⟨tv, (dtake tv (mv_ rfl tv (⟨tv, (dtake tv (c_ (cidxO (e := eI) (y := y144) rfl rfl tv rfl rfl tv e145) (⟨tv, (dtakeO (c_ (cloadO (e := eI) (y := y146) (v := iV y146) rfl rfl tv rfl rfl e147 rfl (nl rfl) rfl) (⟨⟨(again1 (cloadO (e := eI) (y := y146) (v := iV y146) rfl rfl tv rfl rfl e147 rfl (nl rfl) rfl) rfl), tv⟩, (dtake tv (c_ (cp_ t3 rfl tv) (⟨⟨(again1 (cloadO (e := eI) (y := y146) (v := iV y146) rfl rfl tv rfl rfl e147 rfl (nl rfl) rfl) rfl), tv⟩, (dfin (wk_ ⟨[(1, .lst 1 (a1.map eU8)), (7, .ptr 448 0), (8, .own 2689 0 1 (r8.2.1.map eI)), (13, iV p106), (14, iV p54), (15, iV p107), (16, .ptr 1024 0), (97, .bool (y142.id == y146))], [(448, [iV r8.1.clock, iV r8.1.next, .own 2688 0 4 (r8.1.list_.map eDLease)]), (1024, [iV y142.id, iV y142.until_, iV y142.cap, .bool y142.queued])], []⟩ (fgk (by kernel_rfl)) (ite_ (cb := (y142.id == y146)) rfl (fun c148 => ?_) (fun c148 => ?_))))⟩)))⟩)))⟩)))⟩)))⟩)))⟩)))⟩)))
        ·replace h2 := ip c148 h2
         refine seq_ (seq_ (reg_ (st (c_ (cp_ ⟨tv, tv⟩ rfl tv) (st (c_ (cp_ ⟨tv, tv⟩ rfl (nl rfl)) (st (c_ (cp_ ⟨tv, tv⟩ rfl tv) (st (mv_ rfl tv (st (pg_ (u := .ptr 1024 1) rfl (fun hg => (cp_ ⟨tv, tv⟩ rfl tv)) (st (pg_ (u := iV y142.until_) rfl (fun hg => (cp_ ⟨(fun _ => hg), tv⟩ rfl (nl rfl))) (st (pg_ (u := .ptr 448 0) rfl (fun hg => (cp_ ⟨tv, tv⟩ rfl tv)) (st (pg_ (u := iV r8.1.clock) rfl (fun hg => (cp_ ⟨(fun _ => hg), tv⟩ rfl (nl rfl))) (st (pg_ (u := .bool (decide (y142.until_ > r8.1.clock))) rfl (fun hg => (cp_ ⟨(fun _ => hg), (fun _ => hg), tv⟩ rfl tv)) (st (pick_ rfl rfl rfl tv (fun h => eqf h) rfl (st (mv_ rfl tv (st (pg_ (u := .ptr 1024 1) rfl (fun hg => (cp_ ⟨tv, tv⟩ rfl tv)) (st (pg_ (u := iV y142.until_) rfl (fun hg => (cp_ ⟨(fun _ => hg), tv⟩ rfl (nl rfl))) (st (pg_ (u := iV p106) rfl (fun hg => (cmv (v := iV p106) rfl tv)) (st (pg_ (u := .bool (decide (y142.until_ < p106))) rfl (fun hg => (cp_ ⟨(fun _ => hg), (fun _ => hg), tv⟩ rfl tv)) (sw ⟨[(1, .lst 1 (a1.map eU8)), (7, .ptr 448 0), (8, .own 2689 0 1 (r8.2.1.map eI)), (14, iV p54), (15, iV p107), (16, .ptr 1024 0), (108, .bool (bif (!y142.queued) then true else (decide (y142.until_ > r8.1.clock)))), (112, .may ((bif (!y142.queued) then true else (decide (y142.until_ > r8.1.clock))) == false) (.bool (decide (y142.until_ < p106))))], [(448, [iV r8.1.clock, iV r8.1.next, .own 2688 0 4 (r8.1.list_.map eDLease)]), (1024, [iV y142.id, iV y142.until_, iV y142.cap, .bool y142.queued])], []⟩ (fgk (by kernel_rfl)) (pick_ rfl rfl rfl tv (fun h => eqf h) rfl (oe_ ?_)))))))))))))))))))))))))))))))))))
         obtain ⟨v149, e150, h2⟩ := bl h2
         refine wk_ ⟨[(1, .lst 1 (a1.map eU8)), (7, .ptr 448 0), (8, .own 2689 0 1 (r8.2.1.map eI)), (14, iV p54), (15, iV p107), (16, .ptr 1024 0), (113, .bool v149)], [(448, [iV r8.1.clock, iV r8.1.next, .own 2688 0 4 (r8.1.list_.map eDLease)]), (1024, [iV y142.id, iV y142.until_, iV y142.cap, .bool y142.queued])], []⟩ (fgk (by subst e150; kernel_rfl)) (ite_ (cb := v149) rfl (fun c151 => ?_) (fun c151 => ?_))
         ·replace h2 := ip c151 h2
          refine seq_ (reg_ (st (mvc_ tv (oe_ (wk_ ⟨[(4, .bool false)], [], []⟩ (fgk (by kernel_rfl)) ?_)))))
          obtain rfl := Option.some.inj h2
          obtain rfl := hx2 _ rfl
          obtain rfl := Option.some.inj h1
          obtain rfl := hx1 _ rfl
          obtain rfl := Option.some.inj h0
          exact rt_ (hR2 _ (hR1 _ (ret_ rfl rfl rfl rfl rfl tv)))
         ·replace h2 := inb c151 h2
          refine sk_ (wk_ ⟨[(1, .lst 1 (a1.map eU8)), (7, .ptr 448 0), (8, .own 2689 0 1 (r8.2.1.map eI)), (14, iV p54), (15, iV p107), (16, .ptr 1024 0)], [(448, [iV r8.1.clock, iV r8.1.next, .own 2688 0 4 (r8.1.list_.map eDLease)]), (1024, [iV y142.id, iV y142.until_, iV y142.cap, .bool y142.queued])], []⟩ (fgk (by kernel_rfl)) (reg_ (st (c_ (cp_ ⟨tv, tv⟩ rfl tv) (st (c_ (cp_ ⟨tv, tv⟩ rfl (nl rfl)) (st (mv_ rfl tv (oe_ (bn_ ?_))))))))))
          exact J139 _ ⟨[(1, .lst 1 (a1.map eU8)), (7, .ptr 448 0), (8, .own 2689 0 1 (r8.2.1.map eI)), (13, iV y142.until_), (14, iV p54), (15, iV p107)], [(448, [iV r8.1.clock, iV r8.1.next, .own 2688 0 4 (r8.1.list_.map eDLease)])], []⟩ (fgk (by kernel_rfl)) ⟨_, rfl, h2⟩
        ·replace h2 := inb c148 h2
         refine sk_ (bn_ ?_)
         exact J139 _ ⟨[(1, .lst 1 (a1.map eU8)), (7, .ptr 448 0), (8, .own 2689 0 1 (r8.2.1.map eI)), (13, iV p106), (14, iV p54), (15, iV p107)], [(448, [iV r8.1.clock, iV r8.1.next, .own 2688 0 4 (r8.1.list_.map eDLease)])], []⟩ (fgk (by kernel_rfl)) ⟨_, rfl, h2⟩
      ·replace h2 := inb c125 h2
       obtain rfl := Option.some.inj h2
       obtain rfl := hx2 _ rfl
       refine exQ rfl ?_
       exact hE2 _ ⟨[(1, .lst 1 (a1.map eU8)), (7, .ptr 448 0), (8, .own 2689 0 1 (r8.2.1.map eI)), (13, iV p106), (14, iV p54)], [(448, [iV r8.1.clock, iV r8.1.next, .own 2688 0 4 (r8.1.list_.map eDLease)])], []⟩ (fgk (by kernel_rfl)) ⟨_, rfl, rfl⟩
    ·replace h1 := inb c91 h1
     obtain rfl := Option.some.inj h1
     obtain rfl := hx1 _ rfl
     refine exQ rfl ?_
     exact hE1 _ ⟨[(1, .lst 1 (a1.map eU8)), (7, .ptr 448 0)], [(448, [iV r8.1.clock, iV r8.1.next, .own 2688 0 4 (r8.1.list_.map eDLease)])], []⟩ (fgk (by kernel_rfl)) ⟨rfl, rfl⟩
end Go.Ev
