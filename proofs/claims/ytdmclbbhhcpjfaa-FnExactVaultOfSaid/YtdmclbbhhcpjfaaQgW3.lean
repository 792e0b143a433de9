/- The walks of functions: the code comes to the answers that QgD tells. Written by a program of ours. -/
import Derived.Test.YtdmclbbhhcpjfaaQgW2
set_option linter.all false
set_option maxHeartbeats 4000000
set_option linter.unusedVariables false
set_option maxRecDepth 100000
namespace Go.Ev

/- (*loop.example/g00149/impl.Vault).take -/
def c323_r0 : List Ins := [⟨some 3, .box (.t 1), none⟩,
⟨some 4, .p (.mv (.c (.bool false))), none⟩]
def c323_r1 : List Ins := [(iQ 24 (.fieldA (.t 3) 0)),
(iQ 25 (.load (.t 24) 1 false)),
⟨some 26, .call 363 [(.t 25), (.c (.str [105, 110, 116, 101, 110, 116, 47]))], none⟩,
(iQ 23 (.mv (.t 26))),
(iQ 27 (.ext (.t 23) 0)),
(iQ 28 (.ext (.t 23) 1)),
(iQ 5 (.mv (.t 27))),
(iQ 6 (.mv (.t 28)))]
def c323_r2 : List Ins := [(iQ 29 (.mv (.t 6)))]
def c323_r3 : List Ins := [(iQ 31 (.mv (.t 5))),
⟨some 32, .call 364 [(.t 31)], none⟩,
(iQ 30 (.mv (.t 32))),
(iQ 33 (.ext (.t 30) 0)),
(iQ 34 (.ext (.t 30) 1)),
(iQ 35 (.ext (.t 30) 2)),
(iQ 7 (.mv (.t 33))),
(iQ 8 (.mv (.t 34))),
(iQ 9 (.mv (.t 35)))]
def c323_r4 : DP := (.take (iQ 36 (.mv (.t 0)))
(.take (iQ 37 (.mv (.t 0)))
(.take (iQ 38 (.nilc (.t 37)))
(.take (iQ 39 (.fieldA (.t 38) 3))
(.take (iQ 40 (.load (.t 39) 1 false))
(.take (iQ 41 (.mv (.t 7)))
(.take (iQ 42 (.fieldA (.t 3) 1))
(.take (iQ 43 (.load (.t 42) 1 false))
(.take ⟨some 44, .p (.bin .eql (.t 43) (.c (.str [117, 110, 100, 111]))), none⟩
(.take ⟨some 45, .p (.build [(iV 0), (.bool false)] [(0, 1, (.t 41)), (1, 1, (.t 44))]), none⟩
(.alt [(iQ 40 (.load (.t 39) 1 false)), (iQ 39 (.fieldA (.t 38) 3)), (iQ 38 (.nilc (.t 37))), (iQ 37 (.mv (.t 0))), (iQ 36 (.mv (.t 0)))] ⟨some 46, .mkS 2 [(iV 0), (.bool false)] 1 [(0, (.t 45))], none⟩
(.alt [(iQ 36 (.mv (.t 0)))] ⟨some 47, .app 2 16 (.t 40) (.t 46), none⟩
(.take (iQ 48 (.nilc (.t 36)))
(.take (iQ 49 (.fieldA (.t 48) 3))
(.alt [] ⟨none, .store (.t 49) (.t 47) 1, none⟩
.fin
.stop)))
.stop)
.stop)))))))))))
def c323_r5 : List Ins := [(iQ 50 (.mv (.t 9))),
(iQ 51 (.mv (.t 50))),
⟨some 52, .p (.mv (.t 8)), some (51, true)⟩,
⟨some 53, .p (.bin .eql (.t 52) (.c (.str []))), some (51, true)⟩,
⟨some 54, .pick (.t 51) (.t 53) (.c (.bool false)), none⟩,
(iQ 55 (.mv (.t 54))),
⟨some 56, .p (.fieldA (.t 3) 1), some (55, true)⟩,
⟨some 57, .p (.load (.t 56) 1 false), some (55, true)⟩,
⟨some 58, .p (.bin .eql (.t 57) (.c (.str [117, 110, 100, 111]))), some (55, true)⟩,
⟨some 59, .p (.mv (.t 58)), some (55, true)⟩,
⟨some 60, .p (.fieldA (.t 3) 1), some (59, false)⟩,
⟨some 61, .p (.load (.t 60) 1 false), some (59, false)⟩,
⟨some 62, .p (.bin .eql (.t 61) (.c (.str [98, 101, 103, 117, 110]))), some (59, false)⟩,
⟨some 63, .pick (.t 59) (.c (.bool true)) (.t 62), some (55, true)⟩,
⟨some 64, .pick (.t 55) (.t 63) (.c (.bool false)), none⟩,
(iQ 4 (.mv (.t 64)))]
def c323_r6 : List Ins := [(iQ 66 (.fieldA (.t 3) 0)),
(iQ 67 (.load (.t 66) 1 false)),
⟨some 68, .call 363 [(.t 67), (.c (.str [108, 101, 97, 115, 101, 47]))], none⟩,
(iQ 65 (.mv (.t 68))),
(iQ 69 (.ext (.t 65) 0)),
(iQ 70 (.ext (.t 65) 1)),
(iQ 10 (.mv (.t 69))),
(iQ 11 (.mv (.t 70)))]
def c323_r7 : List Ins := [(iQ 71 (.mv (.t 11)))]
def c323_r8 : List Ins := [(iQ 73 (.mv (.t 10))),
⟨some 74, .call 364 [(.t 73)], none⟩,
(iQ 72 (.mv (.t 74))),
(iQ 75 (.ext (.t 72) 0)),
(iQ 76 (.ext (.t 72) 1)),
(iQ 77 (.ext (.t 72) 2)),
(iQ 12 (.mv (.t 75))),
(iQ 13 (.mv (.t 76))),
(iQ 14 (.mv (.t 77)))]
def c323_r9 : List Ins := [(iQ 79 (.fieldA (.t 3) 1)),
(iQ 80 (.load (.t 79) 1 false)),
⟨some 81, .call 365 [(.t 80), (.c (.str [113, 117, 101, 117, 101, 100])), (.c (.str [108, 105, 118, 101]))], none⟩,
(iQ 78 (.mv (.t 81))),
(iQ 82 (.ext (.t 78) 0)),
(iQ 83 (.ext (.t 78) 1)),
(iQ 84 (.ext (.t 78) 2)),
(iQ 85 (.ext (.t 78) 3)),
(iQ 15 (.mv (.t 82))),
(iQ 16 (.mv (.t 83))),
(iQ 17 (.mv (.t 84))),
(iQ 18 (.mv (.t 85)))]
def c323_r10 : List Ins := [(iQ 86 (.mv (.t 0))),
(iQ 87 (.mv (.t 0))),
(iQ 88 (.nilc (.t 87))),
(iQ 89 (.fieldA (.t 88) 0)),
(iQ 90 (.fieldA (.t 89) 2)),
(iQ 91 (.load (.t 90) 1 false)),
(iQ 92 (.mv (.t 12))),
(iQ 93 (.mv (.t 15))),
(iQ 94 (.mv (.t 16))),
(iQ 95 (.mv (.t 17))),
⟨some 96, .p (.build [(iV 0), (iV 0), (iV 0), (.bool false)] [(0, 1, (.t 92)), (1, 1, (.t 93)), (2, 1, (.t 94)), (3, 1, (.t 95))]), none⟩,
⟨some 97, .mkS 4 [(iV 0), (iV 0), (iV 0), (.bool false)] 1 [(0, (.t 96))], none⟩,
⟨some 98, .app 4 32 (.t 91) (.t 97), none⟩,
(iQ 99 (.nilc (.t 86))),
(iQ 100 (.fieldA (.t 99) 0)),
(iQ 101 (.fieldA (.t 100) 2)),
⟨none, .store (.t 101) (.t 98) 1, none⟩]
def c323_r11 : List Ins := [(iQ 102 (.mv (.t 14))),
(iQ 103 (.mv (.t 102))),
⟨some 104, .p (.mv (.t 13)), some (103, true)⟩,
⟨some 105, .p (.bin .eql (.t 104) (.c (.str []))), some (103, true)⟩,
⟨some 106, .pick (.t 103) (.t 105) (.c (.bool false)), none⟩,
(iQ 107 (.mv (.t 106))),
⟨some 108, .p (.mv (.t 18)), some (107, true)⟩,
⟨some 109, .pick (.t 107) (.t 108) (.c (.bool false)), none⟩,
(iQ 4 (.mv (.t 109)))]
def c323_r12 : List Ins := [(iQ 111 (.fieldA (.t 3) 1)),
(iQ 112 (.load (.t 111) 1 false)),
⟨some 113, .call 365 [(.t 112), (.c (.str [115, 101, 97, 108, 101, 100])), (.c (.str [111, 112, 101, 110]))], none⟩,
(iQ 110 (.mv (.t 113))),
(iQ 114 (.ext (.t 110) 0)),
(iQ 115 (.ext (.t 110) 1)),
(iQ 116 (.ext (.t 110) 2)),
(iQ 117 (.ext (.t 110) 3)),
(iQ 19 (.mv (.t 114))),
(iQ 20 (.mv (.t 115))),
(iQ 21 (.mv (.t 116))),
(iQ 22 (.mv (.t 117)))]
def c323_r13 : List Ins := [(iQ 118 (.mv (.t 0))),
(iQ 119 (.mv (.t 0))),
(iQ 120 (.mv (.t 0))),
(iQ 121 (.mv (.t 19))),
(iQ 122 (.mv (.t 20))),
(iQ 123 (.mv (.t 21))),
(iQ 124 (.nilc (.t 118))),
(iQ 125 (.fieldA (.t 124) 0)),
(iQ 126 (.fieldA (.t 125) 0)),
⟨none, .store (.t 126) (.t 121) 1, none⟩,
(iQ 127 (.nilc (.t 119))),
(iQ 128 (.fieldA (.t 127) 0)),
(iQ 129 (.fieldA (.t 128) 1)),
⟨none, .store (.t 129) (.t 122) 1, none⟩,
(iQ 130 (.nilc (.t 120))),
(iQ 131 (.fieldA (.t 130) 5)),
⟨none, .store (.t 131) (.t 123) 1, none⟩]
def c323_r14 : List Ins := [(iQ 132 (.fieldA (.t 3) 0)),
(iQ 133 (.load (.t 132) 1 false)),
⟨some 134, .p (.bin .eql (.t 133) (.c (.str [118, 97, 117, 108, 116]))), none⟩,
(iQ 135 (.mv (.t 134))),
⟨some 136, .p (.mv (.t 22)), some (135, true)⟩,
⟨some 137, .pick (.t 135) (.t 136) (.c (.bool false)), none⟩,
(iQ 4 (.mv (.t 137)))]
def c323 : XFn := { np := 2, nt := 138, res := [.t 4], body := (.seq (.reg c323_r0) (.seq (.seq (.reg c323_r1) (.seq (.reg c323_r2) (.ite (.t 29) (.seq (.reg c323_r3) (.seq (.draw c323_r4) (.seq (.reg c323_r5) .ret))) .skip))) (.seq (.seq (.reg c323_r6) (.seq (.reg c323_r7) (.ite (.t 71) (.seq (.reg c323_r8) (.seq (.reg c323_r9) (.seq (.reg c323_r10) (.seq (.reg c323_r11) .ret)))) .skip))) (.seq (.reg c323_r12) (.seq (.reg c323_r13) (.seq (.reg c323_r14) .ret)))))) }
def K323 (C : CRel) : Prop := ∀ (a0 : DVault) (a1 : DPair) (r : Bool × DVault), g323 a0 a1 = some r → C 323 ⟨[.ptr 1048576 0, .agg (eDPair a1)], [[iV a0.table.clock, iV a0.table.next, .own 1024000 0 4 (a0.table.list_.map eDLease), .own 1024001 0 2 (a0.intents.map eDIntent), .own 1024002 0 1 (a0.accounts.map eI), .bool a0.sealed]]⟩ ⟨.bool r.1, [[iV r.2.table.clock, iV r.2.table.next, .own 0 0 4 (r.2.table.list_.map eDLease), .own 1 0 2 (r.2.intents.map eDIntent), .own 2 0 1 (r.2.accounts.map eI), .bool r.2.sealed]], []⟩
theorem F323 {C : CRel} (H363 : K363 C) (H364 : K364 C) (H365 : K365 C) (a0 : DVault) (a1 : DPair) (r : Bool × DVault) (h0 : g323 a0 a1 = some r) : FnOK C c323 ⟨[.ptr 1048576 0, .agg (eDPair a1)], [[iV a0.table.clock, iV a0.table.next, .own 1024000 0 4 (a0.table.list_.map eDLease), .own 1024001 0 2 (a0.intents.map eDIntent), .own 1024002 0 1 (a0.accounts.map eI), .bool a0.sealed]]⟩ ⟨.bool r.1, [[iV r.2.table.clock, iV r.2.table.next, .own 0 0 4 (r.2.table.list_.map eDLease), .own 1 0 2 (r.2.intents.map eDIntent), .own 2 0 1 (r.2.accounts.map eI), .bool r.2.sealed]], []⟩ := by
 refine fn_ (nl rfl) (seq_ (reg_ (st (box_ rfl tv rfl (st (mvc_ tv (oe_ (wk_ ⟨[(0, .ptr 1048576 0), (3, .ptr 192 0)], [(192, [.str a1.key, .str a1.value]), (1048576, [iV a0.table.clock, iV a0.table.next, .own 1024000 0 4 (a0.table.list_.map eDLease), .own 1024001 0 2 (a0.intents.map eDIntent), .own 1024002 0 1 (a0.accounts.map eI), .bool a0.sealed])], []⟩ (fgk (by kernel_rfl)) (seq_ (seq_ (reg_ (st (c_ (cp_ ⟨tv, tv⟩ rfl tv) (st (c_ (cp_ ⟨tv, tv⟩ rfl (nl rfl)) ?_)))))))))))))))
 obtain ⟨r1, e2, h0⟩ := bnd h0
 refine st (call0_ (r := .tup [.str r1.1, .bool r1.2]) false (H363 a1.key ([105, 110, 116, 101, 110, 116, 47] : List UInt8) r1 e2) ⟨tv, tv, tv⟩ rfl rfl (fun _ => rfl) (st (mv_ rfl tv (st (c_ (cp_ ⟨tv, tv⟩ rfl tv) (st (c_ (cp_ ⟨tv, tv⟩ rfl tv) (st (mv_ rfl tv (st (mv_ rfl tv (oe_ (wk_ ⟨[(0, .ptr 1048576 0), (3, .ptr 192 0), (5, .str r1.1), (6, .bool r1.2)], [(192, [.str a1.key, .str a1.value]), (1048576, [iV a0.table.clock, iV a0.table.next, .own 1024000 0 4 (a0.table.list_.map eDLease), .own 1024001 0 2 (a0.intents.map eDIntent), .own 1024002 0 1 (a0.accounts.map eI), .bool a0.sealed])], []⟩ (fgk (by kernel_rfl)) (seq_ (reg_ (st (mv_ rfl tv (oe_ (wk_ ⟨[(0, .ptr 1048576 0), (3, .ptr 192 0), (5, .str r1.1), (29, .bool r1.2)], [(192, [.str a1.key, .str a1.value]), (1048576, [iV a0.table.clock, iV a0.table.next, .own 1024000 0 4 (a0.table.list_.map eDLease), .own 1024001 0 2 (a0.intents.map eDIntent), .own 1024002 0 1 (a0.accounts.map eI), .bool a0.sealed])], []⟩ (fgk (by kernel_rfl)) (ite_ (cb := r1.2) rfl (fun c3 => ?_) (fun c3 => ?_)))))))))))))))))))))
 ·replace h0 := ip c3 h0
  refine seq_ (reg_ (st (mv_ rfl tv ?_)))
  obtain ⟨r4, e5, h0⟩ := bnd h0
  refine st (call0_ (r := .tup [iV r4.1, .str r4.2.1, .bool r4.2.2]) false (H364 r1.1 r4 e5) ⟨tv, tv⟩ rfl rfl (fun _ => rfl) (st (mv_ rfl tv (st (c_ (cp_ ⟨tv, tv⟩ rfl tv) (st (c_ (cp_ ⟨tv, tv⟩ rfl tv) (st (c_ (cp_ ⟨tv, tv⟩ rfl tv) (st (mv_ rfl tv (st (mv_ rfl tv (st (mv_ rfl tv (oe_ (wk_ ⟨[(0, .ptr 1048576 0), (3, .ptr 192 0), (7, iV r4.1), (8, .str r4.2.1), (9, .bool r4.2.2)], [(192, [.str a1.key, .str a1.value]), (1048576, [iV a0.table.clock, iV a0.table.next, .own 1024000 0 4 (a0.table.list_.map eDLease), .own 1024001 0 2 (a0.intents.map eDIntent), .own 1024002 0 1 (a0.accounts.map eI), .bool a0.sealed])], []⟩ (fgk (by kernel_rfl)) (seq_ ?_))))))))))))))))))
  obtain ⟨c6, h0⟩ := grd h0
  refine draw_ (dtake tv (mv_ rfl tv (⟨tv, (dtake tv (mv_ rfl tv (⟨tv, (dtake tv (c_ (cp_ ⟨tv, tv⟩ rfl tv) (⟨tv, (dtake tv (c_ (cp_ ⟨tv, tv⟩ rfl tv) (⟨tv, (dtake tv (c_ (cp_ ⟨tv, tv⟩ rfl (nl rfl)) (⟨tv, (dtake tv (mv_ rfl tv (⟨tv, (dtake tv (c_ (cp_ ⟨tv, tv⟩ rfl tv) (⟨tv, (dtake tv (c_ (cp_ ⟨tv, tv⟩ rfl (nl rfl)) (⟨tv, (dtake tv (c_ (cp_ t3 rfl tv) (⟨tv, (dtake tv (c_ (v := .agg [iV r4.1, .bool (a1.value == ([117, 110, 100, 111] : List UInt8))]) (cp_ ⟨tv, tv, tv⟩ rfl ⟨⟨rfl, rfl, nl rfl⟩, ⟨rfl, rfl, nl rfl⟩, tv⟩) (⟨tv, (dalt (mkS_ ⟨tv, tv⟩ ⟨⟨nl rfl, rfl, rfl⟩, tv⟩ (dk0 ⟨[], ⟨⟨.inl tv, (again1 (cp_ ⟨tv, tv⟩ rfl (nl rfl)) rfl)⟩, ⟨.inl tv, (again1 (cp_ ⟨tv, tv⟩ rfl tv) rfl)⟩, ⟨.inl tv, (again1 (cp_ ⟨tv, tv⟩ rfl tv) rfl)⟩, ⟨.inl tv, (again1 (cmv (v := .ptr 1048576 0) rfl tv) rfl)⟩, ⟨.inl tv, (again1 (cmv (v := .ptr 1048576 0) rfl tv) rfl)⟩, tv⟩, tv, (dalt (app_ (e := eDIntent) (l0 := a0.intents) (l1 := ([(DIntent.mk r4.1 (a1.value == ([117, 110, 100, 111] : List UInt8)))] : List DIntent)) rfl rfl tv rfl (by decide) c6 (dkw ⟨[(0, .ptr 1048576 0), (3, .ptr 192 0), (8, .str r4.2.1), (9, .bool r4.2.2), (36, .ptr 1048576 0), (47, .own 1024001 0 2 ((a0.intents ++ ([(DIntent.mk r4.1 (a1.value == ([117, 110, 100, 111] : List UInt8)))] : List DIntent)).map eDIntent))], [(192, [.str a1.key, .str a1.value]), (1048576, [iV a0.table.clock, iV a0.table.next, .own 1024000 0 4 (a0.table.list_.map eDLease), .undef, .own 1024002 0 1 (a0.accounts.map eI), .bool a0.sealed])], []⟩ (fgk (by kernel_rfl)) ⟨[], ⟨⟨.inl tv, (again1 (cmv (v := .ptr 1048576 0) rfl tv) rfl)⟩, tv⟩, tv, (dtake tv (c_ (cp_ ⟨tv, tv⟩ rfl tv) (⟨tv, (dtake tv (c_ (cp_ ⟨tv, tv⟩ rfl tv) (⟨tv, (dalt (stp_ rfl rfl tv rfl rfl rfl (nl rfl) (dk0 ⟨[], tv, tv, ?_⟩)) dstop)⟩)))⟩)))⟩)) dstop)⟩)) dstop)⟩)))⟩)))⟩)))⟩)))⟩)))⟩)))⟩)))⟩)))⟩)))⟩)))
  refine dfin ?_
  obtain ⟨v7, e8, h0⟩ := bl h0
  refine wk_ ⟨[(3, .ptr 192 0), (8, .str r4.2.1), (9, .bool r4.2.2)], [(192, [.str a1.key, .str a1.value]), (1048576, [iV a0.table.clock, iV a0.table.next, .own 1024000 0 4 (a0.table.list_.map eDLease), .own 1024001 0 2 (v7.map eDIntent), .own 1024002 0 1 (a0.accounts.map eI), .bool a0.sealed])], []⟩ (fgk (by subst e8; kernel_rfl)) (seq_ (reg_ (st (mv_ rfl tv (st (mv_ rfl tv (st (pg_ (u := .str r4.2.1) rfl (fun hg => (cmv (v := .str r4.2.1) rfl tv)) (st (pg_ (u := .bool (r4.2.1 == ([] : List UInt8))) rfl (fun hg => (cp_ ⟨(fun _ => hg), tv, tv⟩ rfl tv)) (st (pick_ rfl rfl rfl (fun h => eqt h) tv rfl (st (mv_ rfl tv (st (pg_ (u := .ptr 192 1) rfl (fun hg => (cp_ ⟨tv, tv⟩ rfl tv)) (st (pg_ (u := .str a1.value) rfl (fun hg => (cp_ ⟨(fun _ => hg), tv⟩ rfl (nl rfl))) (st (pg_ (u := .bool (a1.value == ([117, 110, 100, 111] : List UInt8))) rfl (fun hg => (cp_ ⟨(fun _ => hg), tv, tv⟩ rfl tv)) (st (pg_ (u := .bool (a1.value == ([117, 110, 100, 111] : List UInt8))) rfl (fun hg => (cmv (v := .may ((bif r4.2.2 then (r4.2.1 == ([] : List UInt8)) else false) == true) (.bool (a1.value == ([117, 110, 100, 111] : List UInt8)))) rfl (fun _ => hg))) (st (pg_ (u := .ptr 192 1) rfl (fun hg => (cp_ ⟨tv, tv⟩ rfl tv)) (st (pg_ (u := .str a1.value) rfl (fun hg => (cp_ ⟨(fun _ => hg), tv⟩ rfl (nl rfl))) (st (pg_ (u := .bool (a1.value == ([98, 101, 103, 117, 110] : List UInt8))) rfl (fun hg => (cp_ ⟨(fun _ => hg), tv, tv⟩ rfl tv)) (st (pickg_ (u := .bool (bif (a1.value == ([117, 110, 100, 111] : List UInt8)) then true else (a1.value == ([98, 101, 103, 117, 110] : List UInt8)))) rfl (fun hg => cpick rfl rfl (fun _ => hg) rfl rfl tv (fun h => and_ hg (eqf h)) rfl) (st (pick_ rfl rfl rfl (fun h => eqt h) tv rfl (sw ⟨[(64, .bool (bif (bif r4.2.2 then (r4.2.1 == ([] : List UInt8)) else false) then (bif (a1.value == ([117, 110, 100, 111] : List UInt8)) then true else (a1.value == ([98, 101, 103, 117, 110] : List UInt8))) else false))], [(1048576, [iV a0.table.clock, iV a0.table.next, .own 1024000 0 4 (a0.table.list_.map eDLease), .own 1024001 0 2 (v7.map eDIntent), .own 1024002 0 1 (a0.accounts.map eI), .bool a0.sealed])], []⟩ (fgk (by kernel_rfl)) (mv_ rfl tv (oe_ ?_)))))))))))))))))))))))))))))))))))
  obtain ⟨v9, e10, h0⟩ := bl h0
  refine wk_ ⟨[(4, .bool v9)], [(1048576, [iV a0.table.clock, iV a0.table.next, .own 1024000 0 4 (a0.table.list_.map eDLease), .own 1024001 0 2 (v7.map eDIntent), .own 1024002 0 1 (a0.accounts.map eI), .bool a0.sealed])], []⟩ (fgk (by subst e10; kernel_rfl)) ?_
  obtain rfl := Option.some.inj h0
  exact rt_ (ret_ rfl rfl rfl rfl rfl tv)
 ·replace h0 := inb c3 h0
  refine sk_ (wk_ ⟨[(0, .ptr 1048576 0), (3, .ptr 192 0)], [(192, [.str a1.key, .str a1.value]), (1048576, [iV a0.table.clock, iV a0.table.next, .own 1024000 0 4 (a0.table.list_.map eDLease), .own 1024001 0 2 (a0.intents.map eDIntent), .own 1024002 0 1 (a0.accounts.map eI), .bool a0.sealed])], []⟩ (fgk (by kernel_rfl)) (seq_ (seq_ (reg_ (st (c_ (cp_ ⟨tv, tv⟩ rfl tv) (st (c_ (cp_ ⟨tv, tv⟩ rfl (nl rfl)) ?_))))))))
  obtain ⟨r11, e12, h0⟩ := bnd h0
  refine st (call0_ (r := .tup [.str r11.1, .bool r11.2]) false (H363 a1.key ([108, 101, 97, 115, 101, 47] : List UInt8) r11 e12) ⟨tv, tv, tv⟩ rfl rfl (fun _ => rfl) (st (mv_ rfl tv (st (c_ (cp_ ⟨tv, tv⟩ rfl tv) (st (c_ (cp_ ⟨tv, tv⟩ rfl tv) (st (mv_ rfl tv (st (mv_ rfl tv (oe_ (wk_ ⟨[(0, .ptr 1048576 0), (3, .ptr 192 0), (10, .str r11.1), (11, .bool r11.2)], [(192, [.str a1.key, .str a1.value]), (1048576, [iV a0.table.clock, iV a0.table.next, .own 1024000 0 4 (a0.table.list_.map eDLease), .own 1024001 0 2 (a0.intents.map eDIntent), .own 1024002 0 1 (a0.accounts.map eI), .bool a0.sealed])], []⟩ (fgk (by kernel_rfl)) (seq_ (reg_ (st (mv_ rfl tv (oe_ (wk_ ⟨[(0, .ptr 1048576 0), (3, .ptr 192 0), (10, .str r11.1), (71, .bool r11.2)], [(192, [.str a1.key, .str a1.value]), (1048576, [iV a0.table.clock, iV a0.table.next, .own 1024000 0 4 (a0.table.list_.map eDLease), .own 1024001 0 2 (a0.intents.map eDIntent), .own 1024002 0 1 (a0.accounts.map eI), .bool a0.sealed])], []⟩ (fgk (by kernel_rfl)) (ite_ (cb := r11.2) rfl (fun c13 => ?_) (fun c13 => ?_)))))))))))))))))))))
  ·replace h0 := ip c13 h0
   refine seq_ (reg_ (st (mv_ rfl tv ?_)))
   obtain ⟨r14, e15, h0⟩ := bnd h0
   refine st (call0_ (r := .tup [iV r14.1, .str r14.2.1, .bool r14.2.2]) false (H364 r11.1 r14 e15) ⟨tv, tv⟩ rfl rfl (fun _ => rfl) (st (mv_ rfl tv (st (c_ (cp_ ⟨tv, tv⟩ rfl tv) (st (c_ (cp_ ⟨tv, tv⟩ rfl tv) (st (c_ (cp_ ⟨tv, tv⟩ rfl tv) (st (mv_ rfl tv (st (mv_ rfl tv (st (mv_ rfl tv (oe_ (wk_ ⟨[(0, .ptr 1048576 0), (3, .ptr 192 0), (12, iV r14.1), (13, .str r14.2.1), (14, .bool r14.2.2)], [(192, [.str a1.key, .str a1.value]), (1048576, [iV a0.table.clock, iV a0.table.next, .own 1024000 0 4 (a0.table.list_.map eDLease), .own 1024001 0 2 (a0.intents.map eDIntent), .own 1024002 0 1 (a0.accounts.map eI), .bool a0.sealed])], []⟩ (fgk (by kernel_rfl)) (seq_ (reg_ (st (c_ (cp_ ⟨tv, tv⟩ rfl tv) (st (c_ (cp_ ⟨tv, tv⟩ rfl (nl rfl)) ?_)))))))))))))))))))))))
   obtain ⟨r16, e17, h0⟩ := bnd h0
   refine st (call0_ (r := .tup [iV r16.1, iV r16.2.1, .bool r16.2.2.1, .bool r16.2.2.2]) false (H365 a1.value ([113, 117, 101, 117, 101, 100] : List UInt8) ([108, 105, 118, 101] : List UInt8) r16 e17) ⟨tv, tv, tv, tv⟩ rfl rfl (fun _ => rfl) (st (mv_ rfl tv (st (c_ (cp_ ⟨tv, tv⟩ rfl tv) (st (c_ (cp_ ⟨tv, tv⟩ rfl tv) (st (c_ (cp_ ⟨tv, tv⟩ rfl tv) (st (c_ (cp_ ⟨tv, tv⟩ rfl tv) (st (mv_ rfl tv (st (mv_ rfl tv (st (mv_ rfl tv (st (mv_ rfl tv (oe_ (wk_ ⟨[(0, .ptr 1048576 0), (12, iV r14.1), (13, .str r14.2.1), (14, .bool r14.2.2), (15, iV r16.1), (16, iV r16.2.1), (17, .bool r16.2.2.1), (18, .bool r16.2.2.2)], [(1048576, [iV a0.table.clock, iV a0.table.next, .own 1024000 0 4 (a0.table.list_.map eDLease), .own 1024001 0 2 (a0.intents.map eDIntent), .own 1024002 0 1 (a0.accounts.map eI), .bool a0.sealed])], []⟩ (fgk (by kernel_rfl)) (seq_ (reg_ (st (mv_ rfl tv (st (mv_ rfl tv (st (c_ (cp_ ⟨tv, tv⟩ rfl tv) (st (c_ (cp_ ⟨tv, tv⟩ rfl tv) (st (c_ (cp_ ⟨tv, tv⟩ rfl tv) (st (c_ (cp_ ⟨tv, tv⟩ rfl (nl rfl)) (st (mv_ rfl tv (st (mv_ rfl tv (st (mv_ rfl tv (st (mv_ rfl tv (st (c_ (v := .agg [iV r14.1, iV r16.1, iV r16.2.1, .bool r16.2.2.1]) (cp_ ⟨tv, tv, tv, tv, tv⟩ rfl ⟨⟨rfl, rfl, nl rfl⟩, ⟨rfl, rfl, nl rfl⟩, ⟨rfl, rfl, nl rfl⟩, ⟨rfl, rfl, nl rfl⟩, tv⟩) (st (mkS_ ⟨tv, tv⟩ ⟨⟨nl rfl, rfl, rfl⟩, tv⟩ ?_)))))))))))))))))))))))))))))))))))))))))))))))
   obtain ⟨c18, h0⟩ := grd h0
   refine st (app_ (e := eDLease) (l0 := a0.table.list_) (l1 := ([(DLease.mk r14.1 r16.1 r16.2.1 r16.2.2.1)] : List DLease)) rfl rfl tv rfl (by decide) c18 (sw ⟨[(13, .str r14.2.1), (14, .bool r14.2.2), (18, .bool r16.2.2.2), (86, .ptr 1048576 0), (98, .own 1024000 0 4 ((a0.table.list_ ++ ([(DLease.mk r14.1 r16.1 r16.2.1 r16.2.2.1)] : List DLease)).map eDLease))], [(1048576, [iV a0.table.clock, iV a0.table.next, .undef, .own 1024001 0 2 (a0.intents.map eDIntent), .own 1024002 0 1 (a0.accounts.map eI), .bool a0.sealed])], []⟩ (fgk (by kernel_rfl)) (c_ (cp_ ⟨tv, tv⟩ rfl tv) (st (c_ (cp_ ⟨tv, tv⟩ rfl tv) (st (c_ (cp_ ⟨tv, tv⟩ rfl tv) (st (stp_ rfl rfl tv rfl rfl rfl (nl rfl) (oe_ ?_))))))))))
   obtain ⟨v19, e20, h0⟩ := bl h0
   refine wk_ ⟨[(13, .str r14.2.1), (14, .bool r14.2.2), (18, .bool r16.2.2.2)], [(1048576, [iV a0.table.clock, iV a0.table.next, .own 1024000 0 4 (v19.map eDLease), .own 1024001 0 2 (a0.intents.map eDIntent), .own 1024002 0 1 (a0.accounts.map eI), .bool a0.sealed])], []⟩ (fgk (by subst e20; kernel_rfl)) (seq_ (reg_ (st (mv_ rfl tv (st (mv_ rfl tv (st (pg_ (u := .str r14.2.1) rfl (fun hg => (cmv (v := .str r14.2.1) rfl tv)) (st (pg_ (u := .bool (r14.2.1 == ([] : List UInt8))) rfl (fun hg => (cp_ ⟨(fun _ => hg), tv, tv⟩ rfl tv)) (st (pick_ rfl rfl rfl (fun h => eqt h) tv rfl (st (mv_ rfl tv (st (pg_ (u := .bool r16.2.2.2) rfl (fun hg => (cmv (v := .bool r16.2.2.2) rfl tv)) (st (pick_ rfl rfl rfl (fun h => eqt h) tv rfl (st (mv_ rfl tv (oe_ ?_)))))))))))))))))))))
   obtain ⟨v21, e22, h0⟩ := bl h0
   refine wk_ ⟨[(4, .bool v21)], [(1048576, [iV a0.table.clock, iV a0.table.next, .own 1024000 0 4 (v19.map eDLease), .own 1024001 0 2 (a0.intents.map eDIntent), .own 1024002 0 1 (a0.accounts.map eI), .bool a0.sealed])], []⟩ (fgk (by subst e22; kernel_rfl)) ?_
   obtain rfl := Option.some.inj h0
   exact rt_ (ret_ rfl rfl rfl rfl rfl tv)
  ·replace h0 := inb c13 h0
   refine sk_ (wk_ ⟨[(0, .ptr 1048576 0), (3, .ptr 192 0)], [(192, [.str a1.key, .str a1.value]), (1048576, [iV a0.table.clock, iV a0.table.next, .own 1024000 0 4 (a0.table.list_.map eDLease), .own 1024001 0 2 (a0.intents.map eDIntent), .own 1024002 0 1 (a0.accounts.map eI), .bool a0.sealed])], []⟩ (fgk (by kernel_rfl)) (seq_ (reg_ (st (c_ (cp_ ⟨tv, tv⟩ rfl tv) (st (c_ (cp_ ⟨tv, tv⟩ rfl (nl rfl)) ?_)))))))
   obtain ⟨r23, e24, h0⟩ := bnd h0
   refine st (call0_ (r := .tup [iV r23.1, iV r23.2.1, .bool r23.2.2.1, .bool r23.2.2.2]) false (H365 a1.value ([115, 101, 97, 108, 101, 100] : List UInt8) ([111, 112, 101, 110] : List UInt8) r23 e24) ⟨tv, tv, tv, tv⟩ rfl rfl (fun _ => rfl) (st (mv_ rfl tv (st (c_ (cp_ ⟨tv, tv⟩ rfl tv) (st (c_ (cp_ ⟨tv, tv⟩ rfl tv) (st (c_ (cp_ ⟨tv, tv⟩ rfl tv) (st (c_ (cp_ ⟨tv, tv⟩ rfl tv) (st (mv_ rfl tv (st (mv_ rfl tv (st (mv_ rfl tv (st (mv_ rfl tv (oe_ (wk_ ⟨[(0, .ptr 1048576 0), (3, .ptr 192 0), (19, iV r23.1), (20, iV r23.2.1), (21, .bool r23.2.2.1), (22, .bool r23.2.2.2)], [(192, [.str a1.key, .str a1.value]), (1048576, [iV a0.table.clock, iV a0.table.next, .own 1024000 0 4 (a0.table.list_.map eDLease), .own 1024001 0 2 (a0.intents.map eDIntent), .own 1024002 0 1 (a0.accounts.map eI), .bool a0.sealed])], []⟩ (fgk (by kernel_rfl)) (seq_ (reg_ (st (mv_ rfl tv (st (mv_ rfl tv (st (mv_ rfl tv (st (mv_ rfl tv (st (mv_ rfl tv (st (mv_ rfl tv (st (c_ (cp_ ⟨tv, tv⟩ rfl tv) (st (c_ (cp_ ⟨tv, tv⟩ rfl tv) (st (c_ (cp_ ⟨tv, tv⟩ rfl tv) (st (stp_ rfl rfl tv rfl rfl rfl (nl rfl) (st (c_ (cp_ ⟨tv, tv⟩ rfl tv) (st (c_ (cp_ ⟨tv, tv⟩ rfl tv) (st (c_ (cp_ ⟨tv, tv⟩ rfl tv) (sw ⟨[(3, .ptr 192 0), (22, .bool r23.2.2.2), (120, .ptr 1048576 0), (122, iV r23.2.1), (123, .bool r23.2.2.1), (129, .ptr 1048576 1)], [(192, [.str a1.key, .str a1.value]), (1048576, [iV r23.1, iV a0.table.next, .own 1024000 0 4 (a0.table.list_.map eDLease), .own 1024001 0 2 (a0.intents.map eDIntent), .own 1024002 0 1 (a0.accounts.map eI), .bool a0.sealed])], []⟩ (fgk (by kernel_rfl)) (stp_ rfl rfl tv rfl rfl rfl (nl rfl) (st (c_ (cp_ ⟨tv, tv⟩ rfl tv) (st (c_ (cp_ ⟨tv, tv⟩ rfl tv) (st (stp_ rfl rfl tv rfl rfl rfl (nl rfl) ?_)))))))))))))))))))))))))))))))))))))))))))))))))))))))))
   refine oe_ (wk_ ⟨[(3, .ptr 192 0), (22, .bool r23.2.2.2)], [(192, [.str a1.key, .str a1.value]), (1048576, [iV r23.1, iV r23.2.1, .own 1024000 0 4 (a0.table.list_.map eDLease), .own 1024001 0 2 (a0.intents.map eDIntent), .own 1024002 0 1 (a0.accounts.map eI), .bool r23.2.2.1])], []⟩ (fgk (by kernel_rfl)) (seq_ (reg_ (st (c_ (cp_ ⟨tv, tv⟩ rfl tv) (st (c_ (cp_ ⟨tv, tv⟩ rfl (nl rfl)) (st (c_ (cp_ t3 rfl tv) (st (mv_ rfl tv (st (pg_ (u := .bool r23.2.2.2) rfl (fun hg => (cmv (v := .bool r23.2.2.2) rfl tv)) (st (pick_ rfl rfl rfl (fun h => eqt h) tv rfl (st (mv_ rfl tv (oe_ ?_))))))))))))))))))
   obtain ⟨v25, e26, h0⟩ := bl h0
   refine wk_ ⟨[(4, .bool v25)], [(1048576, [iV r23.1, iV r23.2.1, .own 1024000 0 4 (a0.table.list_.map eDLease), .own 1024001 0 2 (a0.intents.map eDIntent), .own 1024002 0 1 (a0.accounts.map eI), .bool r23.2.2.1])], []⟩ (fgk (by subst e26; kernel_rfl)) ?_
   obtain rfl := Option.some.inj h0
   exact rt_ (ret_ rfl rfl rfl rfl rfl tv)

/- loop.example/g00149/impl.VaultOf -/
def c258_r0 : List Ins := [⟨some 4, .alloc [(iV 0), (iV 0), (.own 259 0 4 []), (.own 260 0 2 []), (.own 261 0 1 []), (.bool false)], none⟩,
⟨some 5, .p (.mv (.c (iV 0))), none⟩]
def c258_r1 : List Ins := [(iQ 10 (.mv (.t 0))),
⟨some 11, .call 321 [(.t 10)], none⟩,
(iQ 12 (.un .not (.t 11))),
(iQ 13 (.mv (.t 12))),
⟨some 14, .p (.mv (.t 1)), some (13, false)⟩,
⟨some 15, .call 87 [(.t 14)], some (13, false)⟩,
⟨some 16, .p (.un .not (.t 15)), some (13, false)⟩,
⟨some 17, .pick (.t 13) (.c (.bool true)) (.t 16), none⟩,
(iQ 9 (.mv (.t 17)))]
def c258_r2 : List Ins := [(iQ 18 (.build [(iV 0), (iV 0), (.own 1155 0 4 []), (.own 1156 0 2 []), (.own 1157 0 1 []), (.bool false)] [])),
⟨none, .store (.t 4) (.t 18) 6, none⟩,
⟨some 5, .p (.mv (.c (iV 2))), none⟩]
def c258_r3 : List Ins := [(iQ 20 (.mv (.t 0))),
⟨some 21, .call 322 [(.t 20)], none⟩,
(iQ 22 (.un .not (.t 21))),
(iQ 19 (.mv (.t 22)))]
def c258_r4 : List Ins := [(iQ 23 (.build [(iV 0), (iV 0), (.own 1475 0 4 []), (.own 1476 0 2 []), (.own 1477 0 1 []), (.bool false)] [])),
⟨none, .store (.t 4) (.t 23) 6, none⟩,
⟨some 5, .p (.mv (.c (iV 1))), none⟩]
def c258_r5 : List Ins := [(iQ 24 (.mv (.t 1))),
⟨some 25, .call 120 [(.t 24)], none⟩,
⟨some 26, .p (.build [(iV 0), (iV 0), (.own 1667 0 4 []), (.own 1668 0 2 []), (.own 1669 0 1 []), (.bool false)] [(4, 1, (.t 25))]), none⟩,
⟨some 6, .alloc [(iV 0), (iV 0), (.own 387 0 4 []), (.own 388 0 2 []), (.own 389 0 1 []), (.bool false)], none⟩,
⟨none, .store (.t 6) (.t 26) 6, none⟩]
def c258_r6 : List Ins := [(iQ 27 (.mv (.t 0))),
(iQ 28 (.len (.t 27))),
⟨some 29, .p (.mv (.c (iV 0))), none⟩]
def c258_r7 : List Ins := [(iQ 30 (.bin .lss (.t 29) (.t 28)))]
def c258_r8 : List Ins := [(iQ 31 (.idxA (.t 27) (.t 29) 2)),
(iQ 32 (.load (.t 31) 2 true)),
⟨some 8, .alloc [(.str []), (.str [])], none⟩,
⟨none, .store (.t 8) (.t 32) 2, none⟩]
def c258_r9 : List Ins := [(iQ 33 (.load (.t 8) 2 true)),
⟨some 34, .call 323 [(.t 6), (.t 33)], none⟩,
(iQ 35 (.un .not (.t 34)))]
def c258_r10 : List Ins := [(iQ 36 (.build [(iV 0), (iV 0), (.own 2307 0 4 []), (.own 2308 0 2 []), (.own 2309 0 1 []), (.bool false)] [])),
⟨none, .store (.t 4) (.t 36) 6, none⟩,
⟨some 5, .p (.mv (.c (iV 3))), none⟩]
def c258_r11 : List Ins := [⟨some 37, .p (.bin .add (.t 29) (.c (iV 1))), none⟩,
(iQ 29 (.mv (.t 37)))]
def c258_l0 : IR := (.seq (.reg c258_r7) (.seq (.ite (.t 30) .skip (.exit 1)) (.seq (.block 2 (.seq (.reg c258_r8) (.seq (.reg c258_r9) (.ite (.t 35) (.seq (.reg c258_r10) .ret) .skip)))) (.reg c258_r11))))
def c258_r12 : List Ins := [(iQ 38 (.load (.t 6) 6 true)),
⟨some 39, .call 48 [(.t 38)], none⟩,
(iQ 40 (.un .not (.t 39)))]
def c258_r13 : List Ins := [(iQ 41 (.build [(iV 0), (iV 0), (.own 2627 0 4 []), (.own 2628 0 2 []), (.own 2629 0 1 []), (.bool false)] [])),
⟨none, .store (.t 4) (.t 41) 6, none⟩,
⟨some 5, .p (.mv (.c (iV 13))), none⟩]
def c258_r14 : List Ins := [(iQ 42 (.load (.t 6) 6 true)),
⟨none, .store (.t 4) (.t 42) 6, none⟩,
⟨some 5, .p (.mv (.c (iV 0))), none⟩]
def c258 : XFn := { np := 2, nt := 43, res := [.cell 4 6 true, .t 5], body := (.seq (.reg c258_r0) (.seq (.block 0 (.seq (.reg c258_r1) (.ite (.t 9) (.seq (.reg c258_r2) .ret) (.seq (.reg c258_r3) (.ite (.t 19) (.seq (.reg c258_r4) .ret) .skip))))) (.seq (.reg c258_r5) (.seq (.seq (.reg c258_r6) (.block 1 (.loop c258_l0))) (.seq (.seq (.reg c258_r12) (.ite (.t 40) (.seq (.reg c258_r13) .ret) .skip)) (.seq (.reg c258_r14) .ret)))))) }
def K258 (C : CRel) : Prop := ∀ (a0 : List DPair) (a1 : List Int) (r : DVault × Int), g258 a0 a1 = some r → C 258 ⟨[.lst 2 (a0.map eDPair), .lst 1 (a1.map eI)], []⟩ ⟨.tup [.agg [iV r.1.table.clock, iV r.1.table.next, .own 0 0 4 (r.1.table.list_.map eDLease), .own 1 0 2 (r.1.intents.map eDIntent), .own 2 0 1 (r.1.accounts.map eI), .bool r.1.sealed], iV r.2], [], []⟩
theorem F258 {C : CRel} (H48 : K48 C) (H87 : K87 C) (H120 : K120 C) (H321 : K321 C) (H322 : K322 C) (H323 : K323 C) (a0 : List DPair) (a1 : List Int) (r : DVault × Int) (h0 : g258 a0 a1 = some r) : FnOK C c258 ⟨[.lst 2 (a0.map eDPair), .lst 1 (a1.map eI)], []⟩ ⟨.tup [.agg [iV r.1.table.clock, iV r.1.table.next, .own 0 0 4 (r.1.table.list_.map eDLease), .own 1 0 2 (r.1.intents.map eDIntent), .own 2 0 1 (r.1.accounts.map eI), .bool r.1.sealed], iV r.2], [], []⟩ := by
 refine fn_ (nl rfl) (seq_ (reg_ (st (alloc_ (st (mvc_ tv (oe_ (wk_ ⟨[(0, .lst 2 (a0.map eDPair)), (1, .lst 1 (a1.map eI)), (4, .ptr 256 0)], [(256, [iV 0, iV 0, .own 259 0 4 (([] : List DLease).map eDLease), .own 260 0 2 (([] : List DIntent).map eDIntent), .own 261 0 1 (([] : List Int).map eI), .bool false])], []⟩ (fgk (by kernel_rfl)) (seq_ (block_ (seq_ (reg_ (st (mv_ rfl tv ?_))))))))))))))
 obtain ⟨r1, e2, h0⟩ := bnd h0
 refine st (call0_ (r := .bool r1) false (H321 a0 r1 e2) ⟨tv, tv⟩ rfl rfl (fun _ => rfl) (st (c_ (cp_ ⟨tv, tv⟩ rfl tv) (st (mv_ rfl tv (st (pg_ (u := .lst 1 (a1.map eI)) rfl (fun hg => (cmv (v := .lst 1 (a1.map eI)) rfl tv)) ?_)))))))
 obtain ⟨r3, e4, h0⟩ := bnd h0
 refine sw ⟨[(0, .lst 2 (a0.map eDPair)), (1, .lst 1 (a1.map eI)), (4, .ptr 256 0), (13, .bool (!r1)), (14, .may ((!r1) == false) (.lst 1 (a1.map eI)))], [(256, [iV 0, iV 0, .own 259 0 4 (([] : List DLease).map eDLease), .own 260 0 2 (([] : List DIntent).map eDIntent), .own 261 0 1 (([] : List Int).map eI), .bool false])], []⟩ (fgk (by kernel_rfl)) (callg_ (r := .bool r3) rfl false (fun hg => H87 a1 r3 (ip hg e4)) ⟨(fun hg => hg), tv⟩ (fun _ => rfl) (fun _ => rfl) (fun _ => rfl) (fun h => nomatch h) (st (pg_ (u := .bool (!r3)) rfl (fun hg => (cp_ ⟨(fun _ => hg), tv⟩ rfl tv)) (st (pick_ rfl rfl rfl tv (fun h => eqf h) rfl (st (mv_ rfl tv (oe_ (wk_ ⟨[(0, .lst 2 (a0.map eDPair)), (1, .lst 1 (a1.map eI)), (4, .ptr 256 0), (9, .bool (bif (!r1) then true else (!r3)))], [(256, [iV 0, iV 0, .own 259 0 4 (([] : List DLease).map eDLease), .own 260 0 2 (([] : List DIntent).map eDIntent), .own 261 0 1 (([] : List Int).map eI), .bool false])], []⟩ (fgk (by kernel_rfl)) (ite_ (cb := (bif (!r1) then true else (!r3))) rfl (fun c5 => ?_) (fun c5 => ?_)))))))))))
 ·replace h0 := ip c5 h0
  refine seq_ (reg_ (st (c_ (v := .agg [iV 0, iV 0, .own 1155 0 4 (([] : List DLease).map eDLease), .own 1156 0 2 (([] : List DIntent).map eDIntent), .own 1157 0 1 (([] : List Int).map eI), .bool false]) (cp_ tv rfl tv) (st (stp_ rfl rfl tv rfl rfl rfl (nl rfl) (st (mvc_ tv (oe_ (wk_ ⟨[(4, .ptr 256 0), (5, iV 2)], [(256, [iV 0, iV 0, .own 1155 0 4 (([] : List DLease).map eDLease), .own 1156 0 2 (([] : List DIntent).map eDIntent), .own 1157 0 1 (([] : List Int).map eI), .bool false])], []⟩ (fgk (by kernel_rfl)) ?_)))))))))
  obtain rfl := Option.some.inj h0
  exact rt_ (ret_ rfl rfl rfl rfl rfl tv)
 ·replace h0 := inb c5 h0
  refine seq_ (reg_ (st (mv_ rfl tv ?_)))
  obtain ⟨r6, e7, h0⟩ := bnd h0
  refine st (call0_ (r := .bool r6) false (H322 a0 r6 e7) ⟨tv, tv⟩ rfl rfl (fun _ => rfl) (st (c_ (cp_ ⟨tv, tv⟩ rfl tv) (st (mv_ rfl tv (oe_ (wk_ ⟨[(0, .lst 2 (a0.map eDPair)), (1, .lst 1 (a1.map eI)), (4, .ptr 256 0), (19, .bool (!r6))], [(256, [iV 0, iV 0, .own 259 0 4 (([] : List DLease).map eDLease), .own 260 0 2 (([] : List DIntent).map eDIntent), .own 261 0 1 (([] : List Int).map eI), .bool false])], []⟩ (fgk (by kernel_rfl)) (ite_ (cb := (!r6)) rfl (fun c8 => ?_) (fun c8 => ?_)))))))))
  ·replace h0 := ip c8 h0
   refine seq_ (reg_ (st (c_ (v := .agg [iV 0, iV 0, .own 1475 0 4 (([] : List DLease).map eDLease), .own 1476 0 2 (([] : List DIntent).map eDIntent), .own 1477 0 1 (([] : List Int).map eI), .bool false]) (cp_ tv rfl tv) (st (stp_ rfl rfl tv rfl rfl rfl (nl rfl) (st (mvc_ tv (oe_ (wk_ ⟨[(4, .ptr 256 0), (5, iV 1)], [(256, [iV 0, iV 0, .own 1475 0 4 (([] : List DLease).map eDLease), .own 1476 0 2 (([] : List DIntent).map eDIntent), .own 1477 0 1 (([] : List Int).map eI), .bool false])], []⟩ (fgk (by kernel_rfl)) ?_)))))))))
   obtain rfl := Option.some.inj h0
   exact rt_ (ret_ rfl rfl rfl rfl rfl tv)
  ·replace h0 := inb c8 h0
   refine sk_ (bn_ (wk_ ⟨[(0, .lst 2 (a0.map eDPair)), (1, .lst 1 (a1.map eI)), (4, .ptr 256 0)], [(256, [iV 0, iV 0, .own 259 0 4 (([] : List DLease).map eDLease), .own 260 0 2 (([] : List DIntent).map eDIntent), .own 261 0 1 (([] : List Int).map eI), .bool false])], []⟩ (fgk (by kernel_rfl)) (seq_ (reg_ (st (mv_ rfl tv ?_))))))
   obtain ⟨r9, e10, h0⟩ := bnd h0
   refine st (call0_ (r := .own 0 0 1 (r9.map eI)) false (H120 a1 r9 e10) ⟨tv, tv⟩ rfl rfl (fun _ => (and_ (fl1 (fun _ => rfl)) rfl)) (st (c_ (v := .agg [iV 0, iV 0, .own 1667 0 4 (([] : List DLease).map eDLease), .own 1668 0 2 (([] : List DIntent).map eDIntent), .own 1600 0 1 (r9.map eI), .bool false]) (cp_ ⟨tv, tv⟩ rfl ⟨⟨rfl, rfl, nl rfl⟩, tv⟩) (st (alloc_ (st (stp_ rfl rfl tv rfl rfl rfl (nl rfl) (oe_ (wk_ ⟨[(0, .lst 2 (a0.map eDPair)), (4, .ptr 256 0), (6, .ptr 384 0)], [(256, [iV 0, iV 0, .own 259 0 4 (([] : List DLease).map eDLease), .own 260 0 2 (([] : List DIntent).map eDIntent), .own 261 0 1 (([] : List Int).map eI), .bool false]), (384, [iV 0, iV 0, .own 1667 0 4 (([] : List DLease).map eDLease), .own 1668 0 2 (([] : List DIntent).map eDIntent), .own 1600 0 1 (r9.map eI), .bool false])], []⟩ (fgk (by kernel_rfl)) (seq_ (seq_ (reg_ (st (mv_ rfl tv (st (c_ (clenL (e := eDPair) (l0 := a0) rfl rfl tv) (st (mvc_ tv (oe_ (wk_ ⟨[(4, .ptr 256 0), (6, .ptr 384 0), (27, .lst 2 (a0.map eDPair)), (28, iV (a0.length : Int)), (29, iV 0)], [(256, [iV 0, iV 0, .own 259 0 4 (([] : List DLease).map eDLease), .own 260 0 2 (([] : List DIntent).map eDIntent), .own 261 0 1 (([] : List Int).map eI), .bool false]), (384, [iV 0, iV 0, .own 1667 0 4 (([] : List DLease).map eDLease), .own 1668 0 2 (([] : List DIntent).map eDIntent), .own 1600 0 1 (r9.map eI), .bool false])], []⟩ (fgk (by kernel_rfl)) (block_ ?_)))))))))))))))))))))
   obtain ⟨r49, e50, h0⟩ := bnd h0
   refine loop_ (R := (fun S => ∃ p37 : Int, ∃ p38 : Int, ∃ p39 : List DLease, ∃ p40 : List DIntent, ∃ p41 : List Int, ∃ p42 : Bool, .inl (p37, p38, p39, p40, p41, p42) = r49 ∧ S = ⟨[(4, .ptr 256 0), (6, .ptr 384 0)], [(256, [iV 0, iV 0, .own 259 0 4 (([] : List DLease).map eDLease), .own 260 0 2 (([] : List DIntent).map eDIntent), .own 261 0 1 (([] : List Int).map eI), .bool false]), (384, [iV p37, iV p38, .own 1667 0 4 (p39.map eDLease), .own 1668 0 2 (p40.map eDIntent), .own 1600 0 1 (p41.map eI), .bool p42])], []⟩)) (g258_l0 a0) (fun s S => match s with | (p17, p18, p19, p20, p21, p22, p23) => S = ⟨[(4, .ptr 256 0), (6, .ptr 384 0), (27, .lst 2 (a0.map eDPair)), (28, iV (a0.length : Int)), (29, iV p17)], [(256, [iV 0, iV 0, .own 259 0 4 (([] : List DLease).map eDLease), .own 260 0 2 (([] : List DIntent).map eDIntent), .own 261 0 1 (([] : List Int).map eI), .bool false]), (384, [iV p18, iV p19, .own 1667 0 4 (p20.map eDLease), .own 1668 0 2 (p21.map eDIntent), .own 1600 0 1 (p22.map eI), .bool p23])], []⟩) e50 ⟨[(4, .ptr 256 0), (6, .ptr 384 0), (27, .lst 2 (a0.map eDPair)), (28, iV (a0.length : Int)), (29, iV 0)], [(256, [iV 0, iV 0, .own 259 0 4 (([] : List DLease).map eDLease), .own 260 0 2 (([] : List DIntent).map eDIntent), .own 261 0 1 (([] : List Int).map eI), .bool false]), (384, [iV 0, iV 0, .own 1667 0 4 (([] : List DLease).map eDLease), .own 1668 0 2 (([] : List DIntent).map eDIntent), .own 1600 0 1 (r9.map eI), .bool false])], []⟩ (fgk (by kernel_rfl)) rfl 1 (fun _ => rfl) ?_ ?_
   ·rintro S _ hfg ⟨p37, p38, p39, p40, p41, p42, rfl, rfl⟩
    refine wk_ ⟨[(4, .ptr 256 0), (6, .ptr 384 0)], [(256, [iV 0, iV 0, .own 259 0 4 (([] : List DLease).map eDLease), .own 260 0 2 (([] : List DIntent).map eDIntent), .own 261 0 1 (([] : List Int).map eI), .bool false]), (384, [iV p37, iV p38, .own 1667 0 4 (p39.map eDLease), .own 1668 0 2 (p40.map eDIntent), .own 1600 0 1 (p41.map eI), .bool p42])], []⟩ (fglk hfg (by kernel_rfl)) (seq_ (seq_ (reg_ (st (c_ (v := .agg [iV p37, iV p38, .own 1667 0 4 (p39.map eDLease), .own 1668 0 2 (p40.map eDIntent), .own 1600 0 1 (p41.map eI), .bool p42]) (cp_ ⟨tv, tv⟩ rfl (nl rfl)) ?_)))))
    obtain ⟨r51, e52, h0⟩ := bnd h0
    refine st (call0_ (r := .bool r51) false (H48 (DVault.mk (DTable.mk p37 p38 p39) p40 p41 p42) r51 e52) ⟨tv, tv⟩ rfl rfl (fun _ => rfl) (st (c_ (cp_ ⟨tv, tv⟩ rfl tv) (oe_ (wk_ ⟨[(4, .ptr 256 0), (6, .ptr 384 0), (40, .bool (!r51))], [(256, [iV 0, iV 0, .own 259 0 4 (([] : List DLease).map eDLease), .own 260 0 2 (([] : List DIntent).map eDIntent), .own 261 0 1 (([] : List Int).map eI), .bool false]), (384, [iV p37, iV p38, .own 1667 0 4 (p39.map eDLease), .own 1668 0 2 (p40.map eDIntent), .own 1600 0 1 (p41.map eI), .bool p42])], []⟩ (fgk (by kernel_rfl)) (ite_ (cb := (!r51)) rfl (fun c53 => ?_) (fun c53 => ?_)))))))
    ·replace h0 := ip c53 h0
     refine seq_ (reg_ (st (c_ (v := .agg [iV 0, iV 0, .own 2627 0 4 (([] : List DLease).map eDLease), .own 2628 0 2 (([] : List DIntent).map eDIntent), .own 2629 0 1 (([] : List Int).map eI), .bool false]) (cp_ tv rfl tv) (st (stp_ rfl rfl tv rfl rfl rfl (nl rfl) (st (mvc_ tv (oe_ (wk_ ⟨[(4, .ptr 256 0), (5, iV 13)], [(256, [iV 0, iV 0, .own 2627 0 4 (([] : List DLease).map eDLease), .own 2628 0 2 (([] : List DIntent).map eDIntent), .own 2629 0 1 (([] : List Int).map eI), .bool false])], []⟩ (fgk (by kernel_rfl)) ?_)))))))))
     obtain rfl := Option.some.inj h0
     exact rt_ (ret_ rfl rfl rfl rfl rfl tv)
    ·replace h0 := inb c53 h0
     refine sk_ (wk_ ⟨[(4, .ptr 256 0), (6, .ptr 384 0)], [(256, [iV 0, iV 0, .own 259 0 4 (([] : List DLease).map eDLease), .own 260 0 2 (([] : List DIntent).map eDIntent), .own 261 0 1 (([] : List Int).map eI), .bool false]), (384, [iV p37, iV p38, .own 1667 0 4 (p39.map eDLease), .own 1668 0 2 (p40.map eDIntent), .own 1600 0 1 (p41.map eI), .bool p42])], []⟩ (fgk (by kernel_rfl)) (seq_ (reg_ (st (c_ (v := .agg [iV p37, iV p38, .own 1667 0 4 (p39.map eDLease), .own 1668 0 2 (p40.map eDIntent), .own 1600 0 1 (p41.map eI), .bool p42]) (cp_ ⟨tv, tv⟩ rfl (nl rfl)) (st (stp_ rfl rfl tv rfl rfl rfl (nl rfl) (st (mvc_ tv (oe_ (wk_ ⟨[(4, .ptr 256 0), (5, iV 0)], [(256, [iV p37, iV p38, .own 1667 0 4 (p39.map eDLease), .own 1668 0 2 (p40.map eDIntent), .own 1600 0 1 (p41.map eI), .bool p42])], []⟩ (fgk (by kernel_rfl)) ?_)))))))))))
     obtain rfl := Option.some.inj h0
     exact rt_ (ret_ rfl rfl rfl rfl rfl tv)
   ·rintro ⟨p17, p18, p19, p20, p21, p22, p23⟩ o1 _ K1 rfl h1 hx1 hK1 hE1 hR1
    refine seq_ (reg_ (st (c_ (cp_ t3 rfl tv) (oe_ (wk_ ⟨[(4, .ptr 256 0), (6, .ptr 384 0), (27, .lst 2 (a0.map eDPair)), (28, iV (a0.length : Int)), (29, iV p17), (30, .bool (decide (p17 < (a0.length : Int))))], [(256, [iV 0, iV 0, .own 259 0 4 (([] : List DLease).map eDLease), .own 260 0 2 (([] : List DIntent).map eDIntent), .own 261 0 1 (([] : List Int).map eI), .bool false]), (384, [iV p18, iV p19, .own 1667 0 4 (p20.map eDLease), .own 1668 0 2 (p21.map eDIntent), .own 1600 0 1 (p22.map eI), .bool p23])], []⟩ (fgk (by kernel_rfl)) (seq_ (ite_ (cb := (decide (p17 < (a0.length : Int)))) rfl (fun c43 => ?_) (fun c43 => ?_))))))))
    ·replace h1 := ip c43 h1
     refine sk_ (wk_ ⟨[(4, .ptr 256 0), (6, .ptr 384 0), (27, .lst 2 (a0.map eDPair)), (28, iV (a0.length : Int)), (29, iV p17)], [(256, [iV 0, iV 0, .own 259 0 4 (([] : List DLease).map eDLease), .own 260 0 2 (([] : List DIntent).map eDIntent), .own 261 0 1 (([] : List Int).map eI), .bool false]), (384, [iV p18, iV p19, .own 1667 0 4 (p20.map eDLease), .own 1668 0 2 (p21.map eDIntent), .own 1600 0 1 (p22.map eI), .bool p23])], []⟩ (fgk (by kernel_rfl)) (seq_ (block_ (seq_ (reg_ ?_)))))
     obtain ⟨y44, e45, h1⟩ := bnd h1
     refine st (c_ (cidxL (e := eDPair) (y := y44) rfl rfl tv rfl rfl tv e45) (st (c_ (v := .agg (eDPair y44)) (cp_ ⟨tv, tv⟩ rfl (nl rfl)) (st (alloc_ (st (stp_ rfl rfl tv rfl rfl rfl (nl rfl) (oe_ (wk_ ⟨[(4, .ptr 256 0), (6, .ptr 384 0), (8, .ptr 512 0), (27, .lst 2 (a0.map eDPair)), (28, iV (a0.length : Int)), (29, iV p17)], [(256, [iV 0, iV 0, .own 259 0 4 (([] : List DLease).map eDLease), .own 260 0 2 (([] : List DIntent).map eDIntent), .own 261 0 1 (([] : List Int).map eI), .bool false]), (384, [iV p18, iV p19, .own 1667 0 4 (p20.map eDLease), .own 1668 0 2 (p21.map eDIntent), .own 1600 0 1 (p22.map eI), .bool p23]), (512, [.str y44.key, .str y44.value])], []⟩ (fgk (by kernel_rfl)) (seq_ (reg_ (st (c_ (v := .agg (eDPair y44)) (cp_ ⟨tv, tv⟩ rfl (nl rfl)) ?_)))))))))))))
     obtain ⟨r46, e47, h1⟩ := bnd h1
     refine st (call1_ [384] [] [1667, 1668, 1600] false (H323 (DVault.mk (DTable.mk p18 p19 p20) p21 p22 p23) y44 r46 e47) ⟨tv, tv, tv⟩ (by kernel_rfl) (by kernel_rfl) (by kernel_rfl) (by kernel_rfl) (fun _ => and_ (and_ rfl (and_ rfl (and_ rfl (and_ (fl1 (fun _ => rfl)) (and_ (fl1 (fun _ => rfl)) (and_ (fl1 (fun _ => rfl)) (and_ rfl rfl))))))) rfl) (sw ⟨[(4, .ptr 256 0), (6, .ptr 384 0), (27, .lst 2 (a0.map eDPair)), (28, iV (a0.length : Int)), (29, iV p17), (34, .bool r46.1)], [(256, [iV 0, iV 0, .own 259 0 4 (([] : List DLease).map eDLease), .own 260 0 2 (([] : List DIntent).map eDIntent), .own 261 0 1 (([] : List Int).map eI), .bool false]), (384, [iV r46.2.table.clock, iV r46.2.table.next, .own 2176 0 4 (r46.2.table.list_.map eDLease), .own 2177 0 2 (r46.2.intents.map eDIntent), .own 2178 0 1 (r46.2.accounts.map eI), .bool r46.2.sealed])], []⟩ (fgk (by kernel_rfl)) (c_ (cp_ ⟨tv, tv⟩ rfl tv) (oe_ (wk_ ⟨[(4, .ptr 256 0), (6, .ptr 384 0), (27, .lst 2 (a0.map eDPair)), (28, iV (a0.length : Int)), (29, iV p17), (35, .bool (!r46.1))], [(256, [iV 0, iV 0, .own 259 0 4 (([] : List DLease).map eDLease), .own 260 0 2 (([] : List DIntent).map eDIntent), .own 261 0 1 (([] : List Int).map eI), .bool false]), (384, [iV r46.2.table.clock, iV r46.2.table.next, .own 2176 0 4 (r46.2.table.list_.map eDLease), .own 2177 0 2 (r46.2.intents.map eDIntent), .own 2178 0 1 (r46.2.accounts.map eI), .bool r46.2.sealed])], []⟩ (fgk (by kernel_rfl)) (ite_ (cb := (!r46.1)) rfl (fun c48 => ?_) (fun c48 => ?_)))))))
     ·replace h1 := ip c48 h1
      refine seq_ (reg_ (st (c_ (v := .agg [iV 0, iV 0, .own 2307 0 4 (([] : List DLease).map eDLease), .own 2308 0 2 (([] : List DIntent).map eDIntent), .own 2309 0 1 (([] : List Int).map eI), .bool false]) (cp_ tv rfl tv) (st (stp_ rfl rfl tv rfl rfl rfl (nl rfl) (st (mvc_ tv (oe_ (wk_ ⟨[(4, .ptr 256 0), (5, iV 3)], [(256, [iV 0, iV 0, .own 2307 0 4 (([] : List DLease).map eDLease), .own 2308 0 2 (([] : List DIntent).map eDIntent), .own 2309 0 1 (([] : List Int).map eI), .bool false])], []⟩ (fgk (by kernel_rfl)) ?_)))))))))
      obtain rfl := Option.some.inj h1
      obtain rfl := hx1 _ rfl
      obtain rfl := Option.some.inj h0
      exact rt_ (hR1 _ (ret_ rfl rfl rfl rfl rfl tv))
     ·replace h1 := inb c48 h1
      refine sk_ (bn_ (wk_ ⟨[(4, .ptr 256 0), (6, .ptr 384 0), (27, .lst 2 (a0.map eDPair)), (28, iV (a0.length : Int)), (29, iV p17)], [(256, [iV 0, iV 0, .own 259 0 4 (([] : List DLease).map eDLease), .own 260 0 2 (([] : List DIntent).map eDIntent), .own 261 0 1 (([] : List Int).map eI), .bool false]), (384, [iV r46.2.table.clock, iV r46.2.table.next, .own 2176 0 4 (r46.2.table.list_.map eDLease), .own 2177 0 2 (r46.2.intents.map eDIntent), .own 2178 0 1 (r46.2.accounts.map eI), .bool r46.2.sealed])], []⟩ (fgk (by kernel_rfl)) (reg_ (st (c_ (cp_ t3 rfl tv) (st (mv_ rfl tv (oe_ ?_))))))))
      obtain rfl := Option.some.inj h1
      exact hK1 _ rfl _ ⟨[(4, .ptr 256 0), (6, .ptr 384 0), (27, .lst 2 (a0.map eDPair)), (28, iV (a0.length : Int)), (29, iV (IntKind.i64.wrap (p17 + 1)))], [(256, [iV 0, iV 0, .own 259 0 4 (([] : List DLease).map eDLease), .own 260 0 2 (([] : List DIntent).map eDIntent), .own 261 0 1 (([] : List Int).map eI), .bool false]), (384, [iV r46.2.table.clock, iV r46.2.table.next, .own 1667 0 4 (r46.2.table.list_.map eDLease), .own 1668 0 2 (r46.2.intents.map eDIntent), .own 1600 0 1 (r46.2.accounts.map eI), .bool r46.2.sealed])], []⟩ (fgsk [] [(2176, 1667), (2177, 1668), (2178, 1600)] rfl (by kernel_rfl)) rfl
    ·replace h1 := inb c43 h1
     obtain rfl := Option.some.inj h1
     obtain rfl := hx1 _ rfl
     refine exQ rfl ?_
     exact hE1 _ ⟨[(4, .ptr 256 0), (6, .ptr 384 0)], [(256, [iV 0, iV 0, .own 259 0 4 (([] : List DLease).map eDLease), .own 260 0 2 (([] : List DIntent).map eDIntent), .own 261 0 1 (([] : List Int).map eI), .bool false]), (384, [iV p18, iV p19, .own 1667 0 4 (p20.map eDLease), .own 1668 0 2 (p21.map eDIntent), .own 1600 0 1 (p22.map eI), .bool p23])], []⟩ (fgk (by kernel_rfl)) ⟨_, _, _, _, _, _, rfl, rfl⟩

/- loop.example/g00149/laws.heldLeaseS -/
def c73_r0 : List Ins := [⟨some 4, .p (.mv (.c (iV 0))), none⟩]
def c73_r1 : List Ins := [⟨some 5, .p (.mv (.c (iV 0))), none⟩]
def c73_r2 : List Ins := [(iQ 6 (.mv (.t 5))),
(iQ 7 (.mv (.t 0))),
(iQ 8 (.len (.t 7))),
(iQ 9 (.bin .lss (.t 6) (.t 8)))]
def c73_r3 : List Ins := [(iQ 12 (.mv (.t 0))),
(iQ 13 (.mv (.t 5))),
(iQ 14 (.idxA (.t 12) (.t 13) 4)),
(iQ 15 (.fieldA (.t 14) 0)),
(iQ 16 (.load (.t 15) 1 false)),
(iQ 17 (.mv (.t 1))),
(iQ 18 (.bin .neq (.t 16) (.t 17)))]
def c73_r4 : List Ins := [⟨some 4, .p (.mv (.c (iV (-1)))), none⟩]
def c73_r5 : List Ins := [(iQ 19 (.mv (.t 1))),
⟨some 20, .p (.bin .add (.t 19) (.c (iV 1))), none⟩,
(iQ 1 (.mv (.t 20)))]
def c73_r6 : List Ins := [(iQ 21 (.mv (.t 0))),
(iQ 22 (.mv (.t 5))),
(iQ 23 (.idxA (.t 21) (.t 22) 4)),
(iQ 24 (.fieldA (.t 23) 1)),
(iQ 25 (.load (.t 24) 1 false)),
(iQ 26 (.mv (.t 1))),
(iQ 27 (.bin .neq (.t 25) (.t 26)))]
def c73_r7 : List Ins := [⟨some 4, .p (.mv (.c (iV (-1)))), none⟩]
def c73_r8 : List Ins := [(iQ 28 (.mv (.t 1))),
⟨some 29, .p (.bin .add (.t 28) (.c (iV 1))), none⟩,
(iQ 1 (.mv (.t 29)))]
def c73_r9 : List Ins := [(iQ 30 (.mv (.t 0))),
(iQ 31 (.mv (.t 5))),
(iQ 32 (.idxA (.t 30) (.t 31) 4)),
(iQ 33 (.fieldA (.t 32) 2)),
(iQ 34 (.load (.t 33) 1 false)),
(iQ 35 (.mv (.t 1))),
(iQ 36 (.bin .neq (.t 34) (.t 35)))]
def c73_r10 : List Ins := [⟨some 4, .p (.mv (.c (iV (-1)))), none⟩]
def c73_r11 : List Ins := [(iQ 37 (.mv (.t 1))),
⟨some 38, .p (.bin .add (.t 37) (.c (iV 1))), none⟩,
(iQ 1 (.mv (.t 38)))]
def c73_r12 : List Ins := [(iQ 39 (.mv (.t 0))),
(iQ 40 (.mv (.t 5))),
(iQ 41 (.idxA (.t 39) (.t 40) 4)),
(iQ 42 (.fieldA (.t 41) 3)),
(iQ 43 (.load (.t 42) 1 false)),
(iQ 44 (.mv (.t 1))),
⟨some 45, .p (.bin .rem (.t 44) (.c (iV 3))), none⟩,
⟨some 46, .p (.bin .eql (.t 45) (.c (iV 0))), none⟩,
(iQ 47 (.binB .neq (.t 43) (.t 46)))]
def c73_r13 : List Ins := [⟨some 4, .p (.mv (.c (iV (-1)))), none⟩]
def c73_r14 : List Ins := [(iQ 48 (.mv (.t 1))),
⟨some 49, .p (.bin .add (.t 48) (.c (iV 1))), none⟩,
(iQ 1 (.mv (.t 49)))]
def c73_r15 : List Ins := [(iQ 10 (.mv (.t 5))),
⟨some 11, .p (.bin .add (.t 10) (.c (iV 1))), none⟩,
(iQ 5 (.mv (.t 11)))]
def c73_l0 : IR := (.seq (.seq (.reg c73_r2) (.ite (.t 9) .skip (.exit 0))) (.seq (.block 1 (.seq (.seq (.reg c73_r3) (.ite (.t 18) (.seq (.reg c73_r4) .ret) .skip)) (.seq (.reg c73_r5) (.seq (.seq (.reg c73_r6) (.ite (.t 27) (.seq (.reg c73_r7) .ret) .skip)) (.seq (.reg c73_r8) (.seq (.seq (.reg c73_r9) (.ite (.t 36) (.seq (.reg c73_r10) .ret) .skip)) (.seq (.reg c73_r11) (.seq (.seq (.reg c73_r12) (.ite (.t 47) (.seq (.reg c73_r13) .ret) .skip)) (.reg c73_r14))))))))) (.reg c73_r15)))
def c73_r16 : List Ins := [(iQ 50 (.mv (.t 1))),
(iQ 4 (.mv (.t 50)))]
def c73 : XFn := { np := 2, nt := 51, res := [.t 4], body := (.seq (.reg c73_r0) (.seq (.seq (.reg c73_r1) (.block 0 (.loop c73_l0))) (.seq (.reg c73_r16) .ret))) }
def K73 (C : CRel) : Prop := ∀ (a0 : List DLease) (a1 : Int) (r : Int), g73 a0 a1 = some r → C 73 ⟨[.lst 4 (a0.map eDLease), iV a1], []⟩ ⟨iV r, [], []⟩
theorem F73 {C : CRel}  (a0 : List DLease) (a1 : Int) (r : Int) (h0 : g73 a0 a1 = some r) : FnOK C c73 ⟨[.lst 4 (a0.map eDLease), iV a1], []⟩ ⟨iV r, [], []⟩ := by
 refine fn_ (nl rfl) (seq_ (reg_ (st (mvc_ tv (oe_ (wk_ ⟨[(0, .lst 4 (a0.map eDLease)), (1, iV a1)], [], []⟩ (fgk (by kernel_rfl)) (seq_ (seq_ (reg_ (st (mvc_ tv (oe_ (wk_ ⟨[(0, .lst 4 (a0.map eDLease)), (1, iV a1), (5, iV 0)], [], []⟩ (fgk (by kernel_rfl)) (block_ ?_))))))))))))))
 obtain ⟨r51, e52, h0⟩ := bnd h0
 refine loop_ (R := (fun S => ∃ p35 : Int, .inl p35 = r51 ∧ S = ⟨[(1, iV p35)], [], []⟩)) (g73_l0 a0) (fun s S => match s with | (p16, p17) => S = ⟨[(0, .lst 4 (a0.map eDLease)), (1, iV p16), (5, iV p17)], [], []⟩) e52 ⟨[(0, .lst 4 (a0.map eDLease)), (1, iV a1), (5, iV 0)], [], []⟩ (fgk (by kernel_rfl)) rfl 0 (fun _ => rfl) ?_ ?_
 ·rintro S _ hfg ⟨p35, rfl, rfl⟩
  refine wk_ ⟨[(1, iV p35)], [], []⟩ (fglk hfg (by kernel_rfl)) (seq_ (reg_ (st (mv_ rfl tv (st (mv_ rfl tv (oe_ (wk_ ⟨[(4, iV p35)], [], []⟩ (fgk (by kernel_rfl)) ?_))))))))
  obtain rfl := Option.some.inj h0
  exact rt_ (ret_ rfl rfl rfl rfl rfl tv)
 ·rintro ⟨p16, p17⟩ o1 _ K1 rfl h1 hx1 hK1 hE1 hR1
  refine seq_ (seq_ (reg_ (st (mv_ rfl tv (st (mv_ rfl tv (st (c_ (clenL (e := eDLease) (l0 := a0) rfl rfl tv) (st (c_ (cp_ t3 rfl tv) (oe_ (wk_ ⟨[(0, .lst 4 (a0.map eDLease)), (1, iV p16), (5, iV p17), (9, .bool (decide (p17 < (a0.length : Int))))], [], []⟩ (fgk (by kernel_rfl)) (ite_ (cb := (decide (p17 < (a0.length : Int)))) rfl (fun c36 => ?_) (fun c36 => ?_))))))))))))))
  ·replace h1 := ip c36 h1
   refine sk_ (wk_ ⟨[(0, .lst 4 (a0.map eDLease)), (1, iV p16), (5, iV p17)], [], []⟩ (fgk (by kernel_rfl)) (seq_ (block_ (seq_ (seq_ (reg_ (st (mv_ rfl tv (st (mv_ rfl tv ?_))))))))))
   obtain ⟨y37, e38, h1⟩ := bnd h1
   refine st (c_ (cidxL (e := eDLease) (y := y37) rfl rfl tv rfl rfl tv e38) (st (c_ (cp_ ⟨tv, tv⟩ rfl (nl rfl)) (st (c_ (cp_ ⟨tv, tv⟩ rfl (nl rfl)) (st (mv_ rfl tv (st (c_ (cp_ t3 rfl tv) (oe_ (wk_ ⟨[(0, .lst 4 (a0.map eDLease)), (1, iV p16), (5, iV p17), (18, .bool (y37.id != p16))], [], []⟩ (fgk (by kernel_rfl)) (ite_ (cb := (y37.id != p16)) rfl (fun c39 => ?_) (fun c39 => ?_)))))))))))))
   ·replace h1 := ip c39 h1
    refine seq_ (reg_ (st (mvc_ tv (oe_ (wk_ ⟨[(4, iV (-1))], [], []⟩ (fgk (by kernel_rfl)) ?_)))))
    obtain rfl := Option.some.inj h1
    obtain rfl := hx1 _ rfl
    obtain rfl := Option.some.inj h0
    exact rt_ (hR1 _ (ret_ rfl rfl rfl rfl rfl tv))
   ·replace h1 := inb c39 h1
    refine sk_ (wk_ ⟨[(0, .lst 4 (a0.map eDLease)), (1, iV p16), (5, iV p17)], [], []⟩ (fgk (by kernel_rfl)) (seq_ (reg_ (st (mv_ rfl tv (st (c_ (cp_ t3 rfl tv) (st (mv_ rfl tv (oe_ (wk_ ⟨[(0, .lst 4 (a0.map eDLease)), (1, iV (IntKind.i64.wrap (p16 + 1))), (5, iV p17)], [], []⟩ (fgk (by kernel_rfl)) (seq_ (seq_ (reg_ (st (mv_ rfl tv (st (mv_ rfl tv ?_))))))))))))))))))
    obtain ⟨y40, e41, h1⟩ := bnd h1
    refine st (c_ (cidxL (e := eDLease) (y := y40) rfl rfl tv rfl rfl tv e41) (st (c_ (cp_ ⟨tv, tv⟩ rfl (nl rfl)) (st (c_ (cp_ ⟨tv, tv⟩ rfl (nl rfl)) (st (mv_ rfl tv (st (c_ (cp_ t3 rfl tv) (oe_ (wk_ ⟨[(0, .lst 4 (a0.map eDLease)), (1, iV (IntKind.i64.wrap (p16 + 1))), (5, iV p17), (27, .bool (y40.until_ != (IntKind.i64.wrap (p16 + 1))))], [], []⟩ (fgk (by kernel_rfl)) (ite_ (cb := (y40.until_ != (IntKind.i64.wrap (p16 + 1)))) rfl (fun c42 => ?_) (fun c42 => ?_)))))))))))))
    ·replace h1 := ip c42 h1
     refine seq_ (reg_ (st (mvc_ tv (oe_ (wk_ ⟨[(4, iV (-1))], [], []⟩ (fgk (by kernel_rfl)) ?_)))))
     obtain rfl := Option.some.inj h1
     obtain rfl := hx1 _ rfl
     obtain rfl := Option.some.inj h0
     exact rt_ (hR1 _ (ret_ rfl rfl rfl rfl rfl tv))
    ·replace h1 := inb c42 h1
     refine sk_ (wk_ ⟨[(0, .lst 4 (a0.map eDLease)), (1, iV (IntKind.i64.wrap (p16 + 1))), (5, iV p17)], [], []⟩ (fgk (by kernel_rfl)) (seq_ (reg_ (st (mv_ rfl tv (st (c_ (cp_ t3 rfl tv) (st (mv_ rfl tv (oe_ (wk_ ⟨[(0, .lst 4 (a0.map eDLease)), (1, iV (IntKind.i64.wrap ((IntKind.i64.wrap (p16 + 1)) + 1))), (5, iV p17)], [], []⟩ (fgk (by kernel_rfl)) (seq_ (seq_ (reg_ (st (mv_ rfl tv (st (mv_ rfl tv ?_))))))))))))))))))
     obtain ⟨y43, e44, h1⟩ := bnd h1
     refine st (c_ (cidxL (e := eDLease) (y := y43) rfl rfl tv rfl rfl tv e44) (st (c_ (cp_ ⟨tv, tv⟩ rfl (nl rfl)) (st (c_ (cp_ ⟨tv, tv⟩ rfl (nl rfl)) (st (mv_ rfl tv (st (c_ (cp_ t3 rfl tv) (oe_ (wk_ ⟨[(0, .lst 4 (a0.map eDLease)), (1, iV (IntKind.i64.wrap ((IntKind.i64.wrap (p16 + 1)) + 1))), (5, iV p17), (36, .bool (y43.cap != (IntKind.i64.wrap ((IntKind.i64.wrap (p16 + 1)) + 1))))], [], []⟩ (fgk (by kernel_rfl)) (ite_ (cb := (y43.cap != (IntKind.i64.wrap ((IntKind.i64.wrap (p16 + 1)) + 1)))) rfl (fun c45 => ?_) (fun c45 => ?_)))))))))))))
     ·replace h1 := ip c45 h1
      refine seq_ (reg_ (st (mvc_ tv (oe_ (wk_ ⟨[(4, iV (-1))], [], []⟩ (fgk (by kernel_rfl)) ?_)))))
      obtain rfl := Option.some.inj h1
      obtain rfl := hx1 _ rfl
      obtain rfl := Option.some.inj h0
      exact rt_ (hR1 _ (ret_ rfl rfl rfl rfl rfl tv))
     ·replace h1 := inb c45 h1
      refine sk_ (wk_ ⟨[(0, .lst 4 (a0.map eDLease)), (1, iV (IntKind.i64.wrap ((IntKind.i64.wrap (p16 + 1)) + 1))), (5, iV p17)], [], []⟩ (fgk (by kernel_rfl)) (seq_ (reg_ (st (mv_ rfl tv (st (c_ (cp_ t3 rfl tv) (st (mv_ rfl tv (oe_ ?_))))))))))
      obtain ⟨v46, e47, h1⟩ := bl h1
      refine wk_ ⟨[(0, .lst 4 (a0.map eDLease)), (1, iV v46), (5, iV p17)], [], []⟩ (fgk (by subst e47; kernel_rfl)) (seq_ (seq_ (reg_ (st (mv_ rfl tv (st (mv_ rfl tv ?_)))))))
      obtain ⟨y48, e49, h1⟩ := bnd h1
      refine st (c_ (cidxL (e := eDLease) (y := y48) rfl rfl tv rfl rfl tv e49) (st (c_ (cp_ ⟨tv, tv⟩ rfl (nl rfl)) (st (c_ (cp_ ⟨tv, tv⟩ rfl (nl rfl)) (st (mv_ rfl tv (st (c_ (cp_ ⟨tv, tv, tv⟩ rfl (by decide)) (st (c_ (cp_ t3 rfl tv) (st (c_ (cp_ t3 rfl tv) (oe_ (wk_ ⟨[(0, .lst 4 (a0.map eDLease)), (1, iV v46), (5, iV p17), (47, .bool (!(y48.queued == (((v46).tmod 3) == 0))))], [], []⟩ (fgk (by kernel_rfl)) (ite_ (cb := (!(y48.queued == (((v46).tmod 3) == 0)))) rfl (fun c50 => ?_) (fun c50 => ?_)))))))))))))))))
      ·replace h1 := ip c50 h1
       refine seq_ (reg_ (st (mvc_ tv (oe_ (wk_ ⟨[(4, iV (-1))], [], []⟩ (fgk (by kernel_rfl)) ?_)))))
       obtain rfl := Option.some.inj h1
       obtain rfl := hx1 _ rfl
       obtain rfl := Option.some.inj h0
       exact rt_ (hR1 _ (ret_ rfl rfl rfl rfl rfl tv))
      ·replace h1 := inb c50 h1
       refine sk_ (wk_ ⟨[(0, .lst 4 (a0.map eDLease)), (1, iV v46), (5, iV p17)], [], []⟩ (fgk (by kernel_rfl)) (reg_ (st (mv_ rfl tv (st (c_ (cp_ t3 rfl tv) (st (mv_ rfl tv (oe_ (bn_ (wk_ ⟨[(0, .lst 4 (a0.map eDLease)), (1, iV (IntKind.i64.wrap (v46 + 1))), (5, iV p17)], [], []⟩ (fgk (by kernel_rfl)) (reg_ (st (mv_ rfl tv (st (c_ (cp_ t3 rfl tv) (st (mv_ rfl tv (oe_ ?_)))))))))))))))))))
       obtain rfl := Option.some.inj h1
       exact hK1 _ rfl _ ⟨[(0, .lst 4 (a0.map eDLease)), (1, iV (IntKind.i64.wrap (v46 + 1))), (5, iV (IntKind.i64.wrap (p17 + 1)))], [], []⟩ (fgk (by kernel_rfl)) rfl
  ·replace h1 := inb c36 h1
   obtain rfl := Option.some.inj h1
   obtain rfl := hx1 _ rfl
   refine exQ rfl ?_
   exact hE1 _ ⟨[(1, iV p16)], [], []⟩ (fgk (by kernel_rfl)) ⟨_, rfl, rfl⟩

/- loop.example/g00149/laws.heldTable -/
def c27_r0 : List Ins := [⟨some 2, .box (.t 0), none⟩,
⟨some 4, .p (.mv (.c (iV 0))), none⟩]
def c27_r1 : List Ins := [(iQ 5 (.fieldA (.t 2) 2)),
(iQ 6 (.load (.t 5) 1 false)),
(iQ 7 (.mv (.t 1))),
⟨some 8, .call 73 [(.t 6), (.t 7)], none⟩,
(iQ 1 (.mv (.t 8)))]
def c27_r2 : List Ins := [(iQ 9 (.mv (.t 1))),
⟨some 10, .p (.bin .lss (.t 9) (.c (iV 0))), none⟩]
def c27_r3 : List Ins := [⟨some 4, .p (.mv (.c (iV (-1)))), none⟩]
def c27_r4 : List Ins := [(iQ 11 (.mv (.t 1))),
(iQ 4 (.mv (.t 11)))]
def c27 : XFn := { np := 2, nt := 12, res := [.t 4], body := (.seq (.reg c27_r0) (.seq (.reg c27_r1) (.seq (.seq (.reg c27_r2) (.ite (.t 10) (.seq (.reg c27_r3) .ret) .skip)) (.seq (.reg c27_r4) .ret)))) }
def K27 (C : CRel) : Prop := ∀ (a0 : DTable) (a1 : Int) (r : Int), g27 a0 a1 = some r → C 27 ⟨[.agg (eDTable a0), iV a1], []⟩ ⟨iV r, [], []⟩
theorem F27 {C : CRel} (H73 : K73 C) (a0 : DTable) (a1 : Int) (r : Int) (h0 : g27 a0 a1 = some r) : FnOK C c27 ⟨[.agg (eDTable a0), iV a1], []⟩ ⟨iV r, [], []⟩ := by
 refine fn_ (nl rfl) (seq_ (reg_ (st (box_ rfl tv rfl (st (mvc_ tv (oe_ (wk_ ⟨[(1, iV a1), (2, .ptr 128 0)], [(128, [iV a0.clock, iV a0.next, .lst 4 (a0.list_.map eDLease)])], []⟩ (fgk (by kernel_rfl)) (seq_ (reg_ (st (c_ (cp_ ⟨tv, tv⟩ rfl tv) (st (c_ (cp_ ⟨tv, tv⟩ rfl (nl rfl)) (st (mv_ rfl tv ?_))))))))))))))))
 obtain ⟨r1, e2, h0⟩ := bnd h0
 refine st (call0_ (r := iV r1) false (H73 a0.list_ a1 r1 e2) ⟨tv, tv, tv⟩ rfl rfl (fun _ => rfl) (st (mv_ rfl tv (oe_ (wk_ ⟨[(1, iV r1)], [], []⟩ (fgk (by kernel_rfl)) (seq_ (seq_ (reg_ (st (mv_ rfl tv (st (c_ (cp_ t3 rfl tv) (oe_ (wk_ ⟨[(1, iV r1), (10, .bool (decide (r1 < 0)))], [], []⟩ (fgk (by kernel_rfl)) (ite_ (cb := (decide (r1 < 0))) rfl (fun c3 => ?_) (fun c3 => ?_))))))))))))))))
 ·replace h0 := ip c3 h0
  refine seq_ (reg_ (st (mvc_ tv (oe_ (wk_ ⟨[(4, iV (-1))], [], []⟩ (fgk (by kernel_rfl)) ?_)))))
  obtain rfl := Option.some.inj h0
  exact rt_ (ret_ rfl rfl rfl rfl rfl tv)
 ·replace h0 := inb c3 h0
  refine sk_ (wk_ ⟨[(1, iV r1)], [], []⟩ (fgk (by kernel_rfl)) (seq_ (reg_ (st (mv_ rfl tv (st (mv_ rfl tv (oe_ (wk_ ⟨[(4, iV r1)], [], []⟩ (fgk (by kernel_rfl)) ?_)))))))))
  obtain rfl := Option.some.inj h0
  exact rt_ (ret_ rfl rfl rfl rfl rfl tv)

/- loop.example/g00149/laws.heldIntS -/
def c38_r0 : List Ins := [⟨some 4, .p (.mv (.c (iV 0))), none⟩]
def c38_r1 : List Ins := [⟨some 5, .p (.mv (.c (iV 0))), none⟩]
def c38_r2 : List Ins := [(iQ 6 (.mv (.t 5))),
(iQ 7 (.mv (.t 0))),
(iQ 8 (.len (.t 7))),
(iQ 9 (.bin .lss (.t 6) (.t 8)))]
def c38_r3 : List Ins := [(iQ 12 (.mv (.t 0))),
(iQ 13 (.mv (.t 5))),
(iQ 14 (.idxA (.t 12) (.t 13) 1)),
(iQ 15 (.load (.t 14) 1 false)),
(iQ 16 (.mv (.t 1))),
(iQ 17 (.bin .neq (.t 15) (.t 16)))]
def c38_r4 : List Ins := [⟨some 4, .p (.mv (.c (iV (-1)))), none⟩]
def c38_r5 : List Ins := [(iQ 18 (.mv (.t 1))),
⟨some 19, .p (.bin .add (.t 18) (.c (iV 1))), none⟩,
(iQ 1 (.mv (.t 19)))]
def c38_r6 : List Ins := [(iQ 10 (.mv (.t 5))),
⟨some 11, .p (.bin .add (.t 10) (.c (iV 1))), none⟩,
(iQ 5 (.mv (.t 11)))]
def c38_l0 : IR := (.seq (.seq (.reg c38_r2) (.ite (.t 9) .skip (.exit 0))) (.seq (.block 1 (.seq (.seq (.reg c38_r3) (.ite (.t 17) (.seq (.reg c38_r4) .ret) .skip)) (.reg c38_r5))) (.reg c38_r6)))
def c38_r7 : List Ins := [(iQ 20 (.mv (.t 1))),
(iQ 4 (.mv (.t 20)))]
def c38 : XFn := { np := 2, nt := 21, res := [.t 4], body := (.seq (.reg c38_r0) (.seq (.seq (.reg c38_r1) (.block 0 (.loop c38_l0))) (.seq (.reg c38_r7) .ret))) }
def K38 (C : CRel) : Prop := ∀ (a0 : List Int) (a1 : Int) (r : Int), g38 a0 a1 = some r → C 38 ⟨[.lst 1 (a0.map eI), iV a1], []⟩ ⟨iV r, [], []⟩
theorem F38 {C : CRel}  (a0 : List Int) (a1 : Int) (r : Int) (h0 : g38 a0 a1 = some r) : FnOK C c38 ⟨[.lst 1 (a0.map eI), iV a1], []⟩ ⟨iV r, [], []⟩ := by
 refine fn_ (nl rfl) (seq_ (reg_ (st (mvc_ tv (oe_ (wk_ ⟨[(0, .lst 1 (a0.map eI)), (1, iV a1)], [], []⟩ (fgk (by kernel_rfl)) (seq_ (seq_ (reg_ (st (mvc_ tv (oe_ (wk_ ⟨[(0, .lst 1 (a0.map eI)), (1, iV a1), (5, iV 0)], [], []⟩ (fgk (by kernel_rfl)) (block_ ?_))))))))))))))
 obtain ⟨r18, e19, h0⟩ := bnd h0
 refine loop_ (R := (fun S => ∃ p13 : Int, .inl p13 = r18 ∧ S = ⟨[(1, iV p13)], [], []⟩)) (g38_l0 a0) (fun s S => match s with | (p5, p6) => S = ⟨[(0, .lst 1 (a0.map eI)), (1, iV p5), (5, iV p6)], [], []⟩) e19 ⟨[(0, .lst 1 (a0.map eI)), (1, iV a1), (5, iV 0)], [], []⟩ (fgk (by kernel_rfl)) rfl 0 (fun _ => rfl) ?_ ?_
 ·rintro S _ hfg ⟨p13, rfl, rfl⟩
  refine wk_ ⟨[(1, iV p13)], [], []⟩ (fglk hfg (by kernel_rfl)) (seq_ (reg_ (st (mv_ rfl tv (st (mv_ rfl tv (oe_ (wk_ ⟨[(4, iV p13)], [], []⟩ (fgk (by kernel_rfl)) ?_))))))))
  obtain rfl := Option.some.inj h0
  exact rt_ (ret_ rfl rfl rfl rfl rfl tv)
 ·rintro ⟨p5, p6⟩ o1 _ K1 rfl h1 hx1 hK1 hE1 hR1
  refine seq_ (seq_ (reg_ (st (mv_ rfl tv (st (mv_ rfl tv (st (c_ (clenL (e := eI) (l0 := a0) rfl rfl tv) (st (c_ (cp_ t3 rfl tv) (oe_ (wk_ ⟨[(0, .lst 1 (a0.map eI)), (1, iV p5), (5, iV p6), (9, .bool (decide (p6 < (a0.length : Int))))], [], []⟩ (fgk (by kernel_rfl)) (ite_ (cb := (decide (p6 < (a0.length : Int)))) rfl (fun c14 => ?_) (fun c14 => ?_))))))))))))))
  ·replace h1 := ip c14 h1
   refine sk_ (wk_ ⟨[(0, .lst 1 (a0.map eI)), (1, iV p5), (5, iV p6)], [], []⟩ (fgk (by kernel_rfl)) (seq_ (block_ (seq_ (seq_ (reg_ (st (mv_ rfl tv (st (mv_ rfl tv ?_))))))))))
   obtain ⟨y15, e16, h1⟩ := bnd h1
   refine st (c_ (cidxL (e := eI) (y := y15) rfl rfl tv rfl rfl tv e16) (st (c_ (cp_ ⟨tv, tv⟩ rfl (nl rfl)) (st (mv_ rfl tv (st (c_ (cp_ t3 rfl tv) (oe_ (wk_ ⟨[(0, .lst 1 (a0.map eI)), (1, iV p5), (5, iV p6), (17, .bool (y15 != p5))], [], []⟩ (fgk (by kernel_rfl)) (ite_ (cb := (y15 != p5)) rfl (fun c17 => ?_) (fun c17 => ?_)))))))))))
   ·replace h1 := ip c17 h1
    refine seq_ (reg_ (st (mvc_ tv (oe_ (wk_ ⟨[(4, iV (-1))], [], []⟩ (fgk (by kernel_rfl)) ?_)))))
    obtain rfl := Option.some.inj h1
    obtain rfl := hx1 _ rfl
    obtain rfl := Option.some.inj h0
    exact rt_ (hR1 _ (ret_ rfl rfl rfl rfl rfl tv))
   ·replace h1 := inb c17 h1
    refine sk_ (wk_ ⟨[(0, .lst 1 (a0.map eI)), (1, iV p5), (5, iV p6)], [], []⟩ (fgk (by kernel_rfl)) (reg_ (st (mv_ rfl tv (st (c_ (cp_ t3 rfl tv) (st (mv_ rfl tv (oe_ (bn_ (wk_ ⟨[(0, .lst 1 (a0.map eI)), (1, iV (IntKind.i64.wrap (p5 + 1))), (5, iV p6)], [], []⟩ (fgk (by kernel_rfl)) (reg_ (st (mv_ rfl tv (st (c_ (cp_ t3 rfl tv) (st (mv_ rfl tv (oe_ ?_)))))))))))))))))))
    obtain rfl := Option.some.inj h1
    exact hK1 _ rfl _ ⟨[(0, .lst 1 (a0.map eI)), (1, iV (IntKind.i64.wrap (p5 + 1))), (5, iV (IntKind.i64.wrap (p6 + 1)))], [], []⟩ (fgk (by kernel_rfl)) rfl
  ·replace h1 := inb c14 h1
   obtain rfl := Option.some.inj h1
   obtain rfl := hx1 _ rfl
   refine exQ rfl ?_
   exact hE1 _ ⟨[(1, iV p5)], [], []⟩ (fgk (by kernel_rfl)) ⟨_, rfl, rfl⟩

/- loop.example/g00149/laws.heldIntentS -/
def c324_r0 : List Ins := [⟨some 4, .p (.mv (.c (iV 0))), none⟩]
def c324_r1 : List Ins := [⟨some 5, .p (.mv (.c (iV 0))), none⟩]
def c324_r2 : List Ins := [(iQ 6 (.mv (.t 5))),
(iQ 7 (.mv (.t 0))),
(iQ 8 (.len (.t 7))),
(iQ 9 (.bin .lss (.t 6) (.t 8)))]
def c324_r3 : List Ins := [(iQ 12 (.mv (.t 0))),
(iQ 13 (.mv (.t 5))),
(iQ 14 (.idxA (.t 12) (.t 13) 2)),
(iQ 15 (.fieldA (.t 14) 0)),
(iQ 16 (.load (.t 15) 1 false)),
(iQ 17 (.mv (.t 1))),
(iQ 18 (.bin .neq (.t 16) (.t 17)))]
def c324_r4 : List Ins := [⟨some 4, .p (.mv (.c (iV (-1)))), none⟩]
def c324_r5 : List Ins := [(iQ 19 (.mv (.t 1))),
⟨some 20, .p (.bin .add (.t 19) (.c (iV 1))), none⟩,
(iQ 1 (.mv (.t 20)))]
def c324_r6 : List Ins := [(iQ 21 (.mv (.t 0))),
(iQ 22 (.mv (.t 5))),
(iQ 23 (.idxA (.t 21) (.t 22) 2)),
(iQ 24 (.fieldA (.t 23) 1)),
(iQ 25 (.load (.t 24) 1 false)),
(iQ 26 (.mv (.t 1))),
⟨some 27, .p (.bin .rem (.t 26) (.c (iV 3))), none⟩,
⟨some 28, .p (.bin .eql (.t 27) (.c (iV 0))), none⟩,
(iQ 29 (.binB .neq (.t 25) (.t 28)))]
def c324_r7 : List Ins := [⟨some 4, .p (.mv (.c (iV (-1)))), none⟩]
def c324_r8 : List Ins := [(iQ 30 (.mv (.t 1))),
⟨some 31, .p (.bin .add (.t 30) (.c (iV 1))), none⟩,
(iQ 1 (.mv (.t 31)))]
def c324_r9 : List Ins := [(iQ 10 (.mv (.t 5))),
⟨some 11, .p (.bin .add (.t 10) (.c (iV 1))), none⟩,
(iQ 5 (.mv (.t 11)))]
def c324_l0 : IR := (.seq (.seq (.reg c324_r2) (.ite (.t 9) .skip (.exit 0))) (.seq (.block 1 (.seq (.seq (.reg c324_r3) (.ite (.t 18) (.seq (.reg c324_r4) .ret) .skip)) (.seq (.reg c324_r5) (.seq (.seq (.reg c324_r6) (.ite (.t 29) (.seq (.reg c324_r7) .ret) .skip)) (.reg c324_r8))))) (.reg c324_r9)))
def c324_r10 : List Ins := [(iQ 32 (.mv (.t 1))),
(iQ 4 (.mv (.t 32)))]
def c324 : XFn := { np := 2, nt := 33, res := [.t 4], body := (.seq (.reg c324_r0) (.seq (.seq (.reg c324_r1) (.block 0 (.loop c324_l0))) (.seq (.reg c324_r10) .ret))) }
def K324 (C : CRel) : Prop := ∀ (a0 : List DIntent) (a1 : Int) (r : Int), g324 a0 a1 = some r → C 324 ⟨[.lst 2 (a0.map eDIntent), iV a1], []⟩ ⟨iV r, [], []⟩
theorem F324 {C : CRel}  (a0 : List DIntent) (a1 : Int) (r : Int) (h0 : g324 a0 a1 = some r) : FnOK C c324 ⟨[.lst 2 (a0.map eDIntent), iV a1], []⟩ ⟨iV r, [], []⟩ := by
 refine fn_ (nl rfl) (seq_ (reg_ (st (mvc_ tv (oe_ (wk_ ⟨[(0, .lst 2 (a0.map eDIntent)), (1, iV a1)], [], []⟩ (fgk (by kernel_rfl)) (seq_ (seq_ (reg_ (st (mvc_ tv (oe_ (wk_ ⟨[(0, .lst 2 (a0.map eDIntent)), (1, iV a1), (5, iV 0)], [], []⟩ (fgk (by kernel_rfl)) (block_ ?_))))))))))))))
 obtain ⟨r27, e28, h0⟩ := bnd h0
 refine loop_ (R := (fun S => ∃ p19 : Int, .inl p19 = r27 ∧ S = ⟨[(1, iV p19)], [], []⟩)) (g324_l0 a0) (fun s S => match s with | (p8, p9) => S = ⟨[(0, .lst 2 (a0.map eDIntent)), (1, iV p8), (5, iV p9)], [], []⟩) e28 ⟨[(0, .lst 2 (a0.map eDIntent)), (1, iV a1), (5, iV 0)], [], []⟩ (fgk (by kernel_rfl)) rfl 0 (fun _ => rfl) ?_ ?_
 ·rintro S _ hfg ⟨p19, rfl, rfl⟩
  refine wk_ ⟨[(1, iV p19)], [], []⟩ (fglk hfg (by kernel_rfl)) (seq_ (reg_ (st (mv_ rfl tv (st (mv_ rfl tv (oe_ (wk_ ⟨[(4, iV p19)], [], []⟩ (fgk (by kernel_rfl)) ?_))))))))
  obtain rfl := Option.some.inj h0
  exact rt_ (ret_ rfl rfl rfl rfl rfl tv)
 ·rintro ⟨p8, p9⟩ o1 _ K1 rfl h1 hx1 hK1 hE1 hR1
  refine seq_ (seq_ (reg_ (st (mv_ rfl tv (st (mv_ rfl tv (st (c_ (clenL (e := eDIntent) (l0 := a0) rfl rfl tv) (st (c_ (cp_ t3 rfl tv) (oe_ (wk_ ⟨[(0, .lst 2 (a0.map eDIntent)), (1, iV p8), (5, iV p9), (9, .bool (decide (p9 < (a0.length : Int))))], [], []⟩ (fgk (by kernel_rfl)) (ite_ (cb := (decide (p9 < (a0.length : Int)))) rfl (fun c20 => ?_) (fun c20 => ?_))))))))))))))
  ·replace h1 := ip c20 h1
   refine sk_ (wk_ ⟨[(0, .lst 2 (a0.map eDIntent)), (1, iV p8), (5, iV p9)], [], []⟩ (fgk (by kernel_rfl)) (seq_ (block_ (seq_ (seq_ (reg_ (st (mv_ rfl tv (st (mv_ rfl tv ?_))))))))))
   obtain ⟨y21, e22, h1⟩ := bnd h1
   refine st (c_ (cidxL (e := eDIntent) (y := y21) rfl rfl tv rfl rfl tv e22) (st (c_ (cp_ ⟨tv, tv⟩ rfl (nl rfl)) (st (c_ (cp_ ⟨tv, tv⟩ rfl (nl rfl)) (st (mv_ rfl tv (st (c_ (cp_ t3 rfl tv) (oe_ (wk_ ⟨[(0, .lst 2 (a0.map eDIntent)), (1, iV p8), (5, iV p9), (18, .bool (y21.lease != p8))], [], []⟩ (fgk (by kernel_rfl)) (ite_ (cb := (y21.lease != p8)) rfl (fun c23 => ?_) (fun c23 => ?_)))))))))))))
   ·replace h1 := ip c23 h1
    refine seq_ (reg_ (st (mvc_ tv (oe_ (wk_ ⟨[(4, iV (-1))], [], []⟩ (fgk (by kernel_rfl)) ?_)))))
    obtain rfl := Option.some.inj h1
    obtain rfl := hx1 _ rfl
    obtain rfl := Option.some.inj h0
    exact rt_ (hR1 _ (ret_ rfl rfl rfl rfl rfl tv))
   ·replace h1 := inb c23 h1
    refine sk_ (wk_ ⟨[(0, .lst 2 (a0.map eDIntent)), (1, iV p8), (5, iV p9)], [], []⟩ (fgk (by kernel_rfl)) (seq_ (reg_ (st (mv_ rfl tv (st (c_ (cp_ t3 rfl tv) (st (mv_ rfl tv (oe_ (wk_ ⟨[(0, .lst 2 (a0.map eDIntent)), (1, iV (IntKind.i64.wrap (p8 + 1))), (5, iV p9)], [], []⟩ (fgk (by kernel_rfl)) (seq_ (seq_ (reg_ (st (mv_ rfl tv (st (mv_ rfl tv ?_))))))))))))))))))
    obtain ⟨y24, e25, h1⟩ := bnd h1
    refine st (c_ (cidxL (e := eDIntent) (y := y24) rfl rfl tv rfl rfl tv e25) (st (c_ (cp_ ⟨tv, tv⟩ rfl (nl rfl)) (st (c_ (cp_ ⟨tv, tv⟩ rfl (nl rfl)) (st (mv_ rfl tv (st (c_ (cp_ ⟨tv, tv, tv⟩ rfl (by decide)) (st (c_ (cp_ t3 rfl tv) (st (c_ (cp_ t3 rfl tv) (oe_ (wk_ ⟨[(0, .lst 2 (a0.map eDIntent)), (1, iV (IntKind.i64.wrap (p8 + 1))), (5, iV p9), (29, .bool (!(y24.undo == ((((IntKind.i64.wrap (p8 + 1))).tmod 3) == 0))))], [], []⟩ (fgk (by kernel_rfl)) (ite_ (cb := (!(y24.undo == ((((IntKind.i64.wrap (p8 + 1))).tmod 3) == 0)))) rfl (fun c26 => ?_) (fun c26 => ?_)))))))))))))))))
    ·replace h1 := ip c26 h1
     refine seq_ (reg_ (st (mvc_ tv (oe_ (wk_ ⟨[(4, iV (-1))], [], []⟩ (fgk (by kernel_rfl)) ?_)))))
     obtain rfl := Option.some.inj h1
     obtain rfl := hx1 _ rfl
     obtain rfl := Option.some.inj h0
     exact rt_ (hR1 _ (ret_ rfl rfl rfl rfl rfl tv))
    ·replace h1 := inb c26 h1
     refine sk_ (wk_ ⟨[(0, .lst 2 (a0.map eDIntent)), (1, iV (IntKind.i64.wrap (p8 + 1))), (5, iV p9)], [], []⟩ (fgk (by kernel_rfl)) (reg_ (st (mv_ rfl tv (st (c_ (cp_ t3 rfl tv) (st (mv_ rfl tv (oe_ (bn_ (wk_ ⟨[(0, .lst 2 (a0.map eDIntent)), (1, iV (IntKind.i64.wrap ((IntKind.i64.wrap (p8 + 1)) + 1))), (5, iV p9)], [], []⟩ (fgk (by kernel_rfl)) (reg_ (st (mv_ rfl tv (st (c_ (cp_ t3 rfl tv) (st (mv_ rfl tv (oe_ ?_)))))))))))))))))))
     obtain rfl := Option.some.inj h1
     exact hK1 _ rfl _ ⟨[(0, .lst 2 (a0.map eDIntent)), (1, iV (IntKind.i64.wrap ((IntKind.i64.wrap (p8 + 1)) + 1))), (5, iV (IntKind.i64.wrap (p9 + 1)))], [], []⟩ (fgk (by kernel_rfl)) rfl
  ·replace h1 := inb c20 h1
   obtain rfl := Option.some.inj h1
   obtain rfl := hx1 _ rfl
   refine exQ rfl ?_
   exact hE1 _ ⟨[(1, iV p8)], [], []⟩ (fgk (by kernel_rfl)) ⟨_, rfl, rfl⟩

/- loop.example/g00149/laws.heldVault -/
def c259_r0 : List Ins := [⟨some 2, .box (.t 0), none⟩,
⟨some 4, .p (.mv (.c (iV 0))), none⟩]
def c259_r1 : List Ins := [(iQ 5 (.fieldA (.t 2) 0)),
(iQ 6 (.load (.t 5) 3 true)),
(iQ 7 (.mv (.t 1))),
⟨some 8, .call 27 [(.t 6), (.t 7)], none⟩,
(iQ 1 (.mv (.t 8)))]
def c259_r2 : List Ins := [(iQ 9 (.mv (.t 1))),
⟨some 10, .p (.bin .lss (.t 9) (.c (iV 0))), none⟩]
def c259_r3 : List Ins := [⟨some 4, .p (.mv (.c (iV (-1)))), none⟩]
def c259_r4 : List Ins := [(iQ 11 (.fieldA (.t 2) 3)),
(iQ 12 (.load (.t 11) 1 false)),
(iQ 13 (.mv (.t 1))),
⟨some 14, .call 324 [(.t 12), (.t 13)], none⟩,
(iQ 1 (.mv (.t 14)))]
def c259_r5 : List Ins := [(iQ 15 (.mv (.t 1))),
⟨some 16, .p (.bin .lss (.t 15) (.c (iV 0))), none⟩]
def c259_r6 : List Ins := [⟨some 4, .p (.mv (.c (iV (-1)))), none⟩]
def c259_r7 : List Ins := [(iQ 17 (.fieldA (.t 2) 4)),
(iQ 18 (.load (.t 17) 1 false)),
(iQ 19 (.mv (.t 1))),
⟨some 20, .call 38 [(.t 18), (.t 19)], none⟩,
(iQ 1 (.mv (.t 20)))]
def c259_r8 : List Ins := [(iQ 21 (.mv (.t 1))),
⟨some 22, .p (.bin .lss (.t 21) (.c (iV 0))), none⟩]
def c259_r9 : List Ins := [⟨some 4, .p (.mv (.c (iV (-1)))), none⟩]
def c259_r10 : List Ins := [(iQ 23 (.mv (.t 1))),
(iQ 4 (.mv (.t 23)))]
def c259 : XFn := { np := 2, nt := 24, res := [.t 4], body := (.seq (.reg c259_r0) (.seq (.reg c259_r1) (.seq (.seq (.reg c259_r2) (.ite (.t 10) (.seq (.reg c259_r3) .ret) .skip)) (.seq (.reg c259_r4) (.seq (.seq (.reg c259_r5) (.ite (.t 16) (.seq (.reg c259_r6) .ret) .skip)) (.seq (.reg c259_r7) (.seq (.seq (.reg c259_r8) (.ite (.t 22) (.seq (.reg c259_r9) .ret) .skip)) (.seq (.reg c259_r10) .ret)))))))) }
def K259 (C : CRel) : Prop := ∀ (a0 : DVault) (a1 : Int) (r : Int), g259 a0 a1 = some r → C 259 ⟨[.agg (eDVault a0), iV a1], []⟩ ⟨iV r, [], []⟩
theorem F259 {C : CRel} (H27 : K27 C) (H38 : K38 C) (H324 : K324 C) (a0 : DVault) (a1 : Int) (r : Int) (h0 : g259 a0 a1 = some r) : FnOK C c259 ⟨[.agg (eDVault a0), iV a1], []⟩ ⟨iV r, [], []⟩ := by
 refine fn_ (nl rfl) (seq_ (reg_ (st (box_ rfl tv rfl (st (mvc_ tv (oe_ (wk_ ⟨[(1, iV a1), (2, .ptr 128 0)], [(128, [iV a0.table.clock, iV a0.table.next, .lst 4 (a0.table.list_.map eDLease), .lst 2 (a0.intents.map eDIntent), .lst 1 (a0.accounts.map eI), .bool a0.sealed])], []⟩ (fgk (by kernel_rfl)) (seq_ (reg_ (st (c_ (cp_ ⟨tv, tv⟩ rfl tv) (st (c_ (v := .agg [iV a0.table.clock, iV a0.table.next, .lst 4 (a0.table.list_.map eDLease)]) (cp_ ⟨tv, tv⟩ rfl (nl rfl)) (st (mv_ rfl tv ?_))))))))))))))))
 obtain ⟨r1, e2, h0⟩ := bnd h0
 refine st (call0_ (r := iV r1) false (H27 a0.table a1 r1 e2) ⟨tv, tv, tv⟩ rfl rfl (fun _ => rfl) (st (mv_ rfl tv (oe_ (wk_ ⟨[(1, iV r1), (2, .ptr 128 0)], [(128, [iV a0.table.clock, iV a0.table.next, .lst 4 (a0.table.list_.map eDLease), .lst 2 (a0.intents.map eDIntent), .lst 1 (a0.accounts.map eI), .bool a0.sealed])], []⟩ (fgk (by kernel_rfl)) (seq_ (seq_ (reg_ (st (mv_ rfl tv (st (c_ (cp_ t3 rfl tv) (oe_ (wk_ ⟨[(1, iV r1), (2, .ptr 128 0), (10, .bool (decide (r1 < 0)))], [(128, [iV a0.table.clock, iV a0.table.next, .lst 4 (a0.table.list_.map eDLease), .lst 2 (a0.intents.map eDIntent), .lst 1 (a0.accounts.map eI), .bool a0.sealed])], []⟩ (fgk (by kernel_rfl)) (ite_ (cb := (decide (r1 < 0))) rfl (fun c3 => ?_) (fun c3 => ?_))))))))))))))))
 ·replace h0 := ip c3 h0
  refine seq_ (reg_ (st (mvc_ tv (oe_ (wk_ ⟨[(4, iV (-1))], [], []⟩ (fgk (by kernel_rfl)) ?_)))))
  obtain rfl := Option.some.inj h0
  exact rt_ (ret_ rfl rfl rfl rfl rfl tv)
 ·replace h0 := inb c3 h0
  refine sk_ (wk_ ⟨[(1, iV r1), (2, .ptr 128 0)], [(128, [iV a0.table.clock, iV a0.table.next, .lst 4 (a0.table.list_.map eDLease), .lst 2 (a0.intents.map eDIntent), .lst 1 (a0.accounts.map eI), .bool a0.sealed])], []⟩ (fgk (by kernel_rfl)) (seq_ (reg_ (st (c_ (cp_ ⟨tv, tv⟩ rfl tv) (st (c_ (cp_ ⟨tv, tv⟩ rfl (nl rfl)) (st (mv_ rfl tv ?_)))))))))
  obtain ⟨r4, e5, h0⟩ := bnd h0
  refine st (call0_ (r := iV r4) false (H324 a0.intents r1 r4 e5) ⟨tv, tv, tv⟩ rfl rfl (fun _ => rfl) (st (mv_ rfl tv (oe_ (wk_ ⟨[(1, iV r4), (2, .ptr 128 0)], [(128, [iV a0.table.clock, iV a0.table.next, .lst 4 (a0.table.list_.map eDLease), .lst 2 (a0.intents.map eDIntent), .lst 1 (a0.accounts.map eI), .bool a0.sealed])], []⟩ (fgk (by kernel_rfl)) (seq_ (seq_ (reg_ (st (mv_ rfl tv (st (c_ (cp_ t3 rfl tv) (oe_ (wk_ ⟨[(1, iV r4), (2, .ptr 128 0), (16, .bool (decide (r4 < 0)))], [(128, [iV a0.table.clock, iV a0.table.next, .lst 4 (a0.table.list_.map eDLease), .lst 2 (a0.intents.map eDIntent), .lst 1 (a0.accounts.map eI), .bool a0.sealed])], []⟩ (fgk (by kernel_rfl)) (ite_ (cb := (decide (r4 < 0))) rfl (fun c6 => ?_) (fun c6 => ?_))))))))))))))))
  ·replace h0 := ip c6 h0
   refine seq_ (reg_ (st (mvc_ tv (oe_ (wk_ ⟨[(4, iV (-1))], [], []⟩ (fgk (by kernel_rfl)) ?_)))))
   obtain rfl := Option.some.inj h0
   exact rt_ (ret_ rfl rfl rfl rfl rfl tv)
  ·replace h0 := inb c6 h0
   refine sk_ (wk_ ⟨[(1, iV r4), (2, .ptr 128 0)], [(128, [iV a0.table.clock, iV a0.table.next, .lst 4 (a0.table.list_.map eDLease), .lst 2 (a0.intents.map eDIntent), .lst 1 (a0.accounts.map eI), .bool a0.sealed])], []⟩ (fgk (by kernel_rfl)) (seq_ (reg_ (st (c_ (cp_ ⟨tv, tv⟩ rfl tv) (st (c_ (cp_ ⟨tv, tv⟩ rfl (nl rfl)) (st (mv_ rfl tv ?_)))))))))
   obtain ⟨r7, e8, h0⟩ := bnd h0
   refine st (call0_ (r := iV r7) false (H38 a0.accounts r4 r7 e8) ⟨tv, tv, tv⟩ rfl rfl (fun _ => rfl) (st (mv_ rfl tv (oe_ (wk_ ⟨[(1, iV r7)], [], []⟩ (fgk (by kernel_rfl)) (seq_ (seq_ (reg_ (st (mv_ rfl tv (st (c_ (cp_ t3 rfl tv) (oe_ (wk_ ⟨[(1, iV r7), (22, .bool (decide (r7 < 0)))], [], []⟩ (fgk (by kernel_rfl)) (ite_ (cb := (decide (r7 < 0))) rfl (fun c9 => ?_) (fun c9 => ?_))))))))))))))))
   ·replace h0 := ip c9 h0
    refine seq_ (reg_ (st (mvc_ tv (oe_ (wk_ ⟨[(4, iV (-1))], [], []⟩ (fgk (by kernel_rfl)) ?_)))))
    obtain rfl := Option.some.inj h0
    exact rt_ (ret_ rfl rfl rfl rfl rfl tv)
   ·replace h0 := inb c9 h0
    refine sk_ (wk_ ⟨[(1, iV r7)], [], []⟩ (fgk (by kernel_rfl)) (seq_ (reg_ (st (mv_ rfl tv (st (mv_ rfl tv (oe_ (wk_ ⟨[(4, iV r7)], [], []⟩ (fgk (by kernel_rfl)) ?_)))))))))
    obtain rfl := Option.some.inj h0
    exact rt_ (ret_ rfl rfl rfl rfl rfl tv)

/- loop.example/g00149/laws.FnExactVaultOf -/
def c210_r0 : List Ins := [⟨some 4, .p (.mv (.c (.bool false))), none⟩]
def c210_r1 : List Ins := [(iQ 17 (.mv (.t 1))),
(iQ 18 (.len (.t 17))),
⟨some 19, .p (.bin .gtr (.t 18) (.c (iV 1048576))), none⟩]
def c210_r2 : List Ins := [⟨some 4, .p (.mv (.c (.bool true))), none⟩]
def c210_r3 : List Ins := [⟨some 5, .p (.mv (.c (iV 1048576))), none⟩]
def c210_r4 : List Ins := [(iQ 20 (.mv (.t 0))),
(iQ 21 (.mv (.t 5))),
⟨some 22, .call 255 [(.t 20), (.t 21)], none⟩,
(iQ 5 (.mv (.t 22)))]
def c210_r5 : List Ins := [(iQ 23 (.mv (.t 5))),
⟨some 24, .p (.bin .lss (.t 23) (.c (iV 0))), none⟩]
def c210_r6 : List Ins := [⟨some 4, .p (.mv (.c (.bool true))), none⟩]
def c210_r7 : List Ins := [(iQ 26 (.mv (.t 0))),
⟨some 27, .call 257 [(.t 26)], none⟩,
(iQ 28 (.mv (.t 1))),
⟨some 29, .call 43 [(.t 28)], none⟩,
⟨some 30, .call 256 [(.t 27), (.t 29)], none⟩,
(iQ 25 (.mv (.t 30))),
(iQ 31 (.ext (.t 25) 0)),
(iQ 32 (.ext (.t 25) 1)),
⟨some 6, .alloc [(iV 0), (iV 0), (.own 387 0 4 []), (.own 388 0 2 []), (.own 389 0 1 []), (.bool false)], none⟩,
⟨none, .store (.t 6) (.t 31) 6, none⟩,
(iQ 7 (.mv (.t 32)))]
def c210_r8 : List Ins := [(iQ 33 (.mv (.t 0))),
⟨some 34, .call 257 [(.t 33)], none⟩,
(iQ 8 (.mv (.t 34)))]
def c210_r9 : List Ins := [(iQ 35 (.mv (.t 1))),
⟨some 36, .call 43 [(.t 35)], none⟩,
(iQ 9 (.mv (.t 36)))]
def c210_r10 : List Ins := [(iQ 38 (.mv (.t 8))),
(iQ 39 (.mv (.t 9))),
⟨some 40, .call 258 [(.t 38), (.t 39)], none⟩,
(iQ 37 (.mv (.t 40))),
(iQ 41 (.ext (.t 37) 0)),
(iQ 42 (.ext (.t 37) 1)),
⟨some 10, .alloc [(iV 0), (iV 0), (.own 643 0 4 []), (.own 644 0 2 []), (.own 645 0 1 []), (.bool false)], none⟩,
⟨none, .store (.t 10) (.t 41) 6, none⟩,
(iQ 11 (.mv (.t 42)))]
def c210_r11 : List Ins := [(iQ 43 (.load (.t 10) 6 true)),
(iQ 44 (.load (.t 6) 6 true)),
⟨some 45, .call 49 [(.t 43), (.t 44)], none⟩,
(iQ 46 (.un .not (.t 45))),
(iQ 47 (.mv (.t 46))),
⟨some 48, .p (.mv (.t 11)), some (47, false)⟩,
⟨some 49, .p (.mv (.t 7)), some (47, false)⟩,
⟨some 50, .p (.bin .neq (.t 48) (.t 49)), some (47, false)⟩,
⟨some 51, .pick (.t 47) (.c (.bool true)) (.t 50), none⟩]
def c210_r12 : List Ins := [⟨some 4, .p (.mv (.c (.bool false))), none⟩]
def c210_r13 : List Ins := [(iQ 52 (.mv (.t 8))),
(iQ 53 (.mv (.t 0))),
⟨some 54, .call 257 [(.t 53)], none⟩,
⟨some 55, .call 251 [(.t 52), (.t 54)], none⟩,
(iQ 56 (.un .not (.t 55)))]
def c210_r14 : List Ins := [⟨some 4, .p (.mv (.c (.bool false))), none⟩]
def c210_r15 : List Ins := [(iQ 57 (.mv (.t 9))),
(iQ 58 (.mv (.t 1))),
⟨some 59, .call 43 [(.t 58)], none⟩,
⟨some 60, .call 36 [(.t 57), (.t 59)], none⟩,
(iQ 61 (.un .not (.t 60)))]
def c210_r16 : List Ins := [⟨some 4, .p (.mv (.c (.bool false))), none⟩]
def c210_r17 : List Ins := [⟨some 12, .p (.mv (.c (iV 1))), none⟩]
def c210_r18 : List Ins := [(iQ 62 (.mv (.t 8))),
(iQ 63 (.mv (.t 12))),
⟨some 64, .call 253 [(.t 62), (.t 63)], none⟩,
(iQ 12 (.mv (.t 64)))]
def c210_r19 : List Ins := [(iQ 65 (.mv (.t 9))),
(iQ 66 (.mv (.t 12))),
⟨some 67, .call 37 [(.t 65), (.t 66)], none⟩,
(iQ 12 (.mv (.t 67)))]
def c210_r20 : List Ins := [(iQ 68 (.mv (.t 12))),
⟨some 69, .p (.bin .lss (.t 68) (.c (iV 0))), none⟩,
(iQ 70 (.mv (.t 69))),
⟨some 71, .p (.load (.t 10) 6 true), some (70, false)⟩,
⟨some 72, .p (.load (.t 6) 6 true), some (70, false)⟩,
⟨some 73, .call 49 [(.t 71), (.t 72)], some (70, false)⟩,
⟨some 74, .p (.un .not (.t 73)), some (70, false)⟩,
⟨some 75, .pick (.t 70) (.c (.bool true)) (.t 74), none⟩,
(iQ 76 (.mv (.t 75))),
⟨some 77, .p (.mv (.t 11)), some (76, false)⟩,
⟨some 78, .p (.mv (.t 7)), some (76, false)⟩,
⟨some 79, .p (.bin .neq (.t 77) (.t 78)), some (76, false)⟩,
⟨some 80, .pick (.t 76) (.c (.bool true)) (.t 79), none⟩]
def c210_r21 : List Ins := [⟨some 4, .p (.mv (.c (.bool false))), none⟩]
def c210_r22 : List Ins := [⟨some 13, .p (.mv (.c (iV 1))), none⟩]
def c210_r23 : List Ins := [(iQ 81 (.load (.t 10) 6 true)),
(iQ 82 (.mv (.t 13))),
⟨some 83, .call 252 [(.t 81), (.t 82)], none⟩,
(iQ 13 (.mv (.t 83)))]
def c210_r24 : List Ins := [⟨some 14, .p (.mv (.c (iV 1))), none⟩]
def c210_r25 : List Ins := [(iQ 84 (.load (.t 10) 6 true)),
(iQ 85 (.mv (.t 14))),
⟨some 86, .call 259 [(.t 84), (.t 85)], none⟩,
(iQ 14 (.mv (.t 86)))]
def c210_r26 : List Ins := [(iQ 87 (.mv (.t 14))),
⟨some 88, .p (.bin .lss (.t 87) (.c (iV 0))), none⟩]
def c210_r27 : List Ins := [⟨some 4, .p (.mv (.c (.bool false))), none⟩]
def c210_r28 : List Ins := [(iQ 89 (.mv (.t 14))),
(iQ 90 (.mv (.t 13))),
(iQ 91 (.bin .neq (.t 89) (.t 90)))]
def c210_r29 : List Ins := [⟨some 4, .p (.mv (.c (.bool false))), none⟩]
def c210_r30 : List Ins := [(iQ 93 (.mv (.t 0))),
⟨some 94, .call 257 [(.t 93)], none⟩,
(iQ 95 (.mv (.t 1))),
⟨some 96, .call 43 [(.t 95)], none⟩,
⟨some 97, .call 258 [(.t 94), (.t 96)], none⟩,
(iQ 92 (.mv (.t 97))),
(iQ 98 (.ext (.t 92) 0)),
(iQ 99 (.ext (.t 92) 1)),
⟨some 15, .alloc [(iV 0), (iV 0), (.own 963 0 4 []), (.own 964 0 2 []), (.own 965 0 1 []), (.bool false)], none⟩,
⟨none, .store (.t 15) (.t 98) 6, none⟩,
(iQ 16 (.mv (.t 99)))]
def c210_r31 : List Ins := [(iQ 100 (.load (.t 15) 6 true)),
(iQ 101 (.load (.t 6) 6 true)),
⟨some 102, .call 49 [(.t 100), (.t 101)], none⟩,
(iQ 103 (.un .not (.t 102))),
(iQ 104 (.mv (.t 103))),
⟨some 105, .p (.mv (.t 16)), some (104, false)⟩,
⟨some 106, .p (.mv (.t 7)), some (104, false)⟩,
⟨some 107, .p (.bin .neq (.t 105) (.t 106)), some (104, false)⟩,
⟨some 108, .pick (.t 104) (.c (.bool true)) (.t 107), none⟩]
def c210_r32 : List Ins := [⟨some 4, .p (.mv (.c (.bool false))), none⟩]
def c210_r33 : List Ins := [⟨some 14, .p (.mv (.c (iV 1))), none⟩]
def c210_r34 : List Ins := [(iQ 109 (.load (.t 10) 6 true)),
(iQ 110 (.mv (.t 14))),
⟨some 111, .call 259 [(.t 109), (.t 110)], none⟩,
(iQ 14 (.mv (.t 111)))]
def c210_r35 : List Ins := [(iQ 112 (.mv (.t 14))),
⟨some 113, .p (.bin .lss (.t 112) (.c (iV 0))), none⟩]
def c210_r36 : List Ins := [⟨some 4, .p (.mv (.c (.bool false))), none⟩]
def c210_r37 : List Ins := [(iQ 114 (.mv (.t 14))),
(iQ 115 (.mv (.t 13))),
(iQ 116 (.bin .neq (.t 114) (.t 115)))]
def c210_r38 : List Ins := [⟨some 4, .p (.mv (.c (.bool false))), none⟩]
def c210_r39 : List Ins := [⟨some 4, .p (.mv (.c (.bool true))), none⟩]
def c210 : XFn := { np := 2, nt := 117, res := [.t 4], body := (.seq (.reg c210_r0) (.seq (.seq (.reg c210_r1) (.ite (.t 19) (.seq (.reg c210_r2) .ret) .skip)) (.seq (.reg c210_r3) (.seq (.reg c210_r4) (.seq (.seq (.reg c210_r5) (.ite (.t 24) (.seq (.reg c210_r6) .ret) .skip)) (.seq (.reg c210_r7) (.seq (.reg c210_r8) (.seq (.reg c210_r9) (.seq (.reg c210_r10) (.seq (.seq (.reg c210_r11) (.ite (.t 51) (.seq (.reg c210_r12) .ret) .skip)) (.seq (.seq (.reg c210_r13) (.ite (.t 56) (.seq (.reg c210_r14) .ret) .skip)) (.seq (.seq (.reg c210_r15) (.ite (.t 61) (.seq (.reg c210_r16) .ret) .skip)) (.seq (.reg c210_r17) (.seq (.reg c210_r18) (.seq (.reg c210_r19) (.seq (.seq (.reg c210_r20) (.ite (.t 80) (.seq (.reg c210_r21) .ret) .skip)) (.seq (.reg c210_r22) (.seq (.reg c210_r23) (.seq (.reg c210_r24) (.seq (.reg c210_r25) (.seq (.seq (.reg c210_r26) (.ite (.t 88) (.seq (.reg c210_r27) .ret) .skip)) (.seq (.seq (.reg c210_r28) (.ite (.t 91) (.seq (.reg c210_r29) .ret) .skip)) (.seq (.reg c210_r30) (.seq (.seq (.reg c210_r31) (.ite (.t 108) (.seq (.reg c210_r32) .ret) .skip)) (.seq (.reg c210_r33) (.seq (.reg c210_r34) (.seq (.seq (.reg c210_r35) (.ite (.t 113) (.seq (.reg c210_r36) .ret) .skip)) (.seq (.seq (.reg c210_r37) (.ite (.t 116) (.seq (.reg c210_r38) .ret) .skip)) (.seq (.reg c210_r39) .ret))))))))))))))))))))))))))))) }
def K210 (C : CRel) : Prop := ∀ (a0 : List DPair) (a1 : List Int) (r : Bool), g210 a0 a1 = some r → C 210 ⟨[.lst 2 (a0.map eDPair), .lst 1 (a1.map eI)], []⟩ ⟨.bool r, [], []⟩
theorem F210 {C : CRel} (H36 : K36 C) (H37 : K37 C) (H43 : K43 C) (H49 : K49 C) (H251 : K251 C) (H252 : K252 C) (H253 : K253 C) (H255 : K255 C) (H256 : K256 C) (H257 : K257 C) (H258 : K258 C) (H259 : K259 C) (a0 : List DPair) (a1 : List Int) (r : Bool) (h0 : g210 a0 a1 = some r) : FnOK C c210 ⟨[.lst 2 (a0.map eDPair), .lst 1 (a1.map eI)], []⟩ ⟨.bool r, [], []⟩ := by
 refine fn_ (nl rfl) (seq_ (reg_ (st (mvc_ tv (oe_ (wk_ ⟨[(0, .lst 2 (a0.map eDPair)), (1, .lst 1 (a1.map eI))], [], []⟩ (fgk (by kernel_rfl)) (seq_ (seq_ (reg_ (st (mv_ rfl tv (st (c_ (clenL (e := eI) (l0 := a1) rfl rfl tv) (st (c_ (cp_ t3 rfl tv) (oe_ (wk_ ⟨[(0, .lst 2 (a0.map eDPair)), (1, .lst 1 (a1.map eI)), (19, .bool (decide ((a1.length : Int) > 1048576)))], [], []⟩ (fgk (by kernel_rfl)) (ite_ (cb := (decide ((a1.length : Int) > 1048576))) rfl (fun c1 => ?_) (fun c1 => ?_)))))))))))))))))))
 ·replace h0 := ip c1 h0
  refine seq_ (reg_ (st (mvc_ tv (oe_ (wk_ ⟨[(4, .bool true)], [], []⟩ (fgk (by kernel_rfl)) ?_)))))
  obtain rfl := Option.some.inj h0
  exact rt_ (ret_ rfl rfl rfl rfl rfl tv)
 ·replace h0 := inb c1 h0
  refine sk_ (wk_ ⟨[(0, .lst 2 (a0.map eDPair)), (1, .lst 1 (a1.map eI))], [], []⟩ (fgk (by kernel_rfl)) (seq_ (reg_ (st (mvc_ tv (oe_ (wk_ ⟨[(0, .lst 2 (a0.map eDPair)), (1, .lst 1 (a1.map eI)), (5, iV 1048576)], [], []⟩ (fgk (by kernel_rfl)) (seq_ (reg_ (st (mv_ rfl tv (st (mv_ rfl tv ?_)))))))))))))
  obtain ⟨r2, e3, h0⟩ := bnd h0
  refine st (call0_ (r := iV r2) false (H255 a0 1048576 r2 e3) ⟨tv, tv, tv⟩ rfl rfl (fun _ => rfl) (st (mv_ rfl tv (oe_ (wk_ ⟨[(0, .lst 2 (a0.map eDPair)), (1, .lst 1 (a1.map eI)), (5, iV r2)], [], []⟩ (fgk (by kernel_rfl)) (seq_ (seq_ (reg_ (st (mv_ rfl tv (st (c_ (cp_ t3 rfl tv) (oe_ (wk_ ⟨[(0, .lst 2 (a0.map eDPair)), (1, .lst 1 (a1.map eI)), (24, .bool (decide (r2 < 0)))], [], []⟩ (fgk (by kernel_rfl)) (ite_ (cb := (decide (r2 < 0))) rfl (fun c4 => ?_) (fun c4 => ?_))))))))))))))))
  ·replace h0 := ip c4 h0
   refine seq_ (reg_ (st (mvc_ tv (oe_ (wk_ ⟨[(4, .bool true)], [], []⟩ (fgk (by kernel_rfl)) ?_)))))
   obtain rfl := Option.some.inj h0
   exact rt_ (ret_ rfl rfl rfl rfl rfl tv)
  ·replace h0 := inb c4 h0
   refine sk_ (wk_ ⟨[(0, .lst 2 (a0.map eDPair)), (1, .lst 1 (a1.map eI))], [], []⟩ (fgk (by kernel_rfl)) (seq_ (reg_ (st (mv_ rfl tv ?_)))))
   obtain ⟨r5, e6, h0⟩ := bnd h0
   refine st (call0_ (r := .own 0 0 2 (r5.map eDPair)) false (H257 a0 r5 e6) ⟨tv, tv⟩ rfl rfl (fun _ => (and_ (fl1 (fun _ => rfl)) rfl)) (st (mv_ rfl tv ?_)))
   obtain ⟨r7, e8, h0⟩ := bnd h0
   refine st (call0_ (r := .own 0 0 1 (r7.map eI)) false (H43 a1 r7 e8) ⟨tv, tv⟩ rfl rfl (fun _ => (and_ (fl1 (fun _ => rfl)) rfl)) ?_)
   obtain ⟨r9, e10, h0⟩ := bnd h0
   refine sw ⟨[(0, .lst 2 (a0.map eDPair)), (1, .lst 1 (a1.map eI)), (27, .own 1728 0 2 (r5.map eDPair)), (29, .own 1856 0 1 (r7.map eI))], [], []⟩ (fgk (by kernel_rfl)) (call0_ (r := .tup [.agg [iV r9.1.table.clock, iV r9.1.table.next, .own 0 0 4 (r9.1.table.list_.map eDLease), .own 1 0 2 (r9.1.intents.map eDIntent), .lst 1 (r9.1.accounts.map eI), .bool r9.1.sealed], iV r9.2]) true (H256 r5 r7 r9 e10) ⟨tv, tv, tv⟩ rfl rfl (fun h => nomatch h) (sw ⟨[(0, .lst 2 (a0.map eDPair)), (1, .lst 1 (a1.map eI)), (30, .tup [.agg [iV r9.1.table.clock, iV r9.1.table.next, .own 1920 0 4 (r9.1.table.list_.map eDLease), .own 1921 0 2 (r9.1.intents.map eDIntent), .lst 1 (r9.1.accounts.map eI), .bool r9.1.sealed], iV r9.2])], [], []⟩ (fgk (by kernel_rfl)) (mv_ rfl tv (st (c_ (cp_ ⟨tv, tv⟩ rfl tv) (st (c_ (cp_ ⟨tv, tv⟩ rfl tv) (st (alloc_ (st (stp_ rfl rfl tv rfl rfl rfl (nl rfl) (st (mv_ rfl tv (oe_ (wk_ ⟨[(0, .lst 2 (a0.map eDPair)), (1, .lst 1 (a1.map eI)), (6, .ptr 384 0), (7, iV r9.2)], [(384, [iV r9.1.table.clock, iV r9.1.table.next, .own 1920 0 4 (r9.1.table.list_.map eDLease), .own 1921 0 2 (r9.1.intents.map eDIntent), .lst 1 (r9.1.accounts.map eI), .bool r9.1.sealed])], []⟩ (fgk (by kernel_rfl)) (seq_ (reg_ (st (mv_ rfl tv ?_)))))))))))))))))))
   obtain ⟨r11, e12, h0⟩ := bnd h0
   refine st (call0_ (r := .own 0 0 2 (r11.map eDPair)) false (H257 a0 r11 e12) ⟨tv, tv⟩ rfl rfl (fun _ => (and_ (fl1 (fun _ => rfl)) rfl)) (st (mv_ rfl tv (oe_ (wk_ ⟨[(0, .lst 2 (a0.map eDPair)), (1, .lst 1 (a1.map eI)), (6, .ptr 384 0), (7, iV r9.2), (8, .own 2176 0 2 (r11.map eDPair))], [(384, [iV r9.1.table.clock, iV r9.1.table.next, .own 1920 0 4 (r9.1.table.list_.map eDLease), .own 1921 0 2 (r9.1.intents.map eDIntent), .lst 1 (r9.1.accounts.map eI), .bool r9.1.sealed])], []⟩ (fgk (by kernel_rfl)) (seq_ (reg_ (st (mv_ rfl tv ?_)))))))))
   obtain ⟨r13, e14, h0⟩ := bnd h0
   refine st (call0_ (r := .own 0 0 1 (r13.map eI)) false (H43 a1 r13 e14) ⟨tv, tv⟩ rfl rfl (fun _ => (and_ (fl1 (fun _ => rfl)) rfl)) (st (mv_ rfl tv (oe_ (wk_ ⟨[(0, .lst 2 (a0.map eDPair)), (1, .lst 1 (a1.map eI)), (6, .ptr 384 0), (7, iV r9.2), (8, .own 2176 0 2 (r11.map eDPair)), (9, .own 2304 0 1 (r13.map eI))], [(384, [iV r9.1.table.clock, iV r9.1.table.next, .own 1920 0 4 (r9.1.table.list_.map eDLease), .own 1921 0 2 (r9.1.intents.map eDIntent), .lst 1 (r9.1.accounts.map eI), .bool r9.1.sealed])], []⟩ (fgk (by kernel_rfl)) (seq_ (reg_ (st (mv_ rfl tv (st (mv_ rfl tv ?_)))))))))))
   obtain ⟨r15, e16, h0⟩ := bnd h0
   refine st (call0_ (r := .tup [.agg [iV r15.1.table.clock, iV r15.1.table.next, .own 0 0 4 (r15.1.table.list_.map eDLease), .own 1 0 2 (r15.1.intents.map eDIntent), .own 2 0 1 (r15.1.accounts.map eI), .bool r15.1.sealed], iV r15.2]) false (H258 r11 r13 r15 e16) ⟨tv, tv, tv⟩ rfl rfl (fun _ => (and_ rfl (and_ rfl (and_ (fl1 (fun _ => rfl)) (and_ (fl1 (fun _ => rfl)) (and_ (fl1 (fun _ => rfl)) (and_ rfl (and_ rfl rfl)))))))) (st (mv_ rfl tv (st (c_ (cp_ ⟨tv, tv⟩ rfl tv) (st (c_ (cp_ ⟨tv, tv⟩ rfl tv) (st (alloc_ (st (stp_ rfl rfl tv rfl rfl rfl (nl rfl) (sw ⟨[(0, .lst 2 (a0.map eDPair)), (1, .lst 1 (a1.map eI)), (6, .ptr 384 0), (7, iV r9.2), (8, .own 2176 0 2 (r11.map eDPair)), (9, .own 2304 0 1 (r13.map eI)), (10, .ptr 640 0), (42, iV r15.2)], [(384, [iV r9.1.table.clock, iV r9.1.table.next, .own 1920 0 4 (r9.1.table.list_.map eDLease), .own 1921 0 2 (r9.1.intents.map eDIntent), .lst 1 (r9.1.accounts.map eI), .bool r9.1.sealed]), (640, [iV r15.1.table.clock, iV r15.1.table.next, .own 2560 0 4 (r15.1.table.list_.map eDLease), .own 2561 0 2 (r15.1.intents.map eDIntent), .own 2562 0 1 (r15.1.accounts.map eI), .bool r15.1.sealed])], []⟩ (fgk (by kernel_rfl)) (mv_ rfl tv (oe_ (wk_ ⟨[(0, .lst 2 (a0.map eDPair)), (1, .lst 1 (a1.map eI)), (6, .ptr 384 0), (7, iV r9.2), (8, .own 2176 0 2 (r11.map eDPair)), (9, .own 2304 0 1 (r13.map eI)), (10, .ptr 640 0), (11, iV r15.2)], [(384, [iV r9.1.table.clock, iV r9.1.table.next, .own 1920 0 4 (r9.1.table.list_.map eDLease), .own 1921 0 2 (r9.1.intents.map eDIntent), .lst 1 (r9.1.accounts.map eI), .bool r9.1.sealed]), (640, [iV r15.1.table.clock, iV r15.1.table.next, .own 2560 0 4 (r15.1.table.list_.map eDLease), .own 2561 0 2 (r15.1.intents.map eDIntent), .own 2562 0 1 (r15.1.accounts.map eI), .bool r15.1.sealed])], []⟩ (fgk (by kernel_rfl)) (seq_ (seq_ (reg_ (st (c_ (v := .agg [iV r15.1.table.clock, iV r15.1.table.next, .own 2560 0 4 (r15.1.table.list_.map eDLease), .own 2561 0 2 (r15.1.intents.map eDIntent), .own 2562 0 1 (r15.1.accounts.map eI), .bool r15.1.sealed]) (cp_ ⟨tv, tv⟩ rfl (nl rfl)) (st (c_ (v := .agg [iV r9.1.table.clock, iV r9.1.table.next, .own 1920 0 4 (r9.1.table.list_.map eDLease), .own 1921 0 2 (r9.1.intents.map eDIntent), .lst 1 (r9.1.accounts.map eI), .bool r9.1.sealed]) (cp_ ⟨tv, tv⟩ rfl (nl rfl)) ?_))))))))))))))))))))))
   obtain ⟨r17, e18, h0⟩ := bnd h0
   refine st (call0_ (r := .bool r17) false (H49 r15.1 r9.1 r17 e18) ⟨tv, tv, tv⟩ rfl rfl (fun _ => rfl) (st (c_ (cp_ ⟨tv, tv⟩ rfl tv) (st (mv_ rfl tv (st (pg_ (u := iV r15.2) rfl (fun hg => (cmv (v := iV r15.2) rfl tv)) (st (pg_ (u := iV r9.2) rfl (fun hg => (cmv (v := iV r9.2) rfl tv)) (st (pg_ (u := .bool (r15.2 != r9.2)) rfl (fun hg => (cp_ ⟨(fun _ => hg), (fun _ => hg), tv⟩ rfl tv)) (st (pick_ rfl rfl rfl tv (fun h => eqf h) rfl (oe_ (wk_ ⟨[(0, .lst 2 (a0.map eDPair)), (1, .lst 1 (a1.map eI)), (6, .ptr 384 0), (7, iV r9.2), (8, .own 2176 0 2 (r11.map eDPair)), (9, .own 2304 0 1 (r13.map eI)), (10, .ptr 640 0), (11, iV r15.2), (51, .bool (bif (!r17) then true else (r15.2 != r9.2)))], [(384, [iV r9.1.table.clock, iV r9.1.table.next, .own 1920 0 4 (r9.1.table.list_.map eDLease), .own 1921 0 2 (r9.1.intents.map eDIntent), .lst 1 (r9.1.accounts.map eI), .bool r9.1.sealed]), (640, [iV r15.1.table.clock, iV r15.1.table.next, .own 2560 0 4 (r15.1.table.list_.map eDLease), .own 2561 0 2 (r15.1.intents.map eDIntent), .own 2562 0 1 (r15.1.accounts.map eI), .bool r15.1.sealed])], []⟩ (fgk (by kernel_rfl)) (ite_ (cb := (bif (!r17) then true else (r15.2 != r9.2))) rfl (fun c19 => ?_) (fun c19 => ?_)))))))))))))))))
   ·replace h0 := ip c19 h0
    refine seq_ (reg_ (st (mvc_ tv (oe_ (wk_ ⟨[(4, .bool false)], [], []⟩ (fgk (by kernel_rfl)) ?_)))))
    obtain rfl := Option.some.inj h0
    exact rt_ (ret_ rfl rfl rfl rfl rfl tv)
   ·replace h0 := inb c19 h0
    refine sk_ (wk_ ⟨[(0, .lst 2 (a0.map eDPair)), (1, .lst 1 (a1.map eI)), (6, .ptr 384 0), (7, iV r9.2), (8, .own 2176 0 2 (r11.map eDPair)), (9, .own 2304 0 1 (r13.map eI)), (10, .ptr 640 0), (11, iV r15.2)], [(384, [iV r9.1.table.clock, iV r9.1.table.next, .own 1920 0 4 (r9.1.table.list_.map eDLease), .own 1921 0 2 (r9.1.intents.map eDIntent), .lst 1 (r9.1.accounts.map eI), .bool r9.1.sealed]), (640, [iV r15.1.table.clock, iV r15.1.table.next, .own 2560 0 4 (r15.1.table.list_.map eDLease), .own 2561 0 2 (r15.1.intents.map eDIntent), .own 2562 0 1 (r15.1.accounts.map eI), .bool r15.1.sealed])], []⟩ (fgk (by kernel_rfl)) (seq_ (seq_ (reg_ (st (mv_ rfl tv (st (mv_ rfl tv ?_))))))))
    obtain ⟨r20, e21, h0⟩ := bnd h0
    refine st (call0_ (r := .own 0 0 2 (r20.map eDPair)) false (H257 a0 r20 e21) ⟨tv, tv⟩ rfl rfl (fun _ => (and_ (fl1 (fun _ => rfl)) rfl)) ?_)
    obtain ⟨r22, e23, h0⟩ := bnd h0
    refine st (call0_ (r := .bool r22) false (H251 r11 r20 r22 e23) ⟨tv, tv, tv⟩ rfl rfl (fun _ => rfl) (st (c_ (cp_ ⟨tv, tv⟩ rfl tv) (oe_ (wk_ ⟨[(0, .lst 2 (a0.map eDPair)), (1, .lst 1 (a1.map eI)), (6, .ptr 384 0), (7, iV r9.2), (8, .own 2176 0 2 (r11.map eDPair)), (9, .own 2304 0 1 (r13.map eI)), (10, .ptr 640 0), (11, iV r15.2), (56, .bool (!r22))], [(384, [iV r9.1.table.clock, iV r9.1.table.next, .own 1920 0 4 (r9.1.table.list_.map eDLease), .own 1921 0 2 (r9.1.intents.map eDIntent), .lst 1 (r9.1.accounts.map eI), .bool r9.1.sealed]), (640, [iV r15.1.table.clock, iV r15.1.table.next, .own 2560 0 4 (r15.1.table.list_.map eDLease), .own 2561 0 2 (r15.1.intents.map eDIntent), .own 2562 0 1 (r15.1.accounts.map eI), .bool r15.1.sealed])], []⟩ (fgk (by kernel_rfl)) (ite_ (cb := (!r22)) rfl (fun c24 => ?_) (fun c24 => ?_)))))))
    ·replace h0 := ip c24 h0
     refine seq_ (reg_ (st (mvc_ tv (oe_ (wk_ ⟨[(4, .bool false)], [], []⟩ (fgk (by kernel_rfl)) ?_)))))
     obtain rfl := Option.some.inj h0
     exact rt_ (ret_ rfl rfl rfl rfl rfl tv)
    ·replace h0 := inb c24 h0
     refine sk_ (wk_ ⟨[(0, .lst 2 (a0.map eDPair)), (1, .lst 1 (a1.map eI)), (6, .ptr 384 0), (7, iV r9.2), (8, .own 2176 0 2 (r11.map eDPair)), (9, .own 2304 0 1 (r13.map eI)), (10, .ptr 640 0), (11, iV r15.2)], [(384, [iV r9.1.table.clock, iV r9.1.table.next, .own 1920 0 4 (r9.1.table.list_.map eDLease), .own 1921 0 2 (r9.1.intents.map eDIntent), .lst 1 (r9.1.accounts.map eI), .bool r9.1.sealed]), (640, [iV r15.1.table.clock, iV r15.1.table.next, .own 2560 0 4 (r15.1.table.list_.map eDLease), .own 2561 0 2 (r15.1.intents.map eDIntent), .own 2562 0 1 (r15.1.accounts.map eI), .bool r15.1.sealed])], []⟩ (fgk (by kernel_rfl)) (seq_ (seq_ (reg_ (st (mv_ rfl tv (st (mv_ rfl tv ?_))))))))
     obtain ⟨r25, e26, h0⟩ := bnd h0
     refine st (call0_ (r := .own 0 0 1 (r25.map eI)) false (H43 a1 r25 e26) ⟨tv, tv⟩ rfl rfl (fun _ => (and_ (fl1 (fun _ => rfl)) rfl)) ?_)
     obtain ⟨r27, e28, h0⟩ := bnd h0
     refine st (call0_ (r := .bool r27) false (H36 r13 r25 r27 e28) ⟨tv, tv, tv⟩ rfl rfl (fun _ => rfl) (st (c_ (cp_ ⟨tv, tv⟩ rfl tv) (oe_ (wk_ ⟨[(0, .lst 2 (a0.map eDPair)), (1, .lst 1 (a1.map eI)), (6, .ptr 384 0), (7, iV r9.2), (8, .own 2176 0 2 (r11.map eDPair)), (9, .own 2304 0 1 (r13.map eI)), (10, .ptr 640 0), (11, iV r15.2), (61, .bool (!r27))], [(384, [iV r9.1.table.clock, iV r9.1.table.next, .own 1920 0 4 (r9.1.table.list_.map eDLease), .own 1921 0 2 (r9.1.intents.map eDIntent), .lst 1 (r9.1.accounts.map eI), .bool r9.1.sealed]), (640, [iV r15.1.table.clock, iV r15.1.table.next, .own 2560 0 4 (r15.1.table.list_.map eDLease), .own 2561 0 2 (r15.1.intents.map eDIntent), .own 2562 0 1 (r15.1.accounts.map eI), .bool r15.1.sealed])], []⟩ (fgk (by kernel_rfl)) (ite_ (cb := (!r27)) rfl (fun c29 => ?_) (fun c29 => ?_)))))))
     ·replace h0 := ip c29 h0
      refine seq_ (reg_ (st (mvc_ tv (oe_ (wk_ ⟨[(4, .bool false)], [], []⟩ (fgk (by kernel_rfl)) ?_)))))
      obtain rfl := Option.some.inj h0
      exact rt_ (ret_ rfl rfl rfl rfl rfl tv)
     ·replace h0 := inb c29 h0
      refine sk_ (wk_ ⟨[(0, .lst 2 (a0.map eDPair)), (1, .lst 1 (a1.map eI)), (6, .ptr 384 0), (7, iV r9.2), (8, .own 2176 0 2 (r11.map eDPair)), (9, .own 2304 0 1 (r13.map eI)), (10, .ptr 640 0), (11, iV r15.2)], [(384, [iV r9.1.table.clock, iV r9.1.table.next, .own 1920 0 4 (r9.1.table.list_.map eDLease), .own 1921 0 2 (r9.1.intents.map eDIntent), .lst 1 (r9.1.accounts.map eI), .bool r9.1.sealed]), (640, [iV r15.1.table.clock, iV r15.1.table.next, .own 2560 0 4 (r15.1.table.list_.map eDLease), .own 2561 0 2 (r15.1.intents.map eDIntent), .own 2562 0 1 (r15.1.accounts.map eI), .bool r15.1.sealed])], []⟩ (fgk (by kernel_rfl)) (seq_ (reg_ (st (mvc_ tv (oe_ (wk_ ⟨[(0, .lst 2 (a0.map eDPair)), (1, .lst 1 (a1.map eI)), (6, .ptr 384 0), (7, iV r9.2), (8, .own 2176 0 2 (r11.map eDPair)), (9, .own 2304 0 1 (r13.map eI)), (10, .ptr 640 0), (11, iV r15.2), (12, iV 1)], [(384, [iV r9.1.table.clock, iV r9.1.table.next, .own 1920 0 4 (r9.1.table.list_.map eDLease), .own 1921 0 2 (r9.1.intents.map eDIntent), .lst 1 (r9.1.accounts.map eI), .bool r9.1.sealed]), (640, [iV r15.1.table.clock, iV r15.1.table.next, .own 2560 0 4 (r15.1.table.list_.map eDLease), .own 2561 0 2 (r15.1.intents.map eDIntent), .own 2562 0 1 (r15.1.accounts.map eI), .bool r15.1.sealed])], []⟩ (fgk (by kernel_rfl)) (seq_ (reg_ (st (mv_ rfl tv (st (mv_ rfl tv ?_)))))))))))))
      obtain ⟨r30, e31, h0⟩ := bnd h0
      obtain ⟨c32, h0⟩ := grd h0
      refine st (call1_ [] [2176] [] false (H253 r11 1 r30 e31) ⟨tv, tv, tv⟩ (by kernel_rfl) (by kernel_rfl) (by kernel_rfl) (by kernel_rfl) (fun _ => and_ rfl (and_ (fl2 (fun _ => rfl)) rfl)) (sw ⟨[(0, .lst 2 (a0.map eDPair)), (1, .lst 1 (a1.map eI)), (6, .ptr 384 0), (7, iV r9.2), (9, .own 2304 0 1 (r13.map eI)), (10, .ptr 640 0), (11, iV r15.2), (64, iV r30.1)], [(384, [iV r9.1.table.clock, iV r9.1.table.next, .own 1920 0 4 (r9.1.table.list_.map eDLease), .own 1921 0 2 (r9.1.intents.map eDIntent), .lst 1 (r9.1.accounts.map eI), .bool r9.1.sealed]), (640, [iV r15.1.table.clock, iV r15.1.table.next, .own 2560 0 4 (r15.1.table.list_.map eDLease), .own 2561 0 2 (r15.1.intents.map eDIntent), .own 2562 0 1 (r15.1.accounts.map eI), .bool r15.1.sealed])], []⟩ (fgk (by kernel_rfl)) (mv_ rfl tv (oe_ (wk_ ⟨[(0, .lst 2 (a0.map eDPair)), (1, .lst 1 (a1.map eI)), (6, .ptr 384 0), (7, iV r9.2), (9, .own 2304 0 1 (r13.map eI)), (10, .ptr 640 0), (11, iV r15.2), (12, iV r30.1)], [(384, [iV r9.1.table.clock, iV r9.1.table.next, .own 1920 0 4 (r9.1.table.list_.map eDLease), .own 1921 0 2 (r9.1.intents.map eDIntent), .lst 1 (r9.1.accounts.map eI), .bool r9.1.sealed]), (640, [iV r15.1.table.clock, iV r15.1.table.next, .own 2560 0 4 (r15.1.table.list_.map eDLease), .own 2561 0 2 (r15.1.intents.map eDIntent), .own 2562 0 1 (r15.1.accounts.map eI), .bool r15.1.sealed])], []⟩ (fgk (by kernel_rfl)) (seq_ (reg_ (st (mv_ rfl tv (st (mv_ rfl tv ?_)))))))))))
      obtain ⟨r33, e34, h0⟩ := bnd h0
      obtain ⟨c35, h0⟩ := grd h0
      refine st (call1_ [] [2304] [] false (H37 r13 r30.1 r33 e34) ⟨tv, tv, tv⟩ (by kernel_rfl) (by kernel_rfl) (by kernel_rfl) (by kernel_rfl) (fun _ => and_ rfl (and_ (fl2 (fun _ => rfl)) rfl)) (sw ⟨[(0, .lst 2 (a0.map eDPair)), (1, .lst 1 (a1.map eI)), (6, .ptr 384 0), (7, iV r9.2), (10, .ptr 640 0), (11, iV r15.2), (67, iV r33.1)], [(384, [iV r9.1.table.clock, iV r9.1.table.next, .own 1920 0 4 (r9.1.table.list_.map eDLease), .own 1921 0 2 (r9.1.intents.map eDIntent), .lst 1 (r9.1.accounts.map eI), .bool r9.1.sealed]), (640, [iV r15.1.table.clock, iV r15.1.table.next, .own 2560 0 4 (r15.1.table.list_.map eDLease), .own 2561 0 2 (r15.1.intents.map eDIntent), .own 2562 0 1 (r15.1.accounts.map eI), .bool r15.1.sealed])], []⟩ (fgk (by kernel_rfl)) (mv_ rfl tv (oe_ (wk_ ⟨[(0, .lst 2 (a0.map eDPair)), (1, .lst 1 (a1.map eI)), (6, .ptr 384 0), (7, iV r9.2), (10, .ptr 640 0), (11, iV r15.2), (12, iV r33.1)], [(384, [iV r9.1.table.clock, iV r9.1.table.next, .own 1920 0 4 (r9.1.table.list_.map eDLease), .own 1921 0 2 (r9.1.intents.map eDIntent), .lst 1 (r9.1.accounts.map eI), .bool r9.1.sealed]), (640, [iV r15.1.table.clock, iV r15.1.table.next, .own 2560 0 4 (r15.1.table.list_.map eDLease), .own 2561 0 2 (r15.1.intents.map eDIntent), .own 2562 0 1 (r15.1.accounts.map eI), .bool r15.1.sealed])], []⟩ (fgk (by kernel_rfl)) (seq_ (seq_ (reg_ (st (mv_ rfl tv (st (c_ (cp_ t3 rfl tv) (st (mv_ rfl tv (st (pg_ (u := .agg [iV r15.1.table.clock, iV r15.1.table.next, .own 2560 0 4 (r15.1.table.list_.map eDLease), .own 2561 0 2 (r15.1.intents.map eDIntent), .own 2562 0 1 (r15.1.accounts.map eI), .bool r15.1.sealed]) rfl (fun hg => (cp_ ⟨tv, tv⟩ rfl (nl rfl))) (st (pg_ (u := .agg [iV r9.1.table.clock, iV r9.1.table.next, .own 1920 0 4 (r9.1.table.list_.map eDLease), .own 1921 0 2 (r9.1.intents.map eDIntent), .lst 1 (r9.1.accounts.map eI), .bool r9.1.sealed]) rfl (fun hg => (cp_ ⟨tv, tv⟩ rfl (nl rfl))) ?_))))))))))))))))))
      obtain ⟨r36, e37, h0⟩ := bnd h0
      refine st (callg_ (r := .bool r36) rfl false (fun hg => H49 r15.1 r9.1 r36 (ip hg e37)) ⟨(fun hg => hg), (fun hg => hg), tv⟩ (fun _ => rfl) (fun _ => rfl) (fun _ => rfl) (fun h => nomatch h) (st (pg_ (u := .bool (!r36)) rfl (fun hg => (cp_ ⟨(fun _ => hg), tv⟩ rfl tv)) (st (pick_ rfl rfl rfl tv (fun h => eqf h) rfl (st (mv_ rfl tv (st (pg_ (u := iV r15.2) rfl (fun hg => (cmv (v := iV r15.2) rfl tv)) (st (pg_ (u := iV r9.2) rfl (fun hg => (cmv (v := iV r9.2) rfl tv)) (st (pg_ (u := .bool (r15.2 != r9.2)) rfl (fun hg => (cp_ ⟨(fun _ => hg), (fun _ => hg), tv⟩ rfl tv)) (sw ⟨[(0, .lst 2 (a0.map eDPair)), (1, .lst 1 (a1.map eI)), (6, .ptr 384 0), (7, iV r9.2), (10, .ptr 640 0), (76, .bool (bif (decide (r33.1 < 0)) then true else (!r36))), (79, .may ((bif (decide (r33.1 < 0)) then true else (!r36)) == false) (.bool (r15.2 != r9.2)))], [(384, [iV r9.1.table.clock, iV r9.1.table.next, .own 1920 0 4 (r9.1.table.list_.map eDLease), .own 1921 0 2 (r9.1.intents.map eDIntent), .lst 1 (r9.1.accounts.map eI), .bool r9.1.sealed]), (640, [iV r15.1.table.clock, iV r15.1.table.next, .own 2560 0 4 (r15.1.table.list_.map eDLease), .own 2561 0 2 (r15.1.intents.map eDIntent), .own 2562 0 1 (r15.1.accounts.map eI), .bool r15.1.sealed])], []⟩ (fgk (by kernel_rfl)) (pick_ rfl rfl rfl tv (fun h => eqf h) rfl (oe_ ?_))))))))))))))))
      obtain ⟨v38, e39, h0⟩ := bl h0
      refine wk_ ⟨[(0, .lst 2 (a0.map eDPair)), (1, .lst 1 (a1.map eI)), (6, .ptr 384 0), (7, iV r9.2), (10, .ptr 640 0), (80, .bool v38)], [(384, [iV r9.1.table.clock, iV r9.1.table.next, .own 1920 0 4 (r9.1.table.list_.map eDLease), .own 1921 0 2 (r9.1.intents.map eDIntent), .lst 1 (r9.1.accounts.map eI), .bool r9.1.sealed]), (640, [iV r15.1.table.clock, iV r15.1.table.next, .own 2560 0 4 (r15.1.table.list_.map eDLease), .own 2561 0 2 (r15.1.intents.map eDIntent), .own 2562 0 1 (r15.1.accounts.map eI), .bool r15.1.sealed])], []⟩ (fgk (by subst e39; kernel_rfl)) (ite_ (cb := v38) rfl (fun c40 => ?_) (fun c40 => ?_))
      ·replace h0 := ip c40 h0
       refine seq_ (reg_ (st (mvc_ tv (oe_ (wk_ ⟨[(4, .bool false)], [], []⟩ (fgk (by kernel_rfl)) ?_)))))
       obtain rfl := Option.some.inj h0
       exact rt_ (ret_ rfl rfl rfl rfl rfl tv)
      ·replace h0 := inb c40 h0
       refine sk_ (wk_ ⟨[(0, .lst 2 (a0.map eDPair)), (1, .lst 1 (a1.map eI)), (6, .ptr 384 0), (7, iV r9.2), (10, .ptr 640 0)], [(384, [iV r9.1.table.clock, iV r9.1.table.next, .own 1920 0 4 (r9.1.table.list_.map eDLease), .own 1921 0 2 (r9.1.intents.map eDIntent), .lst 1 (r9.1.accounts.map eI), .bool r9.1.sealed]), (640, [iV r15.1.table.clock, iV r15.1.table.next, .own 2560 0 4 (r15.1.table.list_.map eDLease), .own 2561 0 2 (r15.1.intents.map eDIntent), .own 2562 0 1 (r15.1.accounts.map eI), .bool r15.1.sealed])], []⟩ (fgk (by kernel_rfl)) (seq_ (reg_ (st (mvc_ tv (oe_ (wk_ ⟨[(0, .lst 2 (a0.map eDPair)), (1, .lst 1 (a1.map eI)), (6, .ptr 384 0), (7, iV r9.2), (10, .ptr 640 0), (13, iV 1)], [(384, [iV r9.1.table.clock, iV r9.1.table.next, .own 1920 0 4 (r9.1.table.list_.map eDLease), .own 1921 0 2 (r9.1.intents.map eDIntent), .lst 1 (r9.1.accounts.map eI), .bool r9.1.sealed]), (640, [iV r15.1.table.clock, iV r15.1.table.next, .own 2560 0 4 (r15.1.table.list_.map eDLease), .own 2561 0 2 (r15.1.intents.map eDIntent), .own 2562 0 1 (r15.1.accounts.map eI), .bool r15.1.sealed])], []⟩ (fgk (by kernel_rfl)) (seq_ (reg_ (st (c_ (v := .agg [iV r15.1.table.clock, iV r15.1.table.next, .own 2560 0 4 (r15.1.table.list_.map eDLease), .own 2561 0 2 (r15.1.intents.map eDIntent), .own 2562 0 1 (r15.1.accounts.map eI), .bool r15.1.sealed]) (cp_ ⟨tv, tv⟩ rfl (nl rfl)) (st (mv_ rfl tv ?_)))))))))))))
       obtain ⟨r41, e42, h0⟩ := bnd h0
       obtain ⟨c43, h0⟩ := grd h0
       obtain ⟨c44, h0⟩ := grd h0
       obtain ⟨c45, h0⟩ := grd h0
       refine st (call1_ [] [2560, 2561, 2562] [] false (H252 r15.1 1 r41 e42) ⟨tv, tv, tv⟩ (by kernel_rfl) (by kernel_rfl) (by kernel_rfl) (by kernel_rfl) (fun _ => and_ rfl (and_ (fl2 (fun _ => rfl)) (and_ (fl2 (fun _ => rfl)) (and_ (fl2 (fun _ => rfl)) rfl)))) (sw ⟨[(0, .lst 2 (a0.map eDPair)), (1, .lst 1 (a1.map eI)), (6, .ptr 384 0), (7, iV r9.2), (10, .ptr 640 0), (83, iV r41.1)], [(384, [iV r9.1.table.clock, iV r9.1.table.next, .own 1920 0 4 (r9.1.table.list_.map eDLease), .own 1921 0 2 (r9.1.intents.map eDIntent), .lst 1 (r9.1.accounts.map eI), .bool r9.1.sealed]), (640, [iV r15.1.table.clock, iV r15.1.table.next, .own 2560 0 4 (r41.2.1.map eDLease), .own 2561 0 2 (r41.2.2.1.map eDIntent), .own 2562 0 1 (r41.2.2.2.map eI), .bool r15.1.sealed])], []⟩ (fg ⟨rfl, rfl, rfl, rfl, rfl, rfl, tv⟩ ⟨rfl, (cg3 (fun z0 z1 z2 => some (([iV r15.1.table.clock, iV r15.1.table.next, z0, z1, z2, .bool r15.1.sealed] : List V))) (row_eq c43) (row_eq c44) (row_eq c45)), tv⟩) (mv_ rfl tv (oe_ (wk_ ⟨[(0, .lst 2 (a0.map eDPair)), (1, .lst 1 (a1.map eI)), (6, .ptr 384 0), (7, iV r9.2), (10, .ptr 640 0), (13, iV r41.1)], [(384, [iV r9.1.table.clock, iV r9.1.table.next, .own 1920 0 4 (r9.1.table.list_.map eDLease), .own 1921 0 2 (r9.1.intents.map eDIntent), .lst 1 (r9.1.accounts.map eI), .bool r9.1.sealed]), (640, [iV r15.1.table.clock, iV r15.1.table.next, .own 2560 0 4 (r41.2.1.map eDLease), .own 2561 0 2 (r41.2.2.1.map eDIntent), .own 2562 0 1 (r41.2.2.2.map eI), .bool r15.1.sealed])], []⟩ (fgk (by kernel_rfl)) (seq_ (reg_ (st (mvc_ tv (oe_ (wk_ ⟨[(0, .lst 2 (a0.map eDPair)), (1, .lst 1 (a1.map eI)), (6, .ptr 384 0), (7, iV r9.2), (10, .ptr 640 0), (13, iV r41.1), (14, iV 1)], [(384, [iV r9.1.table.clock, iV r9.1.table.next, .own 1920 0 4 (r9.1.table.list_.map eDLease), .own 1921 0 2 (r9.1.intents.map eDIntent), .lst 1 (r9.1.accounts.map eI), .bool r9.1.sealed]), (640, [iV r15.1.table.clock, iV r15.1.table.next, .own 2560 0 4 (r41.2.1.map eDLease), .own 2561 0 2 (r41.2.2.1.map eDIntent), .own 2562 0 1 (r41.2.2.2.map eI), .bool r15.1.sealed])], []⟩ (fgk (by kernel_rfl)) (seq_ (reg_ (st (c_ (v := .agg [iV r15.1.table.clock, iV r15.1.table.next, .own 2560 0 4 (r41.2.1.map eDLease), .own 2561 0 2 (r41.2.2.1.map eDIntent), .own 2562 0 1 (r41.2.2.2.map eI), .bool r15.1.sealed]) (cp_ ⟨tv, tv⟩ rfl (nl rfl)) (st (mv_ rfl tv ?_)))))))))))))))))
       obtain ⟨r46, e47, h0⟩ := bnd h0
       refine st (call0_ (r := iV r46) false (H259 (DVault.mk (DTable.mk r15.1.table.clock r15.1.table.next r41.2.1) r41.2.2.1 r41.2.2.2 r15.1.sealed) 1 r46 e47) ⟨tv, tv, tv⟩ rfl rfl (fun _ => rfl) (st (mv_ rfl tv (oe_ (wk_ ⟨[(0, .lst 2 (a0.map eDPair)), (1, .lst 1 (a1.map eI)), (6, .ptr 384 0), (7, iV r9.2), (10, .ptr 640 0), (13, iV r41.1), (14, iV r46)], [(384, [iV r9.1.table.clock, iV r9.1.table.next, .own 1920 0 4 (r9.1.table.list_.map eDLease), .own 1921 0 2 (r9.1.intents.map eDIntent), .lst 1 (r9.1.accounts.map eI), .bool r9.1.sealed]), (640, [iV r15.1.table.clock, iV r15.1.table.next, .own 2560 0 4 (r41.2.1.map eDLease), .own 2561 0 2 (r41.2.2.1.map eDIntent), .own 2562 0 1 (r41.2.2.2.map eI), .bool r15.1.sealed])], []⟩ (fgk (by kernel_rfl)) (seq_ (seq_ (reg_ (st (mv_ rfl tv (st (c_ (cp_ t3 rfl tv) (oe_ (wk_ ⟨[(0, .lst 2 (a0.map eDPair)), (1, .lst 1 (a1.map eI)), (6, .ptr 384 0), (7, iV r9.2), (10, .ptr 640 0), (13, iV r41.1), (14, iV r46), (88, .bool (decide (r46 < 0)))], [(384, [iV r9.1.table.clock, iV r9.1.table.next, .own 1920 0 4 (r9.1.table.list_.map eDLease), .own 1921 0 2 (r9.1.intents.map eDIntent), .lst 1 (r9.1.accounts.map eI), .bool r9.1.sealed]), (640, [iV r15.1.table.clock, iV r15.1.table.next, .own 2560 0 4 (r41.2.1.map eDLease), .own 2561 0 2 (r41.2.2.1.map eDIntent), .own 2562 0 1 (r41.2.2.2.map eI), .bool r15.1.sealed])], []⟩ (fgk (by kernel_rfl)) (ite_ (cb := (decide (r46 < 0))) rfl (fun c48 => ?_) (fun c48 => ?_))))))))))))))))
       ·replace h0 := ip c48 h0
        refine seq_ (reg_ (st (mvc_ tv (oe_ (wk_ ⟨[(4, .bool false)], [], []⟩ (fgk (by kernel_rfl)) ?_)))))
        obtain rfl := Option.some.inj h0
        exact rt_ (ret_ rfl rfl rfl rfl rfl tv)
       ·replace h0 := inb c48 h0
        refine sk_ (wk_ ⟨[(0, .lst 2 (a0.map eDPair)), (1, .lst 1 (a1.map eI)), (6, .ptr 384 0), (7, iV r9.2), (10, .ptr 640 0), (13, iV r41.1), (14, iV r46)], [(384, [iV r9.1.table.clock, iV r9.1.table.next, .own 1920 0 4 (r9.1.table.list_.map eDLease), .own 1921 0 2 (r9.1.intents.map eDIntent), .lst 1 (r9.1.accounts.map eI), .bool r9.1.sealed]), (640, [iV r15.1.table.clock, iV r15.1.table.next, .own 2560 0 4 (r41.2.1.map eDLease), .own 2561 0 2 (r41.2.2.1.map eDIntent), .own 2562 0 1 (r41.2.2.2.map eI), .bool r15.1.sealed])], []⟩ (fgk (by kernel_rfl)) (seq_ (seq_ (reg_ (st (mv_ rfl tv (st (mv_ rfl tv (st (c_ (cp_ t3 rfl tv) (oe_ (wk_ ⟨[(0, .lst 2 (a0.map eDPair)), (1, .lst 1 (a1.map eI)), (6, .ptr 384 0), (7, iV r9.2), (10, .ptr 640 0), (13, iV r41.1), (91, .bool (r46 != r41.1))], [(384, [iV r9.1.table.clock, iV r9.1.table.next, .own 1920 0 4 (r9.1.table.list_.map eDLease), .own 1921 0 2 (r9.1.intents.map eDIntent), .lst 1 (r9.1.accounts.map eI), .bool r9.1.sealed]), (640, [iV r15.1.table.clock, iV r15.1.table.next, .own 2560 0 4 (r41.2.1.map eDLease), .own 2561 0 2 (r41.2.2.1.map eDIntent), .own 2562 0 1 (r41.2.2.2.map eI), .bool r15.1.sealed])], []⟩ (fgk (by kernel_rfl)) (ite_ (cb := (r46 != r41.1)) rfl (fun c49 => ?_) (fun c49 => ?_))))))))))))))
        ·replace h0 := ip c49 h0
         refine seq_ (reg_ (st (mvc_ tv (oe_ (wk_ ⟨[(4, .bool false)], [], []⟩ (fgk (by kernel_rfl)) ?_)))))
         obtain rfl := Option.some.inj h0
         exact rt_ (ret_ rfl rfl rfl rfl rfl tv)
        ·replace h0 := inb c49 h0
         refine sk_ (wk_ ⟨[(0, .lst 2 (a0.map eDPair)), (1, .lst 1 (a1.map eI)), (6, .ptr 384 0), (7, iV r9.2), (10, .ptr 640 0), (13, iV r41.1)], [(384, [iV r9.1.table.clock, iV r9.1.table.next, .own 1920 0 4 (r9.1.table.list_.map eDLease), .own 1921 0 2 (r9.1.intents.map eDIntent), .lst 1 (r9.1.accounts.map eI), .bool r9.1.sealed]), (640, [iV r15.1.table.clock, iV r15.1.table.next, .own 2560 0 4 (r41.2.1.map eDLease), .own 2561 0 2 (r41.2.2.1.map eDIntent), .own 2562 0 1 (r41.2.2.2.map eI), .bool r15.1.sealed])], []⟩ (fgk (by kernel_rfl)) (seq_ (reg_ (st (mv_ rfl tv ?_)))))
         obtain ⟨r50, e51, h0⟩ := bnd h0
         refine st (call0_ (r := .own 0 0 2 (r50.map eDPair)) false (H257 a0 r50 e51) ⟨tv, tv⟩ rfl rfl (fun _ => (and_ (fl1 (fun _ => rfl)) rfl)) (st (mv_ rfl tv ?_)))
         obtain ⟨r52, e53, h0⟩ := bnd h0
         refine st (call0_ (r := .own 0 0 1 (r52.map eI)) false (H43 a1 r52 e53) ⟨tv, tv⟩ rfl rfl (fun _ => (and_ (fl1 (fun _ => rfl)) rfl)) ?_)
         obtain ⟨r54, e55, h0⟩ := bnd h0
         refine sw ⟨[(6, .ptr 384 0), (7, iV r9.2), (10, .ptr 640 0), (13, iV r41.1), (94, .own 6016 0 2 (r50.map eDPair)), (96, .own 6144 0 1 (r52.map eI))], [(384, [iV r9.1.table.clock, iV r9.1.table.next, .own 1920 0 4 (r9.1.table.list_.map eDLease), .own 1921 0 2 (r9.1.intents.map eDIntent), .lst 1 (r9.1.accounts.map eI), .bool r9.1.sealed]), (640, [iV r15.1.table.clock, iV r15.1.table.next, .own 2560 0 4 (r41.2.1.map eDLease), .own 2561 0 2 (r41.2.2.1.map eDIntent), .own 2562 0 1 (r41.2.2.2.map eI), .bool r15.1.sealed])], []⟩ (fgk (by kernel_rfl)) (call0_ (r := .tup [.agg [iV r54.1.table.clock, iV r54.1.table.next, .own 0 0 4 (r54.1.table.list_.map eDLease), .own 1 0 2 (r54.1.intents.map eDIntent), .own 2 0 1 (r54.1.accounts.map eI), .bool r54.1.sealed], iV r54.2]) false (H258 r50 r52 r54 e55) ⟨tv, tv, tv⟩ rfl rfl (fun _ => (and_ rfl (and_ rfl (and_ (fl1 (fun _ => rfl)) (and_ (fl1 (fun _ => rfl)) (and_ (fl1 (fun _ => rfl)) (and_ rfl (and_ rfl rfl)))))))) (st (mv_ rfl tv (st (c_ (cp_ ⟨tv, tv⟩ rfl tv) (st (c_ (cp_ ⟨tv, tv⟩ rfl tv) (st (alloc_ (st (stp_ rfl rfl tv rfl rfl rfl (nl rfl) (st (mv_ rfl tv (oe_ (wk_ ⟨[(6, .ptr 384 0), (7, iV r9.2), (10, .ptr 640 0), (13, iV r41.1), (15, .ptr 960 0), (16, iV r54.2)], [(384, [iV r9.1.table.clock, iV r9.1.table.next, .own 1920 0 4 (r9.1.table.list_.map eDLease), .own 1921 0 2 (r9.1.intents.map eDIntent), .lst 1 (r9.1.accounts.map eI), .bool r9.1.sealed]), (640, [iV r15.1.table.clock, iV r15.1.table.next, .own 2560 0 4 (r41.2.1.map eDLease), .own 2561 0 2 (r41.2.2.1.map eDIntent), .own 2562 0 1 (r41.2.2.2.map eI), .bool r15.1.sealed]), (960, [iV r54.1.table.clock, iV r54.1.table.next, .own 6208 0 4 (r54.1.table.list_.map eDLease), .own 6209 0 2 (r54.1.intents.map eDIntent), .own 6210 0 1 (r54.1.accounts.map eI), .bool r54.1.sealed])], []⟩ (fgk (by kernel_rfl)) (seq_ (seq_ (reg_ (st (c_ (v := .agg [iV r54.1.table.clock, iV r54.1.table.next, .own 6208 0 4 (r54.1.table.list_.map eDLease), .own 6209 0 2 (r54.1.intents.map eDIntent), .own 6210 0 1 (r54.1.accounts.map eI), .bool r54.1.sealed]) (cp_ ⟨tv, tv⟩ rfl (nl rfl)) (st (c_ (v := .agg [iV r9.1.table.clock, iV r9.1.table.next, .own 1920 0 4 (r9.1.table.list_.map eDLease), .own 1921 0 2 (r9.1.intents.map eDIntent), .lst 1 (r9.1.accounts.map eI), .bool r9.1.sealed]) (cp_ ⟨tv, tv⟩ rfl (nl rfl)) ?_))))))))))))))))))))))
         obtain ⟨r56, e57, h0⟩ := bnd h0
         refine st (call0_ (r := .bool r56) false (H49 r54.1 r9.1 r56 e57) ⟨tv, tv, tv⟩ rfl rfl (fun _ => rfl) (st (c_ (cp_ ⟨tv, tv⟩ rfl tv) (st (mv_ rfl tv (st (pg_ (u := iV r54.2) rfl (fun hg => (cmv (v := iV r54.2) rfl tv)) (st (pg_ (u := iV r9.2) rfl (fun hg => (cmv (v := iV r9.2) rfl tv)) (st (pg_ (u := .bool (r54.2 != r9.2)) rfl (fun hg => (cp_ ⟨(fun _ => hg), (fun _ => hg), tv⟩ rfl tv)) (st (pick_ rfl rfl rfl tv (fun h => eqf h) rfl (oe_ (wk_ ⟨[(10, .ptr 640 0), (13, iV r41.1), (108, .bool (bif (!r56) then true else (r54.2 != r9.2)))], [(640, [iV r15.1.table.clock, iV r15.1.table.next, .own 2560 0 4 (r41.2.1.map eDLease), .own 2561 0 2 (r41.2.2.1.map eDIntent), .own 2562 0 1 (r41.2.2.2.map eI), .bool r15.1.sealed])], []⟩ (fgk (by kernel_rfl)) (ite_ (cb := (bif (!r56) then true else (r54.2 != r9.2))) rfl (fun c58 => ?_) (fun c58 => ?_)))))))))))))))))
         ·replace h0 := ip c58 h0
          refine seq_ (reg_ (st (mvc_ tv (oe_ (wk_ ⟨[(4, .bool false)], [], []⟩ (fgk (by kernel_rfl)) ?_)))))
          obtain rfl := Option.some.inj h0
          exact rt_ (ret_ rfl rfl rfl rfl rfl tv)
         ·replace h0 := inb c58 h0
          refine sk_ (wk_ ⟨[(10, .ptr 640 0), (13, iV r41.1)], [(640, [iV r15.1.table.clock, iV r15.1.table.next, .own 2560 0 4 (r41.2.1.map eDLease), .own 2561 0 2 (r41.2.2.1.map eDIntent), .own 2562 0 1 (r41.2.2.2.map eI), .bool r15.1.sealed])], []⟩ (fgk (by kernel_rfl)) (seq_ (reg_ (st (mvc_ tv (oe_ (wk_ ⟨[(10, .ptr 640 0), (13, iV r41.1), (14, iV 1)], [(640, [iV r15.1.table.clock, iV r15.1.table.next, .own 2560 0 4 (r41.2.1.map eDLease), .own 2561 0 2 (r41.2.2.1.map eDIntent), .own 2562 0 1 (r41.2.2.2.map eI), .bool r15.1.sealed])], []⟩ (fgk (by kernel_rfl)) (seq_ (reg_ (st (c_ (v := .agg [iV r15.1.table.clock, iV r15.1.table.next, .own 2560 0 4 (r41.2.1.map eDLease), .own 2561 0 2 (r41.2.2.1.map eDIntent), .own 2562 0 1 (r41.2.2.2.map eI), .bool r15.1.sealed]) (cp_ ⟨tv, tv⟩ rfl (nl rfl)) (st (mv_ rfl tv ?_)))))))))))))
          obtain ⟨r59, e60, h0⟩ := bnd h0
          refine st (call0_ (r := iV r59) false (H259 (DVault.mk (DTable.mk r15.1.table.clock r15.1.table.next r41.2.1) r41.2.2.1 r41.2.2.2 r15.1.sealed) 1 r59 e60) ⟨tv, tv, tv⟩ rfl rfl (fun _ => rfl) (st (mv_ rfl tv (oe_ (wk_ ⟨[(13, iV r41.1), (14, iV r59)], [], []⟩ (fgk (by kernel_rfl)) (seq_ (seq_ (reg_ (st (mv_ rfl tv (st (c_ (cp_ t3 rfl tv) (oe_ (wk_ ⟨[(13, iV r41.1), (14, iV r59), (113, .bool (decide (r59 < 0)))], [], []⟩ (fgk (by kernel_rfl)) (ite_ (cb := (decide (r59 < 0))) rfl (fun c61 => ?_) (fun c61 => ?_))))))))))))))))
          ·replace h0 := ip c61 h0
           refine seq_ (reg_ (st (mvc_ tv (oe_ (wk_ ⟨[(4, .bool false)], [], []⟩ (fgk (by kernel_rfl)) ?_)))))
           obtain rfl := Option.some.inj h0
           exact rt_ (ret_ rfl rfl rfl rfl rfl tv)
          ·replace h0 := inb c61 h0
           refine sk_ (wk_ ⟨[(13, iV r41.1), (14, iV r59)], [], []⟩ (fgk (by kernel_rfl)) (seq_ (seq_ (reg_ (st (mv_ rfl tv (st (mv_ rfl tv (st (c_ (cp_ t3 rfl tv) (oe_ (wk_ ⟨[(116, .bool (r59 != r41.1))], [], []⟩ (fgk (by kernel_rfl)) (ite_ (cb := (r59 != r41.1)) rfl (fun c62 => ?_) (fun c62 => ?_))))))))))))))
           ·replace h0 := ip c62 h0
            refine seq_ (reg_ (st (mvc_ tv (oe_ (wk_ ⟨[(4, .bool false)], [], []⟩ (fgk (by kernel_rfl)) ?_)))))
            obtain rfl := Option.some.inj h0
            exact rt_ (ret_ rfl rfl rfl rfl rfl tv)
           ·replace h0 := inb c62 h0
            refine sk_ (wk_ ⟨[], [], []⟩ (fgk (by kernel_rfl)) (seq_ (reg_ (st (mvc_ tv (oe_ (wk_ ⟨[(4, .bool true)], [], []⟩ (fgk (by kernel_rfl)) ?_)))))))
            obtain rfl := Option.some.inj h0
            exact rt_ (ret_ rfl rfl rfl rfl rfl tv)
end Go.Ev
