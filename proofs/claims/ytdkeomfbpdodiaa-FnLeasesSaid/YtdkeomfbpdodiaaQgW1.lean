/- The walks of functions: the code comes to the answers that QgD tells. Written by a program of ours. -/
import Derived.Test.YtdkeomfbpdodiaaQgW0
set_option linter.all false
set_option maxHeartbeats 4000000
set_option linter.unusedVariables false
set_option maxRecDepth 100000
namespace Go.Ev

/- loop.example/g00149/impl.byTime -/
def c69_r0 : List Ins := [⟨some 2, .box (.t 0), none⟩,
⟨some 3, .box (.t 1), none⟩,
⟨some 4, .p (.mv (.c (iV 0))), none⟩]
def c69_r1 : DP := (.take (iQ 5 (.fieldA (.t 2) 1))
(.take (iQ 6 (.load (.t 5) 1 false))
(.take (iQ 7 (.fieldA (.t 3) 1))
(.take (iQ 8 (.load (.t 7) 1 false))
(.take (iQ 10 (.fieldA (.t 2) 0))
(.take (iQ 11 (.load (.t 10) 1 false))
(.take (iQ 12 (.fieldA (.t 3) 0))
(.take (iQ 13 (.load (.t 12) 1 false))
(.alt [(iQ 13 (.load (.t 12) 1 false)), (iQ 12 (.fieldA (.t 3) 0)), (iQ 11 (.load (.t 10) 1 false)), (iQ 10 (.fieldA (.t 2) 0))] ⟨some 9, .call 110 [(.t 6), (.t 8)], none⟩
(.alt [] ⟨some 14, .call 110 [(.t 11), (.t 13)], none⟩
(.alt [] ⟨some 15, .mkS 1 [(iV 0)] 2 [(0, (.t 9)), (1, (.t 14))], none⟩
(.alt [] ⟨some 16, .call 109 [(.t 15)], none⟩
(.take (iQ 4 (.mv (.t 16)))
.fin)
.stop)
.stop)
.stop)
.stop)))))))))
def c69 : XFn := { np := 2, nt := 17, res := [.t 4], body := (.seq (.reg c69_r0) (.seq (.draw c69_r1) .ret)) }
def K69 (C : CRel) : Prop := ∀ (a0 : DLease) (a1 : DLease) (r : Int), g69 a0 a1 = some r → C 69 ⟨[.agg (eDLease a0), .agg (eDLease a1)], []⟩ ⟨iV r, [], []⟩
theorem F69 {C : CRel} (H109 : K109 C) (H110 : K110 C) (a0 : DLease) (a1 : DLease) (r : Int) (h0 : g69 a0 a1 = some r) : FnOK C c69 ⟨[.agg (eDLease a0), .agg (eDLease a1)], []⟩ ⟨iV r, [], []⟩ := by
 refine fn_ (nl rfl) (seq_ (reg_ (st (box_ rfl tv rfl (st (box_ rfl tv rfl (st (mvc_ tv (oe_ (wk_ ⟨[(2, .ptr 128 0), (3, .ptr 192 0)], [(128, [iV a0.id, iV a0.until_, iV a0.cap, .bool a0.queued]), (192, [iV a1.id, iV a1.until_, iV a1.cap, .bool a1.queued])], []⟩ (fgk (by kernel_rfl)) (seq_ ?_)))))))))))
 obtain ⟨r1, e2, h0⟩ := bnd h0
 obtain ⟨r3, e4, h0⟩ := bnd h0
 obtain ⟨r5, e6, h0⟩ := bnd h0
 refine draw_ (dtake tv (c_ (cp_ ⟨tv, tv⟩ rfl tv) (⟨tv, (dtake tv (c_ (cp_ ⟨tv, tv⟩ rfl (nl rfl)) (⟨tv, (dtake tv (c_ (cp_ ⟨tv, tv⟩ rfl tv) (⟨tv, (dtake tv (c_ (cp_ ⟨tv, tv⟩ rfl (nl rfl)) (⟨tv, (dtake tv (c_ (cp_ ⟨tv, tv⟩ rfl tv) (⟨tv, (dtake tv (c_ (cp_ ⟨tv, tv⟩ rfl (nl rfl)) (⟨tv, (dtake tv (c_ (cp_ ⟨tv, tv⟩ rfl tv) (⟨tv, (dtake tv (c_ (cp_ ⟨tv, tv⟩ rfl (nl rfl)) (⟨tv, (dalt (call0_ (r := iV r1) false (H110 a0.until_ a1.until_ r1 e2) ⟨tv, tv, tv⟩ rfl rfl (fun _ => rfl) (dkw ⟨[(2, .ptr 128 0), (3, .ptr 192 0), (9, iV r1), (10, .ptr 128 0), (11, iV a0.id), (12, .ptr 192 0), (13, iV a1.id)], [(128, [iV a0.id, iV a0.until_, iV a0.cap, .bool a0.queued]), (192, [iV a1.id, iV a1.until_, iV a1.cap, .bool a1.queued])], []⟩ (fgk (by kernel_rfl)) ⟨[], ⟨⟨.inl tv, (again1 (cp_ ⟨tv, tv⟩ rfl (nl rfl)) rfl)⟩, ⟨.inl tv, (again1 (cp_ ⟨tv, tv⟩ rfl tv) rfl)⟩, ⟨.inl tv, (again1 (cp_ ⟨tv, tv⟩ rfl (nl rfl)) rfl)⟩, ⟨.inl tv, (again1 (cp_ ⟨tv, tv⟩ rfl tv) rfl)⟩, tv⟩, tv, (dalt (call0_ (r := iV r3) false (H110 a0.id a1.id r3 e4) ⟨tv, tv, tv⟩ rfl rfl (fun _ => rfl) (dkw ⟨[(9, iV r1), (14, iV r3)], [], []⟩ (fgk (by kernel_rfl)) ⟨[], tv, tv, (dalt (mkS_ ⟨tv, tv, tv⟩ ⟨⟨nl rfl, rfl, rfl⟩, ⟨nl rfl, rfl, rfl⟩, tv⟩ (dk0 ⟨[], tv, tv, (dalt (call0_ (r := iV r5) false (H109 ([r1, r3] : List Int) r5 e6) ⟨tv, tv⟩ rfl rfl (fun _ => rfl) (dkw ⟨[(16, iV r5)], [], []⟩ (fgk (by kernel_rfl)) ⟨[], tv, tv, (dtake tv (mv_ rfl tv (⟨tv, (dfin (wk_ ⟨[(4, iV r5)], [], []⟩ (fgk (by kernel_rfl)) ?_))⟩)))⟩)) dstop)⟩)) dstop)⟩)) dstop)⟩)) dstop)⟩)))⟩)))⟩)))⟩)))⟩)))⟩)))⟩)))⟩)))
 obtain rfl := Option.some.inj h0
 exact rt_ (ret_ rfl rfl rfl rfl rfl tv)

/- slices.insertionSortCmpFunc[loop.example/g00149/impl.Lease] -/
def c148_r0 : List Ins := [(iQ 10 (.mv (.t 1))),
⟨some 11, .p (.bin .add (.t 10) (.c (iV 1))), none⟩,
(iQ 8 (.mv (.t 11)))]
def c148_r1 : List Ins := [(iQ 12 (.mv (.t 8))),
(iQ 13 (.mv (.t 2))),
(iQ 14 (.bin .lss (.t 12) (.t 13)))]
def c148_r2 : List Ins := [(iQ 17 (.mv (.t 8))),
(iQ 9 (.mv (.t 17)))]
def c148_r3 : DP := (.take (iQ 18 (.mv (.t 9)))
(.take (iQ 19 (.mv (.t 1)))
(.take (iQ 20 (.bin .gtr (.t 18) (.t 19)))
(.take (iQ 21 (.mv (.t 20)))
(.take ⟨some 22, .p (.mv (.t 3)), some (21, true)⟩
(.take ⟨some 23, .p (.mv (.t 0)), some (21, true)⟩
(.take ⟨some 24, .p (.mv (.t 9)), some (21, true)⟩
(.take ⟨some 25, .p (.idxA (.t 23) (.t 24) 4), some (21, true)⟩
(.take ⟨some 26, .p (.load (.t 25) 4 true), some (21, true)⟩
(.take ⟨some 27, .p (.mv (.t 0)), some (21, true)⟩
(.take ⟨some 28, .p (.mv (.t 9)), some (21, true)⟩
(.take ⟨some 29, .p (.bin .sub (.t 28) (.c (iV 1))), some (21, true)⟩
(.take ⟨some 30, .p (.idxA (.t 27) (.t 29) 4), some (21, true)⟩
(.take ⟨some 31, .p (.load (.t 30) 4 true), some (21, true)⟩
(.alt [] ⟨some 32, .callv (.t 22) [(.t 26), (.t 31)], some (21, true)⟩
(.take ⟨some 33, .p (.bin .lss (.t 32) (.c (iV 0))), some (21, true)⟩
(.take ⟨some 34, .pick (.t 21) (.t 33) (.c (.bool false)), none⟩
.fin))
.stop)))))))))))))))
def c148_r4 : DP := (.take (iQ 37 (.mv (.t 0)))
(.take (iQ 38 (.mv (.t 9)))
(.take (iQ 39 (.mv (.t 0)))
(.take (iQ 40 (.mv (.t 9)))
(.take ⟨some 41, .p (.bin .sub (.t 40) (.c (iV 1))), none⟩
(.take (iQ 42 (.mv (.t 0)))
(.take (iQ 43 (.mv (.t 9)))
(.take ⟨some 44, .p (.bin .sub (.t 43) (.c (iV 1))), none⟩
(.take (iQ 45 (.idxA (.t 42) (.t 44) 4))
(.take (iQ 46 (.load (.t 45) 4 true))
(.take (iQ 47 (.mv (.t 0)))
(.take (iQ 48 (.mv (.t 9)))
(.take (iQ 49 (.idxA (.t 47) (.t 48) 4))
(.take (iQ 50 (.load (.t 49) 4 true))
(.take (iQ 51 (.idxA (.t 37) (.t 38) 4))
(.alt [⟨some 41, .p (.bin .sub (.t 40) (.c (iV 1))), none⟩, (iQ 40 (.mv (.t 9))), (iQ 39 (.mv (.t 0)))] ⟨none, .store (.t 51) (.t 46) 4, none⟩
(.take (iQ 52 (.idxA (.t 39) (.t 41) 4))
(.alt [] ⟨none, .store (.t 52) (.t 50) 4, none⟩
.fin
.stop))
.stop))))))))))))))))
def c148_r5 : List Ins := [(iQ 35 (.mv (.t 9))),
⟨some 36, .p (.bin .sub (.t 35) (.c (iV 1))), none⟩,
(iQ 9 (.mv (.t 36)))]
def c148_l0 : IR := (.seq (.seq (.draw c148_r3) (.ite (.t 34) .skip (.exit 2))) (.seq (.block 3 (.draw c148_r4)) (.reg c148_r5)))
def c148_r6 : List Ins := [(iQ 15 (.mv (.t 8))),
⟨some 16, .p (.bin .add (.t 15) (.c (iV 1))), none⟩,
(iQ 8 (.mv (.t 16)))]
def c148_l1 : IR := (.seq (.seq (.reg c148_r1) (.ite (.t 14) .skip (.exit 0))) (.seq (.block 1 (.seq (.reg c148_r2) (.block 2 (.loop c148_l0)))) (.reg c148_r6)))
def c148 : XFn := { np := 4, nt := 53, res := [], body := (.seq (.reg c148_r0) (.block 0 (.loop c148_l1))) }
def K148 (C : CRel) : Prop := ∀ (a0 : List DLease) (a1 : Int) (a2 : Int) (f3 : Nat) (k3 : List V) (is3 : DLease → DLease → Option Int) (hs3 : Shut k3) (hf3 : ∀ (x0 : DLease) (x1 : DLease) r, is3 x0 x1 = some r → C f3 ⟨.agg (eDLease x0) :: .agg (eDLease x1) :: k3, []⟩ ⟨iV r, [], []⟩) (r : (List DLease)), g148 a0 a1 a2 is3 = some r → C 148 ⟨[.own 2097152 0 4 (a0.map eDLease), iV a1, iV a2, .clo f3 k3], []⟩ ⟨.tup [], [], [(0, 4, r.map eDLease)]⟩
theorem F148 {C : CRel}  (a0 : List DLease) (a1 : Int) (a2 : Int) (f3 : Nat) (k3 : List V) (is3 : DLease → DLease → Option Int) (hs3 : Shut k3) (hf3 : ∀ (x0 : DLease) (x1 : DLease) r, is3 x0 x1 = some r → C f3 ⟨.agg (eDLease x0) :: .agg (eDLease x1) :: k3, []⟩ ⟨iV r, [], []⟩) (r : (List DLease)) (h0 : g148 a0 a1 a2 is3 = some r) : FnOK C c148 ⟨[.own 2097152 0 4 (a0.map eDLease), iV a1, iV a2, .clo f3 k3], []⟩ ⟨.tup [], [], [(0, 4, r.map eDLease)]⟩ := by
 refine fn_ (nl rfl) (seq_ (reg_ (st (mv_ rfl tv (st (c_ (cp_ t3 rfl tv) (st (mv_ rfl tv (oe_ (wk_ ⟨[(0, .own 2097152 0 4 (a0.map eDLease)), (1, iV a1), (2, iV a2), (3, .clo f3 k3), (8, iV (IntKind.i64.wrap (a1 + 1)))], [], []⟩ (fg ⟨rfl, rfl, rfl, rfl, rfl, tv⟩ tv) (block_ ?_)))))))))))
 obtain ⟨r189, e190, h0⟩ := bnd h0
 refine loop_ (R := (fun S => ∃ p111 : List DLease, p111 = r189 ∧ S = ⟨[(0, .own 2097152 0 4 (p111.map eDLease))], [], []⟩)) (g148_l0 a1 a2 is3) (fun s S => match s with | (p55, p56) => S = ⟨[(0, .own 2097152 0 4 (p55.map eDLease)), (1, iV a1), (2, iV a2), (3, .clo f3 k3), (8, iV p56)], [], []⟩) e190 ⟨[(0, .own 2097152 0 4 (a0.map eDLease)), (1, iV a1), (2, iV a2), (3, .clo f3 k3), (8, iV (IntKind.i64.wrap (a1 + 1)))], [], []⟩ (fg ⟨rfl, rfl, rfl, rfl, rfl, tv⟩ tv) rfl 0 (fun _ => rfl) ?_ ?_
 ·rintro S _ hfg ⟨p111, rfl, rfl⟩
  obtain rfl := Option.some.inj h0
  exact retn_ (retf_ hfg (ret_ rfl rfl rfl rfl rfl ⟨⟨rfl, mlen (fun _ => rfl)⟩, tv⟩))
 ·rintro ⟨p55, p56⟩ o1 _ K1 rfl h1 hx1 hK1 hE1 hR1
  refine seq_ (seq_ (reg_ (st (mv_ rfl tv (st (mv_ rfl tv (st (c_ (cp_ t3 rfl tv) (oe_ (wk_ ⟨[(0, .own 2097152 0 4 (p55.map eDLease)), (1, iV a1), (2, iV a2), (3, .clo f3 k3), (8, iV p56), (14, .bool (decide (p56 < a2)))], [], []⟩ (fg ⟨rfl, rfl, rfl, rfl, rfl, rfl, tv⟩ tv) (ite_ (cb := (decide (p56 < a2))) rfl (fun c112 => ?_) (fun c112 => ?_))))))))))))
  ·replace h1 := ip c112 h1
   refine sk_ (wk_ ⟨[(0, .own 2097152 0 4 (p55.map eDLease)), (1, iV a1), (2, iV a2), (3, .clo f3 k3), (8, iV p56)], [], []⟩ (fg ⟨rfl, rfl, rfl, rfl, rfl, tv⟩ tv) (seq_ (block_ (seq_ (reg_ (st (mv_ rfl tv (st (mv_ rfl tv (oe_ (wk_ ⟨[(0, .own 2097152 0 4 (p55.map eDLease)), (1, iV a1), (2, iV a2), (3, .clo f3 k3), (8, iV p56), (9, iV p56)], [], []⟩ (fg ⟨rfl, rfl, rfl, rfl, rfl, rfl, tv⟩ tv) (block_ ?_))))))))))))
   obtain ⟨r187, e188, h1⟩ := bnd h1
   refine loop_ (R := (fun S => ∃ p163 : List DLease, p163 = r187 ∧ S = ⟨[(0, .own 2097152 0 4 (p163.map eDLease)), (1, iV a1), (2, iV a2), (3, .clo f3 k3), (8, iV p56)], [], []⟩)) (g148_l1 a1 is3) (fun s S => match s with | (p136, p137) => S = ⟨[(0, .own 2097152 0 4 (p136.map eDLease)), (1, iV a1), (2, iV a2), (3, .clo f3 k3), (8, iV p56), (9, iV p137)], [], []⟩) e188 ⟨[(0, .own 2097152 0 4 (p55.map eDLease)), (1, iV a1), (2, iV a2), (3, .clo f3 k3), (8, iV p56), (9, iV p56)], [], []⟩ (fg ⟨rfl, rfl, rfl, rfl, rfl, rfl, tv⟩ tv) rfl 2 (fun _ => rfl) ?_ ?_
   ·rintro S _ hfg ⟨p163, rfl, rfl⟩
    refine bn_ (wk_ ⟨[(0, .own 2097152 0 4 (p163.map eDLease)), (1, iV a1), (2, iV a2), (3, .clo f3 k3), (8, iV p56)], [], []⟩ (fgl hfg ⟨rfl, rfl, rfl, rfl, rfl, tv⟩ tv) (reg_ (st (mv_ rfl tv (st (c_ (cp_ t3 rfl tv) (st (mv_ rfl tv (oe_ ?_)))))))))
    obtain rfl := Option.some.inj h1
    exact hK1 _ rfl _ ⟨[(0, .own 2097152 0 4 (p163.map eDLease)), (1, iV a1), (2, iV a2), (3, .clo f3 k3), (8, iV (IntKind.i64.wrap (p56 + 1)))], [], []⟩ (fg ⟨rfl, rfl, rfl, rfl, rfl, tv⟩ tv) rfl
   ·rintro ⟨p136, p137⟩ o2 _ K2 rfl h2 hx2 hK2 hE2 hR2
    refine seq_ (seq_ ?_)
    obtain ⟨y164, e165, h2⟩ := bnd h2
    obtain ⟨y166, e167, h2⟩ := bnd h2
    obtain ⟨y168, e169, h2⟩ := bnd h2
    obtain ⟨y170, e171, h2⟩ := bnd h2
    obtain ⟨r172, e173, h2⟩ := bnd h2
    refine draw_ (dtake tv (mv_ rfl tv (⟨tv, (dtake tv (mv_ rfl tv (⟨tv, (dtake tv (c_ (cp_ t3 rfl tv) (⟨tv, (dtake tv (mv_ rfl tv (⟨tv, (dtake tv (pg_ (u := .clo f3 k3) rfl (fun hg => (cmv (v := .clo f3 k3) rfl tv)) (⟨tv, (dtake tv (pg_ (u := .own 2097152 0 4 (p136.map eDLease)) rfl (fun hg => (cmv (v := .own 2097152 0 4 (p136.map eDLease)) rfl tv)) (⟨tv, (dtake tv (pg_ (u := iV p137) rfl (fun hg => (cmv (v := iV p137) rfl tv)) (⟨tv, (dtake tv (pg_ (u := .optr 2097152 4 (0 + p137.toNat) 0) rfl (fun hg => (cidxO (e := eDLease) (y := y164) rfl rfl (fun _ => hg) rfl rfl (fun _ => hg) (ip hg e165))) (⟨tv, (dtakeO (pg_ (u := .agg (eDLease y166)) rfl (fun hg => (cloadO (e := eDLease) (y := y166) (v := .agg (eDLease y166)) rfl rfl (fun _ => hg) rfl rfl (ip hg e167) rfl (nl rfl) rfl)) (⟨⟨(againg (v := .agg (eDLease y166)) rfl (fun hg => (cloadO (e := eDLease) (y := y166) (v := .agg (eDLease y166)) rfl rfl (fun _ => hg) rfl rfl (ip hg e167) rfl (nl rfl) rfl)) rfl), tv⟩, (dtake tv (pg_ (u := .own 2097152 0 4 (p136.map eDLease)) rfl (fun hg => (cmv (v := .own 2097152 0 4 (p136.map eDLease)) rfl tv)) (⟨⟨(againg (v := .agg (eDLease y166)) rfl (fun hg => (cloadO (e := eDLease) (y := y166) (v := .agg (eDLease y166)) rfl rfl (fun _ => hg) rfl rfl (ip hg e167) rfl (nl rfl) rfl)) rfl), tv⟩, (dtake tv (pg_ (u := iV p137) rfl (fun hg => (cmv (v := iV p137) rfl tv)) (⟨⟨(againg (v := .agg (eDLease y166)) rfl (fun hg => (cloadO (e := eDLease) (y := y166) (v := .agg (eDLease y166)) rfl rfl (fun _ => hg) rfl rfl (ip hg e167) rfl (nl rfl) rfl)) rfl), tv⟩, (dtake tv (pg_ (u := iV (IntKind.i64.wrap (p137 - 1))) rfl (fun hg => (cp_ ⟨(fun _ => hg), tv, tv⟩ rfl tv)) (⟨⟨(againg (v := .agg (eDLease y166)) rfl (fun hg => (cloadO (e := eDLease) (y := y166) (v := .agg (eDLease y166)) rfl rfl (fun _ => hg) rfl rfl (ip hg e167) rfl (nl rfl) rfl)) rfl), tv⟩, (dtake tv (pg_ (u := .optr 2097152 4 (0 + ((IntKind.i64.wrap (p137 - 1)).toNat)) 0) rfl (fun hg => (cidxO (e := eDLease) (y := y168) rfl rfl (fun _ => hg) rfl rfl (fun _ => hg) (ip hg e169))) (⟨⟨(againg (v := .agg (eDLease y166)) rfl (fun hg => (cloadO (e := eDLease) (y := y166) (v := .agg (eDLease y166)) rfl rfl (fun _ => hg) rfl rfl (ip hg e167) rfl (nl rfl) rfl)) rfl), tv⟩, (dtakeO (pg_ (u := .agg (eDLease y170)) rfl (fun hg => (cloadO (e := eDLease) (y := y170) (v := .agg (eDLease y170)) rfl rfl (fun _ => hg) rfl rfl (ip hg e171) rfl (nl rfl) rfl)) (⟨⟨(againg (v := .agg (eDLease y170)) rfl (fun hg => (cloadO (e := eDLease) (y := y170) (v := .agg (eDLease y170)) rfl rfl (fun _ => hg) rfl rfl (ip hg e171) rfl (nl rfl) rfl)) rfl), (againg (v := .agg (eDLease y166)) rfl (fun hg => (cloadO (e := eDLease) (y := y166) (v := .agg (eDLease y166)) rfl rfl (fun _ => hg) rfl rfl (ip hg e167) rfl (nl rfl) rfl)) rfl), tv⟩, (dalt (callvg_ (r := iV r172) rfl rfl rfl (fun hg => hg) false (fun hg => hf3 _ _ r172 (ip hg e173)) ⟨(fun hg => hg), (fun hg => hg), tv⟩ (fun _ => (and_ rfl (and_ rfl hs3.2.2.1))) (fun _ => (mapc1 rfl (mapc1 rfl (hs3.2.1 _ _ _ _ _)))) (fun _ => rfl) (fun h => nomatch h) (dkw ⟨[(0, .own 2097152 0 4 (p136.map eDLease)), (1, iV a1), (2, iV a2), (3, .clo f3 k3), (8, iV p56), (9, iV p137), (21, .bool (decide (p137 > a1))), (32, .may ((decide (p137 > a1)) == true) (iV r172))], [], []⟩ (fg ⟨rfl, rfl, rfl, rfl, rfl, rfl, rfl, rfl, tv⟩ tv) ⟨[], tv, tv, ?_⟩)) dstop)⟩)))⟩)))⟩)))⟩)))⟩)))⟩)))⟩)))⟩)))⟩)))⟩)))⟩)))⟩)))⟩)))⟩)))
    refine dtake tv (pg_ (u := .bool (decide (r172 < 0))) rfl (fun hg => (cp_ ⟨(fun _ => hg), tv, tv⟩ rfl tv)) (⟨tv, (dtake tv (pick_ rfl rfl rfl (fun h => eqt h) tv rfl (⟨tv, (dfin (wk_ ⟨[(0, .own 2097152 0 4 (p136.map eDLease)), (1, iV a1), (2, iV a2), (3, .clo f3 k3), (8, iV p56), (9, iV p137), (34, .bool (bif (decide (p137 > a1)) then (decide (r172 < 0)) else false))], [], []⟩ (fg ⟨rfl, rfl, rfl, rfl, rfl, rfl, rfl, tv⟩ tv) (ite_ (cb := (bif (decide (p137 > a1)) then (decide (r172 < 0)) else false)) rfl (fun c174 => ?_) (fun c174 => ?_))))⟩)))⟩))
    ·replace h2 := ip c174 h2
     refine sk_ (wk_ ⟨[(0, .own 2097152 0 4 (p136.map eDLease)), (1, iV a1), (2, iV a2), (3, .clo f3 k3), (8, iV p56), (9, iV p137)], [], []⟩ (fg ⟨rfl, rfl, rfl, rfl, rfl, rfl, tv⟩ tv) (seq_ (block_ ?_)))
     obtain ⟨y175, e176, h2⟩ := bnd h2
     obtain ⟨y177, e178, h2⟩ := bnd h2
     obtain ⟨y179, e180, h2⟩ := bnd h2
     obtain ⟨y181, e182, h2⟩ := bnd h2
     obtain ⟨y183, e184, h2⟩ := bnd h2
     obtain ⟨y185, e186, h2⟩ := bnd h2
     refine draw_ (dtake tv (mv_ rfl tv (⟨tv, (dtake tv (mv_ rfl tv (⟨tv, (dtake tv (mv_ rfl tv (⟨tv, (dtake tv (mv_ rfl tv (⟨tv, (dtake tv (c_ (cp_ t3 rfl tv) (⟨tv, (dtake tv (mv_ rfl tv (⟨tv, (dtake tv (mv_ rfl tv (⟨tv, (dtake tv (c_ (cp_ t3 rfl tv) (⟨tv, (dtake tv (c_ (cidxO (e := eDLease) (y := y175) rfl rfl tv rfl rfl tv e176) (⟨tv, (dtakeO (c_ (v := .agg (eDLease y177)) (cloadO (e := eDLease) (y := y177) (v := .agg (eDLease y177)) rfl rfl tv rfl rfl e178 rfl (nl rfl) rfl) (⟨⟨(again1 (cloadO (e := eDLease) (y := y177) (v := .agg (eDLease y177)) rfl rfl tv rfl rfl e178 rfl (nl rfl) rfl) rfl), tv⟩, (dtake tv (mv_ rfl tv (⟨⟨(again1 (cloadO (e := eDLease) (y := y177) (v := .agg (eDLease y177)) rfl rfl tv rfl rfl e178 rfl (nl rfl) rfl) rfl), tv⟩, (dtake tv (mv_ rfl tv (⟨⟨(again1 (cloadO (e := eDLease) (y := y177) (v := .agg (eDLease y177)) rfl rfl tv rfl rfl e178 rfl (nl rfl) rfl) rfl), tv⟩, (dtake tv (c_ (cidxO (e := eDLease) (y := y179) rfl rfl tv rfl rfl tv e180) (⟨⟨(again1 (cloadO (e := eDLease) (y := y177) (v := .agg (eDLease y177)) rfl rfl tv rfl rfl e178 rfl (nl rfl) rfl) rfl), tv⟩, (dtakeO (c_ (v := .agg (eDLease y181)) (cloadO (e := eDLease) (y := y181) (v := .agg (eDLease y181)) rfl rfl tv rfl rfl e182 rfl (nl rfl) rfl) (⟨⟨(again1 (cloadO (e := eDLease) (y := y181) (v := .agg (eDLease y181)) rfl rfl tv rfl rfl e182 rfl (nl rfl) rfl) rfl), (again1 (cloadO (e := eDLease) (y := y177) (v := .agg (eDLease y177)) rfl rfl tv rfl rfl e178 rfl (nl rfl) rfl) rfl), tv⟩, (dtake tv (c_ (cidxO (e := eDLease) (y := y179) rfl rfl tv rfl rfl tv e180) (⟨⟨(again1 (cloadO (e := eDLease) (y := y181) (v := .agg (eDLease y181)) rfl rfl tv rfl rfl e182 rfl (nl rfl) rfl) rfl), (again1 (cloadO (e := eDLease) (y := y177) (v := .agg (eDLease y177)) rfl rfl tv rfl rfl e178 rfl (nl rfl) rfl) rfl), tv⟩, ?_⟩)))⟩)))⟩)))⟩)))⟩)))⟩)))⟩)))⟩)))⟩)))⟩)))⟩)))⟩)))⟩)))⟩)))⟩)))
     refine dalt (sto_ (y' := y177) rfl rfl tv rfl rfl rfl rfl e182 (nl rfl) rfl rfl rfl rfl (dkw ⟨[(0, .own 2097152 0 4 ((p136.set p137.toNat y177).map eDLease)), (1, iV a1), (2, iV a2), (3, .clo f3 k3), (8, iV p56), (9, iV p137), (39, .own 2097152 0 4 ((p136.set p137.toNat y177).map eDLease)), (40, iV p137), (41, iV (IntKind.i64.wrap (p137 - 1))), (50, .agg (eDLease y181))], [], []⟩ (fg ⟨(congrArg (fun z => some ((.own 2097152 0 4 z : V))) overlay_map), rfl, rfl, rfl, rfl, rfl, (congrArg (fun z => some ((.own 2097152 0 4 z : V))) overlay_map), rfl, rfl, rfl, tv⟩ tv) ⟨[], ⟨⟨.inl tv, (again1 (cp_ t3 rfl tv) rfl)⟩, ⟨.inl tv, (again1 (cmv (v := iV p137) rfl tv) rfl)⟩, ⟨.inl tv, (again1 (cmv (v := .own 2097152 0 4 ((p136.set p137.toNat y177).map eDLease)) rfl tv) rfl)⟩, tv⟩, tv, (dtake tv (c_ (cidxO (e := eDLease) (y := y183) rfl rfl tv rfl rfl tv e184) (⟨tv, (dalt (sto_ (y' := y181) rfl rfl tv rfl rfl rfl rfl e186 (nl rfl) rfl rfl rfl rfl (dk0 ⟨[], tv, tv, (dfin (bn_ (wk_ ⟨[(0, .own 2097152 0 4 (((p136.set p137.toNat y177).set ((IntKind.i64.wrap (p137 - 1)).toNat) y181).map eDLease)), (1, iV a1), (2, iV a2), (3, .clo f3 k3), (8, iV p56), (9, iV p137)], [], []⟩ (fg ⟨(congrArg (fun z => some ((.own 2097152 0 4 z : V))) overlay_map), rfl, rfl, rfl, rfl, rfl, tv⟩ tv) (reg_ (st (mv_ rfl tv (st (c_ (cp_ t3 rfl tv) (st (mv_ rfl tv (oe_ ?_)))))))))))⟩)) dstop)⟩)))⟩)) dstop
     obtain rfl := Option.some.inj h2
     exact hK2 _ rfl _ ⟨[(0, .own 2097152 0 4 (((p136.set p137.toNat y177).set ((IntKind.i64.wrap (p137 - 1)).toNat) y181).map eDLease)), (1, iV a1), (2, iV a2), (3, .clo f3 k3), (8, iV p56), (9, iV (IntKind.i64.wrap (p137 - 1)))], [], []⟩ (fg ⟨rfl, rfl, rfl, rfl, rfl, rfl, tv⟩ tv) rfl
    ·replace h2 := inb c174 h2
     obtain rfl := Option.some.inj h2
     obtain rfl := hx2 _ rfl
     refine exQ rfl ?_
     exact hE2 _ ⟨[(0, .own 2097152 0 4 (p136.map eDLease)), (1, iV a1), (2, iV a2), (3, .clo f3 k3), (8, iV p56)], [], []⟩ (fg ⟨rfl, rfl, rfl, rfl, rfl, tv⟩ tv) ⟨_, rfl, rfl⟩
  ·replace h1 := inb c112 h1
   obtain rfl := Option.some.inj h1
   obtain rfl := hx1 _ rfl
   refine exQ rfl ?_
   exact hE1 _ ⟨[(0, .own 2097152 0 4 (p55.map eDLease))], [], []⟩ (fgk (by kernel_rfl)) ⟨_, rfl, rfl⟩

/- slices.siftDownCmpFunc[loop.example/g00149/impl.Lease] -/
def c159_r0 : List Ins := [(iQ 12 (.mv (.t 1))),
(iQ 10 (.mv (.t 12)))]
def c159_r1 : List Ins := [(iQ 13 (.mv (.t 10))),
⟨some 14, .p (.bin .mul (.c (iV 2)) (.t 13)), none⟩,
⟨some 15, .p (.bin .add (.t 14) (.c (iV 1))), none⟩,
(iQ 11 (.mv (.t 15)))]
def c159_r2 : List Ins := [(iQ 16 (.mv (.t 11))),
(iQ 17 (.mv (.t 2))),
(iQ 18 (.bin .geq (.t 16) (.t 17)))]
def c159_r3 : DP := (.take (iQ 19 (.mv (.t 11)))
(.take ⟨some 20, .p (.bin .add (.t 19) (.c (iV 1))), none⟩
(.take (iQ 21 (.mv (.t 2)))
(.take (iQ 22 (.bin .lss (.t 20) (.t 21)))
(.take (iQ 23 (.mv (.t 22)))
(.take ⟨some 24, .p (.mv (.t 4)), some (23, true)⟩
(.take ⟨some 25, .p (.mv (.t 0)), some (23, true)⟩
(.take ⟨some 26, .p (.mv (.t 3)), some (23, true)⟩
(.take ⟨some 27, .p (.mv (.t 11)), some (23, true)⟩
(.take ⟨some 28, .p (.bin .add (.t 26) (.t 27)), some (23, true)⟩
(.take ⟨some 29, .p (.idxA (.t 25) (.t 28) 4), some (23, true)⟩
(.take ⟨some 30, .p (.load (.t 29) 4 true), some (23, true)⟩
(.take ⟨some 31, .p (.mv (.t 0)), some (23, true)⟩
(.take ⟨some 32, .p (.mv (.t 3)), some (23, true)⟩
(.take ⟨some 33, .p (.mv (.t 11)), some (23, true)⟩
(.take ⟨some 34, .p (.bin .add (.t 32) (.t 33)), some (23, true)⟩
(.take ⟨some 35, .p (.bin .add (.t 34) (.c (iV 1))), some (23, true)⟩
(.take ⟨some 36, .p (.idxA (.t 31) (.t 35) 4), some (23, true)⟩
(.take ⟨some 37, .p (.load (.t 36) 4 true), some (23, true)⟩
(.alt [] ⟨some 38, .callv (.t 24) [(.t 30), (.t 37)], some (23, true)⟩
(.take ⟨some 39, .p (.bin .lss (.t 38) (.c (iV 0))), some (23, true)⟩
(.take ⟨some 40, .pick (.t 23) (.t 39) (.c (.bool false)), none⟩
.fin))
.stop))))))))))))))))))))
def c159_r4 : List Ins := [(iQ 41 (.mv (.t 11))),
⟨some 42, .p (.bin .add (.t 41) (.c (iV 1))), none⟩,
(iQ 11 (.mv (.t 42)))]
def c159_r5 : DP := (.take (iQ 43 (.mv (.t 4)))
(.take (iQ 44 (.mv (.t 0)))
(.take (iQ 45 (.mv (.t 3)))
(.take (iQ 46 (.mv (.t 10)))
(.take (iQ 47 (.bin .add (.t 45) (.t 46)))
(.take (iQ 48 (.idxA (.t 44) (.t 47) 4))
(.take (iQ 49 (.load (.t 48) 4 true))
(.take (iQ 50 (.mv (.t 0)))
(.take (iQ 51 (.mv (.t 3)))
(.take (iQ 52 (.mv (.t 11)))
(.take (iQ 53 (.bin .add (.t 51) (.t 52)))
(.take (iQ 54 (.idxA (.t 50) (.t 53) 4))
(.take (iQ 55 (.load (.t 54) 4 true))
(.alt [] ⟨some 56, .callv (.t 43) [(.t 49), (.t 55)], none⟩
(.take ⟨some 57, .p (.bin .lss (.t 56) (.c (iV 0))), none⟩
(.take (iQ 58 (.un .not (.t 57)))
.fin))
.stop))))))))))))))
def c159_r6 : DP := (.take (iQ 59 (.mv (.t 0)))
(.take (iQ 60 (.mv (.t 3)))
(.take (iQ 61 (.mv (.t 10)))
(.take (iQ 62 (.bin .add (.t 60) (.t 61)))
(.take (iQ 63 (.mv (.t 0)))
(.take (iQ 64 (.mv (.t 3)))
(.take (iQ 65 (.mv (.t 11)))
(.take (iQ 66 (.bin .add (.t 64) (.t 65)))
(.take (iQ 67 (.mv (.t 0)))
(.take (iQ 68 (.mv (.t 3)))
(.take (iQ 69 (.mv (.t 11)))
(.take (iQ 70 (.bin .add (.t 68) (.t 69)))
(.take (iQ 71 (.idxA (.t 67) (.t 70) 4))
(.take (iQ 72 (.load (.t 71) 4 true))
(.take (iQ 73 (.mv (.t 0)))
(.take (iQ 74 (.mv (.t 3)))
(.take (iQ 75 (.mv (.t 10)))
(.take (iQ 76 (.bin .add (.t 74) (.t 75)))
(.take (iQ 77 (.idxA (.t 73) (.t 76) 4))
(.take (iQ 78 (.load (.t 77) 4 true))
(.take (iQ 79 (.idxA (.t 59) (.t 62) 4))
(.alt [(iQ 66 (.bin .add (.t 64) (.t 65))), (iQ 65 (.mv (.t 11))), (iQ 64 (.mv (.t 3))), (iQ 63 (.mv (.t 0)))] ⟨none, .store (.t 79) (.t 72) 4, none⟩
(.take (iQ 80 (.idxA (.t 63) (.t 66) 4))
(.alt [] ⟨none, .store (.t 80) (.t 78) 4, none⟩
.fin
.stop))
.stop))))))))))))))))))))))
def c159_r7 : List Ins := [(iQ 81 (.mv (.t 11))),
(iQ 10 (.mv (.t 81)))]
def c159_l0 : IR := (.block 1 (.seq (.reg c159_r1) (.seq (.seq (.reg c159_r2) (.ite (.t 18) (.exit 0) .skip)) (.seq (.seq (.draw c159_r3) (.ite (.t 40) (.reg c159_r4) .skip)) (.seq (.seq (.draw c159_r5) (.ite (.t 58) .ret .skip)) (.seq (.draw c159_r6) (.reg c159_r7)))))))
def c159 : XFn := { np := 5, nt := 82, res := [], body := (.seq (.reg c159_r0) (.block 0 (.loop c159_l0))) }
def K159 (C : CRel) : Prop := ∀ (a0 : List DLease) (a1 : Int) (a2 : Int) (a3 : Int) (f4 : Nat) (k4 : List V) (is4 : DLease → DLease → Option Int) (hs4 : Shut k4) (hf4 : ∀ (x0 : DLease) (x1 : DLease) r, is4 x0 x1 = some r → C f4 ⟨.agg (eDLease x0) :: .agg (eDLease x1) :: k4, []⟩ ⟨iV r, [], []⟩) (r : (List DLease)), g159 a0 a1 a2 a3 is4 = some r → C 159 ⟨[.own 2097152 0 4 (a0.map eDLease), iV a1, iV a2, iV a3, .clo f4 k4], []⟩ ⟨.tup [], [], [(0, 4, r.map eDLease)]⟩
theorem F159 {C : CRel}  (a0 : List DLease) (a1 : Int) (a2 : Int) (a3 : Int) (f4 : Nat) (k4 : List V) (is4 : DLease → DLease → Option Int) (hs4 : Shut k4) (hf4 : ∀ (x0 : DLease) (x1 : DLease) r, is4 x0 x1 = some r → C f4 ⟨.agg (eDLease x0) :: .agg (eDLease x1) :: k4, []⟩ ⟨iV r, [], []⟩) (r : (List DLease)) (h0 : g159 a0 a1 a2 a3 is4 = some r) : FnOK C c159 ⟨[.own 2097152 0 4 (a0.map eDLease), iV a1, iV a2, iV a3, .clo f4 k4], []⟩ ⟨.tup [], [], [(0, 4, r.map eDLease)]⟩ := by
 refine fn_ (nl rfl) (seq_ (reg_ (st (mv_ rfl tv (st (mv_ rfl tv (oe_ (wk_ ⟨[(0, .own 2097152 0 4 (a0.map eDLease)), (2, iV a2), (3, iV a3), (4, .clo f4 k4), (10, iV a1)], [], []⟩ (fg ⟨rfl, rfl, rfl, rfl, rfl, tv⟩ tv) (block_ ?_)))))))))
 obtain ⟨r122, e123, h0⟩ := bnd h0
 refine loop_ (R := (fun S => ∃ p81 : List DLease, .inl p81 = r122 ∧ S = ⟨[(0, .own 2097152 0 4 (p81.map eDLease))], [], []⟩)) (g159_l0 a2 a3 is4) (fun s S => match s with | (p39, p40) => S = ⟨[(0, .own 2097152 0 4 (p39.map eDLease)), (2, iV a2), (3, iV a3), (4, .clo f4 k4), (10, iV p40)], [], []⟩) e123 ⟨[(0, .own 2097152 0 4 (a0.map eDLease)), (2, iV a2), (3, iV a3), (4, .clo f4 k4), (10, iV a1)], [], []⟩ (fg ⟨rfl, rfl, rfl, rfl, rfl, tv⟩ tv) rfl 0 (fun _ => rfl) ?_ ?_
 ·rintro S _ hfg ⟨p81, rfl, rfl⟩
  obtain rfl := Option.some.inj h0
  exact retn_ (retf_ hfg (ret_ rfl rfl rfl rfl rfl ⟨⟨rfl, mlen (fun _ => rfl)⟩, tv⟩))
 ·rintro ⟨p39, p40⟩ o1 _ K1 rfl h1 hx1 hK1 hE1 hR1
  refine block_ (seq_ (reg_ (st (mv_ rfl tv (st (c_ (cp_ t3 rfl tv) (st (c_ (cp_ t3 rfl tv) (st (mv_ rfl tv (oe_ (wk_ ⟨[(0, .own 2097152 0 4 (p39.map eDLease)), (2, iV a2), (3, iV a3), (4, .clo f4 k4), (10, iV p40), (11, iV (IntKind.i64.wrap ((IntKind.i64.wrap (2 * p40)) + 1)))], [], []⟩ (fg ⟨rfl, rfl, rfl, rfl, rfl, rfl, tv⟩ tv) (seq_ (seq_ (reg_ (st (mv_ rfl tv (st (mv_ rfl tv (st (c_ (cp_ t3 rfl tv) (oe_ (wk_ ⟨[(0, .own 2097152 0 4 (p39.map eDLease)), (2, iV a2), (3, iV a3), (4, .clo f4 k4), (10, iV p40), (11, iV (IntKind.i64.wrap ((IntKind.i64.wrap (2 * p40)) + 1))), (18, .bool (decide ((IntKind.i64.wrap ((IntKind.i64.wrap (2 * p40)) + 1)) ≥ a2)))], [], []⟩ (fg ⟨rfl, rfl, rfl, rfl, rfl, rfl, rfl, tv⟩ tv) (ite_ (cb := (decide ((IntKind.i64.wrap ((IntKind.i64.wrap (2 * p40)) + 1)) ≥ a2))) rfl (fun c82 => ?_) (fun c82 => ?_)))))))))))))))))))))))))
  ·replace h1 := ip c82 h1
   obtain rfl := Option.some.inj h1
   obtain rfl := hx1 _ rfl
   refine exQ rfl ?_
   exact hE1 _ ⟨[(0, .own 2097152 0 4 (p39.map eDLease))], [], []⟩ (fgk (by kernel_rfl)) ⟨_, rfl, rfl⟩
  ·replace h1 := inb c82 h1
   refine sk_ (wk_ ⟨[(0, .own 2097152 0 4 (p39.map eDLease)), (2, iV a2), (3, iV a3), (4, .clo f4 k4), (10, iV p40), (11, iV (IntKind.i64.wrap ((IntKind.i64.wrap (2 * p40)) + 1)))], [], []⟩ (fg ⟨rfl, rfl, rfl, rfl, rfl, rfl, tv⟩ tv) (seq_ (seq_ ?_)))
   obtain ⟨y83, e84, h1⟩ := bnd h1
   obtain ⟨y85, e86, h1⟩ := bnd h1
   obtain ⟨y87, e88, h1⟩ := bnd h1
   obtain ⟨y89, e90, h1⟩ := bnd h1
   obtain ⟨r91, e92, h1⟩ := bnd h1
   refine draw_ (dtake tv (mv_ rfl tv (⟨tv, (dtake tv (c_ (cp_ t3 rfl tv) (⟨tv, (dtake tv (mv_ rfl tv (⟨tv, (dtake tv (c_ (cp_ t3 rfl tv) (⟨tv, (dtake tv (mv_ rfl tv (⟨tv, (dtake tv (pg_ (u := .clo f4 k4) rfl (fun hg => (cmv (v := .clo f4 k4) rfl tv)) (⟨tv, (dtake tv (pg_ (u := .own 2097152 0 4 (p39.map eDLease)) rfl (fun hg => (cmv (v := .own 2097152 0 4 (p39.map eDLease)) rfl tv)) (⟨tv, (dtake tv (pg_ (u := iV a3) rfl (fun hg => (cmv (v := iV a3) rfl tv)) (⟨tv, (dtake tv (pg_ (u := iV (IntKind.i64.wrap ((IntKind.i64.wrap (2 * p40)) + 1))) rfl (fun hg => (cmv (v := iV (IntKind.i64.wrap ((IntKind.i64.wrap (2 * p40)) + 1))) rfl tv)) (⟨tv, (dtake tv (pg_ (u := iV (IntKind.i64.wrap (a3 + (IntKind.i64.wrap ((IntKind.i64.wrap (2 * p40)) + 1))))) rfl (fun hg => (cp_ ⟨(fun _ => hg), (fun _ => hg), tv⟩ rfl tv)) (⟨tv, (dtake tv (pg_ (u := .optr 2097152 4 (0 + ((IntKind.i64.wrap (a3 + (IntKind.i64.wrap ((IntKind.i64.wrap (2 * p40)) + 1)))).toNat)) 0) rfl (fun hg => (cidxO (e := eDLease) (y := y83) rfl rfl (fun _ => hg) rfl rfl (fun _ => hg) (ip hg e84))) (⟨tv, (dtakeO (pg_ (u := .agg (eDLease y85)) rfl (fun hg => (cloadO (e := eDLease) (y := y85) (v := .agg (eDLease y85)) rfl rfl (fun _ => hg) rfl rfl (ip hg e86) rfl (nl rfl) rfl)) (⟨⟨(againg (v := .agg (eDLease y85)) rfl (fun hg => (cloadO (e := eDLease) (y := y85) (v := .agg (eDLease y85)) rfl rfl (fun _ => hg) rfl rfl (ip hg e86) rfl (nl rfl) rfl)) rfl), tv⟩, (dtake tv (pg_ (u := .own 2097152 0 4 (p39.map eDLease)) rfl (fun hg => (cmv (v := .own 2097152 0 4 (p39.map eDLease)) rfl tv)) (⟨⟨(againg (v := .agg (eDLease y85)) rfl (fun hg => (cloadO (e := eDLease) (y := y85) (v := .agg (eDLease y85)) rfl rfl (fun _ => hg) rfl rfl (ip hg e86) rfl (nl rfl) rfl)) rfl), tv⟩, (dtake tv (pg_ (u := iV a3) rfl (fun hg => (cmv (v := iV a3) rfl tv)) (⟨⟨(againg (v := .agg (eDLease y85)) rfl (fun hg => (cloadO (e := eDLease) (y := y85) (v := .agg (eDLease y85)) rfl rfl (fun _ => hg) rfl rfl (ip hg e86) rfl (nl rfl) rfl)) rfl), tv⟩, (dtake tv (pg_ (u := iV (IntKind.i64.wrap ((IntKind.i64.wrap (2 * p40)) + 1))) rfl (fun hg => (cmv (v := iV (IntKind.i64.wrap ((IntKind.i64.wrap (2 * p40)) + 1))) rfl tv)) (⟨⟨(againg (v := .agg (eDLease y85)) rfl (fun hg => (cloadO (e := eDLease) (y := y85) (v := .agg (eDLease y85)) rfl rfl (fun _ => hg) rfl rfl (ip hg e86) rfl (nl rfl) rfl)) rfl), tv⟩, ?_⟩)))⟩)))⟩)))⟩)))⟩)))⟩)))⟩)))⟩)))⟩)))⟩)))⟩)))⟩)))⟩)))⟩)))⟩)))
   refine dtake tv (pg_ (u := iV (IntKind.i64.wrap (a3 + (IntKind.i64.wrap ((IntKind.i64.wrap (2 * p40)) + 1))))) rfl (fun hg => (cp_ ⟨(fun _ => hg), (fun _ => hg), tv⟩ rfl tv)) (⟨⟨(againg (v := .agg (eDLease y85)) rfl (fun hg => (cloadO (e := eDLease) (y := y85) (v := .agg (eDLease y85)) rfl rfl (fun _ => hg) rfl rfl (ip hg e86) rfl (nl rfl) rfl)) rfl), tv⟩, (dtake tv (pg_ (u := iV (IntKind.i64.wrap ((IntKind.i64.wrap (a3 + (IntKind.i64.wrap ((IntKind.i64.wrap (2 * p40)) + 1)))) + 1))) rfl (fun hg => (cp_ ⟨(fun _ => hg), tv, tv⟩ rfl tv)) (⟨⟨(againg (v := .agg (eDLease y85)) rfl (fun hg => (cloadO (e := eDLease) (y := y85) (v := .agg (eDLease y85)) rfl rfl (fun _ => hg) rfl rfl (ip hg e86) rfl (nl rfl) rfl)) rfl), tv⟩, (dtake tv (pg_ (u := .optr 2097152 4 (0 + ((IntKind.i64.wrap ((IntKind.i64.wrap (a3 + (IntKind.i64.wrap ((IntKind.i64.wrap (2 * p40)) + 1)))) + 1)).toNat)) 0) rfl (fun hg => (cidxO (e := eDLease) (y := y87) rfl rfl (fun _ => hg) rfl rfl (fun _ => hg) (ip hg e88))) (⟨⟨(againg (v := .agg (eDLease y85)) rfl (fun hg => (cloadO (e := eDLease) (y := y85) (v := .agg (eDLease y85)) rfl rfl (fun _ => hg) rfl rfl (ip hg e86) rfl (nl rfl) rfl)) rfl), tv⟩, (dtakeO (pg_ (u := .agg (eDLease y89)) rfl (fun hg => (cloadO (e := eDLease) (y := y89) (v := .agg (eDLease y89)) rfl rfl (fun _ => hg) rfl rfl (ip hg e90) rfl (nl rfl) rfl)) (⟨⟨(againg (v := .agg (eDLease y89)) rfl (fun hg => (cloadO (e := eDLease) (y := y89) (v := .agg (eDLease y89)) rfl rfl (fun _ => hg) rfl rfl (ip hg e90) rfl (nl rfl) rfl)) rfl), (againg (v := .agg (eDLease y85)) rfl (fun hg => (cloadO (e := eDLease) (y := y85) (v := .agg (eDLease y85)) rfl rfl (fun _ => hg) rfl rfl (ip hg e86) rfl (nl rfl) rfl)) rfl), tv⟩, (dalt (callvg_ (r := iV r91) rfl rfl rfl (fun hg => hg) false (fun hg => hf4 _ _ r91 (ip hg e92)) ⟨(fun hg => hg), (fun hg => hg), tv⟩ (fun _ => (and_ rfl (and_ rfl hs4.2.2.1))) (fun _ => (mapc1 rfl (mapc1 rfl (hs4.2.1 _ _ _ _ _)))) (fun _ => rfl) (fun h => nomatch h) (dkw ⟨[(0, .own 2097152 0 4 (p39.map eDLease)), (2, iV a2), (3, iV a3), (4, .clo f4 k4), (10, iV p40), (11, iV (IntKind.i64.wrap ((IntKind.i64.wrap (2 * p40)) + 1))), (23, .bool (decide ((IntKind.i64.wrap ((IntKind.i64.wrap ((IntKind.i64.wrap (2 * p40)) + 1)) + 1)) < a2))), (38, .may ((decide ((IntKind.i64.wrap ((IntKind.i64.wrap ((IntKind.i64.wrap (2 * p40)) + 1)) + 1)) < a2)) == true) (iV r91))], [], []⟩ (fg ⟨rfl, rfl, rfl, rfl, rfl, rfl, rfl, rfl, tv⟩ tv) ⟨[], tv, tv, (dtake tv (pg_ (u := .bool (decide (r91 < 0))) rfl (fun hg => (cp_ ⟨(fun _ => hg), tv, tv⟩ rfl tv)) (⟨tv, (dtake tv (pick_ rfl rfl rfl (fun h => eqt h) tv rfl (⟨tv, (dfin ?_)⟩)))⟩)))⟩)) dstop)⟩)))⟩)))⟩)))⟩))
   obtain ⟨v93, e94, h1⟩ := bl h1
   refine wk_ ⟨[(0, .own 2097152 0 4 (p39.map eDLease)), (2, iV a2), (3, iV a3), (4, .clo f4 k4), (10, iV p40), (11, iV (IntKind.i64.wrap ((IntKind.i64.wrap (2 * p40)) + 1))), (40, .bool v93)], [], []⟩ (fg ⟨(by subst e94; rfl), (by subst e94; rfl), (by subst e94; rfl), (by subst e94; rfl), (by subst e94; rfl), (by subst e94; rfl), (by subst e94; rfl), tv⟩ tv) (iteJ (cb := v93) (fun S => ∃ p96 : Int, S = ⟨[(0, .own 2097152 0 4 (p39.map eDLease)), (2, iV a2), (3, iV a3), (4, .clo f4 k4), (10, iV p40), (11, iV p96)], [], []⟩ ∧ g159_j0 a3 is4 p39 p40 p96 = some o1) rfl ?_ (fun c121 J120 => ?_) (fun c121 J120 => ?_))
   ·rintro _ ⟨p96, rfl, h1⟩
    refine wk_ ⟨[(0, .own 2097152 0 4 (p39.map eDLease)), (2, iV a2), (3, iV a3), (4, .clo f4 k4), (10, iV p40), (11, iV p96)], [], []⟩ (fg ⟨rfl, rfl, rfl, rfl, rfl, rfl, tv⟩ tv) (seq_ (seq_ ?_))
    obtain ⟨y97, e98, h1⟩ := bnd h1
    obtain ⟨y99, e100, h1⟩ := bnd h1
    obtain ⟨y101, e102, h1⟩ := bnd h1
    obtain ⟨y103, e104, h1⟩ := bnd h1
    obtain ⟨r105, e106, h1⟩ := bnd h1
    refine draw_ (dtake tv (mv_ rfl tv (⟨tv, (dtake tv (mv_ rfl tv (⟨tv, (dtake tv (mv_ rfl tv (⟨tv, (dtake tv (mv_ rfl tv (⟨tv, (dtake tv (c_ (cp_ t3 rfl tv) (⟨tv, (dtake tv (c_ (cidxO (e := eDLease) (y := y97) rfl rfl tv rfl rfl tv e98) (⟨tv, (dtakeO (c_ (v := .agg (eDLease y99)) (cloadO (e := eDLease) (y := y99) (v := .agg (eDLease y99)) rfl rfl tv rfl rfl e100 rfl (nl rfl) rfl) (⟨⟨(again1 (cloadO (e := eDLease) (y := y99) (v := .agg (eDLease y99)) rfl rfl tv rfl rfl e100 rfl (nl rfl) rfl) rfl), tv⟩, (dtake tv (mv_ rfl tv (⟨⟨(again1 (cloadO (e := eDLease) (y := y99) (v := .agg (eDLease y99)) rfl rfl tv rfl rfl e100 rfl (nl rfl) rfl) rfl), tv⟩, (dtake tv (mv_ rfl tv (⟨⟨(again1 (cloadO (e := eDLease) (y := y99) (v := .agg (eDLease y99)) rfl rfl tv rfl rfl e100 rfl (nl rfl) rfl) rfl), tv⟩, (dtake tv (mv_ rfl tv (⟨⟨(again1 (cloadO (e := eDLease) (y := y99) (v := .agg (eDLease y99)) rfl rfl tv rfl rfl e100 rfl (nl rfl) rfl) rfl), tv⟩, (dtake tv (c_ (cp_ t3 rfl tv) (⟨⟨(again1 (cloadO (e := eDLease) (y := y99) (v := .agg (eDLease y99)) rfl rfl tv rfl rfl e100 rfl (nl rfl) rfl) rfl), tv⟩, (dtake tv (c_ (cidxO (e := eDLease) (y := y101) rfl rfl tv rfl rfl tv e102) (⟨⟨(again1 (cloadO (e := eDLease) (y := y99) (v := .agg (eDLease y99)) rfl rfl tv rfl rfl e100 rfl (nl rfl) rfl) rfl), tv⟩, (dtakeO (c_ (v := .agg (eDLease y103)) (cloadO (e := eDLease) (y := y103) (v := .agg (eDLease y103)) rfl rfl tv rfl rfl e104 rfl (nl rfl) rfl) (⟨⟨(again1 (cloadO (e := eDLease) (y := y103) (v := .agg (eDLease y103)) rfl rfl tv rfl rfl e104 rfl (nl rfl) rfl) rfl), (again1 (cloadO (e := eDLease) (y := y99) (v := .agg (eDLease y99)) rfl rfl tv rfl rfl e100 rfl (nl rfl) rfl) rfl), tv⟩, (dalt (callv0_ (r := iV r105) rfl false (hf4 _ _ r105 e106) ⟨tv, tv, tv⟩ (and_ rfl (and_ rfl hs4.2.2.1)) (mapc1 rfl (mapc1 rfl (hs4.2.1 _ _ _ _ _))) (fun _ => rfl) (dkw ⟨[(0, .own 2097152 0 4 (p39.map eDLease)), (2, iV a2), (3, iV a3), (4, .clo f4 k4), (10, iV p40), (11, iV p96), (56, iV r105)], [], []⟩ (fg ⟨rfl, rfl, rfl, rfl, rfl, rfl, rfl, tv⟩ tv) ⟨[], tv, tv, (dtake tv (c_ (cp_ t3 rfl tv) (⟨tv, ?_⟩)))⟩)) dstop)⟩)))⟩)))⟩)))⟩)))⟩)))⟩)))⟩)))⟩)))⟩)))⟩)))⟩)))⟩)))⟩)))
    refine dtake tv (c_ (cp_ ⟨tv, tv⟩ rfl tv) (⟨tv, (dfin (wk_ ⟨[(0, .own 2097152 0 4 (p39.map eDLease)), (2, iV a2), (3, iV a3), (4, .clo f4 k4), (10, iV p40), (11, iV p96), (58, .bool (!(decide (r105 < 0))))], [], []⟩ (fg ⟨rfl, rfl, rfl, rfl, rfl, rfl, rfl, tv⟩ tv) (ite_ (cb := (!(decide (r105 < 0)))) rfl (fun c107 => ?_) (fun c107 => ?_))))⟩))
    ·replace h1 := ip c107 h1
     obtain rfl := Option.some.inj h1
     obtain rfl := hx1 _ rfl
     obtain rfl := Option.some.inj h0
     exact rt_ (hR1 _ (ret_ rfl rfl rfl rfl rfl ⟨⟨rfl, mlen (fun _ => rfl)⟩, tv⟩))
    ·replace h1 := inb c107 h1
     refine sk_ (wk_ ⟨[(0, .own 2097152 0 4 (p39.map eDLease)), (2, iV a2), (3, iV a3), (4, .clo f4 k4), (10, iV p40), (11, iV p96)], [], []⟩ (fg ⟨rfl, rfl, rfl, rfl, rfl, rfl, tv⟩ tv) (seq_ ?_))
     obtain ⟨y108, e109, h1⟩ := bnd h1
     obtain ⟨y110, e111, h1⟩ := bnd h1
     obtain ⟨y112, e113, h1⟩ := bnd h1
     obtain ⟨y114, e115, h1⟩ := bnd h1
     obtain ⟨y116, e117, h1⟩ := bnd h1
     obtain ⟨y118, e119, h1⟩ := bnd h1
     refine draw_ (dtake tv (mv_ rfl tv (⟨tv, (dtake tv (mv_ rfl tv (⟨tv, (dtake tv (mv_ rfl tv (⟨tv, (dtake tv (c_ (cp_ t3 rfl tv) (⟨tv, (dtake tv (mv_ rfl tv (⟨tv, (dtake tv (mv_ rfl tv (⟨tv, (dtake tv (mv_ rfl tv (⟨tv, (dtake tv (c_ (cp_ t3 rfl tv) (⟨tv, (dtake tv (mv_ rfl tv (⟨tv, (dtake tv (mv_ rfl tv (⟨tv, (dtake tv (mv_ rfl tv (⟨tv, (dtake tv (c_ (cp_ t3 rfl tv) (⟨tv, (dtake tv (c_ (cidxO (e := eDLease) (y := y108) rfl rfl tv rfl rfl tv e109) (⟨tv, (dtakeO (c_ (v := .agg (eDLease y110)) (cloadO (e := eDLease) (y := y110) (v := .agg (eDLease y110)) rfl rfl tv rfl rfl e111 rfl (nl rfl) rfl) (⟨⟨(again1 (cloadO (e := eDLease) (y := y110) (v := .agg (eDLease y110)) rfl rfl tv rfl rfl e111 rfl (nl rfl) rfl) rfl), tv⟩, (dtake tv (mv_ rfl tv (⟨⟨(again1 (cloadO (e := eDLease) (y := y110) (v := .agg (eDLease y110)) rfl rfl tv rfl rfl e111 rfl (nl rfl) rfl) rfl), tv⟩, ?_⟩)))⟩)))⟩)))⟩)))⟩)))⟩)))⟩)))⟩)))⟩)))⟩)))⟩)))⟩)))⟩)))⟩)))⟩)))
     refine dtake tv (mv_ rfl tv (⟨⟨(again1 (cloadO (e := eDLease) (y := y110) (v := .agg (eDLease y110)) rfl rfl tv rfl rfl e111 rfl (nl rfl) rfl) rfl), tv⟩, (dtake tv (mv_ rfl tv (⟨⟨(again1 (cloadO (e := eDLease) (y := y110) (v := .agg (eDLease y110)) rfl rfl tv rfl rfl e111 rfl (nl rfl) rfl) rfl), tv⟩, (dtake tv (c_ (cp_ t3 rfl tv) (⟨⟨(again1 (cloadO (e := eDLease) (y := y110) (v := .agg (eDLease y110)) rfl rfl tv rfl rfl e111 rfl (nl rfl) rfl) rfl), tv⟩, (dtake tv (c_ (cidxO (e := eDLease) (y := y112) rfl rfl tv rfl rfl tv e113) (⟨⟨(again1 (cloadO (e := eDLease) (y := y110) (v := .agg (eDLease y110)) rfl rfl tv rfl rfl e111 rfl (nl rfl) rfl) rfl), tv⟩, (dtakeO (c_ (v := .agg (eDLease y114)) (cloadO (e := eDLease) (y := y114) (v := .agg (eDLease y114)) rfl rfl tv rfl rfl e115 rfl (nl rfl) rfl) (⟨⟨(again1 (cloadO (e := eDLease) (y := y114) (v := .agg (eDLease y114)) rfl rfl tv rfl rfl e115 rfl (nl rfl) rfl) rfl), (again1 (cloadO (e := eDLease) (y := y110) (v := .agg (eDLease y110)) rfl rfl tv rfl rfl e111 rfl (nl rfl) rfl) rfl), tv⟩, (dtake tv (c_ (cidxO (e := eDLease) (y := y112) rfl rfl tv rfl rfl tv e113) (⟨⟨(again1 (cloadO (e := eDLease) (y := y114) (v := .agg (eDLease y114)) rfl rfl tv rfl rfl e115 rfl (nl rfl) rfl) rfl), (again1 (cloadO (e := eDLease) (y := y110) (v := .agg (eDLease y110)) rfl rfl tv rfl rfl e111 rfl (nl rfl) rfl) rfl), tv⟩, (dalt (sto_ (y' := y110) rfl rfl tv rfl rfl rfl rfl e115 (nl rfl) rfl rfl rfl rfl (dkw ⟨[(0, .own 2097152 0 4 ((p39.set ((IntKind.i64.wrap (a3 + p40)).toNat) y110).map eDLease)), (2, iV a2), (3, iV a3), (4, .clo f4 k4), (11, iV p96), (63, .own 2097152 0 4 ((p39.set ((IntKind.i64.wrap (a3 + p40)).toNat) y110).map eDLease)), (64, iV a3), (65, iV p96), (66, iV (IntKind.i64.wrap (a3 + p96))), (78, .agg (eDLease y114))], [], []⟩ (fg ⟨(congrArg (fun z => some ((.own 2097152 0 4 z : V))) overlay_map), rfl, rfl, rfl, rfl, (congrArg (fun z => some ((.own 2097152 0 4 z : V))) overlay_map), rfl, rfl, rfl, rfl, tv⟩ tv) ⟨[], ⟨⟨.inl tv, (again1 (cp_ t3 rfl tv) rfl)⟩, ⟨.inl tv, (again1 (cmv (v := iV p96) rfl tv) rfl)⟩, ⟨.inl tv, (again1 (cmv (v := iV a3) rfl tv) rfl)⟩, ⟨.inl tv, (again1 (cmv (v := .own 2097152 0 4 ((p39.set ((IntKind.i64.wrap (a3 + p40)).toNat) y110).map eDLease)) rfl tv) rfl)⟩, tv⟩, tv, (dtake tv (c_ (cidxO (e := eDLease) (y := y116) rfl rfl tv rfl rfl tv e117) (⟨tv, (dalt (sto_ (y' := y114) rfl rfl tv rfl rfl rfl rfl e119 (nl rfl) rfl rfl rfl rfl (dk0 ⟨[], tv, tv, (dfin (wk_ ⟨[(0, .own 2097152 0 4 (((p39.set ((IntKind.i64.wrap (a3 + p40)).toNat) y110).set ((IntKind.i64.wrap (a3 + p96)).toNat) y114).map eDLease)), (2, iV a2), (3, iV a3), (4, .clo f4 k4), (11, iV p96)], [], []⟩ (fg ⟨(congrArg (fun z => some ((.own 2097152 0 4 z : V))) overlay_map), rfl, rfl, rfl, rfl, tv⟩ tv) (reg_ (st (mv_ rfl tv (st (mv_ rfl tv (oe_ (bn_ ?_)))))))))⟩)) dstop)⟩)))⟩)) dstop)⟩)))⟩)))⟩)))⟩)))⟩)))⟩))
     obtain rfl := Option.some.inj h1
     exact hK1 _ rfl _ ⟨[(0, .own 2097152 0 4 (((p39.set ((IntKind.i64.wrap (a3 + p40)).toNat) y110).set ((IntKind.i64.wrap (a3 + p96)).toNat) y114).map eDLease)), (2, iV a2), (3, iV a3), (4, .clo f4 k4), (10, iV p96)], [], []⟩ (fg ⟨rfl, rfl, rfl, rfl, rfl, tv⟩ tv) rfl
   ·replace h1 := ip c121 h1
    refine reg_ (st (mv_ rfl tv (st (c_ (cp_ t3 rfl tv) (st (mv_ rfl tv (oe_ ?_)))))))
    exact J120 _ ⟨[(0, .own 2097152 0 4 (p39.map eDLease)), (2, iV a2), (3, iV a3), (4, .clo f4 k4), (10, iV p40), (11, iV (IntKind.i64.wrap ((IntKind.i64.wrap ((IntKind.i64.wrap (2 * p40)) + 1)) + 1)))], [], []⟩ (fg ⟨rfl, rfl, rfl, rfl, rfl, rfl, tv⟩ tv) ⟨_, rfl, h1⟩
   ·replace h1 := inb c121 h1
    refine sk_ ?_
    exact J120 _ ⟨[(0, .own 2097152 0 4 (p39.map eDLease)), (2, iV a2), (3, iV a3), (4, .clo f4 k4), (10, iV p40), (11, iV (IntKind.i64.wrap ((IntKind.i64.wrap (2 * p40)) + 1)))], [], []⟩ (fg ⟨rfl, rfl, rfl, rfl, rfl, rfl, tv⟩ tv) ⟨_, rfl, h1⟩

/- slices.heapSortCmpFunc[loop.example/g00149/impl.Lease] -/
def c149_r0 : List Ins := [(iQ 13 (.mv (.t 1))),
(iQ 8 (.mv (.t 13)))]
def c149_r1 : List Ins := [⟨some 9, .p (.mv (.c (iV 0))), none⟩]
def c149_r2 : List Ins := [(iQ 14 (.mv (.t 2))),
(iQ 15 (.mv (.t 1))),
(iQ 16 (.bin .sub (.t 14) (.t 15))),
(iQ 10 (.mv (.t 16)))]
def c149_r3 : List Ins := [(iQ 17 (.mv (.t 10))),
⟨some 18, .p (.bin .sub (.t 17) (.c (iV 1))), none⟩,
⟨some 19, .p (.bin .quo (.t 18) (.c (iV 2))), none⟩,
(iQ 11 (.mv (.t 19)))]
def c149_r4 : List Ins := [(iQ 20 (.mv (.t 11))),
⟨some 21, .p (.bin .geq (.t 20) (.c (iV 0))), none⟩]
def c149_r5 : List Ins := [(iQ 24 (.mv (.t 0))),
(iQ 25 (.mv (.t 11))),
(iQ 26 (.mv (.t 10))),
(iQ 27 (.mv (.t 8))),
(iQ 28 (.mv (.t 3))),
⟨some 29, .call 159 [(.t 24), (.t 25), (.t 26), (.t 27), (.t 28)], none⟩]
def c149_r6 : List Ins := [(iQ 22 (.mv (.t 11))),
⟨some 23, .p (.bin .sub (.t 22) (.c (iV 1))), none⟩,
(iQ 11 (.mv (.t 23)))]
def c149_l0 : IR := (.seq (.seq (.reg c149_r4) (.ite (.t 21) .skip (.exit 0))) (.seq (.block 1 (.reg c149_r5)) (.reg c149_r6)))
def c149_r7 : List Ins := [(iQ 30 (.mv (.t 10))),
⟨some 31, .p (.bin .sub (.t 30) (.c (iV 1))), none⟩,
(iQ 12 (.mv (.t 31)))]
def c149_r8 : List Ins := [(iQ 32 (.mv (.t 12))),
⟨some 33, .p (.bin .geq (.t 32) (.c (iV 0))), none⟩]
def c149_r9 : DP := (.take (iQ 36 (.mv (.t 0)))
(.take (iQ 37 (.mv (.t 8)))
(.take (iQ 38 (.mv (.t 0)))
(.take (iQ 39 (.mv (.t 8)))
(.take (iQ 40 (.mv (.t 12)))
(.take (iQ 41 (.bin .add (.t 39) (.t 40)))
(.take (iQ 42 (.mv (.t 0)))
(.take (iQ 43 (.mv (.t 8)))
(.take (iQ 44 (.mv (.t 12)))
(.take (iQ 45 (.bin .add (.t 43) (.t 44)))
(.take (iQ 46 (.idxA (.t 42) (.t 45) 4))
(.take (iQ 47 (.load (.t 46) 4 true))
(.take (iQ 48 (.mv (.t 0)))
(.take (iQ 49 (.mv (.t 8)))
(.take (iQ 50 (.idxA (.t 48) (.t 49) 4))
(.take (iQ 51 (.load (.t 50) 4 true))
(.take (iQ 52 (.idxA (.t 36) (.t 37) 4))
(.alt [(iQ 41 (.bin .add (.t 39) (.t 40))), (iQ 40 (.mv (.t 12))), (iQ 39 (.mv (.t 8))), (iQ 38 (.mv (.t 0)))] ⟨none, .store (.t 52) (.t 47) 4, none⟩
(.take (iQ 53 (.idxA (.t 38) (.t 41) 4))
(.alt [] ⟨none, .store (.t 53) (.t 51) 4, none⟩
.fin
.stop))
.stop))))))))))))))))))
def c149_r10 : List Ins := [(iQ 54 (.mv (.t 0))),
(iQ 55 (.mv (.t 9))),
(iQ 56 (.mv (.t 12))),
(iQ 57 (.mv (.t 8))),
(iQ 58 (.mv (.t 3))),
⟨some 59, .call 159 [(.t 54), (.t 55), (.t 56), (.t 57), (.t 58)], none⟩]
def c149_r11 : List Ins := [(iQ 34 (.mv (.t 12))),
⟨some 35, .p (.bin .sub (.t 34) (.c (iV 1))), none⟩,
(iQ 12 (.mv (.t 35)))]
def c149_l1 : IR := (.seq (.seq (.reg c149_r8) (.ite (.t 33) .skip (.exit 2))) (.seq (.block 3 (.seq (.draw c149_r9) (.reg c149_r10))) (.reg c149_r11)))
def c149 : XFn := { np := 4, nt := 60, res := [], body := (.seq (.reg c149_r0) (.seq (.reg c149_r1) (.seq (.reg c149_r2) (.seq (.seq (.reg c149_r3) (.block 0 (.loop c149_l0))) (.seq (.reg c149_r7) (.block 2 (.loop c149_l1))))))) }
def K149 (C : CRel) : Prop := ∀ (a0 : List DLease) (a1 : Int) (a2 : Int) (f3 : Nat) (k3 : List V) (is3 : DLease → DLease → Option Int) (hs3 : Shut k3) (hf3 : ∀ (x0 : DLease) (x1 : DLease) r, is3 x0 x1 = some r → C f3 ⟨.agg (eDLease x0) :: .agg (eDLease x1) :: k3, []⟩ ⟨iV r, [], []⟩) (r : (List DLease)), g149 a0 a1 a2 is3 = some r → C 149 ⟨[.own 2097152 0 4 (a0.map eDLease), iV a1, iV a2, .clo f3 k3], []⟩ ⟨.tup [], [], [(0, 4, r.map eDLease)]⟩
theorem F149 {C : CRel} (H159 : K159 C) (a0 : List DLease) (a1 : Int) (a2 : Int) (f3 : Nat) (k3 : List V) (is3 : DLease → DLease → Option Int) (hs3 : Shut k3) (hf3 : ∀ (x0 : DLease) (x1 : DLease) r, is3 x0 x1 = some r → C f3 ⟨.agg (eDLease x0) :: .agg (eDLease x1) :: k3, []⟩ ⟨iV r, [], []⟩) (r : (List DLease)) (h0 : g149 a0 a1 a2 is3 = some r) : FnOK C c149 ⟨[.own 2097152 0 4 (a0.map eDLease), iV a1, iV a2, .clo f3 k3], []⟩ ⟨.tup [], [], [(0, 4, r.map eDLease)]⟩ := by
 refine fn_ (nl rfl) (seq_ (reg_ (st (mv_ rfl tv (st (mv_ rfl tv (oe_ (wk_ ⟨[(0, .own 2097152 0 4 (a0.map eDLease)), (1, iV a1), (2, iV a2), (3, .clo f3 k3), (8, iV a1)], [], []⟩ (fg ⟨rfl, rfl, rfl, rfl, rfl, tv⟩ tv) (seq_ (reg_ (st (mvc_ tv (oe_ (wk_ ⟨[(0, .own 2097152 0 4 (a0.map eDLease)), (1, iV a1), (2, iV a2), (3, .clo f3 k3), (8, iV a1), (9, iV 0)], [], []⟩ (fg ⟨rfl, rfl, rfl, rfl, rfl, rfl, tv⟩ tv) (seq_ (reg_ (st (mv_ rfl tv (st (mv_ rfl tv (st (c_ (cp_ t3 rfl tv) (st (mv_ rfl tv (oe_ (wk_ ⟨[(0, .own 2097152 0 4 (a0.map eDLease)), (3, .clo f3 k3), (8, iV a1), (9, iV 0), (10, iV (IntKind.i64.wrap (a2 - a1)))], [], []⟩ (fg ⟨rfl, rfl, rfl, rfl, rfl, tv⟩ tv) (seq_ (seq_ (reg_ (st (mv_ rfl tv (st (c_ (cp_ t3 rfl tv) (st (c_ (cp_ ⟨tv, tv, tv⟩ rfl (by decide)) (st (mv_ rfl tv (oe_ ?_))))))))))))))))))))))))))))))))))))))
 obtain ⟨v1, e2, h0⟩ := bl h0
 refine wk_ ⟨[(0, .own 2097152 0 4 (a0.map eDLease)), (3, .clo f3 k3), (8, iV a1), (9, iV 0), (10, iV (IntKind.i64.wrap (a2 - a1))), (11, iV v1)], [], []⟩ (fg ⟨(by subst e2; rfl), (by subst e2; rfl), (by subst e2; rfl), (by subst e2; rfl), (by subst e2; rfl), (by subst e2; rfl), tv⟩ tv) (block_ ?_)
 obtain ⟨r20, e21, h0⟩ := bnd h0
 refine loop_ (R := (fun S => ∃ p15 : List DLease, p15 = r20 ∧ S = ⟨[(0, .own 2097152 0 4 (p15.map eDLease)), (3, .clo f3 k3), (8, iV a1), (9, iV 0), (10, iV (IntKind.i64.wrap (a2 - a1)))], [], []⟩)) (g149_l0 a1 a2 is3) (fun s S => match s with | (p7, p8) => S = ⟨[(0, .own 2097152 0 4 (p7.map eDLease)), (3, .clo f3 k3), (8, iV a1), (9, iV 0), (10, iV (IntKind.i64.wrap (a2 - a1))), (11, iV p8)], [], []⟩) e21 ⟨[(0, .own 2097152 0 4 (a0.map eDLease)), (3, .clo f3 k3), (8, iV a1), (9, iV 0), (10, iV (IntKind.i64.wrap (a2 - a1))), (11, iV v1)], [], []⟩ (fg ⟨rfl, rfl, rfl, rfl, rfl, rfl, tv⟩ tv) rfl 0 (fun _ => rfl) ?_ ?_
 ·rintro S _ hfg ⟨p15, rfl, rfl⟩
  refine wk_ ⟨[(0, .own 2097152 0 4 (p15.map eDLease)), (3, .clo f3 k3), (8, iV a1), (9, iV 0), (10, iV (IntKind.i64.wrap (a2 - a1)))], [], []⟩ (fgl hfg ⟨rfl, rfl, rfl, rfl, rfl, tv⟩ tv) (seq_ (reg_ (st (mv_ rfl tv (st (c_ (cp_ t3 rfl tv) (st (mv_ rfl tv (oe_ (wk_ ⟨[(0, .own 2097152 0 4 (p15.map eDLease)), (3, .clo f3 k3), (8, iV a1), (9, iV 0), (12, iV (IntKind.i64.wrap ((IntKind.i64.wrap (a2 - a1)) - 1)))], [], []⟩ (fg ⟨rfl, rfl, rfl, rfl, rfl, tv⟩ tv) (block_ ?_)))))))))))
  obtain ⟨r75, e76, h0⟩ := bnd h0
  refine loop_ (R := (fun S => ∃ p58 : List DLease, p58 = r75 ∧ S = ⟨[(0, .own 2097152 0 4 (p58.map eDLease))], [], []⟩)) (g149_l1 a1 is3) (fun s S => match s with | (p38, p39) => S = ⟨[(0, .own 2097152 0 4 (p38.map eDLease)), (3, .clo f3 k3), (8, iV a1), (9, iV 0), (12, iV p39)], [], []⟩) e76 ⟨[(0, .own 2097152 0 4 (p15.map eDLease)), (3, .clo f3 k3), (8, iV a1), (9, iV 0), (12, iV (IntKind.i64.wrap ((IntKind.i64.wrap (a2 - a1)) - 1)))], [], []⟩ (fg ⟨rfl, rfl, rfl, rfl, rfl, tv⟩ tv) rfl 2 (fun _ => rfl) ?_ ?_
  ·rintro S _ hfg ⟨p58, rfl, rfl⟩
   obtain rfl := Option.some.inj h0
   exact retn_ (retf_ hfg (ret_ rfl rfl rfl rfl rfl ⟨⟨rfl, mlen (fun _ => rfl)⟩, tv⟩))
  ·rintro ⟨p38, p39⟩ o1 _ K1 rfl h1 hx1 hK1 hE1 hR1
   refine seq_ (seq_ (reg_ (st (mv_ rfl tv (st (c_ (cp_ t3 rfl tv) (oe_ (wk_ ⟨[(0, .own 2097152 0 4 (p38.map eDLease)), (3, .clo f3 k3), (8, iV a1), (9, iV 0), (12, iV p39), (33, .bool (decide (p39 ≥ 0)))], [], []⟩ (fg ⟨rfl, rfl, rfl, rfl, rfl, rfl, tv⟩ tv) (ite_ (cb := (decide (p39 ≥ 0))) rfl (fun c59 => ?_) (fun c59 => ?_))))))))))
   ·replace h1 := ip c59 h1
    refine sk_ (wk_ ⟨[(0, .own 2097152 0 4 (p38.map eDLease)), (3, .clo f3 k3), (8, iV a1), (9, iV 0), (12, iV p39)], [], []⟩ (fg ⟨rfl, rfl, rfl, rfl, rfl, tv⟩ tv) (seq_ (block_ (seq_ ?_))))
    obtain ⟨y60, e61, h1⟩ := bnd h1
    obtain ⟨y62, e63, h1⟩ := bnd h1
    obtain ⟨y64, e65, h1⟩ := bnd h1
    obtain ⟨y66, e67, h1⟩ := bnd h1
    obtain ⟨y68, e69, h1⟩ := bnd h1
    obtain ⟨y70, e71, h1⟩ := bnd h1
    refine draw_ (dtake tv (mv_ rfl tv (⟨tv, (dtake tv (mv_ rfl tv (⟨tv, (dtake tv (mv_ rfl tv (⟨tv, (dtake tv (mv_ rfl tv (⟨tv, (dtake tv (mv_ rfl tv (⟨tv, (dtake tv (c_ (cp_ t3 rfl tv) (⟨tv, (dtake tv (mv_ rfl tv (⟨tv, (dtake tv (mv_ rfl tv (⟨tv, (dtake tv (mv_ rfl tv (⟨tv, (dtake tv (c_ (cp_ t3 rfl tv) (⟨tv, (dtake tv (c_ (cidxO (e := eDLease) (y := y60) rfl rfl tv rfl rfl tv e61) (⟨tv, (dtakeO (c_ (v := .agg (eDLease y62)) (cloadO (e := eDLease) (y := y62) (v := .agg (eDLease y62)) rfl rfl tv rfl rfl e63 rfl (nl rfl) rfl) (⟨⟨(again1 (cloadO (e := eDLease) (y := y62) (v := .agg (eDLease y62)) rfl rfl tv rfl rfl e63 rfl (nl rfl) rfl) rfl), tv⟩, (dtake tv (mv_ rfl tv (⟨⟨(again1 (cloadO (e := eDLease) (y := y62) (v := .agg (eDLease y62)) rfl rfl tv rfl rfl e63 rfl (nl rfl) rfl) rfl), tv⟩, (dtake tv (mv_ rfl tv (⟨⟨(again1 (cloadO (e := eDLease) (y := y62) (v := .agg (eDLease y62)) rfl rfl tv rfl rfl e63 rfl (nl rfl) rfl) rfl), tv⟩, (dtake tv (c_ (cidxO (e := eDLease) (y := y64) rfl rfl tv rfl rfl tv e65) (⟨⟨(again1 (cloadO (e := eDLease) (y := y62) (v := .agg (eDLease y62)) rfl rfl tv rfl rfl e63 rfl (nl rfl) rfl) rfl), tv⟩, ?_⟩)))⟩)))⟩)))⟩)))⟩)))⟩)))⟩)))⟩)))⟩)))⟩)))⟩)))⟩)))⟩)))⟩)))⟩)))
    refine dtakeO (c_ (v := .agg (eDLease y66)) (cloadO (e := eDLease) (y := y66) (v := .agg (eDLease y66)) rfl rfl tv rfl rfl e67 rfl (nl rfl) rfl) (⟨⟨(again1 (cloadO (e := eDLease) (y := y66) (v := .agg (eDLease y66)) rfl rfl tv rfl rfl e67 rfl (nl rfl) rfl) rfl), (again1 (cloadO (e := eDLease) (y := y62) (v := .agg (eDLease y62)) rfl rfl tv rfl rfl e63 rfl (nl rfl) rfl) rfl), tv⟩, (dtake tv (c_ (cidxO (e := eDLease) (y := y64) rfl rfl tv rfl rfl tv e65) (⟨⟨(again1 (cloadO (e := eDLease) (y := y66) (v := .agg (eDLease y66)) rfl rfl tv rfl rfl e67 rfl (nl rfl) rfl) rfl), (again1 (cloadO (e := eDLease) (y := y62) (v := .agg (eDLease y62)) rfl rfl tv rfl rfl e63 rfl (nl rfl) rfl) rfl), tv⟩, (dalt (sto_ (y' := y62) rfl rfl tv rfl rfl rfl rfl e67 (nl rfl) rfl rfl rfl rfl (dkw ⟨[(0, .own 2097152 0 4 ((p38.set a1.toNat y62).map eDLease)), (3, .clo f3 k3), (8, iV a1), (9, iV 0), (12, iV p39), (38, .own 2097152 0 4 ((p38.set a1.toNat y62).map eDLease)), (39, iV a1), (40, iV p39), (41, iV (IntKind.i64.wrap (a1 + p39))), (51, .agg (eDLease y66))], [], []⟩ (fg ⟨(congrArg (fun z => some ((.own 2097152 0 4 z : V))) overlay_map), rfl, rfl, rfl, rfl, (congrArg (fun z => some ((.own 2097152 0 4 z : V))) overlay_map), rfl, rfl, rfl, rfl, tv⟩ tv) ⟨[], ⟨⟨.inl tv, (again1 (cp_ t3 rfl tv) rfl)⟩, ⟨.inl tv, (again1 (cmv (v := iV p39) rfl tv) rfl)⟩, ⟨.inl tv, (again1 (cmv (v := iV a1) rfl tv) rfl)⟩, ⟨.inl tv, (again1 (cmv (v := .own 2097152 0 4 ((p38.set a1.toNat y62).map eDLease)) rfl tv) rfl)⟩, tv⟩, tv, (dtake tv (c_ (cidxO (e := eDLease) (y := y68) rfl rfl tv rfl rfl tv e69) (⟨tv, (dalt (sto_ (y' := y66) rfl rfl tv rfl rfl rfl rfl e71 (nl rfl) rfl rfl rfl rfl (dk0 ⟨[], tv, tv, (dfin (wk_ ⟨[(0, .own 2097152 0 4 (((p38.set a1.toNat y62).set ((IntKind.i64.wrap (a1 + p39)).toNat) y66).map eDLease)), (3, .clo f3 k3), (8, iV a1), (9, iV 0), (12, iV p39)], [], []⟩ (fg ⟨(congrArg (fun z => some ((.own 2097152 0 4 z : V))) overlay_map), rfl, rfl, rfl, rfl, tv⟩ tv) (reg_ (st (mv_ rfl tv (st (mv_ rfl tv (st (mv_ rfl tv (st (mv_ rfl tv (st (mv_ rfl tv ?_)))))))))))))⟩)) dstop)⟩)))⟩)) dstop)⟩)))⟩))
    obtain ⟨r72, e73, h1⟩ := bnd h1
    obtain ⟨c74, h1⟩ := grd h1
    refine st (call1_ [] [2097152] [] false (H159 ((p38.set a1.toNat y62).set ((IntKind.i64.wrap (a1 + p39)).toNat) y66) 0 p39 a1 f3 k3 is3 hs3 hf3 r72 e73) ⟨tv, tv, tv, tv, tv, tv⟩ (by kernel_rfl) (congrArg (fun z => Give.mk z []) (mapc1 rfl (mapc1 rfl (mapc1 rfl (mapc1 rfl (mapc1 (clo_sh hs3) rfl)))))) (by kernel_rfl) (by kernel_rfl) (fun _ => and_ rfl (and_ (fl2 (fun _ => rfl)) rfl)) (oe_ (bn_ (wk_ ⟨[(0, .own 2097152 0 4 (r72.map eDLease)), (3, .clo f3 k3), (8, iV a1), (9, iV 0), (12, iV p39)], [], []⟩ (fg ⟨(congrArg (fun z => some ((z : V))) (row_eq c74)), rfl, rfl, rfl, rfl, tv⟩ tv) (reg_ (st (mv_ rfl tv (st (c_ (cp_ t3 rfl tv) (st (mv_ rfl tv (oe_ ?_))))))))))))
    obtain rfl := Option.some.inj h1
    exact hK1 _ rfl _ ⟨[(0, .own 2097152 0 4 (r72.map eDLease)), (3, .clo f3 k3), (8, iV a1), (9, iV 0), (12, iV (IntKind.i64.wrap (p39 - 1)))], [], []⟩ (fg ⟨rfl, rfl, rfl, rfl, rfl, tv⟩ tv) rfl
   ·replace h1 := inb c59 h1
    obtain rfl := Option.some.inj h1
    obtain rfl := hx1 _ rfl
    refine exQ rfl ?_
    exact hE1 _ ⟨[(0, .own 2097152 0 4 (p38.map eDLease))], [], []⟩ (fgk (by kernel_rfl)) ⟨_, rfl, rfl⟩
 ·rintro ⟨p7, p8⟩ o1 _ K1 rfl h1 hx1 hK1 hE1 hR1
  refine seq_ (seq_ (reg_ (st (mv_ rfl tv (st (c_ (cp_ t3 rfl tv) (oe_ (wk_ ⟨[(0, .own 2097152 0 4 (p7.map eDLease)), (3, .clo f3 k3), (8, iV a1), (9, iV 0), (10, iV (IntKind.i64.wrap (a2 - a1))), (11, iV p8), (21, .bool (decide (p8 ≥ 0)))], [], []⟩ (fg ⟨rfl, rfl, rfl, rfl, rfl, rfl, rfl, tv⟩ tv) (ite_ (cb := (decide (p8 ≥ 0))) rfl (fun c16 => ?_) (fun c16 => ?_))))))))))
  ·replace h1 := ip c16 h1
   refine sk_ (wk_ ⟨[(0, .own 2097152 0 4 (p7.map eDLease)), (3, .clo f3 k3), (8, iV a1), (9, iV 0), (10, iV (IntKind.i64.wrap (a2 - a1))), (11, iV p8)], [], []⟩ (fg ⟨rfl, rfl, rfl, rfl, rfl, rfl, tv⟩ tv) (seq_ (block_ (reg_ (st (mv_ rfl tv (st (mv_ rfl tv (st (mv_ rfl tv (st (mv_ rfl tv (st (mv_ rfl tv ?_))))))))))))))
   obtain ⟨r17, e18, h1⟩ := bnd h1
   obtain ⟨c19, h1⟩ := grd h1
   refine st (call1_ [] [2097152] [] false (H159 p7 p8 (IntKind.i64.wrap (a2 - a1)) a1 f3 k3 is3 hs3 hf3 r17 e18) ⟨tv, tv, tv, tv, tv, tv⟩ (by kernel_rfl) (congrArg (fun z => Give.mk z []) (mapc1 rfl (mapc1 rfl (mapc1 rfl (mapc1 rfl (mapc1 (clo_sh hs3) rfl)))))) (by kernel_rfl) (by kernel_rfl) (fun _ => and_ rfl (and_ (fl2 (fun _ => rfl)) rfl)) (oe_ (bn_ (wk_ ⟨[(0, .own 2097152 0 4 (r17.map eDLease)), (3, .clo f3 k3), (8, iV a1), (9, iV 0), (10, iV (IntKind.i64.wrap (a2 - a1))), (11, iV p8)], [], []⟩ (fg ⟨(congrArg (fun z => some ((z : V))) (row_eq c19)), rfl, rfl, rfl, rfl, rfl, tv⟩ tv) (reg_ (st (mv_ rfl tv (st (c_ (cp_ t3 rfl tv) (st (mv_ rfl tv (oe_ ?_))))))))))))
   obtain rfl := Option.some.inj h1
   exact hK1 _ rfl _ ⟨[(0, .own 2097152 0 4 (r17.map eDLease)), (3, .clo f3 k3), (8, iV a1), (9, iV 0), (10, iV (IntKind.i64.wrap (a2 - a1))), (11, iV (IntKind.i64.wrap (p8 - 1)))], [], []⟩ (fg ⟨rfl, rfl, rfl, rfl, rfl, rfl, tv⟩ tv) rfl
  ·replace h1 := inb c16 h1
   obtain rfl := Option.some.inj h1
   obtain rfl := hx1 _ rfl
   refine exQ rfl ?_
   exact hE1 _ ⟨[(0, .own 2097152 0 4 (p7.map eDLease)), (3, .clo f3 k3), (8, iV a1), (9, iV 0), (10, iV (IntKind.i64.wrap (a2 - a1)))], [], []⟩ (fg ⟨rfl, rfl, rfl, rfl, rfl, tv⟩ tv) ⟨_, rfl, rfl⟩

/- math/bits.Len32 -/
def c156_r0 : List Ins := [⟨some 2, .p (.mv (.c (iV 0))), none⟩]
def c156_r1 : List Ins := [(iQ 3 (.mv (.t 0))),
⟨some 4, .p (.bin .geq (.t 3) (.c (.int .u32 65536))), none⟩]
def c156_r2 : List Ins := [(iQ 5 (.mv (.t 0))),
⟨some 6, .p (.bin .shr (.t 5) (.c (.int .u64 16))), none⟩,
(iQ 0 (.mv (.t 6)))]
def c156_r3 : List Ins := [⟨some 2, .p (.mv (.c (iV 16))), none⟩]
def c156_r4 : List Ins := [(iQ 7 (.mv (.t 0))),
⟨some 8, .p (.bin .geq (.t 7) (.c (.int .u32 256))), none⟩]
def c156_r5 : List Ins := [(iQ 9 (.mv (.t 0))),
⟨some 10, .p (.bin .shr (.t 9) (.c (.int .u64 8))), none⟩,
(iQ 0 (.mv (.t 10)))]
def c156_r6 : List Ins := [(iQ 11 (.mv (.t 2))),
⟨some 12, .p (.bin .add (.t 11) (.c (iV 8))), none⟩,
(iQ 2 (.mv (.t 12)))]
def c156_r7 : List Ins := [(iQ 13 (.mv (.t 2))),
(iQ 14 (.mv (.t 0))),
(iQ 15 (.conv .u8 (.t 14))),
⟨some 16, .p (.idxStr (.c (.str [0, 1, 2, 2, 3, 3, 3, 3, 4, 4, 4, 4, 4, 4, 4, 4, 5, 5, 5, 5, 5, 5, 5, 5, 5, 5, 5, 5, 5, 5, 5, 5, 6, 6, 6, 6, 6, 6, 6, 6, 6, 6, 6, 6, 6, 6, 6, 6, 6, 6, 6, 6, 6, 6, 6, 6, 6, 6, 6, 6, 6, 6, 6, 6, 7, 7, 7, 7, 7, 7, 7, 7, 7, 7, 7, 7, 7, 7, 7, 7, 7, 7, 7, 7, 7, 7, 7, 7, 7, 7, 7, 7, 7, 7, 7, 7, 7, 7, 7, 7, 7, 7, 7, 7, 7, 7, 7, 7, 7, 7, 7, 7, 7, 7, 7, 7, 7, 7, 7, 7, 7, 7, 7, 7, 7, 7, 7, 7, 8, 8, 8, 8, 8, 8, 8, 8, 8, 8, 8, 8, 8, 8, 8, 8, 8, 8, 8, 8, 8, 8, 8, 8, 8, 8, 8, 8, 8, 8, 8, 8, 8, 8, 8, 8, 8, 8, 8, 8, 8, 8, 8, 8, 8, 8, 8, 8, 8, 8, 8, 8, 8, 8, 8, 8, 8, 8, 8, 8, 8, 8, 8, 8, 8, 8, 8, 8, 8, 8, 8, 8, 8, 8, 8, 8, 8, 8, 8, 8, 8, 8, 8, 8, 8, 8, 8, 8, 8, 8, 8, 8, 8, 8, 8, 8, 8, 8, 8, 8, 8, 8, 8, 8, 8, 8, 8, 8, 8, 8, 8, 8, 8, 8, 8, 8, 8, 8, 8, 8, 8, 8, 8, 8, 8, 8, 8, 8])) (.t 15)), none⟩,
(iQ 17 (.conv .i64 (.t 16))),
(iQ 18 (.bin .add (.t 13) (.t 17))),
(iQ 2 (.mv (.t 18)))]
def c156 : XFn := { np := 1, nt := 19, res := [.t 2], body := (.seq (.reg c156_r0) (.seq (.seq (.reg c156_r1) (.ite (.t 4) (.seq (.reg c156_r2) (.reg c156_r3)) .skip)) (.seq (.seq (.reg c156_r4) (.ite (.t 8) (.seq (.reg c156_r5) (.reg c156_r6)) .skip)) (.seq (.reg c156_r7) .ret)))) }
def K156 (C : CRel) : Prop := ∀ (a0 : Int) (r : Int), g156 a0 = some r → C 156 ⟨[.int .u32 a0], []⟩ ⟨iV r, [], []⟩
theorem F156 {C : CRel}  (a0 : Int) (r : Int) (h0 : g156 a0 = some r) : FnOK C c156 ⟨[.int .u32 a0], []⟩ ⟨iV r, [], []⟩ := by
 refine fn_ (nl rfl) (seq_ (reg_ (st (mvc_ tv (oe_ (wk_ ⟨[(0, .int .u32 a0), (2, iV 0)], [], []⟩ (fgk (by kernel_rfl)) (seq_ (seq_ (reg_ (st (mv_ rfl tv (st (c_ (cp_ t3 rfl tv) (oe_ (wk_ ⟨[(0, .int .u32 a0), (2, iV 0), (4, .bool (decide (a0 ≥ 65536)))], [], []⟩ (fgk (by kernel_rfl)) (iteJ (cb := (decide (a0 ≥ 65536))) (fun S => ∃ p2 : Int, ∃ p3 : Int, S = ⟨[(0, .int .u32 p2), (2, iV p3)], [], []⟩ ∧ g156_j0 p2 p3 = some r) rfl ?_ (fun c12 J11 => ?_) (fun c12 J11 => ?_)))))))))))))))))
 ·rintro _ ⟨p2, p3, rfl, h0⟩
  refine wk_ ⟨[(0, .int .u32 p2), (2, iV p3)], [], []⟩ (fgk (by kernel_rfl)) (seq_ (seq_ (reg_ (st (mv_ rfl tv (st (c_ (cp_ t3 rfl tv) (oe_ (wk_ ⟨[(0, .int .u32 p2), (2, iV p3), (8, .bool (decide (p2 ≥ 256)))], [], []⟩ (fgk (by kernel_rfl)) (iteJ (cb := (decide (p2 ≥ 256))) (fun S => ∃ p5 : Int, ∃ p6 : Int, S = ⟨[(0, .int .u32 p5), (2, iV p6)], [], []⟩ ∧ g156_j1 p5 p6 = some r) rfl ?_ (fun c10 J9 => ?_) (fun c10 J9 => ?_)))))))))))
  ·rintro _ ⟨p5, p6, rfl, h0⟩
   refine wk_ ⟨[(0, .int .u32 p5), (2, iV p6)], [], []⟩ (fgk (by kernel_rfl)) (seq_ (reg_ (st (mv_ rfl tv (st (mv_ rfl tv (st (c_ (cb8 (cp_ ⟨tv, tv⟩ rfl tv)) ?_))))))))
   obtain ⟨y7, e8, h0⟩ := bnd h0
   refine st (c_ (cidxS (y := y7) rfl rfl tv rfl rfl tv e8) (st (c_ (cp_ ⟨tv, tv⟩ rfl tv) (st (c_ (cp_ t3 rfl tv) (st (mv_ rfl tv (oe_ (wk_ ⟨[(2, iV (IntKind.i64.wrap (p6 + (IntKind.i64.wrap ((y7).toNat : Int)))))], [], []⟩ (fgk (by kernel_rfl)) ?_)))))))))
   obtain rfl := Option.some.inj h0
   exact rt_ (ret_ rfl rfl rfl rfl rfl tv)
  ·replace h0 := ip c10 h0
   refine seq_ (reg_ (st (mv_ rfl tv (st (c_ (cp_ ⟨tv, tv, tv⟩ rfl (by decide)) (st (mv_ rfl tv (oe_ (wk_ ⟨[(0, .int .u32 (ishr .u32 p2 8)), (2, iV p3)], [], []⟩ (fgk (by kernel_rfl)) (reg_ (st (mv_ rfl tv (st (c_ (cp_ t3 rfl tv) (st (mv_ rfl tv (oe_ ?_)))))))))))))))))
   exact J9 _ ⟨[(0, .int .u32 (ishr .u32 p2 8)), (2, iV (IntKind.i64.wrap (p3 + 8)))], [], []⟩ (fgk (by kernel_rfl)) ⟨_, _, rfl, h0⟩
  ·replace h0 := inb c10 h0
   refine sk_ ?_
   exact J9 _ ⟨[(0, .int .u32 p2), (2, iV p3)], [], []⟩ (fgk (by kernel_rfl)) ⟨_, _, rfl, h0⟩
 ·replace h0 := ip c12 h0
  refine seq_ (reg_ (st (mv_ rfl tv (st (c_ (cp_ ⟨tv, tv, tv⟩ rfl (by decide)) (st (mv_ rfl tv (oe_ (wk_ ⟨[(0, .int .u32 (ishr .u32 a0 16))], [], []⟩ (fgk (by kernel_rfl)) (reg_ (st (mvc_ tv (oe_ ?_)))))))))))))
  exact J11 _ ⟨[(0, .int .u32 (ishr .u32 a0 16)), (2, iV 16)], [], []⟩ (fgk (by kernel_rfl)) ⟨_, _, rfl, h0⟩
 ·replace h0 := inb c12 h0
  refine sk_ ?_
  exact J11 _ ⟨[(0, .int .u32 a0), (2, iV 0)], [], []⟩ (fgk (by kernel_rfl)) ⟨_, _, rfl, h0⟩

/- math/bits.Len64 -/
def c157_r0 : List Ins := [⟨some 2, .p (.mv (.c (iV 0))), none⟩]
def c157_r1 : List Ins := [(iQ 3 (.mv (.t 0))),
⟨some 4, .p (.bin .geq (.t 3) (.c (.int .u64 4294967296))), none⟩]
def c157_r2 : List Ins := [(iQ 5 (.mv (.t 0))),
⟨some 6, .p (.bin .shr (.t 5) (.c (.int .u64 32))), none⟩,
(iQ 0 (.mv (.t 6)))]
def c157_r3 : List Ins := [⟨some 2, .p (.mv (.c (iV 32))), none⟩]
def c157_r4 : List Ins := [(iQ 7 (.mv (.t 0))),
⟨some 8, .p (.bin .geq (.t 7) (.c (.int .u64 65536))), none⟩]
def c157_r5 : List Ins := [(iQ 9 (.mv (.t 0))),
⟨some 10, .p (.bin .shr (.t 9) (.c (.int .u64 16))), none⟩,
(iQ 0 (.mv (.t 10)))]
def c157_r6 : List Ins := [(iQ 11 (.mv (.t 2))),
⟨some 12, .p (.bin .add (.t 11) (.c (iV 16))), none⟩,
(iQ 2 (.mv (.t 12)))]
def c157_r7 : List Ins := [(iQ 13 (.mv (.t 0))),
⟨some 14, .p (.bin .geq (.t 13) (.c (.int .u64 256))), none⟩]
def c157_r8 : List Ins := [(iQ 15 (.mv (.t 0))),
⟨some 16, .p (.bin .shr (.t 15) (.c (.int .u64 8))), none⟩,
(iQ 0 (.mv (.t 16)))]
def c157_r9 : List Ins := [(iQ 17 (.mv (.t 2))),
⟨some 18, .p (.bin .add (.t 17) (.c (iV 8))), none⟩,
(iQ 2 (.mv (.t 18)))]
def c157_r10 : List Ins := [(iQ 19 (.mv (.t 2))),
(iQ 20 (.mv (.t 0))),
(iQ 21 (.conv .u8 (.t 20))),
⟨some 22, .p (.idxStr (.c (.str [0, 1, 2, 2, 3, 3, 3, 3, 4, 4, 4, 4, 4, 4, 4, 4, 5, 5, 5, 5, 5, 5, 5, 5, 5, 5, 5, 5, 5, 5, 5, 5, 6, 6, 6, 6, 6, 6, 6, 6, 6, 6, 6, 6, 6, 6, 6, 6, 6, 6, 6, 6, 6, 6, 6, 6, 6, 6, 6, 6, 6, 6, 6, 6, 7, 7, 7, 7, 7, 7, 7, 7, 7, 7, 7, 7, 7, 7, 7, 7, 7, 7, 7, 7, 7, 7, 7, 7, 7, 7, 7, 7, 7, 7, 7, 7, 7, 7, 7, 7, 7, 7, 7, 7, 7, 7, 7, 7, 7, 7, 7, 7, 7, 7, 7, 7, 7, 7, 7, 7, 7, 7, 7, 7, 7, 7, 7, 7, 8, 8, 8, 8, 8, 8, 8, 8, 8, 8, 8, 8, 8, 8, 8, 8, 8, 8, 8, 8, 8, 8, 8, 8, 8, 8, 8, 8, 8, 8, 8, 8, 8, 8, 8, 8, 8, 8, 8, 8, 8, 8, 8, 8, 8, 8, 8, 8, 8, 8, 8, 8, 8, 8, 8, 8, 8, 8, 8, 8, 8, 8, 8, 8, 8, 8, 8, 8, 8, 8, 8, 8, 8, 8, 8, 8, 8, 8, 8, 8, 8, 8, 8, 8, 8, 8, 8, 8, 8, 8, 8, 8, 8, 8, 8, 8, 8, 8, 8, 8, 8, 8, 8, 8, 8, 8, 8, 8, 8, 8, 8, 8, 8, 8, 8, 8, 8, 8, 8, 8, 8, 8, 8, 8, 8, 8, 8, 8])) (.t 21)), none⟩,
(iQ 23 (.conv .i64 (.t 22))),
(iQ 24 (.bin .add (.t 19) (.t 23))),
(iQ 2 (.mv (.t 24)))]
def c157 : XFn := { np := 1, nt := 25, res := [.t 2], body := (.seq (.reg c157_r0) (.seq (.seq (.reg c157_r1) (.ite (.t 4) (.seq (.reg c157_r2) (.reg c157_r3)) .skip)) (.seq (.seq (.reg c157_r4) (.ite (.t 8) (.seq (.reg c157_r5) (.reg c157_r6)) .skip)) (.seq (.seq (.reg c157_r7) (.ite (.t 14) (.seq (.reg c157_r8) (.reg c157_r9)) .skip)) (.seq (.reg c157_r10) .ret))))) }
def K157 (C : CRel) : Prop := ∀ (a0 : Int) (r : Int), g157 a0 = some r → C 157 ⟨[.int .u64 a0], []⟩ ⟨iV r, [], []⟩
theorem F157 {C : CRel}  (a0 : Int) (r : Int) (h0 : g157 a0 = some r) : FnOK C c157 ⟨[.int .u64 a0], []⟩ ⟨iV r, [], []⟩ := by
 refine fn_ (nl rfl) (seq_ (reg_ (st (mvc_ tv (oe_ (wk_ ⟨[(0, .int .u64 a0), (2, iV 0)], [], []⟩ (fgk (by kernel_rfl)) (seq_ (seq_ (reg_ (st (mv_ rfl tv (st (c_ (cp_ t3 rfl tv) (oe_ (wk_ ⟨[(0, .int .u64 a0), (2, iV 0), (4, .bool (decide (a0 ≥ 4294967296)))], [], []⟩ (fgk (by kernel_rfl)) (iteJ (cb := (decide (a0 ≥ 4294967296))) (fun S => ∃ p2 : Int, ∃ p3 : Int, S = ⟨[(0, .int .u64 p2), (2, iV p3)], [], []⟩ ∧ g157_j0 p2 p3 = some r) rfl ?_ (fun c17 J16 => ?_) (fun c17 J16 => ?_)))))))))))))))))
 ·rintro _ ⟨p2, p3, rfl, h0⟩
  refine wk_ ⟨[(0, .int .u64 p2), (2, iV p3)], [], []⟩ (fgk (by kernel_rfl)) (seq_ (seq_ (reg_ (st (mv_ rfl tv (st (c_ (cp_ t3 rfl tv) (oe_ (wk_ ⟨[(0, .int .u64 p2), (2, iV p3), (8, .bool (decide (p2 ≥ 65536)))], [], []⟩ (fgk (by kernel_rfl)) (iteJ (cb := (decide (p2 ≥ 65536))) (fun S => ∃ p5 : Int, ∃ p6 : Int, S = ⟨[(0, .int .u64 p5), (2, iV p6)], [], []⟩ ∧ g157_j1 p5 p6 = some r) rfl ?_ (fun c15 J14 => ?_) (fun c15 J14 => ?_)))))))))))
  ·rintro _ ⟨p5, p6, rfl, h0⟩
   refine wk_ ⟨[(0, .int .u64 p5), (2, iV p6)], [], []⟩ (fgk (by kernel_rfl)) (seq_ (seq_ (reg_ (st (mv_ rfl tv (st (c_ (cp_ t3 rfl tv) (oe_ (wk_ ⟨[(0, .int .u64 p5), (2, iV p6), (14, .bool (decide (p5 ≥ 256)))], [], []⟩ (fgk (by kernel_rfl)) (iteJ (cb := (decide (p5 ≥ 256))) (fun S => ∃ p8 : Int, ∃ p9 : Int, S = ⟨[(0, .int .u64 p8), (2, iV p9)], [], []⟩ ∧ g157_j2 p8 p9 = some r) rfl ?_ (fun c13 J12 => ?_) (fun c13 J12 => ?_)))))))))))
   ·rintro _ ⟨p8, p9, rfl, h0⟩
    refine wk_ ⟨[(0, .int .u64 p8), (2, iV p9)], [], []⟩ (fgk (by kernel_rfl)) (seq_ (reg_ (st (mv_ rfl tv (st (mv_ rfl tv (st (c_ (cb8 (cp_ ⟨tv, tv⟩ rfl tv)) ?_))))))))
    obtain ⟨y10, e11, h0⟩ := bnd h0
    refine st (c_ (cidxS (y := y10) rfl rfl tv rfl rfl tv e11) (st (c_ (cp_ ⟨tv, tv⟩ rfl tv) (st (c_ (cp_ t3 rfl tv) (st (mv_ rfl tv (oe_ (wk_ ⟨[(2, iV (IntKind.i64.wrap (p9 + (IntKind.i64.wrap ((y10).toNat : Int)))))], [], []⟩ (fgk (by kernel_rfl)) ?_)))))))))
    obtain rfl := Option.some.inj h0
    exact rt_ (ret_ rfl rfl rfl rfl rfl tv)
   ·replace h0 := ip c13 h0
    refine seq_ (reg_ (st (mv_ rfl tv (st (c_ (cp_ ⟨tv, tv, tv⟩ rfl (by decide)) (st (mv_ rfl tv (oe_ (wk_ ⟨[(0, .int .u64 (ishr .u64 p5 8)), (2, iV p6)], [], []⟩ (fgk (by kernel_rfl)) (reg_ (st (mv_ rfl tv (st (c_ (cp_ t3 rfl tv) (st (mv_ rfl tv (oe_ ?_)))))))))))))))))
    exact J12 _ ⟨[(0, .int .u64 (ishr .u64 p5 8)), (2, iV (IntKind.i64.wrap (p6 + 8)))], [], []⟩ (fgk (by kernel_rfl)) ⟨_, _, rfl, h0⟩
   ·replace h0 := inb c13 h0
    refine sk_ ?_
    exact J12 _ ⟨[(0, .int .u64 p5), (2, iV p6)], [], []⟩ (fgk (by kernel_rfl)) ⟨_, _, rfl, h0⟩
  ·replace h0 := ip c15 h0
   refine seq_ (reg_ (st (mv_ rfl tv (st (c_ (cp_ ⟨tv, tv, tv⟩ rfl (by decide)) (st (mv_ rfl tv (oe_ (wk_ ⟨[(0, .int .u64 (ishr .u64 p2 16)), (2, iV p3)], [], []⟩ (fgk (by kernel_rfl)) (reg_ (st (mv_ rfl tv (st (c_ (cp_ t3 rfl tv) (st (mv_ rfl tv (oe_ ?_)))))))))))))))))
   exact J14 _ ⟨[(0, .int .u64 (ishr .u64 p2 16)), (2, iV (IntKind.i64.wrap (p3 + 16)))], [], []⟩ (fgk (by kernel_rfl)) ⟨_, _, rfl, h0⟩
  ·replace h0 := inb c15 h0
   refine sk_ ?_
   exact J14 _ ⟨[(0, .int .u64 p2), (2, iV p3)], [], []⟩ (fgk (by kernel_rfl)) ⟨_, _, rfl, h0⟩
 ·replace h0 := ip c17 h0
  refine seq_ (reg_ (st (mv_ rfl tv (st (c_ (cp_ ⟨tv, tv, tv⟩ rfl (by decide)) (st (mv_ rfl tv (oe_ (wk_ ⟨[(0, .int .u64 (ishr .u64 a0 32))], [], []⟩ (fgk (by kernel_rfl)) (reg_ (st (mvc_ tv (oe_ ?_)))))))))))))
  exact J16 _ ⟨[(0, .int .u64 (ishr .u64 a0 32)), (2, iV 32)], [], []⟩ (fgk (by kernel_rfl)) ⟨_, _, rfl, h0⟩
 ·replace h0 := inb c17 h0
  refine sk_ ?_
  exact J16 _ ⟨[(0, .int .u64 a0), (2, iV 0)], [], []⟩ (fgk (by kernel_rfl)) ⟨_, _, rfl, h0⟩

/- math/bits.Len -/
def c138_r0 : List Ins := [⟨some 2, .p (.mv (.c (iV 0))), none⟩]
def c138_r1 : List Ins := [(iQ 3 (.mv (.t 0))),
(iQ 4 (.conv .u32 (.t 3))),
⟨some 5, .call 156 [(.t 4)], none⟩,
(iQ 2 (.mv (.t 5)))]
def c138_r2 : List Ins := [(iQ 6 (.mv (.t 0))),
⟨some 7, .call 157 [(.t 6)], none⟩,
(iQ 2 (.mv (.t 7)))]
def c138 : XFn := { np := 1, nt := 8, res := [.t 2], body := (.seq (.reg c138_r0) (.seq (.ite (.c (.bool false)) (.seq (.reg c138_r1) .ret) .skip) (.seq (.reg c138_r2) .ret))) }
def K138 (C : CRel) : Prop := ∀ (a0 : Int) (r : Int), g138 a0 = some r → C 138 ⟨[.int .u64 a0], []⟩ ⟨iV r, [], []⟩
theorem F138 {C : CRel} (H156 : K156 C) (H157 : K157 C) (a0 : Int) (r : Int) (h0 : g138 a0 = some r) : FnOK C c138 ⟨[.int .u64 a0], []⟩ ⟨iV r, [], []⟩ := by
 refine fn_ (nl rfl) (seq_ (reg_ (st (mvc_ tv (oe_ (wk_ ⟨[(0, .int .u64 a0)], [], []⟩ (fgk (by kernel_rfl)) (seq_ (ite_ (cb := false) rfl (fun c1 => ?_) (fun c1 => ?_)))))))))
 ·replace h0 := ip c1 h0
  refine seq_ (reg_ (st (mv_ rfl tv (st (c_ (cp_ ⟨tv, tv⟩ rfl tv) ?_)))))
  obtain ⟨r2, e3, h0⟩ := bnd h0
  refine st (call0_ (r := iV r2) false (H156 (IntKind.u32.wrap a0) r2 e3) ⟨tv, tv⟩ rfl rfl (fun _ => rfl) (st (mv_ rfl tv (oe_ (wk_ ⟨[(2, iV r2)], [], []⟩ (fgk (by kernel_rfl)) ?_)))))
  obtain rfl := Option.some.inj h0
  exact rt_ (ret_ rfl rfl rfl rfl rfl tv)
 ·replace h0 := inb c1 h0
  refine sk_ (wk_ ⟨[(0, .int .u64 a0)], [], []⟩ (fgk (by kernel_rfl)) (seq_ (reg_ (st (mv_ rfl tv ?_)))))
  obtain ⟨r4, e5, h0⟩ := bnd h0
  refine st (call0_ (r := iV r4) false (H157 a0 r4 e5) ⟨tv, tv⟩ rfl rfl (fun _ => rfl) (st (mv_ rfl tv (oe_ (wk_ ⟨[(2, iV r4)], [], []⟩ (fgk (by kernel_rfl)) ?_)))))
  obtain rfl := Option.some.inj h0
  exact rt_ (ret_ rfl rfl rfl rfl rfl tv)

/- slices.nextPowerOfTwo -/
def c160_r0 : List Ins := [⟨some 2, .p (.mv (.c (.int .u64 0))), none⟩]
def c160_r1 : List Ins := [(iQ 3 (.mv (.t 0))),
(iQ 4 (.conv .u64 (.t 3))),
⟨some 5, .call 138 [(.t 4)], none⟩,
⟨some 6, .p (.bin .shl (.c (.int .u64 1)) (.t 5)), none⟩,
(iQ 2 (.mv (.t 6)))]
def c160 : XFn := { np := 1, nt := 7, res := [.t 2], body := (.seq (.reg c160_r0) (.seq (.reg c160_r1) .ret)) }
def K160 (C : CRel) : Prop := ∀ (a0 : Int) (r : Int), g160 a0 = some r → C 160 ⟨[iV a0], []⟩ ⟨.int .u64 r, [], []⟩
theorem F160 {C : CRel} (H138 : K138 C) (a0 : Int) (r : Int) (h0 : g160 a0 = some r) : FnOK C c160 ⟨[iV a0], []⟩ ⟨.int .u64 r, [], []⟩ := by
 refine fn_ (nl rfl) (seq_ (reg_ (st (mvc_ tv (oe_ (wk_ ⟨[(0, iV a0)], [], []⟩ (fgk (by kernel_rfl)) (seq_ (reg_ (st (mv_ rfl tv (st (c_ (cp_ ⟨tv, tv⟩ rfl tv) ?_))))))))))))
 obtain ⟨r1, e2, h0⟩ := bnd h0
 refine st (call0_ (r := iV r1) false (H138 (IntKind.u64.wrap a0) r1 e2) ⟨tv, tv⟩ rfl rfl (fun _ => rfl) ?_)
 obtain ⟨c3, h0⟩ := grd h0
 refine st (c_ (cp_ ⟨tv, tv, tv⟩ rfl c3) (st (mv_ rfl tv (oe_ (wk_ ⟨[(2, .int .u64 (ishl .u64 1 r1))], [], []⟩ (fgk (by kernel_rfl)) ?_)))))
 obtain rfl := Option.some.inj h0
 exact rt_ (ret_ rfl rfl rfl rfl rfl tv)

/- (*slices.xorshift).Next -/
def c161_r0 : List Ins := [⟨some 2, .p (.mv (.c (.int .u64 0))), none⟩]
def c161_r1 : DP := (.take (iQ 3 (.mv (.t 0)))
(.take (iQ 4 (.nilc (.t 3)))
(.take (iQ 5 (.load (.t 4) 1 false))
(.take (iQ 6 (.mv (.t 0)))
(.take (iQ 7 (.nilc (.t 6)))
(.take (iQ 8 (.load (.t 7) 1 false))
(.take ⟨some 9, .p (.bin .shl (.t 8) (.c (.int .u64 13))), none⟩
(.take (iQ 10 (.bin .xor (.t 5) (.t 9)))
(.take (iQ 11 (.nilc (.t 3)))
(.alt [] ⟨none, .store (.t 11) (.t 10) 1, none⟩
.fin
.stop))))))))))
def c161_r2 : DP := (.take (iQ 12 (.mv (.t 0)))
(.take (iQ 13 (.nilc (.t 12)))
(.take (iQ 14 (.load (.t 13) 1 false))
(.take (iQ 15 (.mv (.t 0)))
(.take (iQ 16 (.nilc (.t 15)))
(.take (iQ 17 (.load (.t 16) 1 false))
(.take ⟨some 18, .p (.bin .shr (.t 17) (.c (.int .u64 7))), none⟩
(.take (iQ 19 (.bin .xor (.t 14) (.t 18)))
(.take (iQ 20 (.nilc (.t 12)))
(.alt [] ⟨none, .store (.t 20) (.t 19) 1, none⟩
.fin
.stop))))))))))
def c161_r3 : DP := (.take (iQ 21 (.mv (.t 0)))
(.take (iQ 22 (.nilc (.t 21)))
(.take (iQ 23 (.load (.t 22) 1 false))
(.take (iQ 24 (.mv (.t 0)))
(.take (iQ 25 (.nilc (.t 24)))
(.take (iQ 26 (.load (.t 25) 1 false))
(.take ⟨some 27, .p (.bin .shl (.t 26) (.c (.int .u64 17))), none⟩
(.take (iQ 28 (.bin .xor (.t 23) (.t 27)))
(.take (iQ 29 (.nilc (.t 21)))
(.alt [] ⟨none, .store (.t 29) (.t 28) 1, none⟩
.fin
.stop))))))))))
def c161_r4 : List Ins := [(iQ 30 (.mv (.t 0))),
(iQ 31 (.nilc (.t 30))),
(iQ 32 (.load (.t 31) 1 false)),
(iQ 2 (.mv (.t 32)))]
def c161 : XFn := { np := 1, nt := 33, res := [.t 2], body := (.seq (.reg c161_r0) (.seq (.draw c161_r1) (.seq (.draw c161_r2) (.seq (.draw c161_r3) (.seq (.reg c161_r4) .ret))))) }
def K161 (C : CRel) : Prop := ∀ (a0 : Int) (r : Int × Int), g161 a0 = some r → C 161 ⟨[.ptr 1048576 0], [[.int .u64 a0]]⟩ ⟨.int .u64 r.1, [[.int .u64 r.2]], []⟩
theorem F161 {C : CRel}  (a0 : Int) (r : Int × Int) (h0 : g161 a0 = some r) : FnOK C c161 ⟨[.ptr 1048576 0], [[.int .u64 a0]]⟩ ⟨.int .u64 r.1, [[.int .u64 r.2]], []⟩ := by
 refine fn_ (nl rfl) (seq_ (reg_ (st (mvc_ tv (oe_ (wk_ ⟨[(0, .ptr 1048576 0)], [(1048576, [.int .u64 a0])], []⟩ (fgk (by kernel_rfl)) (seq_ (draw_ (dtake tv (mv_ rfl tv (⟨tv, (dtake tv (c_ (cp_ ⟨tv, tv⟩ rfl tv) (⟨tv, (dtake tv (c_ (cp_ ⟨tv, tv⟩ rfl (nl rfl)) (⟨tv, (dtake tv (mv_ rfl tv (⟨tv, (dtake tv (c_ (cp_ ⟨tv, tv⟩ rfl tv) (⟨tv, (dtake tv (c_ (cp_ ⟨tv, tv⟩ rfl (nl rfl)) (⟨tv, (dtake tv (c_ (cp_ ⟨tv, tv, tv⟩ rfl (by decide)) (⟨tv, (dtake tv (c_ (cp_ t3 rfl tv) (⟨tv, (dtake tv (c_ (cp_ ⟨tv, tv⟩ rfl tv) (⟨tv, (dalt (stp_ rfl rfl tv rfl rfl rfl (nl rfl) (dk0 ⟨[], tv, tv, (dfin (wk_ ⟨[(0, .ptr 1048576 0)], [(1048576, [.int .u64 (ixor .u64 a0 (ishl .u64 a0 13))])], []⟩ (fgk (by kernel_rfl)) (seq_ ?_)))⟩)) dstop)⟩)))⟩)))⟩)))⟩)))⟩)))⟩)))⟩)))⟩)))⟩)))))))))))
 refine draw_ (dtake tv (mv_ rfl tv (⟨tv, (dtake tv (c_ (cp_ ⟨tv, tv⟩ rfl tv) (⟨tv, (dtake tv (c_ (cp_ ⟨tv, tv⟩ rfl (nl rfl)) (⟨tv, (dtake tv (mv_ rfl tv (⟨tv, (dtake tv (c_ (cp_ ⟨tv, tv⟩ rfl tv) (⟨tv, (dtake tv (c_ (cp_ ⟨tv, tv⟩ rfl (nl rfl)) (⟨tv, (dtake tv (c_ (cp_ ⟨tv, tv, tv⟩ rfl (by decide)) (⟨tv, (dtake tv (c_ (cp_ t3 rfl tv) (⟨tv, (dtake tv (c_ (cp_ ⟨tv, tv⟩ rfl tv) (⟨tv, (dalt (stp_ rfl rfl tv rfl rfl rfl (nl rfl) (dk0 ⟨[], tv, tv, (dfin ?_)⟩)) dstop)⟩)))⟩)))⟩)))⟩)))⟩)))⟩)))⟩)))⟩)))⟩)))
 obtain ⟨v1, e2, h0⟩ := bl h0
 refine wk_ ⟨[(0, .ptr 1048576 0)], [(1048576, [.int .u64 v1])], []⟩ (fgk (by subst e2; kernel_rfl)) (seq_ (draw_ (dtake tv (mv_ rfl tv (⟨tv, (dtake tv (c_ (cp_ ⟨tv, tv⟩ rfl tv) (⟨tv, (dtake tv (c_ (cp_ ⟨tv, tv⟩ rfl (nl rfl)) (⟨tv, (dtake tv (mv_ rfl tv (⟨tv, (dtake tv (c_ (cp_ ⟨tv, tv⟩ rfl tv) (⟨tv, (dtake tv (c_ (cp_ ⟨tv, tv⟩ rfl (nl rfl)) (⟨tv, (dtake tv (c_ (cp_ ⟨tv, tv, tv⟩ rfl (by decide)) (⟨tv, (dtake tv (c_ (cp_ t3 rfl tv) (⟨tv, (dtake tv (c_ (cp_ ⟨tv, tv⟩ rfl tv) (⟨tv, (dalt (stp_ rfl rfl tv rfl rfl rfl (nl rfl) (dk0 ⟨[], tv, tv, (dfin (wk_ ⟨[(0, .ptr 1048576 0)], [(1048576, [.int .u64 (ixor .u64 v1 (ishl .u64 v1 17))])], []⟩ (fgk (by kernel_rfl)) (seq_ (reg_ (st (mv_ rfl tv (st (c_ (cp_ ⟨tv, tv⟩ rfl tv) (st (c_ (cp_ ⟨tv, tv⟩ rfl (nl rfl)) (st (mv_ rfl tv ?_))))))))))))⟩)) dstop)⟩)))⟩)))⟩)))⟩)))⟩)))⟩)))⟩)))⟩)))⟩)))))
 refine oe_ (wk_ ⟨[(2, .int .u64 (ixor .u64 v1 (ishl .u64 v1 17)))], [(1048576, [.int .u64 (ixor .u64 v1 (ishl .u64 v1 17))])], []⟩ (fgk (by kernel_rfl)) ?_)
 obtain rfl := Option.some.inj h0
 exact rt_ (ret_ rfl rfl rfl rfl rfl tv)

/- slices.breakPatternsCmpFunc[loop.example/g00149/impl.Lease] -/
def c150_r0 : List Ins := [(iQ 13 (.mv (.t 2))),
(iQ 14 (.mv (.t 1))),
(iQ 15 (.bin .sub (.t 13) (.t 14))),
(iQ 8 (.mv (.t 15)))]
def c150_r1 : List Ins := [(iQ 16 (.mv (.t 8))),
⟨some 17, .p (.bin .geq (.t 16) (.c (iV 8))), none⟩]
def c150_r2 : List Ins := [(iQ 18 (.mv (.t 8))),
(iQ 19 (.conv .u64 (.t 18))),
⟨some 9, .alloc [(.int .u64 0)], none⟩,
⟨none, .store (.t 9) (.t 19) 1, none⟩]
def c150_r3 : List Ins := [(iQ 20 (.mv (.t 8))),
⟨some 21, .call 160 [(.t 20)], none⟩,
(iQ 10 (.mv (.t 21)))]
def c150_r4 : List Ins := [(iQ 22 (.mv (.t 1))),
(iQ 23 (.mv (.t 8))),
⟨some 24, .p (.bin .quo (.t 23) (.c (iV 4))), none⟩,
⟨some 25, .p (.bin .mul (.t 24) (.c (iV 2))), none⟩,
(iQ 26 (.bin .add (.t 22) (.t 25))),
⟨some 27, .p (.bin .sub (.t 26) (.c (iV 1))), none⟩,
(iQ 11 (.mv (.t 27)))]
def c150_r5 : List Ins := [(iQ 28 (.mv (.t 11))),
(iQ 29 (.mv (.t 1))),
(iQ 30 (.mv (.t 8))),
⟨some 31, .p (.bin .quo (.t 30) (.c (iV 4))), none⟩,
⟨some 32, .p (.bin .mul (.t 31) (.c (iV 2))), none⟩,
(iQ 33 (.bin .add (.t 29) (.t 32))),
⟨some 34, .p (.bin .add (.t 33) (.c (iV 1))), none⟩,
(iQ 35 (.bin .leq (.t 28) (.t 34)))]
def c150_r6 : List Ins := [⟨some 38, .call 161 [(.t 9)], none⟩,
(iQ 39 (.mv (.t 10))),
⟨some 40, .p (.bin .sub (.t 39) (.c (.int .u64 1))), none⟩,
(iQ 41 (.bin .and (.t 38) (.t 40))),
(iQ 42 (.conv .i64 (.t 41))),
(iQ 12 (.mv (.t 42)))]
def c150_r7 : List Ins := [(iQ 43 (.mv (.t 12))),
(iQ 44 (.mv (.t 8))),
(iQ 45 (.bin .geq (.t 43) (.t 44)))]
def c150_r8 : List Ins := [(iQ 46 (.mv (.t 12))),
(iQ 47 (.mv (.t 8))),
(iQ 48 (.bin .sub (.t 46) (.t 47))),
(iQ 12 (.mv (.t 48)))]
def c150_r9 : DP := (.take (iQ 49 (.mv (.t 0)))
(.take (iQ 50 (.mv (.t 11)))
(.take (iQ 51 (.mv (.t 0)))
(.take (iQ 52 (.mv (.t 1)))
(.take (iQ 53 (.mv (.t 12)))
(.take (iQ 54 (.bin .add (.t 52) (.t 53)))
(.take (iQ 55 (.mv (.t 0)))
(.take (iQ 56 (.mv (.t 1)))
(.take (iQ 57 (.mv (.t 12)))
(.take (iQ 58 (.bin .add (.t 56) (.t 57)))
(.take (iQ 59 (.idxA (.t 55) (.t 58) 4))
(.take (iQ 60 (.load (.t 59) 4 true))
(.take (iQ 61 (.mv (.t 0)))
(.take (iQ 62 (.mv (.t 11)))
(.take (iQ 63 (.idxA (.t 61) (.t 62) 4))
(.take (iQ 64 (.load (.t 63) 4 true))
(.take (iQ 65 (.idxA (.t 49) (.t 50) 4))
(.alt [(iQ 54 (.bin .add (.t 52) (.t 53))), (iQ 53 (.mv (.t 12))), (iQ 52 (.mv (.t 1))), (iQ 51 (.mv (.t 0)))] ⟨none, .store (.t 65) (.t 60) 4, none⟩
(.take (iQ 66 (.idxA (.t 51) (.t 54) 4))
(.alt [] ⟨none, .store (.t 66) (.t 64) 4, none⟩
.fin
.stop))
.stop))))))))))))))))))
def c150_r10 : List Ins := [(iQ 36 (.mv (.t 11))),
⟨some 37, .p (.bin .add (.t 36) (.c (iV 1))), none⟩,
(iQ 11 (.mv (.t 37)))]
def c150_l0 : IR := (.seq (.seq (.reg c150_r5) (.ite (.t 35) .skip (.exit 0))) (.seq (.block 1 (.seq (.reg c150_r6) (.seq (.seq (.reg c150_r7) (.ite (.t 45) (.reg c150_r8) .skip)) (.draw c150_r9)))) (.reg c150_r10)))
def c150 : XFn := { np := 4, nt := 67, res := [], body := (.seq (.reg c150_r0) (.seq (.reg c150_r1) (.ite (.t 17) (.seq (.reg c150_r2) (.seq (.reg c150_r3) (.seq (.reg c150_r4) (.block 0 (.loop c150_l0))))) .skip))) }
def K150 (C : CRel) : Prop := ∀ (a0 : List DLease) (a1 : Int) (a2 : Int) (f3 : Nat) (k3 : List V) (is3 : DLease → DLease → Option Int) (hs3 : Shut k3) (hf3 : ∀ (x0 : DLease) (x1 : DLease) r, is3 x0 x1 = some r → C f3 ⟨.agg (eDLease x0) :: .agg (eDLease x1) :: k3, []⟩ ⟨iV r, [], []⟩) (r : (List DLease)), g150 a0 a1 a2 is3 = some r → C 150 ⟨[.own 2097152 0 4 (a0.map eDLease), iV a1, iV a2, .clo f3 k3], []⟩ ⟨.tup [], [], [(0, 4, r.map eDLease)]⟩
theorem F150 {C : CRel} (H160 : K160 C) (H161 : K161 C) (a0 : List DLease) (a1 : Int) (a2 : Int) (f3 : Nat) (k3 : List V) (is3 : DLease → DLease → Option Int) (hs3 : Shut k3) (hf3 : ∀ (x0 : DLease) (x1 : DLease) r, is3 x0 x1 = some r → C f3 ⟨.agg (eDLease x0) :: .agg (eDLease x1) :: k3, []⟩ ⟨iV r, [], []⟩) (r : (List DLease)) (h0 : g150 a0 a1 a2 is3 = some r) : FnOK C c150 ⟨[.own 2097152 0 4 (a0.map eDLease), iV a1, iV a2, .clo f3 k3], []⟩ ⟨.tup [], [], [(0, 4, r.map eDLease)]⟩ := by
 refine fn_ (nl rfl) (seq_ (reg_ (st (mv_ rfl tv (st (mv_ rfl tv (st (c_ (cp_ t3 rfl tv) (st (mv_ rfl tv (oe_ (wk_ ⟨[(0, .own 2097152 0 4 (a0.map eDLease)), (1, iV a1), (8, iV (IntKind.i64.wrap (a2 - a1)))], [], []⟩ (fgk (by kernel_rfl)) (seq_ (reg_ (st (mv_ rfl tv (st (c_ (cp_ t3 rfl tv) (oe_ (wk_ ⟨[(0, .own 2097152 0 4 (a0.map eDLease)), (1, iV a1), (8, iV (IntKind.i64.wrap (a2 - a1))), (17, .bool (decide ((IntKind.i64.wrap (a2 - a1)) ≥ 8)))], [], []⟩ (fgk (by kernel_rfl)) (ite_ (cb := (decide ((IntKind.i64.wrap (a2 - a1)) ≥ 8))) rfl (fun c1 => ?_) (fun c1 => ?_))))))))))))))))))))))
 ·replace h0 := ip c1 h0
  refine seq_ (reg_ (st (mv_ rfl tv (st (c_ (cp_ ⟨tv, tv⟩ rfl tv) (st (alloc_ (st (stp_ rfl rfl tv rfl rfl rfl (nl rfl) (oe_ (wk_ ⟨[(0, .own 2097152 0 4 (a0.map eDLease)), (1, iV a1), (8, iV (IntKind.i64.wrap (a2 - a1))), (9, .ptr 576 0)], [(576, [.int .u64 (IntKind.u64.wrap (IntKind.i64.wrap (a2 - a1)))])], []⟩ (fgk (by kernel_rfl)) (seq_ (reg_ (st (mv_ rfl tv ?_)))))))))))))))
  obtain ⟨r2, e3, h0⟩ := bnd h0
  refine st (call0_ (r := .int .u64 r2) false (H160 (IntKind.i64.wrap (a2 - a1)) r2 e3) ⟨tv, tv⟩ rfl rfl (fun _ => rfl) (st (mv_ rfl tv (oe_ (wk_ ⟨[(0, .own 2097152 0 4 (a0.map eDLease)), (1, iV a1), (8, iV (IntKind.i64.wrap (a2 - a1))), (9, .ptr 576 0), (10, .int .u64 r2)], [(576, [.int .u64 (IntKind.u64.wrap (IntKind.i64.wrap (a2 - a1)))])], []⟩ (fgk (by kernel_rfl)) (seq_ (reg_ (st (mv_ rfl tv (st (mv_ rfl tv (st (c_ (cp_ ⟨tv, tv, tv⟩ rfl (by decide)) (st (c_ (cp_ t3 rfl tv) (st (c_ (cp_ t3 rfl tv) (st (c_ (cp_ t3 rfl tv) (st (mv_ rfl tv (oe_ ?_))))))))))))))))))))))
  obtain ⟨v4, e5, h0⟩ := bl h0
  refine wk_ ⟨[(0, .own 2097152 0 4 (a0.map eDLease)), (1, iV a1), (8, iV (IntKind.i64.wrap (a2 - a1))), (9, .ptr 576 0), (10, .int .u64 r2), (11, iV v4)], [(576, [.int .u64 (IntKind.u64.wrap (IntKind.i64.wrap (a2 - a1)))])], []⟩ (fgk (by subst e5; kernel_rfl)) (block_ ?_)
  obtain ⟨r78, e79, h0⟩ := bnd h0
  refine loop_ (R := (fun S => ∃ p54 : List DLease, p54 = r78 ∧ S = ⟨[(0, .own 2097152 0 4 (p54.map eDLease))], [], []⟩)) (g150_l0 a1 a2 r2) (fun s S => match s with | (p27, p28, p29) => S = ⟨[(0, .own 2097152 0 4 (p27.map eDLease)), (1, iV a1), (8, iV (IntKind.i64.wrap (a2 - a1))), (9, .ptr 576 0), (10, .int .u64 r2), (11, iV p28)], [(576, [.int .u64 p29])], []⟩) e79 ⟨[(0, .own 2097152 0 4 (a0.map eDLease)), (1, iV a1), (8, iV (IntKind.i64.wrap (a2 - a1))), (9, .ptr 576 0), (10, .int .u64 r2), (11, iV v4)], [(576, [.int .u64 (IntKind.u64.wrap (IntKind.i64.wrap (a2 - a1)))])], []⟩ (fgk (by kernel_rfl)) rfl 0 (fun _ => rfl) ?_ ?_
  ·rintro S _ hfg ⟨p54, rfl, rfl⟩
   obtain rfl := Option.some.inj h0
   exact retn_ (retf_ hfg (ret_ rfl rfl rfl rfl rfl ⟨⟨rfl, mlen (fun _ => rfl)⟩, tv⟩))
  ·rintro ⟨p27, p28, p29⟩ o1 _ K1 rfl h1 hx1 hK1 hE1 hR1
   unfold g150_l0 at h1
   refine seq_ (seq_ (reg_ (st (mv_ rfl tv (st (mv_ rfl tv (st (mv_ rfl tv (st (c_ (cp_ ⟨tv, tv, tv⟩ rfl (by decide)) (st (c_ (cp_ t3 rfl tv) (st (c_ (cp_ t3 rfl tv) (st (c_ (cp_ t3 rfl tv) (st (c_ (cp_ t3 rfl tv) (oe_ ?_)))))))))))))))))))
   obtain ⟨v55, e56, h1⟩ := bl h1
   refine wk_ ⟨[(0, .own 2097152 0 4 (p27.map eDLease)), (1, iV a1), (8, iV (IntKind.i64.wrap (a2 - a1))), (9, .ptr 576 0), (10, .int .u64 r2), (11, iV p28), (35, .bool v55)], [(576, [.int .u64 p29])], []⟩ (fgk (by subst e56; kernel_rfl)) (ite_ (cb := v55) rfl (fun c57 => ?_) (fun c57 => ?_))
   ·replace h1 := ip c57 h1
    refine sk_ (wk_ ⟨[(0, .own 2097152 0 4 (p27.map eDLease)), (1, iV a1), (8, iV (IntKind.i64.wrap (a2 - a1))), (9, .ptr 576 0), (10, .int .u64 r2), (11, iV p28)], [(576, [.int .u64 p29])], []⟩ (fgk (by kernel_rfl)) (seq_ (block_ (seq_ (reg_ ?_)))))
    obtain ⟨r58, e59, h1⟩ := bnd h1
    refine st (call1_ [576] [] [] false (H161 p29 r58 e59) ⟨tv, tv⟩ (by kernel_rfl) (by kernel_rfl) (by kernel_rfl) (by kernel_rfl) (fun _ => and_ rfl rfl) (sw ⟨[(0, .own 2097152 0 4 (p27.map eDLease)), (1, iV a1), (8, iV (IntKind.i64.wrap (a2 - a1))), (9, .ptr 576 0), (10, .int .u64 r2), (11, iV p28), (38, .int .u64 r58.1)], [(576, [.int .u64 r58.2])], []⟩ (fgk (by kernel_rfl)) (mv_ rfl tv (st (c_ (cp_ t3 rfl tv) (st (c_ (cp_ t3 rfl tv) (st (c_ (cp_ ⟨tv, tv⟩ rfl tv) (st (mv_ rfl tv (oe_ (wk_ ⟨[(0, .own 2097152 0 4 (p27.map eDLease)), (1, iV a1), (8, iV (IntKind.i64.wrap (a2 - a1))), (9, .ptr 576 0), (10, .int .u64 r2), (11, iV p28), (12, iV (IntKind.i64.wrap (iand .u64 r58.1 (IntKind.u64.wrap (r2 - 1)))))], [(576, [.int .u64 r58.2])], []⟩ (fgk (by kernel_rfl)) (seq_ (seq_ (reg_ (st (mv_ rfl tv (st (mv_ rfl tv (st (c_ (cp_ t3 rfl tv) (oe_ ?_)))))))))))))))))))))))
    obtain ⟨v60, e61, h1⟩ := bl h1
    refine wk_ ⟨[(0, .own 2097152 0 4 (p27.map eDLease)), (1, iV a1), (8, iV (IntKind.i64.wrap (a2 - a1))), (9, .ptr 576 0), (10, .int .u64 r2), (11, iV p28), (12, iV (IntKind.i64.wrap (iand .u64 r58.1 (IntKind.u64.wrap (r2 - 1))))), (45, .bool v60)], [(576, [.int .u64 r58.2])], []⟩ (fgk (by subst e61; kernel_rfl)) (iteJ (cb := v60) (fun S => ∃ p63 : Int, S = ⟨[(0, .own 2097152 0 4 (p27.map eDLease)), (1, iV a1), (8, iV (IntKind.i64.wrap (a2 - a1))), (9, .ptr 576 0), (10, .int .u64 r2), (11, iV p28), (12, iV p63)], [(576, [.int .u64 r58.2])], []⟩ ∧ g150_j0 a1 p27 p28 r58 p63 = some o1) rfl ?_ (fun c77 J76 => ?_) (fun c77 J76 => ?_))
    ·rintro _ ⟨p63, rfl, h1⟩
     refine wk_ ⟨[(0, .own 2097152 0 4 (p27.map eDLease)), (1, iV a1), (8, iV (IntKind.i64.wrap (a2 - a1))), (9, .ptr 576 0), (10, .int .u64 r2), (11, iV p28), (12, iV p63)], [(576, [.int .u64 r58.2])], []⟩ (fgk (by kernel_rfl)) ?_
     obtain ⟨y64, e65, h1⟩ := bnd h1
     obtain ⟨y66, e67, h1⟩ := bnd h1
     obtain ⟨y68, e69, h1⟩ := bnd h1
     obtain ⟨y70, e71, h1⟩ := bnd h1
     obtain ⟨y72, e73, h1⟩ := bnd h1
     obtain ⟨y74, e75, h1⟩ := bnd h1
     refine draw_ (dtake tv (mv_ rfl tv (⟨tv, (dtake tv (mv_ rfl tv (⟨tv, (dtake tv (mv_ rfl tv (⟨tv, (dtake tv (mv_ rfl tv (⟨tv, (dtake tv (mv_ rfl tv (⟨tv, (dtake tv (c_ (cp_ t3 rfl tv) (⟨tv, (dtake tv (mv_ rfl tv (⟨tv, (dtake tv (mv_ rfl tv (⟨tv, (dtake tv (mv_ rfl tv (⟨tv, (dtake tv (c_ (cp_ t3 rfl tv) (⟨tv, (dtake tv (c_ (cidxO (e := eDLease) (y := y64) rfl rfl tv rfl rfl tv e65) (⟨tv, (dtakeO (c_ (v := .agg (eDLease y66)) (cloadO (e := eDLease) (y := y66) (v := .agg (eDLease y66)) rfl rfl tv rfl rfl e67 rfl (nl rfl) rfl) (⟨⟨(again1 (cloadO (e := eDLease) (y := y66) (v := .agg (eDLease y66)) rfl rfl tv rfl rfl e67 rfl (nl rfl) rfl) rfl), tv⟩, (dtake tv (mv_ rfl tv (⟨⟨(again1 (cloadO (e := eDLease) (y := y66) (v := .agg (eDLease y66)) rfl rfl tv rfl rfl e67 rfl (nl rfl) rfl) rfl), tv⟩, (dtake tv (mv_ rfl tv (⟨⟨(again1 (cloadO (e := eDLease) (y := y66) (v := .agg (eDLease y66)) rfl rfl tv rfl rfl e67 rfl (nl rfl) rfl) rfl), tv⟩, (dtake tv (c_ (cidxO (e := eDLease) (y := y68) rfl rfl tv rfl rfl tv e69) (⟨⟨(again1 (cloadO (e := eDLease) (y := y66) (v := .agg (eDLease y66)) rfl rfl tv rfl rfl e67 rfl (nl rfl) rfl) rfl), tv⟩, ?_⟩)))⟩)))⟩)))⟩)))⟩)))⟩)))⟩)))⟩)))⟩)))⟩)))⟩)))⟩)))⟩)))⟩)))⟩)))
     refine dtakeO (c_ (v := .agg (eDLease y70)) (cloadO (e := eDLease) (y := y70) (v := .agg (eDLease y70)) rfl rfl tv rfl rfl e71 rfl (nl rfl) rfl) (⟨⟨(again1 (cloadO (e := eDLease) (y := y70) (v := .agg (eDLease y70)) rfl rfl tv rfl rfl e71 rfl (nl rfl) rfl) rfl), (again1 (cloadO (e := eDLease) (y := y66) (v := .agg (eDLease y66)) rfl rfl tv rfl rfl e67 rfl (nl rfl) rfl) rfl), tv⟩, (dtake tv (c_ (cidxO (e := eDLease) (y := y68) rfl rfl tv rfl rfl tv e69) (⟨⟨(again1 (cloadO (e := eDLease) (y := y70) (v := .agg (eDLease y70)) rfl rfl tv rfl rfl e71 rfl (nl rfl) rfl) rfl), (again1 (cloadO (e := eDLease) (y := y66) (v := .agg (eDLease y66)) rfl rfl tv rfl rfl e67 rfl (nl rfl) rfl) rfl), tv⟩, (dalt (sto_ (y' := y66) rfl rfl tv rfl rfl rfl rfl e71 (nl rfl) rfl rfl rfl rfl (dkw ⟨[(0, .own 2097152 0 4 ((p27.set p28.toNat y66).map eDLease)), (1, iV a1), (8, iV (IntKind.i64.wrap (a2 - a1))), (9, .ptr 576 0), (10, .int .u64 r2), (11, iV p28), (12, iV p63), (51, .own 2097152 0 4 ((p27.set p28.toNat y66).map eDLease)), (52, iV a1), (53, iV p63), (54, iV (IntKind.i64.wrap (a1 + p63))), (64, .agg (eDLease y70))], [(576, [.int .u64 r58.2])], []⟩ (fg ⟨(congrArg (fun z => some ((.own 2097152 0 4 z : V))) overlay_map), rfl, rfl, rfl, rfl, rfl, rfl, (congrArg (fun z => some ((.own 2097152 0 4 z : V))) overlay_map), rfl, rfl, rfl, rfl, tv⟩ ⟨rfl, tv⟩) ⟨[], ⟨⟨.inl tv, (again1 (cp_ t3 rfl tv) rfl)⟩, ⟨.inl tv, (again1 (cmv (v := iV p63) rfl tv) rfl)⟩, ⟨.inl tv, (again1 (cmv (v := iV a1) rfl tv) rfl)⟩, ⟨.inl tv, (again1 (cmv (v := .own 2097152 0 4 ((p27.set p28.toNat y66).map eDLease)) rfl tv) rfl)⟩, tv⟩, tv, (dtake tv (c_ (cidxO (e := eDLease) (y := y72) rfl rfl tv rfl rfl tv e73) (⟨tv, (dalt (sto_ (y' := y70) rfl rfl tv rfl rfl rfl rfl e75 (nl rfl) rfl rfl rfl rfl (dk0 ⟨[], tv, tv, (dfin (bn_ (wk_ ⟨[(0, .own 2097152 0 4 (((p27.set p28.toNat y66).set ((IntKind.i64.wrap (a1 + p63)).toNat) y70).map eDLease)), (1, iV a1), (8, iV (IntKind.i64.wrap (a2 - a1))), (9, .ptr 576 0), (10, .int .u64 r2), (11, iV p28)], [(576, [.int .u64 r58.2])], []⟩ (fg ⟨(congrArg (fun z => some ((.own 2097152 0 4 z : V))) overlay_map), rfl, rfl, rfl, rfl, rfl, tv⟩ ⟨rfl, tv⟩) (reg_ (st (mv_ rfl tv (st (c_ (cp_ t3 rfl tv) (st (mv_ rfl tv (oe_ ?_)))))))))))⟩)) dstop)⟩)))⟩)) dstop)⟩)))⟩))
     obtain rfl := Option.some.inj h1
     exact hK1 _ rfl _ ⟨[(0, .own 2097152 0 4 (((p27.set p28.toNat y66).set ((IntKind.i64.wrap (a1 + p63)).toNat) y70).map eDLease)), (1, iV a1), (8, iV (IntKind.i64.wrap (a2 - a1))), (9, .ptr 576 0), (10, .int .u64 r2), (11, iV (IntKind.i64.wrap (p28 + 1)))], [(576, [.int .u64 r58.2])], []⟩ (fgk (by kernel_rfl)) rfl
    ·replace h1 := ip c77 h1
     refine reg_ (st (mv_ rfl tv (st (mv_ rfl tv (st (c_ (cp_ t3 rfl tv) (st (mv_ rfl tv (oe_ ?_)))))))))
     exact J76 _ ⟨[(0, .own 2097152 0 4 (p27.map eDLease)), (1, iV a1), (8, iV (IntKind.i64.wrap (a2 - a1))), (9, .ptr 576 0), (10, .int .u64 r2), (11, iV p28), (12, iV (IntKind.i64.wrap ((IntKind.i64.wrap (iand .u64 r58.1 (IntKind.u64.wrap (r2 - 1)))) - (IntKind.i64.wrap (a2 - a1)))))], [(576, [.int .u64 r58.2])], []⟩ (fgk (by kernel_rfl)) ⟨_, rfl, h1⟩
    ·replace h1 := inb c77 h1
     refine sk_ ?_
     exact J76 _ ⟨[(0, .own 2097152 0 4 (p27.map eDLease)), (1, iV a1), (8, iV (IntKind.i64.wrap (a2 - a1))), (9, .ptr 576 0), (10, .int .u64 r2), (11, iV p28), (12, iV (IntKind.i64.wrap (iand .u64 r58.1 (IntKind.u64.wrap (r2 - 1)))))], [(576, [.int .u64 r58.2])], []⟩ (fgk (by kernel_rfl)) ⟨_, rfl, h1⟩
   ·replace h1 := inb c57 h1
    obtain rfl := Option.some.inj h1
    obtain rfl := hx1 _ rfl
    refine exQ rfl ?_
    exact hE1 _ ⟨[(0, .own 2097152 0 4 (p27.map eDLease))], [], []⟩ (fgk (by kernel_rfl)) ⟨_, rfl, rfl⟩
 ·replace h0 := inb c1 h0
  refine sk_ ?_
  obtain rfl := Option.some.inj h0
  exact retn_ (ret_ rfl rfl rfl rfl rfl ⟨⟨rfl, mlen (fun _ => rfl)⟩, tv⟩)

/- slices.order2CmpFunc[loop.example/g00149/impl.Lease] -/
def c165_r0 : List Ins := [⟨some 10, .p (.mv (.c (iV 0))), none⟩,
⟨some 11, .p (.mv (.c (iV 0))), none⟩]
def c165_r1 : DP := (.take (iQ 12 (.mv (.t 4)))
(.take (iQ 13 (.mv (.t 0)))
(.take (iQ 14 (.mv (.t 2)))
(.take (iQ 15 (.idxA (.t 13) (.t 14) 4))
(.take (iQ 16 (.load (.t 15) 4 true))
(.take (iQ 17 (.mv (.t 0)))
(.take (iQ 18 (.mv (.t 1)))
(.take (iQ 19 (.idxA (.t 17) (.t 18) 4))
(.take (iQ 20 (.load (.t 19) 4 true))
(.alt [] ⟨some 21, .callv (.t 12) [(.t 16), (.t 20)], none⟩
(.take ⟨some 22, .p (.bin .lss (.t 21) (.c (iV 0))), none⟩
.fin)
.stop))))))))))
def c165_r2 : List Ins := [(iQ 23 (.mv (.t 3))),
(iQ 24 (.nilc (.t 23))),
(iQ 25 (.load (.t 24) 1 false)),
⟨some 26, .p (.bin .add (.t 25) (.c (iV 1))), none⟩,
(iQ 27 (.nilc (.t 23))),
⟨none, .store (.t 27) (.t 26) 1, none⟩]
def c165_r3 : List Ins := [(iQ 28 (.mv (.t 2))),
(iQ 29 (.mv (.t 1))),
(iQ 10 (.mv (.t 28))),
(iQ 11 (.mv (.t 29)))]
def c165_r4 : List Ins := [(iQ 30 (.mv (.t 1))),
(iQ 31 (.mv (.t 2))),
(iQ 10 (.mv (.t 30))),
(iQ 11 (.mv (.t 31)))]
def c165 : XFn := { np := 5, nt := 32, res := [.t 10, .t 11], body := (.seq (.reg c165_r0) (.seq (.seq (.draw c165_r1) (.ite (.t 22) (.seq (.reg c165_r2) (.seq (.reg c165_r3) .ret)) .skip)) (.seq (.reg c165_r4) .ret))) }
def K165 (C : CRel) : Prop := ∀ (a0 : List DLease) (a1 : Int) (a2 : Int) (a3 : Int) (f4 : Nat) (k4 : List V) (is4 : DLease → DLease → Option Int) (hs4 : Shut k4) (hf4 : ∀ (x0 : DLease) (x1 : DLease) r, is4 x0 x1 = some r → C f4 ⟨.agg (eDLease x0) :: .agg (eDLease x1) :: k4, []⟩ ⟨iV r, [], []⟩) (r : Int × Int × Int), g165 a0 a1 a2 a3 is4 = some r → C 165 ⟨[.lst 4 (a0.map eDLease), iV a1, iV a2, .ptr 1048576 0, .clo f4 k4], [[iV a3]]⟩ ⟨.tup [iV r.1, iV r.2.1], [[iV r.2.2]], []⟩
theorem F165 {C : CRel}  (a0 : List DLease) (a1 : Int) (a2 : Int) (a3 : Int) (f4 : Nat) (k4 : List V) (is4 : DLease → DLease → Option Int) (hs4 : Shut k4) (hf4 : ∀ (x0 : DLease) (x1 : DLease) r, is4 x0 x1 = some r → C f4 ⟨.agg (eDLease x0) :: .agg (eDLease x1) :: k4, []⟩ ⟨iV r, [], []⟩) (r : Int × Int × Int) (h0 : g165 a0 a1 a2 a3 is4 = some r) : FnOK C c165 ⟨[.lst 4 (a0.map eDLease), iV a1, iV a2, .ptr 1048576 0, .clo f4 k4], [[iV a3]]⟩ ⟨.tup [iV r.1, iV r.2.1], [[iV r.2.2]], []⟩ := by
 refine fn_ (nl rfl) (seq_ (reg_ (st (mvc_ tv (st (mvc_ tv (oe_ (wk_ ⟨[(0, .lst 4 (a0.map eDLease)), (1, iV a1), (2, iV a2), (3, .ptr 1048576 0), (4, .clo f4 k4)], [(1048576, [iV a3])], []⟩ (fg ⟨rfl, rfl, rfl, rfl, rfl, tv⟩ ⟨rfl, tv⟩) (seq_ (seq_ ?_))))))))))
 obtain ⟨y1, e2, h0⟩ := bnd h0
 obtain ⟨y3, e4, h0⟩ := bnd h0
 obtain ⟨r5, e6, h0⟩ := bnd h0
 refine draw_ (dtake tv (mv_ rfl tv (⟨tv, (dtake tv (mv_ rfl tv (⟨tv, (dtake tv (mv_ rfl tv (⟨tv, (dtake tv (c_ (cidxL (e := eDLease) (y := y1) rfl rfl tv rfl rfl tv e2) (⟨tv, (dtake tv (c_ (v := .agg (eDLease y1)) (cp_ ⟨tv, tv⟩ rfl (nl rfl)) (⟨tv, (dtake tv (mv_ rfl tv (⟨tv, (dtake tv (mv_ rfl tv (⟨tv, (dtake tv (c_ (cidxL (e := eDLease) (y := y3) rfl rfl tv rfl rfl tv e4) (⟨tv, (dtake tv (c_ (v := .agg (eDLease y3)) (cp_ ⟨tv, tv⟩ rfl (nl rfl)) (⟨tv, (dalt (callv0_ (r := iV r5) rfl false (hf4 _ _ r5 e6) ⟨tv, tv, tv⟩ (and_ rfl (and_ rfl hs4.2.2.1)) (mapc1 rfl (mapc1 rfl (hs4.2.1 _ _ _ _ _))) (fun _ => rfl) (dkw ⟨[(1, iV a1), (2, iV a2), (3, .ptr 1048576 0), (21, iV r5)], [(1048576, [iV a3])], []⟩ (fgk (by kernel_rfl)) ⟨[], tv, tv, (dtake tv (c_ (cp_ t3 rfl tv) (⟨tv, (dfin (wk_ ⟨[(1, iV a1), (2, iV a2), (3, .ptr 1048576 0), (22, .bool (decide (r5 < 0)))], [(1048576, [iV a3])], []⟩ (fgk (by kernel_rfl)) (ite_ (cb := (decide (r5 < 0))) rfl (fun c7 => ?_) (fun c7 => ?_))))⟩)))⟩)) dstop)⟩)))⟩)))⟩)))⟩)))⟩)))⟩)))⟩)))⟩)))⟩)))
 ·replace h0 := ip c7 h0
  refine seq_ (reg_ (st (mv_ rfl tv (st (c_ (cp_ ⟨tv, tv⟩ rfl tv) (st (c_ (cp_ ⟨tv, tv⟩ rfl (nl rfl)) (st (c_ (cp_ t3 rfl tv) (st (c_ (cp_ ⟨tv, tv⟩ rfl tv) (st (stp_ rfl rfl tv rfl rfl rfl (nl rfl) (oe_ (wk_ ⟨[(1, iV a1), (2, iV a2)], [(1048576, [iV (IntKind.i64.wrap (a3 + 1))])], []⟩ (fgk (by kernel_rfl)) (seq_ (reg_ (st (mv_ rfl tv (st (mv_ rfl tv (st (mv_ rfl tv (st (mv_ rfl tv (oe_ (wk_ ⟨[(10, iV a2), (11, iV a1)], [(1048576, [iV (IntKind.i64.wrap (a3 + 1))])], []⟩ (fgk (by kernel_rfl)) ?_)))))))))))))))))))))))))))
  obtain rfl := Option.some.inj h0
  exact rt_ (ret_ rfl rfl rfl rfl rfl tv)
 ·replace h0 := inb c7 h0
  refine sk_ (wk_ ⟨[(1, iV a1), (2, iV a2)], [(1048576, [iV a3])], []⟩ (fgk (by kernel_rfl)) (seq_ (reg_ (st (mv_ rfl tv (st (mv_ rfl tv (st (mv_ rfl tv (st (mv_ rfl tv (oe_ (wk_ ⟨[(10, iV a1), (11, iV a2)], [(1048576, [iV a3])], []⟩ (fgk (by kernel_rfl)) ?_)))))))))))))
  obtain rfl := Option.some.inj h0
  exact rt_ (ret_ rfl rfl rfl rfl rfl tv)

/- slices.medianCmpFunc[loop.example/g00149/impl.Lease] -/
def c163_r0 : List Ins := [⟨some 12, .p (.mv (.c (iV 0))), none⟩]
def c163_r1 : List Ins := [(iQ 14 (.mv (.t 0))),
(iQ 15 (.mv (.t 1))),
(iQ 16 (.mv (.t 2))),
(iQ 17 (.mv (.t 4))),
(iQ 18 (.mv (.t 5))),
⟨some 19, .call 165 [(.t 14), (.t 15), (.t 16), (.t 17), (.t 18)], none⟩,
(iQ 13 (.mv (.t 19))),
(iQ 20 (.ext (.t 13) 0)),
(iQ 21 (.ext (.t 13) 1)),
(iQ 1 (.mv (.t 20))),
(iQ 2 (.mv (.t 21)))]
def c163_r2 : List Ins := [(iQ 23 (.mv (.t 0))),
(iQ 24 (.mv (.t 2))),
(iQ 25 (.mv (.t 3))),
(iQ 26 (.mv (.t 4))),
(iQ 27 (.mv (.t 5))),
⟨some 28, .call 165 [(.t 23), (.t 24), (.t 25), (.t 26), (.t 27)], none⟩,
(iQ 22 (.mv (.t 28))),
(iQ 29 (.ext (.t 22) 0)),
(iQ 30 (.ext (.t 22) 1)),
(iQ 2 (.mv (.t 29))),
(iQ 3 (.mv (.t 30)))]
def c163_r3 : List Ins := [(iQ 32 (.mv (.t 0))),
(iQ 33 (.mv (.t 1))),
(iQ 34 (.mv (.t 2))),
(iQ 35 (.mv (.t 4))),
(iQ 36 (.mv (.t 5))),
⟨some 37, .call 165 [(.t 32), (.t 33), (.t 34), (.t 35), (.t 36)], none⟩,
(iQ 31 (.mv (.t 37))),
(iQ 38 (.ext (.t 31) 0)),
(iQ 39 (.ext (.t 31) 1)),
(iQ 1 (.mv (.t 38))),
(iQ 2 (.mv (.t 39)))]
def c163_r4 : List Ins := [(iQ 40 (.mv (.t 2))),
(iQ 12 (.mv (.t 40)))]
def c163 : XFn := { np := 6, nt := 41, res := [.t 12], body := (.seq (.reg c163_r0) (.seq (.reg c163_r1) (.seq (.reg c163_r2) (.seq (.reg c163_r3) (.seq (.reg c163_r4) .ret))))) }
def K163 (C : CRel) : Prop := ∀ (a0 : List DLease) (a1 : Int) (a2 : Int) (a3 : Int) (a4 : Int) (f5 : Nat) (k5 : List V) (is5 : DLease → DLease → Option Int) (hs5 : Shut k5) (hf5 : ∀ (x0 : DLease) (x1 : DLease) r, is5 x0 x1 = some r → C f5 ⟨.agg (eDLease x0) :: .agg (eDLease x1) :: k5, []⟩ ⟨iV r, [], []⟩) (r : Int × Int), g163 a0 a1 a2 a3 a4 is5 = some r → C 163 ⟨[.lst 4 (a0.map eDLease), iV a1, iV a2, iV a3, .ptr 1048576 0, .clo f5 k5], [[iV a4]]⟩ ⟨iV r.1, [[iV r.2]], []⟩
theorem F163 {C : CRel} (H165 : K165 C) (a0 : List DLease) (a1 : Int) (a2 : Int) (a3 : Int) (a4 : Int) (f5 : Nat) (k5 : List V) (is5 : DLease → DLease → Option Int) (hs5 : Shut k5) (hf5 : ∀ (x0 : DLease) (x1 : DLease) r, is5 x0 x1 = some r → C f5 ⟨.agg (eDLease x0) :: .agg (eDLease x1) :: k5, []⟩ ⟨iV r, [], []⟩) (r : Int × Int) (h0 : g163 a0 a1 a2 a3 a4 is5 = some r) : FnOK C c163 ⟨[.lst 4 (a0.map eDLease), iV a1, iV a2, iV a3, .ptr 1048576 0, .clo f5 k5], [[iV a4]]⟩ ⟨iV r.1, [[iV r.2]], []⟩ := by
 refine fn_ (nl rfl) (seq_ (reg_ (st (mvc_ tv (oe_ (wk_ ⟨[(0, .lst 4 (a0.map eDLease)), (1, iV a1), (2, iV a2), (3, iV a3), (4, .ptr 1048576 0), (5, .clo f5 k5)], [(1048576, [iV a4])], []⟩ (fg ⟨rfl, rfl, rfl, rfl, rfl, rfl, tv⟩ ⟨rfl, tv⟩) (seq_ (reg_ (st (mv_ rfl tv (st (mv_ rfl tv (st (mv_ rfl tv (st (mv_ rfl tv (st (mv_ rfl tv ?_))))))))))))))))))
 obtain ⟨r1, e2, h0⟩ := bnd h0
 refine st (call1_ [1048576] [] [] false (H165 a0 a1 a2 a4 f5 k5 is5 hs5 hf5 r1 e2) ⟨tv, tv, tv, tv, tv, tv⟩ (by kernel_rfl) (congrArg (fun z => Give.mk z [[iV a4]]) (mapc1 rfl (mapc1 rfl (mapc1 rfl (mapc1 rfl (mapc1 (clo_sh hs5) rfl)))))) (by kernel_rfl) (by kernel_rfl) (fun _ => and_ rfl rfl) (sw ⟨[(0, .lst 4 (a0.map eDLease)), (3, iV a3), (4, .ptr 1048576 0), (5, .clo f5 k5), (19, .tup [iV r1.1, iV r1.2.1])], [(1048576, [iV r1.2.2])], []⟩ (fg ⟨rfl, rfl, rfl, rfl, rfl, tv⟩ ⟨rfl, tv⟩) (mv_ rfl tv (st (c_ (cp_ ⟨tv, tv⟩ rfl tv) (st (c_ (cp_ ⟨tv, tv⟩ rfl tv) (st (mv_ rfl tv (st (mv_ rfl tv (oe_ (wk_ ⟨[(0, .lst 4 (a0.map eDLease)), (1, iV r1.1), (2, iV r1.2.1), (3, iV a3), (4, .ptr 1048576 0), (5, .clo f5 k5)], [(1048576, [iV r1.2.2])], []⟩ (fg ⟨rfl, rfl, rfl, rfl, rfl, rfl, tv⟩ ⟨rfl, tv⟩) (seq_ (reg_ (st (mv_ rfl tv (st (mv_ rfl tv (st (mv_ rfl tv (st (mv_ rfl tv (st (mv_ rfl tv ?_)))))))))))))))))))))))))
 obtain ⟨r3, e4, h0⟩ := bnd h0
 refine st (call1_ [1048576] [] [] false (H165 a0 r1.2.1 a3 r1.2.2 f5 k5 is5 hs5 hf5 r3 e4) ⟨tv, tv, tv, tv, tv, tv⟩ (by kernel_rfl) (congrArg (fun z => Give.mk z [[iV r1.2.2]]) (mapc1 rfl (mapc1 rfl (mapc1 rfl (mapc1 rfl (mapc1 (clo_sh hs5) rfl)))))) (by kernel_rfl) (by kernel_rfl) (fun _ => and_ rfl rfl) (sw ⟨[(0, .lst 4 (a0.map eDLease)), (1, iV r1.1), (4, .ptr 1048576 0), (5, .clo f5 k5), (28, .tup [iV r3.1, iV r3.2.1])], [(1048576, [iV r3.2.2])], []⟩ (fg ⟨rfl, rfl, rfl, rfl, rfl, tv⟩ ⟨rfl, tv⟩) (mv_ rfl tv (st (c_ (cp_ ⟨tv, tv⟩ rfl tv) (st (c_ (cp_ ⟨tv, tv⟩ rfl tv) (st (mv_ rfl tv (st (mv_ rfl tv (oe_ (wk_ ⟨[(0, .lst 4 (a0.map eDLease)), (1, iV r1.1), (2, iV r3.1), (4, .ptr 1048576 0), (5, .clo f5 k5)], [(1048576, [iV r3.2.2])], []⟩ (fg ⟨rfl, rfl, rfl, rfl, rfl, tv⟩ ⟨rfl, tv⟩) (seq_ (reg_ (st (mv_ rfl tv (st (mv_ rfl tv (st (mv_ rfl tv (st (mv_ rfl tv (st (mv_ rfl tv ?_)))))))))))))))))))))))))
 obtain ⟨r5, e6, h0⟩ := bnd h0
 refine st (call1_ [1048576] [] [] false (H165 a0 r1.1 r3.1 r3.2.2 f5 k5 is5 hs5 hf5 r5 e6) ⟨tv, tv, tv, tv, tv, tv⟩ (by kernel_rfl) (congrArg (fun z => Give.mk z [[iV r3.2.2]]) (mapc1 rfl (mapc1 rfl (mapc1 rfl (mapc1 rfl (mapc1 (clo_sh hs5) rfl)))))) (by kernel_rfl) (by kernel_rfl) (fun _ => and_ rfl rfl) (sw ⟨[(37, .tup [iV r5.1, iV r5.2.1])], [(1048576, [iV r5.2.2])], []⟩ (fgk (by kernel_rfl)) (mv_ rfl tv (st (c_ (cp_ ⟨tv, tv⟩ rfl tv) (st (c_ (cp_ ⟨tv, tv⟩ rfl tv) (st (mv_ rfl tv (st (mv_ rfl tv (oe_ (wk_ ⟨[(2, iV r5.2.1)], [(1048576, [iV r5.2.2])], []⟩ (fgk (by kernel_rfl)) (seq_ (reg_ (st (mv_ rfl tv (st (mv_ rfl tv (oe_ (wk_ ⟨[(12, iV r5.2.1)], [(1048576, [iV r5.2.2])], []⟩ (fgk (by kernel_rfl)) ?_)))))))))))))))))))))
 obtain rfl := Option.some.inj h0
 exact rt_ (ret_ rfl rfl rfl rfl rfl tv)

/- slices.medianAdjacentCmpFunc[loop.example/g00149/impl.Lease] -/
def c162_r0 : List Ins := [⟨some 8, .p (.mv (.c (iV 0))), none⟩]
def c162_r1 : List Ins := [(iQ 9 (.mv (.t 0))),
(iQ 10 (.mv (.t 1))),
⟨some 11, .p (.bin .sub (.t 10) (.c (iV 1))), none⟩,
(iQ 12 (.mv (.t 1))),
(iQ 13 (.mv (.t 1))),
⟨some 14, .p (.bin .add (.t 13) (.c (iV 1))), none⟩,
(iQ 15 (.mv (.t 2))),
(iQ 16 (.mv (.t 3))),
⟨some 17, .call 163 [(.t 9), (.t 11), (.t 12), (.t 14), (.t 15), (.t 16)], none⟩,
(iQ 8 (.mv (.t 17)))]
def c162 : XFn := { np := 4, nt := 18, res := [.t 8], body := (.seq (.reg c162_r0) (.seq (.reg c162_r1) .ret)) }
def K162 (C : CRel) : Prop := ∀ (a0 : List DLease) (a1 : Int) (a2 : Int) (f3 : Nat) (k3 : List V) (is3 : DLease → DLease → Option Int) (hs3 : Shut k3) (hf3 : ∀ (x0 : DLease) (x1 : DLease) r, is3 x0 x1 = some r → C f3 ⟨.agg (eDLease x0) :: .agg (eDLease x1) :: k3, []⟩ ⟨iV r, [], []⟩) (r : Int × Int), g162 a0 a1 a2 is3 = some r → C 162 ⟨[.lst 4 (a0.map eDLease), iV a1, .ptr 1048576 0, .clo f3 k3], [[iV a2]]⟩ ⟨iV r.1, [[iV r.2]], []⟩
theorem F162 {C : CRel} (H163 : K163 C) (a0 : List DLease) (a1 : Int) (a2 : Int) (f3 : Nat) (k3 : List V) (is3 : DLease → DLease → Option Int) (hs3 : Shut k3) (hf3 : ∀ (x0 : DLease) (x1 : DLease) r, is3 x0 x1 = some r → C f3 ⟨.agg (eDLease x0) :: .agg (eDLease x1) :: k3, []⟩ ⟨iV r, [], []⟩) (r : Int × Int) (h0 : g162 a0 a1 a2 is3 = some r) : FnOK C c162 ⟨[.lst 4 (a0.map eDLease), iV a1, .ptr 1048576 0, .clo f3 k3], [[iV a2]]⟩ ⟨iV r.1, [[iV r.2]], []⟩ := by
 refine fn_ (nl rfl) (seq_ (reg_ (st (mvc_ tv (oe_ (wk_ ⟨[(0, .lst 4 (a0.map eDLease)), (1, iV a1), (2, .ptr 1048576 0), (3, .clo f3 k3)], [(1048576, [iV a2])], []⟩ (fg ⟨rfl, rfl, rfl, rfl, tv⟩ ⟨rfl, tv⟩) (seq_ (reg_ (st (mv_ rfl tv (st (mv_ rfl tv (st (c_ (cp_ t3 rfl tv) (st (mv_ rfl tv (st (mv_ rfl tv (st (c_ (cp_ t3 rfl tv) (st (mv_ rfl tv (st (mv_ rfl tv ?_))))))))))))))))))))))))
 obtain ⟨r1, e2, h0⟩ := bnd h0
 refine sw ⟨[(9, .lst 4 (a0.map eDLease)), (11, iV (IntKind.i64.wrap (a1 - 1))), (12, iV a1), (14, iV (IntKind.i64.wrap (a1 + 1))), (15, .ptr 1048576 0), (16, .clo f3 k3)], [(1048576, [iV a2])], []⟩ (fg ⟨rfl, rfl, rfl, rfl, rfl, rfl, tv⟩ ⟨rfl, tv⟩) (call1_ [1048576] [] [] false (H163 a0 (IntKind.i64.wrap (a1 - 1)) a1 (IntKind.i64.wrap (a1 + 1)) a2 f3 k3 is3 hs3 hf3 r1 e2) ⟨tv, tv, tv, tv, tv, tv, tv⟩ (by kernel_rfl) (congrArg (fun z => Give.mk z [[iV a2]]) (mapc1 rfl (mapc1 rfl (mapc1 rfl (mapc1 rfl (mapc1 rfl (mapc1 (clo_sh hs3) rfl))))))) (by kernel_rfl) (by kernel_rfl) (fun _ => and_ rfl rfl) (sw ⟨[(17, iV r1.1)], [(1048576, [iV r1.2])], []⟩ (fgk (by kernel_rfl)) (mv_ rfl tv (oe_ (wk_ ⟨[(8, iV r1.1)], [(1048576, [iV r1.2])], []⟩ (fgk (by kernel_rfl)) ?_)))))
 obtain rfl := Option.some.inj h0
 exact rt_ (ret_ rfl rfl rfl rfl rfl tv)

/- slices.choosePivotCmpFunc[loop.example/g00149/impl.Lease] -/
def c151_r0 : List Ins := [⟨some 8, .p (.mv (.c (iV 0))), none⟩,
⟨some 9, .p (.mv (.c (iV 0))), none⟩]
def c151_r1 : List Ins := [(iQ 15 (.mv (.t 2))),
(iQ 16 (.mv (.t 1))),
(iQ 17 (.bin .sub (.t 15) (.t 16))),
(iQ 10 (.mv (.t 17)))]
def c151_r2 : List Ins := [⟨some 11, .alloc [(iV 0)], none⟩]
def c151_r3 : List Ins := [(iQ 18 (.mv (.t 1))),
(iQ 19 (.mv (.t 10))),
⟨some 20, .p (.bin .quo (.t 19) (.c (iV 4))), none⟩,
⟨some 21, .p (.bin .mul (.t 20) (.c (iV 1))), none⟩,
(iQ 22 (.bin .add (.t 18) (.t 21))),
(iQ 12 (.mv (.t 22)))]
def c151_r4 : List Ins := [(iQ 23 (.mv (.t 1))),
(iQ 24 (.mv (.t 10))),
⟨some 25, .p (.bin .quo (.t 24) (.c (iV 4))), none⟩,
⟨some 26, .p (.bin .mul (.t 25) (.c (iV 2))), none⟩,
(iQ 27 (.bin .add (.t 23) (.t 26))),
(iQ 13 (.mv (.t 27)))]
def c151_r5 : List Ins := [(iQ 28 (.mv (.t 1))),
(iQ 29 (.mv (.t 10))),
⟨some 30, .p (.bin .quo (.t 29) (.c (iV 4))), none⟩,
⟨some 31, .p (.bin .mul (.t 30) (.c (iV 3))), none⟩,
(iQ 32 (.bin .add (.t 28) (.t 31))),
(iQ 14 (.mv (.t 32)))]
def c151_r6 : List Ins := [(iQ 33 (.mv (.t 10))),
⟨some 34, .p (.bin .geq (.t 33) (.c (iV 8))), none⟩]
def c151_r7 : List Ins := [(iQ 35 (.mv (.t 10))),
⟨some 36, .p (.bin .geq (.t 35) (.c (iV 50))), none⟩]
def c151_r8 : List Ins := [(iQ 37 (.mv (.t 0))),
(iQ 38 (.mv (.t 12))),
(iQ 39 (.mv (.t 3))),
⟨some 40, .call 162 [(.t 37), (.t 38), (.t 11), (.t 39)], none⟩,
(iQ 12 (.mv (.t 40)))]
def c151_r9 : List Ins := [(iQ 41 (.mv (.t 0))),
(iQ 42 (.mv (.t 13))),
(iQ 43 (.mv (.t 3))),
⟨some 44, .call 162 [(.t 41), (.t 42), (.t 11), (.t 43)], none⟩,
(iQ 13 (.mv (.t 44)))]
def c151_r10 : List Ins := [(iQ 45 (.mv (.t 0))),
(iQ 46 (.mv (.t 14))),
(iQ 47 (.mv (.t 3))),
⟨some 48, .call 162 [(.t 45), (.t 46), (.t 11), (.t 47)], none⟩,
(iQ 14 (.mv (.t 48)))]
def c151_r11 : List Ins := [(iQ 49 (.mv (.t 0))),
(iQ 50 (.mv (.t 12))),
(iQ 51 (.mv (.t 13))),
(iQ 52 (.mv (.t 14))),
(iQ 53 (.mv (.t 3))),
⟨some 54, .call 163 [(.t 49), (.t 50), (.t 51), (.t 52), (.t 11), (.t 53)], none⟩,
(iQ 13 (.mv (.t 54)))]
def c151_r12 : List Ins := [(iQ 55 (.load (.t 11) 1 false))]
def c151_r13 : List Ins := [⟨some 58, .p (.bin .eql (.t 55) (.c (iV 0))), none⟩,
(iQ 57 (.mv (.t 58)))]
def c151_r14 : List Ins := [(iQ 59 (.mv (.t 13))),
(iQ 8 (.mv (.t 59))),
⟨some 9, .p (.mv (.c (iV 1))), none⟩]
def c151_r15 : List Ins := [⟨some 61, .p (.bin .eql (.t 55) (.c (iV 12))), none⟩,
(iQ 60 (.mv (.t 61)))]
def c151_r16 : List Ins := [(iQ 62 (.mv (.t 13))),
(iQ 8 (.mv (.t 62))),
⟨some 9, .p (.mv (.c (iV 2))), none⟩]
def c151_r17 : List Ins := [(iQ 56 (.mv (.t 13))),
(iQ 8 (.mv (.t 56))),
⟨some 9, .p (.mv (.c (iV 0))), none⟩]
def c151 : XFn := { np := 4, nt := 63, res := [.t 8, .t 9], body := (.seq (.reg c151_r0) (.seq (.reg c151_r1) (.seq (.reg c151_r2) (.seq (.reg c151_r3) (.seq (.reg c151_r4) (.seq (.reg c151_r5) (.seq (.seq (.reg c151_r6) (.ite (.t 34) (.seq (.seq (.reg c151_r7) (.ite (.t 36) (.seq (.reg c151_r8) (.seq (.reg c151_r9) (.reg c151_r10))) .skip)) (.reg c151_r11)) .skip)) (.seq (.reg c151_r12) (.block 0 (.seq (.reg c151_r13) (.ite (.t 57) (.seq (.reg c151_r14) .ret) (.seq (.reg c151_r15) (.ite (.t 60) (.seq (.reg c151_r16) .ret) (.seq (.reg c151_r17) .ret)))))))))))))) }
def K151 (C : CRel) : Prop := ∀ (a0 : List DLease) (a1 : Int) (a2 : Int) (f3 : Nat) (k3 : List V) (is3 : DLease → DLease → Option Int) (hs3 : Shut k3) (hf3 : ∀ (x0 : DLease) (x1 : DLease) r, is3 x0 x1 = some r → C f3 ⟨.agg (eDLease x0) :: .agg (eDLease x1) :: k3, []⟩ ⟨iV r, [], []⟩) (r : Int × Int), g151 a0 a1 a2 is3 = some r → C 151 ⟨[.lst 4 (a0.map eDLease), iV a1, iV a2, .clo f3 k3], []⟩ ⟨.tup [iV r.1, iV r.2], [], []⟩
theorem F151 {C : CRel} (H162 : K162 C) (H163 : K163 C) (a0 : List DLease) (a1 : Int) (a2 : Int) (f3 : Nat) (k3 : List V) (is3 : DLease → DLease → Option Int) (hs3 : Shut k3) (hf3 : ∀ (x0 : DLease) (x1 : DLease) r, is3 x0 x1 = some r → C f3 ⟨.agg (eDLease x0) :: .agg (eDLease x1) :: k3, []⟩ ⟨iV r, [], []⟩) (r : Int × Int) (h0 : g151 a0 a1 a2 is3 = some r) : FnOK C c151 ⟨[.lst 4 (a0.map eDLease), iV a1, iV a2, .clo f3 k3], []⟩ ⟨.tup [iV r.1, iV r.2], [], []⟩ := by
 refine fn_ (nl rfl) (seq_ (reg_ (st (mvc_ tv (st (mvc_ tv (oe_ (wk_ ⟨[(0, .lst 4 (a0.map eDLease)), (1, iV a1), (2, iV a2), (3, .clo f3 k3)], [], []⟩ (fg ⟨rfl, rfl, rfl, rfl, tv⟩ tv) (seq_ (reg_ (st (mv_ rfl tv (st (mv_ rfl tv (st (c_ (cp_ t3 rfl tv) (st (mv_ rfl tv (oe_ (wk_ ⟨[(0, .lst 4 (a0.map eDLease)), (1, iV a1), (3, .clo f3 k3), (10, iV (IntKind.i64.wrap (a2 - a1)))], [], []⟩ (fg ⟨rfl, rfl, rfl, rfl, tv⟩ tv) (seq_ (reg_ (st (alloc_ (oe_ (wk_ ⟨[(0, .lst 4 (a0.map eDLease)), (1, iV a1), (3, .clo f3 k3), (10, iV (IntKind.i64.wrap (a2 - a1))), (11, .ptr 704 0)], [(704, [iV 0])], []⟩ (fg ⟨rfl, rfl, (congrArg (fun z => some z) (dr_sh hs3)), rfl, rfl, tv⟩ ⟨rfl, tv⟩) (seq_ (reg_ (st (mv_ rfl tv (st (mv_ rfl tv (st (c_ (cp_ ⟨tv, tv, tv⟩ rfl (by decide)) (st (c_ (cp_ t3 rfl tv) (st (c_ (cp_ t3 rfl tv) (st (mv_ rfl tv (oe_ ?_)))))))))))))))))))))))))))))))))))))))))
 obtain ⟨v1, e2, h0⟩ := bl h0
 refine wk_ ⟨[(0, .lst 4 (a0.map eDLease)), (1, iV a1), (3, .clo f3 k3), (10, iV (IntKind.i64.wrap (a2 - a1))), (11, .ptr 704 0), (12, iV v1)], [(704, [iV 0])], []⟩ (fg ⟨(by subst e2; rfl), (by subst e2; rfl), (by subst e2; rfl), (by subst e2; rfl), (by subst e2; rfl), (by subst e2; rfl), tv⟩ ⟨(by subst e2; rfl), tv⟩) (seq_ (reg_ (st (mv_ rfl tv (st (mv_ rfl tv (st (c_ (cp_ ⟨tv, tv, tv⟩ rfl (by decide)) (st (c_ (cp_ t3 rfl tv) (st (c_ (cp_ t3 rfl tv) (st (mv_ rfl tv (oe_ ?_)))))))))))))))
 obtain ⟨v3, e4, h0⟩ := bl h0
 refine wk_ ⟨[(0, .lst 4 (a0.map eDLease)), (1, iV a1), (3, .clo f3 k3), (10, iV (IntKind.i64.wrap (a2 - a1))), (11, .ptr 704 0), (12, iV v1), (13, iV v3)], [(704, [iV 0])], []⟩ (fg ⟨(by subst e4; rfl), (by subst e4; rfl), (by subst e4; rfl), (by subst e4; rfl), (by subst e4; rfl), (by subst e4; rfl), (by subst e4; rfl), tv⟩ ⟨(by subst e4; rfl), tv⟩) (seq_ (reg_ (st (mv_ rfl tv (st (mv_ rfl tv (st (c_ (cp_ ⟨tv, tv, tv⟩ rfl (by decide)) (st (c_ (cp_ t3 rfl tv) (st (c_ (cp_ t3 rfl tv) (st (mv_ rfl tv (oe_ ?_)))))))))))))))
 obtain ⟨v5, e6, h0⟩ := bl h0
 refine wk_ ⟨[(0, .lst 4 (a0.map eDLease)), (3, .clo f3 k3), (10, iV (IntKind.i64.wrap (a2 - a1))), (11, .ptr 704 0), (12, iV v1), (13, iV v3), (14, iV v5)], [(704, [iV 0])], []⟩ (fg ⟨(by subst e6; rfl), (by subst e6; rfl), (by subst e6; rfl), (by subst e6; rfl), (by subst e6; rfl), (by subst e6; rfl), (by subst e6; rfl), tv⟩ ⟨(by subst e6; rfl), tv⟩) (seq_ (seq_ (reg_ (st (mv_ rfl tv (st (c_ (cp_ t3 rfl tv) (oe_ (wk_ ⟨[(0, .lst 4 (a0.map eDLease)), (3, .clo f3 k3), (10, iV (IntKind.i64.wrap (a2 - a1))), (11, .ptr 704 0), (12, iV v1), (13, iV v3), (14, iV v5), (34, .bool (decide ((IntKind.i64.wrap (a2 - a1)) ≥ 8)))], [(704, [iV 0])], []⟩ (fg ⟨rfl, rfl, rfl, rfl, rfl, rfl, rfl, rfl, tv⟩ ⟨rfl, tv⟩) (iteJ (cb := (decide ((IntKind.i64.wrap (a2 - a1)) ≥ 8))) (fun S => ∃ p21 : Int, ∃ p22 : Int, S = ⟨[(11, .ptr 704 0), (13, iV p21)], [(704, [iV p22])], []⟩ ∧ g151_j0 p21 p22 = some r) rfl ?_ (fun c26 J25 => ?_) (fun c26 J25 => ?_)))))))))))
 ·rintro _ ⟨p21, p22, rfl, h0⟩
  refine wk_ ⟨[(11, .ptr 704 0), (13, iV p21)], [(704, [iV p22])], []⟩ (fgk (by kernel_rfl)) (seq_ (reg_ (st (c_ (cp_ ⟨tv, tv⟩ rfl (nl rfl)) (oe_ (wk_ ⟨[(13, iV p21), (55, iV p22)], [], []⟩ (fgk (by kernel_rfl)) (block_ (seq_ (reg_ (st (c_ (cp_ t3 rfl tv) (st (mv_ rfl tv (oe_ (wk_ ⟨[(13, iV p21), (55, iV p22), (57, .bool (p22 == 0))], [], []⟩ (fgk (by kernel_rfl)) (ite_ (cb := (p22 == 0)) rfl (fun c23 => ?_) (fun c23 => ?_)))))))))))))))))
  ·replace h0 := ip c23 h0
   refine seq_ (reg_ (st (mv_ rfl tv (st (mv_ rfl tv (st (mvc_ tv (oe_ (wk_ ⟨[(8, iV p21), (9, iV 1)], [], []⟩ (fgk (by kernel_rfl)) ?_)))))))))
   obtain rfl := Option.some.inj h0
   exact rt_ (ret_ rfl rfl rfl rfl rfl tv)
  ·replace h0 := inb c23 h0
   refine seq_ (reg_ (st (c_ (cp_ t3 rfl tv) (st (mv_ rfl tv (oe_ (wk_ ⟨[(13, iV p21), (60, .bool (p22 == 12))], [], []⟩ (fgk (by kernel_rfl)) (ite_ (cb := (p22 == 12)) rfl (fun c24 => ?_) (fun c24 => ?_)))))))))
   ·replace h0 := ip c24 h0
    refine seq_ (reg_ (st (mv_ rfl tv (st (mv_ rfl tv (st (mvc_ tv (oe_ (wk_ ⟨[(8, iV p21), (9, iV 2)], [], []⟩ (fgk (by kernel_rfl)) ?_)))))))))
    obtain rfl := Option.some.inj h0
    exact rt_ (ret_ rfl rfl rfl rfl rfl tv)
   ·replace h0 := inb c24 h0
    refine seq_ (reg_ (st (mv_ rfl tv (st (mv_ rfl tv (st (mvc_ tv (oe_ (wk_ ⟨[(8, iV p21), (9, iV 0)], [], []⟩ (fgk (by kernel_rfl)) ?_)))))))))
    obtain rfl := Option.some.inj h0
    exact rt_ (ret_ rfl rfl rfl rfl rfl tv)
 ·replace h0 := ip c26 h0
  refine seq_ (seq_ (reg_ (st (mv_ rfl tv (st (c_ (cp_ t3 rfl tv) (oe_ (wk_ ⟨[(0, .lst 4 (a0.map eDLease)), (3, .clo f3 k3), (11, .ptr 704 0), (12, iV v1), (13, iV v3), (14, iV v5), (36, .bool (decide ((IntKind.i64.wrap (a2 - a1)) ≥ 50)))], [(704, [iV 0])], []⟩ (fg ⟨rfl, rfl, rfl, rfl, rfl, rfl, rfl, tv⟩ ⟨rfl, tv⟩) (iteJ (cb := (decide ((IntKind.i64.wrap (a2 - a1)) ≥ 50))) (fun S => ∃ p34 : Int, ∃ p35 : Int, ∃ p36 : Int, ∃ p37 : Int, S = ⟨[(0, .lst 4 (a0.map eDLease)), (3, .clo f3 k3), (11, .ptr 704 0), (12, iV p34), (13, iV p35), (14, iV p36)], [(704, [iV p37])], []⟩ ∧ g151_j1 a0 is3 p34 p35 p36 p37 = some r) rfl ?_ (fun c41 J40 => ?_) (fun c41 J40 => ?_))))))))))
  ·rintro _ ⟨p34, p35, p36, p37, rfl, h0⟩
   refine wk_ ⟨[(0, .lst 4 (a0.map eDLease)), (3, .clo f3 k3), (11, .ptr 704 0), (12, iV p34), (13, iV p35), (14, iV p36)], [(704, [iV p37])], []⟩ (fg ⟨rfl, rfl, rfl, rfl, rfl, rfl, tv⟩ ⟨rfl, tv⟩) (reg_ (st (mv_ rfl tv (st (mv_ rfl tv (st (mv_ rfl tv (st (mv_ rfl tv (st (mv_ rfl tv ?_)))))))))))
   obtain ⟨r38, e39, h0⟩ := bnd h0
   refine st (call1_ [704] [] [] false (H163 a0 p34 p35 p36 p37 f3 k3 is3 hs3 hf3 r38 e39) ⟨tv, tv, tv, tv, tv, tv, tv⟩ (by kernel_rfl) (congrArg (fun z => Give.mk z [[iV p37]]) (mapc1 rfl (mapc1 rfl (mapc1 rfl (mapc1 rfl (mapc1 rfl (mapc1 (clo_sh hs3) rfl))))))) (by kernel_rfl) (by kernel_rfl) (fun _ => and_ rfl rfl) (sw ⟨[(11, .ptr 704 0), (54, iV r38.1)], [(704, [iV r38.2])], []⟩ (fgk (by kernel_rfl)) (mv_ rfl tv (oe_ ?_))))
   exact J25 _ ⟨[(11, .ptr 704 0), (13, iV r38.1)], [(704, [iV r38.2])], []⟩ (fgk (by kernel_rfl)) ⟨_, _, rfl, h0⟩
  ·replace h0 := ip c41 h0
   refine seq_ (reg_ (st (mv_ rfl tv (st (mv_ rfl tv (st (mv_ rfl tv ?_)))))))
   obtain ⟨r42, e43, h0⟩ := bnd h0
   refine st (call1_ [704] [] [] false (H162 a0 v1 0 f3 k3 is3 hs3 hf3 r42 e43) ⟨tv, tv, tv, tv, tv⟩ (by kernel_rfl) (congrArg (fun z => Give.mk z [[iV 0]]) (mapc1 rfl (mapc1 rfl (mapc1 rfl (mapc1 (clo_sh hs3) rfl))))) (by kernel_rfl) (by kernel_rfl) (fun _ => and_ rfl rfl) (sw ⟨[(0, .lst 4 (a0.map eDLease)), (3, .clo f3 k3), (11, .ptr 704 0), (13, iV v3), (14, iV v5), (40, iV r42.1)], [(704, [iV r42.2])], []⟩ (fg ⟨rfl, rfl, rfl, rfl, rfl, rfl, tv⟩ ⟨rfl, tv⟩) (mv_ rfl tv (oe_ (wk_ ⟨[(0, .lst 4 (a0.map eDLease)), (3, .clo f3 k3), (11, .ptr 704 0), (12, iV r42.1), (13, iV v3), (14, iV v5)], [(704, [iV r42.2])], []⟩ (fg ⟨rfl, rfl, rfl, rfl, rfl, rfl, tv⟩ ⟨rfl, tv⟩) (seq_ (reg_ (st (mv_ rfl tv (st (mv_ rfl tv (st (mv_ rfl tv ?_)))))))))))))
   obtain ⟨r44, e45, h0⟩ := bnd h0
   refine st (call1_ [704] [] [] false (H162 a0 v3 r42.2 f3 k3 is3 hs3 hf3 r44 e45) ⟨tv, tv, tv, tv, tv⟩ (by kernel_rfl) (congrArg (fun z => Give.mk z [[iV r42.2]]) (mapc1 rfl (mapc1 rfl (mapc1 rfl (mapc1 (clo_sh hs3) rfl))))) (by kernel_rfl) (by kernel_rfl) (fun _ => and_ rfl rfl) (sw ⟨[(0, .lst 4 (a0.map eDLease)), (3, .clo f3 k3), (11, .ptr 704 0), (12, iV r42.1), (14, iV v5), (44, iV r44.1)], [(704, [iV r44.2])], []⟩ (fg ⟨rfl, rfl, rfl, rfl, rfl, rfl, tv⟩ ⟨rfl, tv⟩) (mv_ rfl tv (oe_ (wk_ ⟨[(0, .lst 4 (a0.map eDLease)), (3, .clo f3 k3), (11, .ptr 704 0), (12, iV r42.1), (13, iV r44.1), (14, iV v5)], [(704, [iV r44.2])], []⟩ (fg ⟨rfl, rfl, rfl, rfl, rfl, rfl, tv⟩ ⟨rfl, tv⟩) (reg_ (st (mv_ rfl tv (st (mv_ rfl tv (st (mv_ rfl tv ?_))))))))))))
   obtain ⟨r46, e47, h0⟩ := bnd h0
   refine st (call1_ [704] [] [] false (H162 a0 v5 r44.2 f3 k3 is3 hs3 hf3 r46 e47) ⟨tv, tv, tv, tv, tv⟩ (by kernel_rfl) (congrArg (fun z => Give.mk z [[iV r44.2]]) (mapc1 rfl (mapc1 rfl (mapc1 rfl (mapc1 (clo_sh hs3) rfl))))) (by kernel_rfl) (by kernel_rfl) (fun _ => and_ rfl rfl) (sw ⟨[(0, .lst 4 (a0.map eDLease)), (3, .clo f3 k3), (11, .ptr 704 0), (12, iV r42.1), (13, iV r44.1), (48, iV r46.1)], [(704, [iV r46.2])], []⟩ (fg ⟨rfl, rfl, rfl, rfl, rfl, rfl, tv⟩ ⟨rfl, tv⟩) (mv_ rfl tv (oe_ ?_))))
   exact J40 _ ⟨[(0, .lst 4 (a0.map eDLease)), (3, .clo f3 k3), (11, .ptr 704 0), (12, iV r42.1), (13, iV r44.1), (14, iV r46.1)], [(704, [iV r46.2])], []⟩ (fg ⟨rfl, rfl, rfl, rfl, rfl, rfl, tv⟩ ⟨rfl, tv⟩) ⟨_, _, _, _, rfl, h0⟩
  ·replace h0 := inb c41 h0
   refine sk_ ?_
   exact J40 _ ⟨[(0, .lst 4 (a0.map eDLease)), (3, .clo f3 k3), (11, .ptr 704 0), (12, iV v1), (13, iV v3), (14, iV v5)], [(704, [iV 0])], []⟩ (fg ⟨rfl, rfl, rfl, rfl, rfl, rfl, tv⟩ ⟨rfl, tv⟩) ⟨_, _, _, _, rfl, h0⟩
 ·replace h0 := inb c26 h0
  refine sk_ ?_
  exact J25 _ ⟨[(11, .ptr 704 0), (13, iV v3)], [(704, [iV 0])], []⟩ (fgk (by kernel_rfl)) ⟨_, _, rfl, h0⟩

/- slices.reverseRangeCmpFunc[loop.example/g00149/impl.Lease] -/
def c152_r0 : List Ins := [(iQ 10 (.mv (.t 1))),
(iQ 8 (.mv (.t 10)))]
def c152_r1 : List Ins := [(iQ 11 (.mv (.t 2))),
⟨some 12, .p (.bin .sub (.t 11) (.c (iV 1))), none⟩,
(iQ 9 (.mv (.t 12)))]
def c152_r2 : List Ins := [(iQ 13 (.mv (.t 8))),
(iQ 14 (.mv (.t 9))),
(iQ 15 (.bin .lss (.t 13) (.t 14)))]
def c152_r3 : DP := (.take (iQ 16 (.mv (.t 0)))
(.take (iQ 17 (.mv (.t 8)))
(.take (iQ 18 (.mv (.t 0)))
(.take (iQ 19 (.mv (.t 9)))
(.take (iQ 20 (.mv (.t 0)))
(.take (iQ 21 (.mv (.t 9)))
(.take (iQ 22 (.idxA (.t 20) (.t 21) 4))
(.take (iQ 23 (.load (.t 22) 4 true))
(.take (iQ 24 (.mv (.t 0)))
(.take (iQ 25 (.mv (.t 8)))
(.take (iQ 26 (.idxA (.t 24) (.t 25) 4))
(.take (iQ 27 (.load (.t 26) 4 true))
(.take (iQ 28 (.idxA (.t 16) (.t 17) 4))
(.alt [(iQ 19 (.mv (.t 9))), (iQ 18 (.mv (.t 0)))] ⟨none, .store (.t 28) (.t 23) 4, none⟩
(.take (iQ 29 (.idxA (.t 18) (.t 19) 4))
(.alt [] ⟨none, .store (.t 29) (.t 27) 4, none⟩
.fin
.stop))
.stop))))))))))))))
def c152_r4 : List Ins := [(iQ 30 (.mv (.t 8))),
⟨some 31, .p (.bin .add (.t 30) (.c (iV 1))), none⟩,
(iQ 8 (.mv (.t 31)))]
def c152_r5 : List Ins := [(iQ 32 (.mv (.t 9))),
⟨some 33, .p (.bin .sub (.t 32) (.c (iV 1))), none⟩,
(iQ 9 (.mv (.t 33)))]
def c152_l0 : IR := (.seq (.seq (.reg c152_r2) (.ite (.t 15) .skip (.exit 0))) (.block 1 (.seq (.draw c152_r3) (.seq (.reg c152_r4) (.reg c152_r5)))))
def c152 : XFn := { np := 4, nt := 34, res := [], body := (.seq (.reg c152_r0) (.seq (.reg c152_r1) (.block 0 (.loop c152_l0)))) }
def K152 (C : CRel) : Prop := ∀ (a0 : List DLease) (a1 : Int) (a2 : Int) (f3 : Nat) (k3 : List V) (is3 : DLease → DLease → Option Int) (hs3 : Shut k3) (hf3 : ∀ (x0 : DLease) (x1 : DLease) r, is3 x0 x1 = some r → C f3 ⟨.agg (eDLease x0) :: .agg (eDLease x1) :: k3, []⟩ ⟨iV r, [], []⟩) (r : (List DLease)), g152 a0 a1 a2 is3 = some r → C 152 ⟨[.own 2097152 0 4 (a0.map eDLease), iV a1, iV a2, .clo f3 k3], []⟩ ⟨.tup [], [], [(0, 4, r.map eDLease)]⟩
theorem F152 {C : CRel}  (a0 : List DLease) (a1 : Int) (a2 : Int) (f3 : Nat) (k3 : List V) (is3 : DLease → DLease → Option Int) (hs3 : Shut k3) (hf3 : ∀ (x0 : DLease) (x1 : DLease) r, is3 x0 x1 = some r → C f3 ⟨.agg (eDLease x0) :: .agg (eDLease x1) :: k3, []⟩ ⟨iV r, [], []⟩) (r : (List DLease)) (h0 : g152 a0 a1 a2 is3 = some r) : FnOK C c152 ⟨[.own 2097152 0 4 (a0.map eDLease), iV a1, iV a2, .clo f3 k3], []⟩ ⟨.tup [], [], [(0, 4, r.map eDLease)]⟩ := by
 refine fn_ (nl rfl) (seq_ (reg_ (st (mv_ rfl tv (st (mv_ rfl tv (oe_ (wk_ ⟨[(0, .own 2097152 0 4 (a0.map eDLease)), (2, iV a2), (8, iV a1)], [], []⟩ (fgk (by kernel_rfl)) (seq_ (reg_ (st (mv_ rfl tv (st (c_ (cp_ t3 rfl tv) (st (mv_ rfl tv (oe_ (wk_ ⟨[(0, .own 2097152 0 4 (a0.map eDLease)), (8, iV a1), (9, iV (IntKind.i64.wrap (a2 - 1)))], [], []⟩ (fgk (by kernel_rfl)) (block_ ?_)))))))))))))))))))
 obtain ⟨r47, e48, h0⟩ := bnd h0
 refine loop_ (R := (fun S => ∃ p33 : List DLease, p33 = r47 ∧ S = ⟨[(0, .own 2097152 0 4 (p33.map eDLease))], [], []⟩)) (g152_l0) (fun s S => match s with | (p14, p15, p16) => S = ⟨[(0, .own 2097152 0 4 (p14.map eDLease)), (8, iV p15), (9, iV p16)], [], []⟩) e48 ⟨[(0, .own 2097152 0 4 (a0.map eDLease)), (8, iV a1), (9, iV (IntKind.i64.wrap (a2 - 1)))], [], []⟩ (fgk (by kernel_rfl)) rfl 0 (fun _ => rfl) ?_ ?_
 ·rintro S _ hfg ⟨p33, rfl, rfl⟩
  obtain rfl := Option.some.inj h0
  exact retn_ (retf_ hfg (ret_ rfl rfl rfl rfl rfl ⟨⟨rfl, mlen (fun _ => rfl)⟩, tv⟩))
 ·rintro ⟨p14, p15, p16⟩ o1 _ K1 rfl h1 hx1 hK1 hE1 hR1
  refine seq_ (seq_ (reg_ (st (mv_ rfl tv (st (mv_ rfl tv (st (c_ (cp_ t3 rfl tv) (oe_ (wk_ ⟨[(0, .own 2097152 0 4 (p14.map eDLease)), (8, iV p15), (9, iV p16), (15, .bool (decide (p15 < p16)))], [], []⟩ (fgk (by kernel_rfl)) (ite_ (cb := (decide (p15 < p16))) rfl (fun c34 => ?_) (fun c34 => ?_))))))))))))
  ·replace h1 := ip c34 h1
   refine sk_ (wk_ ⟨[(0, .own 2097152 0 4 (p14.map eDLease)), (8, iV p15), (9, iV p16)], [], []⟩ (fgk (by kernel_rfl)) (block_ (seq_ ?_)))
   obtain ⟨y35, e36, h1⟩ := bnd h1
   obtain ⟨y37, e38, h1⟩ := bnd h1
   obtain ⟨y39, e40, h1⟩ := bnd h1
   obtain ⟨y41, e42, h1⟩ := bnd h1
   obtain ⟨y43, e44, h1⟩ := bnd h1
   obtain ⟨y45, e46, h1⟩ := bnd h1
   refine draw_ (dtake tv (mv_ rfl tv (⟨tv, (dtake tv (mv_ rfl tv (⟨tv, (dtake tv (mv_ rfl tv (⟨tv, (dtake tv (mv_ rfl tv (⟨tv, (dtake tv (mv_ rfl tv (⟨tv, (dtake tv (mv_ rfl tv (⟨tv, (dtake tv (c_ (cidxO (e := eDLease) (y := y35) rfl rfl tv rfl rfl tv e36) (⟨tv, (dtakeO (c_ (v := .agg (eDLease y37)) (cloadO (e := eDLease) (y := y37) (v := .agg (eDLease y37)) rfl rfl tv rfl rfl e38 rfl (nl rfl) rfl) (⟨⟨(again1 (cloadO (e := eDLease) (y := y37) (v := .agg (eDLease y37)) rfl rfl tv rfl rfl e38 rfl (nl rfl) rfl) rfl), tv⟩, (dtake tv (mv_ rfl tv (⟨⟨(again1 (cloadO (e := eDLease) (y := y37) (v := .agg (eDLease y37)) rfl rfl tv rfl rfl e38 rfl (nl rfl) rfl) rfl), tv⟩, (dtake tv (mv_ rfl tv (⟨⟨(again1 (cloadO (e := eDLease) (y := y37) (v := .agg (eDLease y37)) rfl rfl tv rfl rfl e38 rfl (nl rfl) rfl) rfl), tv⟩, (dtake tv (c_ (cidxO (e := eDLease) (y := y39) rfl rfl tv rfl rfl tv e40) (⟨⟨(again1 (cloadO (e := eDLease) (y := y37) (v := .agg (eDLease y37)) rfl rfl tv rfl rfl e38 rfl (nl rfl) rfl) rfl), tv⟩, (dtakeO (c_ (v := .agg (eDLease y41)) (cloadO (e := eDLease) (y := y41) (v := .agg (eDLease y41)) rfl rfl tv rfl rfl e42 rfl (nl rfl) rfl) (⟨⟨(again1 (cloadO (e := eDLease) (y := y41) (v := .agg (eDLease y41)) rfl rfl tv rfl rfl e42 rfl (nl rfl) rfl) rfl), (again1 (cloadO (e := eDLease) (y := y37) (v := .agg (eDLease y37)) rfl rfl tv rfl rfl e38 rfl (nl rfl) rfl) rfl), tv⟩, (dtake tv (c_ (cidxO (e := eDLease) (y := y39) rfl rfl tv rfl rfl tv e40) (⟨⟨(again1 (cloadO (e := eDLease) (y := y41) (v := .agg (eDLease y41)) rfl rfl tv rfl rfl e42 rfl (nl rfl) rfl) rfl), (again1 (cloadO (e := eDLease) (y := y37) (v := .agg (eDLease y37)) rfl rfl tv rfl rfl e38 rfl (nl rfl) rfl) rfl), tv⟩, (dalt (sto_ (y' := y37) rfl rfl tv rfl rfl rfl rfl e42 (nl rfl) rfl rfl rfl rfl (dkw ⟨[(0, .own 2097152 0 4 ((p14.set p15.toNat y37).map eDLease)), (8, iV p15), (9, iV p16), (18, .own 2097152 0 4 ((p14.set p15.toNat y37).map eDLease)), (19, iV p16), (27, .agg (eDLease y41))], [], []⟩ (fg ⟨(congrArg (fun z => some ((.own 2097152 0 4 z : V))) overlay_map), rfl, rfl, (congrArg (fun z => some ((.own 2097152 0 4 z : V))) overlay_map), rfl, rfl, tv⟩ tv) ⟨[], ⟨⟨.inl tv, (again1 (cmv (v := iV p16) rfl tv) rfl)⟩, ⟨.inl tv, (again1 (cmv (v := .own 2097152 0 4 ((p14.set p15.toNat y37).map eDLease)) rfl tv) rfl)⟩, tv⟩, tv, (dtake tv (c_ (cidxO (e := eDLease) (y := y43) rfl rfl tv rfl rfl tv e44) (⟨tv, ?_⟩)))⟩)) dstop)⟩)))⟩)))⟩)))⟩)))⟩)))⟩)))⟩)))⟩)))⟩)))⟩)))⟩)))⟩)))⟩)))
   refine dalt (sto_ (y' := y41) rfl rfl tv rfl rfl rfl rfl e46 (nl rfl) rfl rfl rfl rfl (dk0 ⟨[], tv, tv, (dfin (wk_ ⟨[(0, .own 2097152 0 4 (((p14.set p15.toNat y37).set p16.toNat y41).map eDLease)), (8, iV p15), (9, iV p16)], [], []⟩ (fg ⟨(congrArg (fun z => some ((.own 2097152 0 4 z : V))) overlay_map), rfl, rfl, tv⟩ tv) (seq_ (reg_ (st (mv_ rfl tv (st (c_ (cp_ t3 rfl tv) (st (mv_ rfl tv (oe_ (wk_ ⟨[(0, .own 2097152 0 4 (((p14.set p15.toNat y37).set p16.toNat y41).map eDLease)), (8, iV (IntKind.i64.wrap (p15 + 1))), (9, iV p16)], [], []⟩ (fgk (by kernel_rfl)) (reg_ (st (mv_ rfl tv (st (c_ (cp_ t3 rfl tv) (st (mv_ rfl tv (oe_ (bn_ ?_)))))))))))))))))))))⟩)) dstop
   obtain rfl := Option.some.inj h1
   exact hK1 _ rfl _ ⟨[(0, .own 2097152 0 4 (((p14.set p15.toNat y37).set p16.toNat y41).map eDLease)), (8, iV (IntKind.i64.wrap (p15 + 1))), (9, iV (IntKind.i64.wrap (p16 - 1)))], [], []⟩ (fgk (by kernel_rfl)) rfl
  ·replace h1 := inb c34 h1
   obtain rfl := Option.some.inj h1
   obtain rfl := hx1 _ rfl
   refine exQ rfl ?_
   exact hE1 _ ⟨[(0, .own 2097152 0 4 (p14.map eDLease))], [], []⟩ (fgk (by kernel_rfl)) ⟨_, rfl, rfl⟩
end Go.Ev
