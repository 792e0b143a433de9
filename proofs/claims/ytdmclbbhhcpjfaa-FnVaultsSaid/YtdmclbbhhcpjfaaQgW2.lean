/- The walks of functions: the code comes to the answers that QgD tells. Written by a program of ours. -/
import Derived.Test.YtdmclbbhhcpjfaaQgW1
set_option linter.all false
set_option maxHeartbeats 4000000
set_option linter.unusedVariables false
set_option maxRecDepth 100000
namespace Go.Ev

/- loop.example/g00149/impl.VaultOK -/
def ZA := [X_ 1 0, k_ 2 (.bool false)]
def ZB := tk [f_ 5 1 0, L_ 6 5 3] (.alt [] (q_ 7 20 [(.t 6)]) (tk [N_ 8 7, m_ 9 8, pF 9 10 (.fieldA (.t 1) 3), pF 9 11 (.load (.t 10) 1 false), pF 9 12 (.len (.t 11)), pF 9 13 (.bin .gtr (.t 12) (.c (iV 40))), pk 14 (.t 9) (.c (.bool true)) (.t 13), m_ 15 14, pF 15 16 (.fieldA (.t 1) 3), pF 15 17 (.load (.t 16) 1 false), pF 15 19 (.fieldA (.t 1) 0), pF 15 20 (.fieldA (.t 19) 1), pF 15 21 (.load (.t 20) 1 false), pF 15 22 (.bin .sub (.t 21) (.c (iV 1)))] (.alt [pF 15 22 (.bin .sub (.t 21) (.c (iV 1))), pF 15 21 (.load (.t 20) 1 false), pF 15 20 (.fieldA (.t 19) 1), pF 15 19 (.fieldA (.t 1) 0)] ⟨some 18, .call 95 [(.t 17)], some (15, false)⟩ (.alt [] ⟨some 23, .call 59 [(.t 18), (.c (iV 1)), (.t 22)], some (15, false)⟩ (tk [pF 15 24 (.un .not (.t 23)), pk 25 (.t 15) (.c (.bool true)) (.t 24), m_ 26 25, pF 26 27 (.fieldA (.t 1) 4), pF 26 28 (.load (.t 27) 1 false), pF 26 29 (.len (.t 28)), pF 26 30 (.bin .gtr (.t 29) (.c (iV 80))), pk 31 (.t 26) (.c (.bool true)) (.t 30), m_ 32 31, pF 32 33 (.fieldA (.t 1) 4), pF 32 34 (.load (.t 33) 1 false), pF 32 35 (.fieldA (.t 1) 0), pF 32 36 (.fieldA (.t 35) 1), pF 32 37 (.load (.t 36) 1 false), pF 32 38 (.bin .sub (.t 37) (.c (iV 1)))] (.alt [] ⟨some 39, .call 59 [(.t 34), (.c (iV 1)), (.t 38)], some (32, false)⟩ (tk [pF 32 40 (.un .not (.t 39)), pk 41 (.t 32) (.c (.bool true)) (.t 40)] .fin) .stop)) .stop) .stop)) .stop)
def ZC := [k_ 2 (.bool false)]
def ZD := [L_ 43 1 6, q_ 44 96 [(.t 43)], m_ 42 44, e_ 45 42 0, e_ 46 42 1, m_ 3 45, m_ 4 46]
def ZE : List Ch := [m_ 47 4, N_ 48 47, m_ 49 48, pT 49 50 (.fieldA (.t 1) 3), pT 49 51 (.load (.t 50) 1 false), ⟨some 52, .call 95 [(.t 51)], some (49, true)⟩, pT 49 53 (.fn 98 [(.t 1)]), ⟨some 54, .call 97 [(.t 52), (.t 53)], some (49, true)⟩, pk 55 (.t 49) (.t 54) (.c (.bool false)), m_ 2 55]
def UN : El := { np := 1, nt := 56, res := [.t 2], body := (.seq (.reg ZA) (.seq (.seq (.draw ZB) (.ite (.t 41) (.seq (.reg ZC) .ret) .skip)) (.seq (.reg ZD) (.seq (.reg ZE) .ret)))) }
def K48 (D : Bc) : Prop := ∀ (a0 : Ag) (r : Bool), g48 a0 = some r → D 48 ⟨[.agg (Ah a0)], []⟩ ⟨.bool r, [], []⟩
theorem F48 {C : Bc} (H20 : K20 C) (H59 : K59 C) (H95 : K95 C) (H96 : K96 C) (H97 : K97 C) (H98 : K98 C) : K48 (fun _ => Cp C UN) := by
 intro a0 r h0
 refine Fe (nl rfl) (Br 4 ⟨[(1, .ptr 64 0)], [(64, Ah a0)], []⟩ (Bz (Bz ?_)))
 obtain ⟨r1, e2, h0⟩ := bnd h0
 obtain ⟨r3, e4, h0⟩ := bnd h0
 obtain ⟨r5, e6, h0⟩ := bnd h0
 refine bb h0 fun r7 e8 h0 => Bu 2 (Dh (Ci (Bv (r := .bool r1) false (H20 a0.Ac r1 e2) ⟨tv, tv⟩ rfl rfl (fun _ => rfl) (Jf ⟨[(1, .ptr 64 0), (7, .bool r1)], [(64, Ah a0)], []⟩ (Bw (by kernel_rfl)) ⟨[], tv, tv, (d_ (Bu 2 (Dh (Ak tv (Da (u := .ptr 64 3) rfl (fun hg => (Ay ⟨tv, tv⟩ rfl tv)) (⟨tv, (Ak tv (Da (u := Cw a0.Aa) rfl (fun hg => (Ay ⟨(fun _ => hg), tv⟩ rfl (nl rfl))) (⟨tv, (Ak tv (Da (u := iV (a0.Aa.length : Int)) rfl (fun hg => (Cn (e := Bi) (l0 := a0.Aa) rfl rfl (fun _ => hg))) (⟨tv, (Ak tv (Da (u := .bool (decide ((a0.Aa.length : Int) > 40))) rfl (fun hg => (Ay ⟨(fun _ => hg), tv, tv⟩ rfl tv)) (⟨tv, (Ak tv (Ey rfl rfl rfl tv (fun h => dG h) rfl (⟨tv, (Ak tv (Df rfl tv (⟨tv, (Ak tv (Da (u := .ptr 64 3) rfl (fun hg => (Ay ⟨tv, tv⟩ rfl tv)) (⟨tv, (Ak tv (Da (u := Cw a0.Aa) rfl (fun hg => (Ay ⟨(fun _ => hg), tv⟩ rfl (nl rfl))) (⟨tv, (Ak tv (Da (u := .ptr 64 0) rfl (fun hg => (Ay ⟨tv, tv⟩ rfl tv)) (⟨tv, (Ak tv (Da (u := .ptr 64 1) rfl (fun hg => (Ay ⟨(fun _ => hg), tv⟩ rfl tv)) (⟨tv, ?_⟩)))⟩)))⟩)))⟩)))⟩)))⟩)))⟩)))⟩)))⟩)))⟩))))))⟩)) Bp))
 refine Ak tv (Da (u := iV a0.Ac.next) rfl (fun hg => (Ay ⟨(fun _ => hg), tv⟩ rfl (nl rfl))) (⟨tv, (Ak tv (Da (u := iV (IntKind.i64.wrap (a0.Ac.next - 1))) rfl (fun hg => (Ay ⟨(fun _ => hg), tv, tv⟩ rfl tv)) (⟨tv, (Ci (Ga (r := oI 0 r3) rfl false (fun hg => H95 a0.Aa r3 (ip hg e4)) ⟨(fun hg => hg), tv⟩ (fun _ => rfl) (fun _ => rfl) (fun _ => (Bs (Hr (fun _ => rfl)) rfl)) (fun h => nomatch h) (Jf ⟨[(1, .ptr 64 0), (15, .bool (bif (!r1) then true else (decide ((a0.Aa.length : Int) > 40)))), (18, .may ((bif (!r1) then true else (decide ((a0.Aa.length : Int) > 40))) == false) (lI r3)), (19, .may ((bif (!r1) then true else (decide ((a0.Aa.length : Int) > 40))) == false) (.ptr 64 0)), (20, .may ((bif (!r1) then true else (decide ((a0.Aa.length : Int) > 40))) == false) (.ptr 64 1)), (21, .may ((bif (!r1) then true else (decide ((a0.Aa.length : Int) > 40))) == false) (iV a0.Ac.next)), (22, .may ((bif (!r1) then true else (decide ((a0.Aa.length : Int) > 40))) == false) (iV (IntKind.i64.wrap (a0.Ac.next - 1))))], [(64, Ah a0)], []⟩ (Bw (by kernel_rfl)) ⟨[], ⟨⟨.inl tv, (Jn (v := iV (IntKind.i64.wrap (a0.Ac.next - 1))) rfl (fun hg => (Ay ⟨(fun _ => hg), tv, tv⟩ rfl tv)) rfl)⟩, ⟨.inl tv, (Jn (v := iV a0.Ac.next) rfl (fun hg => (Ay ⟨(fun _ => hg), tv⟩ rfl (nl rfl))) rfl)⟩, ⟨.inl tv, (Jn (v := .ptr 64 1) rfl (fun hg => (Ay ⟨(fun _ => hg), tv⟩ rfl tv)) rfl)⟩, ⟨.inl tv, (Jn (v := .ptr 64 0) rfl (fun hg => (Ay ⟨tv, tv⟩ rfl tv)) rfl)⟩, tv⟩, tv, (Ci (Ga (r := .bool r5) rfl false (fun hg => H59 r3 1 (IntKind.i64.wrap (a0.Ac.next - 1)) r5 (ip hg e6)) ⟨(fun hg => hg), tv, (fun hg => hg), tv⟩ (fun _ => rfl) (fun _ => rfl) (fun _ => rfl) (fun h => nomatch h) (Jf ⟨[(1, .ptr 64 0), (15, .bool (bif (!r1) then true else (decide ((a0.Aa.length : Int) > 40)))), (23, .may ((bif (!r1) then true else (decide ((a0.Aa.length : Int) > 40))) == false) (.bool r5))], [(64, Ah a0)], []⟩ (Bw (by kernel_rfl)) ⟨[], tv, tv, (Ak tv (Da (u := .bool (!r5)) rfl (fun hg => (Ay ⟨(fun _ => hg), tv⟩ rfl tv)) (⟨tv, (Ak tv (Ey rfl rfl rfl tv (fun h => dG h) rfl (⟨tv, (Ak tv (Df rfl tv (⟨tv, (Ak tv (Da (u := .ptr 64 4) rfl (fun hg => (Ay ⟨tv, tv⟩ rfl tv)) (⟨tv, (Ak tv (Da (u := lI a0.Ae) rfl (fun hg => (Ay ⟨(fun _ => hg), tv⟩ rfl (nl rfl))) (⟨tv, (Ak tv (Da (u := iV (a0.Ae.length : Int)) rfl (fun hg => (Cn (e := eI) (l0 := a0.Ae) rfl rfl (fun _ => hg))) (⟨tv, (Ak tv (Da (u := .bool (decide ((a0.Ae.length : Int) > 80))) rfl (fun hg => (Ay ⟨(fun _ => hg), tv, tv⟩ rfl tv)) (⟨tv, (Ak tv (Ey rfl rfl rfl tv (fun h => dG h) rfl (⟨tv, (Ak tv (Df rfl tv (⟨tv, (Ak tv (Da (u := .ptr 64 4) rfl (fun hg => (Ay ⟨tv, tv⟩ rfl tv)) (⟨tv, (Ak tv (Da (u := lI a0.Ae) rfl (fun hg => (Ay ⟨(fun _ => hg), tv⟩ rfl (nl rfl))) (⟨tv, (Ak tv (Da (u := .ptr 64 0) rfl (fun hg => (Ay ⟨tv, tv⟩ rfl tv)) ?_))⟩)))⟩)))⟩)))⟩)))⟩)))⟩)))⟩)))⟩)))⟩)))⟩)))⟩)))⟩)) Bp)⟩)) Bp)⟩)))⟩))
 refine ⟨tv, (Ak tv (Da (u := .ptr 64 1) rfl (fun hg => (Ay ⟨(fun _ => hg), tv⟩ rfl tv)) (⟨tv, (Ak tv (Da (u := iV a0.Ac.next) rfl (fun hg => (Ay ⟨(fun _ => hg), tv⟩ rfl (nl rfl))) (⟨tv, (Ak tv (Da (u := iV (IntKind.i64.wrap (a0.Ac.next - 1))) rfl (fun hg => (Ay ⟨(fun _ => hg), tv, tv⟩ rfl tv)) (⟨tv, (Ci (Ga (r := .bool r7) rfl false (fun hg => H59 a0.Ae 1 (IntKind.i64.wrap (a0.Ac.next - 1)) r7 (ip hg e8)) ⟨(fun hg => hg), tv, (fun hg => hg), tv⟩ (fun _ => rfl) (fun _ => rfl) (fun _ => rfl) (fun h => nomatch h) (Jf ⟨[(1, .ptr 64 0), (32, .bool (bif (bif (bif (!r1) then true else (decide ((a0.Aa.length : Int) > 40))) then true else (!r5)) then true else (decide ((a0.Ae.length : Int) > 80)))), (39, .may ((bif (bif (bif (!r1) then true else (decide ((a0.Aa.length : Int) > 40))) then true else (!r5)) then true else (decide ((a0.Ae.length : Int) > 80))) == false) (.bool r7))], [(64, Ah a0)], []⟩ (Bw (by kernel_rfl)) ⟨[], tv, tv, (Ak tv (Da (u := .bool (!r7)) rfl (fun hg => (Ay ⟨(fun _ => hg), tv⟩ rfl tv)) (⟨tv, (Ak tv (Ey rfl rfl rfl tv (fun h => dG h) rfl (⟨tv, (Nt (bv h0 fun v9 e10 h0 => Dv ⟨[(1, .ptr 64 0), (41, .bool v9)], [(64, Ah a0)], []⟩ (Bw (by subst e10; kernel_rfl)) (Dm h0 (fun c11 h0 => ?_) (fun c11 h0 => ?_))))⟩)))⟩)))⟩)) Bp)⟩)))⟩)))⟩)))⟩
 ·obtain rfl := Option.some.inj h0
  exact Dr 4
 ·refine Bu 4 (Au (bb h0 fun r12 e13 h0 => Re (H96 a0 r12 e13) (o_ (Br 6 ⟨[(1, .ptr 64 0), (4, .bool r12.2)], [(64, Ah a0)], []⟩ (Bu 4 (Au (st (Da (u := .ptr 64 3) rfl (fun hg => (Ay ⟨tv, tv⟩ rfl tv)) (st (Da (u := Cw a0.Aa) rfl (fun hg => (Ay ⟨(fun _ => hg), tv⟩ rfl (nl rfl))) (bb h0 fun r14 e15 h0 => st (Ga (r := oI 0 r14) rfl false (fun hg => H95 a0.Aa r14 (ip hg e15)) ⟨(fun hg => hg), tv⟩ (fun _ => rfl) (fun _ => rfl) (fun _ => (Bs (Hr (fun _ => rfl)) rfl)) (fun h => nomatch h) (st (Da (u := .clo 98 [.ptr 64 0]) rfl (fun hg => (Ay ⟨tv, tv⟩ rfl rfl)) (bb h0 fun r16 e17 h0 => st (Ga (r := .bool r16) rfl false (fun hg => H97 r14 98 [.iptr (Ah a0)] (fun z98_0 => g98 z98_0 a0) (⟨fun _ _ _ _ _ => rfl, fun _ _ _ _ _ => rfl, rfl, fun _ _ _ n => by cases n <;> rfl, fun _ => rfl⟩) (fun z98_0 r h => H98 z98_0 a0 r h) r16 (ip hg e17)) ⟨(fun hg => hg), (fun hg => hg), tv⟩ (fun _ => rfl) (fun _ => rfl) (fun _ => rfl) (fun h => nomatch h) (st (Ey rfl rfl rfl (fun h => dH h) tv rfl (o_ ?_)))))))))))))))))))
  obtain rfl := Option.some.inj h0
  exact Dr 3

/- loop.example/g00149/impl.hex -/
def NS := [k_ 2 (.str [])]
def NT : List Ch := [⟨some 3, .nilS 1, none⟩]
def NU := [i_ 4 15]
def NV := [m_ 5 4, B_ .geq 6 5 0]
def NW : List Ch := [m_ 9 3, m_ 10 0, m_ 11 4, ⟨some 12, .p (.bin .mul (.c (iV 4)) (.t 11)), none⟩, b_ .shr 13 10 12, B_ .and 14 13 15, ⟨some 15, .p (.idxStr (.c (.str [48, 49, 50, 51, 52, 53, 54, 55, 56, 57, 97, 98, 99, 100, 101, 102])) (.t 14)), none⟩, ⟨some 16, .mkS 1 [(.int .u8 0)] 1 [(0, (.t 15))], none⟩, ⟨some 17, .app 1 1 (.t 9) (.t 16), none⟩, m_ 3 17]
def NX := [m_ 7 4, B_ .sub 8 7 1, m_ 4 8]
def NQ : IR := (.seq (.seq (.reg NV) (.ite (.t 6) .skip (.exit 0))) (.seq (.block 1 (.reg NW)) (.reg NX)))
def NY := [m_ 18 3, (iQ 19 (.toStr (.t 18))), m_ 2 19]
def NP : El := { np := 1, nt := 20, res := [.t 2], body := (.seq (.reg NS) (.seq (.reg NT) (.seq (.seq (.reg NU) (.block 0 (.loop NQ))) (.seq (.reg NY) .ret)))) }
def WX (D : Bc) : Prop := ∀ (a0 : Int) (r : (List UInt8)), eK a0 = some r → D 358 ⟨[iV a0], []⟩ ⟨.str r, [], []⟩
theorem F358 {C : Bc} : WX (fun _ => Cp C NP) := by
 intro a0 r h0
 refine Fe (nl rfl) (Br 12 ⟨[(0, iV a0), (3, .own 192 0 1 ([].map Wh)), (4, iV 15)], [], []⟩ (Cr (bb h0 fun r21 e22 h0 => Dt (R := (fun S => ∃ p15 : List UInt8, p15 = r21 ∧ S = ⟨[(3, oU8 192 p15)], [], []⟩)) (Pu a0) (fun s S => match s with | (p6, p7) => S = ⟨[(0, iV a0), (3, oU8 192 p6), (4, iV p7)], [], []⟩) e22 _ (Bw (by kernel_rfl)) rfl 0 (fun _ => rfl) ?_ ?_)))
 ·rintro S _ hfg ⟨p15, rfl, rfl⟩
  refine Dv _ hfg (Bz (Au (st (Df rfl tv (st (c_ (QN (s := p15) rfl rfl tv) (o_ ?_)))))))
  obtain rfl := Option.some.inj h0
  exact Dr 3
 ·rintro ⟨p6, p7⟩ o1 _ K1 rfl h1 hx1 hK1 hE1 hR1
  refine Br 5 ⟨[(0, iV a0), (3, oU8 192 p6), (4, iV p7), (6, .bool (decide (p7 ≥ 0)))], [], []⟩ (Dm h1 (fun c16 h1 => ?_) (fun c16 h1 => ?_))
  ·refine Bu 8 (Au (gg h1 fun c17 h1 => st (c_ (Ay ⟨tv, tv, tv⟩ rfl c17) (st (c_ (Ay t3 rfl tv) (bb h1 fun y18 e19 h1 => st (c_ (vL (y := y18) rfl rfl tv rfl rfl tv e19) (st (Ni ⟨tv, tv⟩ ⟨⟨nl rfl, rfl, rfl⟩, tv⟩ (gg h1 fun zX h1 => st (Hj (e := Wh) (l0 := p6) (l1 := ([y18] : List UInt8)) rfl rfl tv rfl (by decide) zX (o_ (Br 3 ⟨[(0, iV a0), (3, oU8 192 (p6 ++ ([y18] : List UInt8))), (4, iV p7)], [], []⟩ (Bu 4 ?_))))))))))))))
   obtain rfl := Option.some.inj h1
   exact hK1 _ rfl _ _ (Bw (by kernel_rfl)) rfl
  ·obtain rfl := Option.some.inj h1
   obtain rfl := hx1 _ rfl
   refine Nc rfl ?_
   exact hE1 _ _ (Bw (by kernel_rfl)) ⟨_, rfl, rfl⟩

/- loop.example/g00149/impl.either -/
def OA := [k_ 6 (.str [])]
def OB := [m_ 7 0]
def OC := [m_ 8 1, m_ 6 8]
def OD := [m_ 9 2, m_ 6 9]
def NZ : El := { np := 3, nt := 10, res := [.t 6], body := (.seq (.reg OA) (.seq (.seq (.reg OB) (.ite (.t 7) (.seq (.reg OC) .ret) .skip)) (.seq (.reg OD) .ret))) }
def WY (D : Bc) : Prop := ∀ (a0 : Bool) (a1 : List UInt8) (a2 : List UInt8) (r : (List UInt8)), pO a0 a1 a2 = some r → D 359 ⟨[.bool a0, .str a1, .str a2], []⟩ ⟨.str r, [], []⟩
theorem F359 {C : Bc} : WY (fun _ => Cp C NZ) := by
 intro a0 a1 a2 r h0
 refine Fe (nl rfl) (Br 8 ⟨[(1, .str a1), (2, .str a2), (7, .bool a0)], [], []⟩ (Dm h0 (fun c1 h0 => ?_) (fun c1 h0 => ?_)))
 ·obtain rfl := Option.some.inj h0
  exact Dr 5
 ·obtain rfl := Option.some.inj h0
  exact Dr 7

/- (loop.example/g00149/impl.Vault).pairs -/
def MD : List Ch := [X_ 1 0, ⟨some 2, .nilS 2, none⟩]
def ME : List Ch := [⟨some 3, .nilS 2, none⟩]
def MF := [f_ 8 1 3, l_ 9 8 1, n_ 10 9, i_ 11 0]
def MG := [b_ .lss 12 11 10]
def MH := [x_ 13 9 11 2, L_ 14 13 2, a_ 5 [(iV 0), (.bool false)], s_ 5 14 2]
def MI := tk [m_ 15 3, f_ 16 5 0, l_ 17 16 1, f_ 20 5 1, l_ 21 20 1] (.alt [l_ 21 20 1, f_ 20 5 1, m_ 15 3] (q_ 18 358 [(.t 17)]) (tk [⟨some 19, .p (.bin .add (.c (.str [105, 110, 116, 101, 110, 116, 47])) (.t 18)), none⟩] (.alt [⟨some 19, .p (.bin .add (.c (.str [105, 110, 116, 101, 110, 116, 47])) (.t 18)), none⟩, m_ 15 3] (q_ 22 359 [(.t 21), (.c (.str [117, 110, 100, 111])), (.c (.str [98, 101, 103, 117, 110]))]) (tk [⟨some 23, .p (.build [(.str []), (.str [])] [(0, 1, (.t 19)), (1, 1, (.t 22))]), none⟩] (.alt [m_ 15 3] ⟨some 24, .mkS 2 [(.str []), (.str [])] 1 [(0, (.t 23))], none⟩ (.alt [] ⟨some 25, .app 2 32 (.t 15) (.t 24), none⟩ (.alt [] (m_ 3 25) .fin .stop) .stop) .stop)) .stop)) .stop)
def MJ := [B_ .add 26 11 1, m_ 11 26]
def MB : IR := (.seq (.reg MG) (.seq (.ite (.t 12) .skip (.exit 0)) (.seq (.block 1 (.seq (.reg MH) (.draw MI))) (.reg MJ))))
def MK := [f_ 27 1 0, f_ 28 27 2, l_ 29 28 1, n_ 30 29, i_ 31 0]
def ML := [b_ .lss 32 31 30]
def MM := [x_ 33 29 31 4, L_ 34 33 4, a_ 7 [(iV 0), (iV 0), (iV 0), (.bool false)], s_ 7 34 4]
def uX := tk [m_ 35 3, f_ 36 7 0, l_ 37 36 1, f_ 40 7 1, l_ 41 40 1, f_ 43 7 2, l_ 44 43 1, f_ 47 7 3, l_ 48 47 1] (.alt [l_ 48 47 1, f_ 47 7 3, l_ 44 43 1, f_ 43 7 2, l_ 41 40 1, f_ 40 7 1, m_ 35 3] (q_ 38 358 [(.t 37)]) (tk [⟨some 39, .p (.bin .add (.c (.str [108, 101, 97, 115, 101, 47])) (.t 38)), none⟩] (.alt [⟨some 39, .p (.bin .add (.c (.str [108, 101, 97, 115, 101, 47])) (.t 38)), none⟩, l_ 48 47 1, f_ 47 7 3, l_ 44 43 1, f_ 43 7 2, m_ 35 3] (q_ 42 358 [(.t 41)]) (.alt [⟨some 39, .p (.bin .add (.c (.str [108, 101, 97, 115, 101, 47])) (.t 38)), none⟩, l_ 48 47 1, f_ 47 7 3, m_ 35 3] (q_ 45 358 [(.t 44)]) (tk [b_ .add 46 42 45] (.alt [b_ .add 46 42 45, ⟨some 39, .p (.bin .add (.c (.str [108, 101, 97, 115, 101, 47])) (.t 38)), none⟩, m_ 35 3] (q_ 49 359 [(.t 48), (.c (.str [113, 117, 101, 117, 101, 100])), (.c (.str [108, 105, 118, 101]))]) (tk [b_ .add 50 46 49, ⟨some 51, .p (.build [(.str []), (.str [])] [(0, 1, (.t 39)), (1, 1, (.t 50))]), none⟩] (.alt [m_ 35 3] ⟨some 52, .mkS 2 [(.str []), (.str [])] 1 [(0, (.t 51))], none⟩ (.alt [] ⟨some 53, .app 2 32 (.t 35) (.t 52), none⟩ (.alt [] (m_ 3 53) .fin .stop) .stop) .stop)) .stop)) .stop) .stop)) .stop)
def uY := [B_ .add 54 31 1, m_ 31 54]
def MC : IR := (.seq (.reg ML) (.seq (.ite (.t 32) .skip (.exit 2)) (.seq (.block 3 (.seq (.reg MM) (.draw uX))) (.reg uY))))
def uZ := tk [m_ 55 3, f_ 56 1 0, f_ 57 56 0, l_ 58 57 1, f_ 60 1 0, f_ 61 60 1, l_ 62 61 1, f_ 65 1 5, l_ 66 65 1] (.alt [l_ 66 65 1, f_ 65 1 5, l_ 62 61 1, f_ 61 60 1, f_ 60 1 0, m_ 55 3] (q_ 59 358 [(.t 58)]) (.alt [l_ 66 65 1, f_ 65 1 5, m_ 55 3] (q_ 63 358 [(.t 62)]) (tk [b_ .add 64 59 63] (.alt [b_ .add 64 59 63, m_ 55 3] (q_ 67 359 [(.t 66), (.c (.str [115, 101, 97, 108, 101, 100])), (.c (.str [111, 112, 101, 110]))]) (tk [b_ .add 68 64 67, ⟨some 69, .p (.build [(.str []), (.str [])] [(0, 1, (.c (.str [118, 97, 117, 108, 116]))), (1, 1, (.t 68))]), none⟩] (.alt [m_ 55 3] ⟨some 70, .mkS 2 [(.str []), (.str [])] 1 [(0, (.t 69))], none⟩ (.alt [] ⟨some 71, .app 2 32 (.t 55) (.t 70), none⟩ (tk [m_ 2 71] .fin) .stop) .stop)) .stop)) .stop) .stop)
def MA : El := { np := 1, nt := 72, res := [.t 2], body := (.seq (.reg MD) (.seq (.reg ME) (.seq (.seq (.reg MF) (.block 0 (.loop MB))) (.seq (.seq (.reg MK) (.block 2 (.loop MC))) (.seq (.draw uZ) .ret))))) }
def WS (D : Bc) : Prop := ∀ (a0 : Ag) (r : (List Bh)), SK a0 = some r → D 313 ⟨[.agg (Ah a0)], []⟩ ⟨Bf 0 r, [], []⟩
theorem F313 {C : Bc} (H358 : WX C) (H359 : WY C) : WS (fun _ => Cp C MA) := by
 intro a0 r h0
 refine Fe (nl rfl) (Br 8 ⟨[(1, .ptr 64 0), (3, .own 192 0 2 ([].map Cz))], [(64, Ah a0)], []⟩ (Bu 4 (Au (st (c_ (Cn (e := Bi) (l0 := a0.Aa) rfl rfl tv) (o_ (Br 2 ⟨[(1, .ptr 64 0), (3, .own 192 0 2 ([].map Cz)), (9, Cw a0.Aa), (10, iV (a0.Aa.length : Int)), (11, iV 0)], [(64, Ah a0)], []⟩ (Cr (bb h0 fun r39 e40 h0 => Dt (R := (fun S => ∃ p27 : List Bh, p27 = r39 ∧ S = ⟨[(1, .ptr 64 0), (3, Bf 192 p27)], [(64, Ah a0)], []⟩)) (Sq a0) (fun s S => match s with | (p12, p13) => S = ⟨[(1, .ptr 64 0), (3, Bf 192 p12), (9, Cw a0.Aa), (10, iV (a0.Aa.length : Int)), (11, iV p13)], [(64, Ah a0)], []⟩) e40 _ (Bw (by kernel_rfl)) rfl 0 (fun _ => rfl) ?_ ?_)))))))))
 ·rintro S _ hfg ⟨p27, rfl, rfl⟩
  refine Dv _ hfg (Bu 5 (Au (st (c_ (Cn (e := At) (l0 := a0.Ac.Ad) rfl rfl tv) (o_ (Br 2 ⟨[(1, .ptr 64 0), (3, Bf 192 p27), (29, Bl a0.Ac.Ad), (30, iV (a0.Ac.Ad.length : Int)), (31, iV 0)], [(64, Ah a0)], []⟩ (Cr (bb h0 fun r97 e98 h0 => Dt (R := (fun S => ∃ p79 : List Bh, p79 = r97 ∧ S = ⟨[(1, .ptr 64 0), (3, Bf 192 p79)], [(64, Ah a0)], []⟩)) (Sr a0) (fun s S => match s with | (p58, p59) => S = ⟨[(1, .ptr 64 0), (3, Bf 192 p58), (29, Bl a0.Ac.Ad), (30, iV (a0.Ac.Ad.length : Int)), (31, iV p59)], [(64, Ah a0)], []⟩) e98 _ (Bw (by kernel_rfl)) rfl 2 (fun _ => rfl) ?_ ?_))))))))
  ·rintro S _ hfg ⟨p79, rfl, rfl⟩
   refine Dv _ hfg (Bz ?_)
   obtain ⟨r99, e100, h0⟩ := bnd h0
   obtain ⟨r101, e102, h0⟩ := bnd h0
   obtain ⟨dB, h0⟩ := kS h0
   obtain ⟨r104, e105, h0⟩ := bnd h0
   obtain ⟨oN, h0⟩ := kS h0
   refine gg h0 fun c107 h0 => Bu 9 (Dh (Ci (Bv (r := .str r99) false (H358 a0.Ac.clock r99 e100) ⟨tv, tv⟩ rfl rfl (fun _ => rfl) (Jf ⟨[(1, .ptr 64 0), (3, Bf 192 p79), (55, Bf 192 p79), (59, .str r99), (60, .ptr 64 0), (61, .ptr 64 1), (62, iV a0.Ac.next), (65, .ptr 64 5), (66, .bool a0.Al)], [(64, Ah a0)], []⟩ (Bw (by kernel_rfl)) ⟨[], ⟨⟨.inl tv, (Ao (Ay ⟨tv, tv⟩ rfl (nl rfl)) rfl)⟩, ⟨.inl tv, (Ao (Ay ⟨tv, tv⟩ rfl tv) rfl)⟩, ⟨.inl tv, (Ao (Ay ⟨tv, tv⟩ rfl (nl rfl)) rfl)⟩, ⟨.inl tv, (Ao (Ay ⟨tv, tv⟩ rfl tv) rfl)⟩, ⟨.inl tv, (Ao (Ay ⟨tv, tv⟩ rfl tv) rfl)⟩, ⟨.inl tv, (Ao (Gs (v := Bf 192 p79) rfl tv) rfl)⟩, tv⟩, tv, (Ci (Bv (r := .str r101) false (H358 a0.Ac.next r101 e102) ⟨tv, tv⟩ rfl rfl (fun _ => rfl) (Jf ⟨[(1, .ptr 64 0), (3, Bf 192 p79), (55, Bf 192 p79), (59, .str r99), (63, .str r101), (65, .ptr 64 5), (66, .bool a0.Al)], [(64, Ah a0)], []⟩ (Bw (by kernel_rfl)) ⟨[], ⟨⟨.inl tv, (Ao (Ay ⟨tv, tv⟩ rfl (nl rfl)) rfl)⟩, ⟨.inl tv, (Ao (Ay ⟨tv, tv⟩ rfl tv) rfl)⟩, ⟨.inl tv, (Ao (Gs (v := Bf 192 p79) rfl tv) rfl)⟩, tv⟩, tv, (Ak tv (c_ (Ay ⟨tv, tv, tv⟩ rfl dB) (⟨tv, (Ci (Bv (r := .str r104) false (H359 a0.Al ([115, 101, 97, 108, 101, 100] : List UInt8) ([111, 112, 101, 110] : List UInt8) r104 e105) ⟨tv, tv, tv, tv⟩ rfl rfl (fun _ => rfl) (Jf ⟨[(3, Bf 192 p79), (55, Bf 192 p79), (59, .str r99), (63, .str r101), (64, .str (r99 ++ r101)), (67, .str r104)], [], []⟩ (Bw (by kernel_rfl)) ⟨[], ⟨⟨.inl tv, (Ao (Ay ⟨tv, tv, tv⟩ rfl dB) rfl)⟩, ⟨.inl tv, (Ao (Gs (v := Bf 192 p79) rfl tv) rfl)⟩, tv⟩, tv, (Ak tv (c_ (Ay ⟨tv, tv, tv⟩ rfl oN) (⟨tv, (Ak tv (c_ (v := .agg [.str ([118, 97, 117, 108, 116] : List UInt8), .str ((r99 ++ r101) ++ r104)]) (Ay ⟨tv, tv, tv⟩ rfl ⟨⟨rfl, rfl, nl rfl⟩, ⟨rfl, rfl, nl rfl⟩, tv⟩) (⟨tv, ?_⟩)))⟩)))⟩)) Bp)⟩)))⟩)) Bp)⟩)) Bp))
   refine Ci (Ni ⟨tv, tv⟩ ⟨⟨nl rfl, rfl, rfl⟩, tv⟩ (Jr ⟨[], ⟨⟨.inl tv, (Ao (Gs (v := Bf 192 p79) rfl tv) rfl)⟩, tv⟩, tv, (Ci (Hj (e := Cz) (l0 := p79) (l1 := ([(Bh.mk ([118, 97, 117, 108, 116] : List UInt8) ((r99 ++ r101) ++ r104))] : List Bh)) rfl rfl tv rfl (by decide) c107 (Jr ⟨[], tv, tv, (d_ (Bu 2 (bv h0 fun v108 e109 h0 => Dv ⟨[(2, Bf 192 v108)], [], []⟩ (Bw (by subst e109; kernel_rfl)) ?_)))⟩)) Bp)⟩)) Bp
   obtain rfl := Option.some.inj h0
   exact cL (Mb rfl rfl rfl rfl rfl tv)
  ·rintro ⟨p58, p59⟩ o1 _ K1 rfl h1 hx1 hK1 hE1 hR1
   refine Br 3 ⟨[(1, .ptr 64 0), (3, Bf 192 p58), (29, Bl a0.Ac.Ad), (30, iV (a0.Ac.Ad.length : Int)), (31, iV p59), (32, .bool (decide (p59 < (a0.Ac.Ad.length : Int))))], [(64, Ah a0)], []⟩ (Bz (Dm h1 (fun c80 h1 => ?_) (fun c80 h1 => ?_)))
   ·refine Uv 5 (Au (bb h1 fun y81 e82 h1 => st (c_ (Cj (e := At) (y := y81) rfl rfl tv rfl rfl tv e82) (o_ (Br 4 ⟨[(1, .ptr 64 0), (3, Bf 192 p58), (7, .ptr 448 0), (29, Bl a0.Ac.Ad), (30, iV (a0.Ac.Ad.length : Int)), (31, iV p59)], [(64, Ah a0), (448, At y81)], []⟩ ?_)))))
    obtain ⟨r83, e84, h1⟩ := bnd h1
    obtain ⟨QB, h1⟩ := kS h1
    obtain ⟨r86, e87, h1⟩ := bnd h1
    obtain ⟨r88, e89, h1⟩ := bnd h1
    obtain ⟨c90, h1⟩ := kS h1
    obtain ⟨r91, e92, h1⟩ := bnd h1
    obtain ⟨c93, h1⟩ := kS h1
    refine gg h1 fun c94 h1 => Bu 9 (Dh (Ci (Bv (r := .str r83) false (H358 y81.id r83 e84) ⟨tv, tv⟩ rfl rfl (fun _ => rfl) (Jf ⟨[(1, .ptr 64 0), (3, Bf 192 p58), (7, .ptr 448 0), (29, Bl a0.Ac.Ad), (30, iV (a0.Ac.Ad.length : Int)), (31, iV p59), (35, Bf 192 p58), (38, .str r83), (40, .ptr 448 1), (41, iV y81.Be), (43, .ptr 448 2), (44, iV y81.cap), (47, .ptr 448 3), (48, .bool y81.Bt)], [(64, Ah a0), (448, At y81)], []⟩ (Bw (by kernel_rfl)) ⟨[], ⟨⟨.inl tv, (Ao (Ay ⟨tv, tv⟩ rfl (nl rfl)) rfl)⟩, ⟨.inl tv, (Ao (Ay ⟨tv, tv⟩ rfl tv) rfl)⟩, ⟨.inl tv, (Ao (Ay ⟨tv, tv⟩ rfl (nl rfl)) rfl)⟩, ⟨.inl tv, (Ao (Ay ⟨tv, tv⟩ rfl tv) rfl)⟩, ⟨.inl tv, (Ao (Ay ⟨tv, tv⟩ rfl (nl rfl)) rfl)⟩, ⟨.inl tv, (Ao (Ay ⟨tv, tv⟩ rfl tv) rfl)⟩, ⟨.inl tv, (Ao (Gs (v := Bf 192 p58) rfl tv) rfl)⟩, tv⟩, tv, (Ak tv (c_ (Ay ⟨tv, tv, tv⟩ rfl QB) (⟨tv, (Ci (Bv (r := .str r86) false (H358 y81.Be r86 e87) ⟨tv, tv⟩ rfl rfl (fun _ => rfl) (Jf ⟨[(1, .ptr 64 0), (3, Bf 192 p58), (7, .ptr 448 0), (29, Bl a0.Ac.Ad), (30, iV (a0.Ac.Ad.length : Int)), (31, iV p59), (35, Bf 192 p58), (38, .str r83), (39, .str (([108, 101, 97, 115, 101, 47] : List UInt8) ++ r83)), (42, .str r86), (43, .ptr 448 2), (44, iV y81.cap), (47, .ptr 448 3), (48, .bool y81.Bt)], [(64, Ah a0), (448, At y81)], []⟩ (Bw (by kernel_rfl)) ⟨[], ⟨⟨.inl tv, (Ao (Ay ⟨tv, tv, tv⟩ rfl QB) rfl)⟩, ⟨.inl tv, (Ao (Ay ⟨tv, tv⟩ rfl (nl rfl)) rfl)⟩, ⟨.inl tv, (Ao (Ay ⟨tv, tv⟩ rfl tv) rfl)⟩, ⟨.inl tv, (Ao (Ay ⟨tv, tv⟩ rfl (nl rfl)) rfl)⟩, ⟨.inl tv, (Ao (Ay ⟨tv, tv⟩ rfl tv) rfl)⟩, ⟨.inl tv, (Ao (Gs (v := Bf 192 p58) rfl tv) rfl)⟩, tv⟩, tv, (Ci (Bv (r := .str r88) false (H358 y81.cap r88 e89) ⟨tv, tv⟩ rfl rfl (fun _ => rfl) (Jf ⟨[(1, .ptr 64 0), (3, Bf 192 p58), (7, .ptr 448 0), (29, Bl a0.Ac.Ad), (30, iV (a0.Ac.Ad.length : Int)), (31, iV p59), (35, Bf 192 p58), (38, .str r83), (39, .str (([108, 101, 97, 115, 101, 47] : List UInt8) ++ r83)), (42, .str r86), (45, .str r88), (47, .ptr 448 3), (48, .bool y81.Bt)], [(64, Ah a0), (448, At y81)], []⟩ (Bw (by kernel_rfl)) ⟨[], ⟨⟨.inl tv, (Ao (Ay ⟨tv, tv, tv⟩ rfl QB) rfl)⟩, ⟨.inl tv, (Ao (Ay ⟨tv, tv⟩ rfl (nl rfl)) rfl)⟩, ⟨.inl tv, (Ao (Ay ⟨tv, tv⟩ rfl tv) rfl)⟩, ⟨.inl tv, (Ao (Gs (v := Bf 192 p58) rfl tv) rfl)⟩, tv⟩, tv, (Ak tv (c_ (Ay ⟨tv, tv, tv⟩ rfl c90) (⟨tv, (Ci (Bv (r := .str r91) false (H359 y81.Bt ([113, 117, 101, 117, 101, 100] : List UInt8) ([108, 105, 118, 101] : List UInt8) r91 e92) ⟨tv, tv, tv, tv⟩ rfl rfl (fun _ => rfl) (Jf ⟨[(1, .ptr 64 0), (3, Bf 192 p58), (29, Bl a0.Ac.Ad), (30, iV (a0.Ac.Ad.length : Int)), (31, iV p59), (35, Bf 192 p58), (38, .str r83), (39, .str (([108, 101, 97, 115, 101, 47] : List UInt8) ++ r83)), (42, .str r86), (45, .str r88), (46, .str (r86 ++ r88)), (49, .str r91)], [(64, Ah a0)], []⟩ (Bw (by kernel_rfl)) ⟨[], ⟨⟨.inl tv, (Ao (Ay ⟨tv, tv, tv⟩ rfl c90) rfl)⟩, ⟨.inl tv, (Ao (Ay ⟨tv, tv, tv⟩ rfl QB) rfl)⟩, ⟨.inl tv, (Ao (Gs (v := Bf 192 p58) rfl tv) rfl)⟩, tv⟩, tv, ?_⟩)) Bp)⟩)))⟩)) Bp)⟩)) Bp)⟩)))⟩)) Bp))
    refine Ak tv (c_ (Ay ⟨tv, tv, tv⟩ rfl c93) (⟨tv, (Ak tv (c_ (v := .agg [.str (([108, 101, 97, 115, 101, 47] : List UInt8) ++ r83), .str ((r86 ++ r88) ++ r91)]) (Ay ⟨tv, tv, tv⟩ rfl ⟨⟨rfl, rfl, nl rfl⟩, ⟨rfl, rfl, nl rfl⟩, tv⟩) (⟨tv, (Ci (Ni ⟨tv, tv⟩ ⟨⟨nl rfl, rfl, rfl⟩, tv⟩ (Jr ⟨[], ⟨⟨.inl tv, (Ao (Gs (v := Bf 192 p58) rfl tv) rfl)⟩, tv⟩, tv, (Ci (Hj (e := Cz) (l0 := p58) (l1 := ([(Bh.mk (([108, 101, 97, 115, 101, 47] : List UInt8) ++ r83) ((r86 ++ r88) ++ r91))] : List Bh)) rfl rfl tv rfl (by decide) c94 (Jr ⟨[], tv, tv, (Ci (Df rfl tv (Jr ⟨[], tv, tv, (Nt (aR (bv h1 fun v95 e96 h1 => Dv ⟨[(1, .ptr 64 0), (3, Bf 192 v95), (29, Bl a0.Ac.Ad), (30, iV (a0.Ac.Ad.length : Int)), (31, iV p59)], [(64, Ah a0)], []⟩ (Bw (by subst e96; kernel_rfl)) (Bu 3 ?_))))⟩)) Bp)⟩)) Bp)⟩)) Bp)⟩)))⟩))
    obtain rfl := Option.some.inj h1
    exact hK1 _ rfl _ _ (Bw (by kernel_rfl)) rfl
   ·obtain rfl := Option.some.inj h1
    obtain rfl := hx1 _ rfl
    refine Nc rfl ?_
    exact hE1 _ _ (Bw (by kernel_rfl)) ⟨_, rfl, rfl⟩
 ·rintro ⟨p12, p13⟩ o1 _ K1 rfl h1 hx1 hK1 hE1 hR1
  refine Br 3 ⟨[(1, .ptr 64 0), (3, Bf 192 p12), (9, Cw a0.Aa), (10, iV (a0.Aa.length : Int)), (11, iV p13), (12, .bool (decide (p13 < (a0.Aa.length : Int))))], [(64, Ah a0)], []⟩ (Bz (Dm h1 (fun c28 h1 => ?_) (fun c28 h1 => ?_)))
  ·refine Uv 5 (Au (bb h1 fun y29 e30 h1 => st (c_ (Cj (e := Bi) (y := y29) rfl rfl tv rfl rfl tv e30) (o_ (Br 4 ⟨[(1, .ptr 64 0), (3, Bf 192 p12), (5, .ptr 320 0), (9, Cw a0.Aa), (10, iV (a0.Aa.length : Int)), (11, iV p13)], [(64, Ah a0), (320, Bi y29)], []⟩ ?_)))))
   obtain ⟨r31, e32, h1⟩ := bnd h1
   obtain ⟨c33, h1⟩ := kS h1
   obtain ⟨r34, e35, h1⟩ := bnd h1
   refine gg h1 fun c36 h1 => Bu 5 (Dh (Ci (Bv (r := .str r31) false (H358 y29.Av r31 e32) ⟨tv, tv⟩ rfl rfl (fun _ => rfl) (Jf ⟨[(1, .ptr 64 0), (3, Bf 192 p12), (5, .ptr 320 0), (9, Cw a0.Aa), (10, iV (a0.Aa.length : Int)), (11, iV p13), (15, Bf 192 p12), (18, .str r31), (20, .ptr 320 1), (21, .bool y29.Hl)], [(64, Ah a0), (320, Bi y29)], []⟩ (Bw (by kernel_rfl)) ⟨[], ⟨⟨.inl tv, (Ao (Ay ⟨tv, tv⟩ rfl (nl rfl)) rfl)⟩, ⟨.inl tv, (Ao (Ay ⟨tv, tv⟩ rfl tv) rfl)⟩, ⟨.inl tv, (Ao (Gs (v := Bf 192 p12) rfl tv) rfl)⟩, tv⟩, tv, (Ak tv (c_ (Ay ⟨tv, tv, tv⟩ rfl c33) (⟨tv, (Ci (Bv (r := .str r34) false (H359 y29.Hl ([117, 110, 100, 111] : List UInt8) ([98, 101, 103, 117, 110] : List UInt8) r34 e35) ⟨tv, tv, tv, tv⟩ rfl rfl (fun _ => rfl) (Jf ⟨[(1, .ptr 64 0), (3, Bf 192 p12), (9, Cw a0.Aa), (10, iV (a0.Aa.length : Int)), (11, iV p13), (15, Bf 192 p12), (18, .str r31), (19, .str (([105, 110, 116, 101, 110, 116, 47] : List UInt8) ++ r31)), (22, .str r34)], [(64, Ah a0)], []⟩ (Bw (by kernel_rfl)) ⟨[], ⟨⟨.inl tv, (Ao (Ay ⟨tv, tv, tv⟩ rfl c33) rfl)⟩, ⟨.inl tv, (Ao (Gs (v := Bf 192 p12) rfl tv) rfl)⟩, tv⟩, tv, (Ak tv (c_ (v := .agg [.str (([105, 110, 116, 101, 110, 116, 47] : List UInt8) ++ r31), .str r34]) (Ay ⟨tv, tv, tv⟩ rfl ⟨⟨rfl, rfl, nl rfl⟩, ⟨rfl, rfl, nl rfl⟩, tv⟩) (⟨tv, (Ci (Ni ⟨tv, tv⟩ ⟨⟨nl rfl, rfl, rfl⟩, tv⟩ (Jr ⟨[], ⟨⟨.inl tv, (Ao (Gs (v := Bf 192 p12) rfl tv) rfl)⟩, tv⟩, tv, (Ci (Hj (e := Cz) (l0 := p12) (l1 := ([(Bh.mk (([105, 110, 116, 101, 110, 116, 47] : List UInt8) ++ r31) r34)] : List Bh)) rfl rfl tv rfl (by decide) c36 (Jr ⟨[], tv, tv, (Ci (Df rfl tv (Jr ⟨[], tv, tv, (Nt (aR (bv h1 fun v37 e38 h1 => Dv ⟨[(1, .ptr 64 0), (3, Bf 192 v37), (9, Cw a0.Aa), (10, iV (a0.Aa.length : Int)), (11, iV p13)], [(64, Ah a0)], []⟩ (Bw (by subst e38; kernel_rfl)) (Bu 3 ?_))))⟩)) Bp)⟩)) Bp)⟩)) Bp)⟩)))⟩)) Bp)⟩)))⟩)) Bp))
   obtain rfl := Option.some.inj h1
   exact hK1 _ rfl _ _ (Bw (by kernel_rfl)) rfl
  ·obtain rfl := Option.some.inj h1
   obtain rfl := hx1 _ rfl
   refine Nc rfl ?_
   exact hE1 _ _ (Bw (by kernel_rfl)) ⟨_, rfl, rfl⟩

/- loop.example/g00149/impl.VaultPairs -/
def KC : List Ch := [X_ 1 0, ⟨some 2, .nilS 2, none⟩, i_ 3 0]
def KD := [L_ 4 1 6, q_ 5 48 [(.t 4)], N_ 6 5]
def KE : List Ch := [⟨some 2, .nilS 2, none⟩, i_ 3 1]
def KF := [L_ 7 1 6, q_ 8 313 [(.t 7)], m_ 2 8, i_ 3 0]
def KB : El := { np := 1, nt := 9, res := [.t 2, .t 3], body := (.seq (.reg KC) (.seq (.seq (.reg KD) (.ite (.t 6) (.seq (.reg KE) .ret) .skip)) (.seq (.reg KF) .ret))) }
def WN (D : Bc) : Prop := ∀ (a0 : Ag) (r : (List Bh) × Int), SG a0 = some r → D 250 ⟨[.agg (Ah a0)], []⟩ ⟨.tup [Bf 0 r.1, iV r.2], [], []⟩
theorem F250 {C : Bc} (H48 : K48 C) (H313 : WS C) : WN (fun _ => Cp C KB) := by
 intro a0 r h0
 refine Fe (nl rfl) (Br 5 ⟨[(1, .ptr 64 0)], [(64, Ah a0)], []⟩ (Bu 3 (Au (bb h0 fun r1 e2 h0 => Re (H48 a0 r1 e2) (o_ (Br 2 ⟨[(1, .ptr 64 0), (6, .bool (!r1))], [(64, Ah a0)], []⟩ (Dm h0 (fun c3 h0 => ?_) (fun c3 h0 => ?_))))))))
 ·obtain rfl := Option.some.inj h0
  exact Dr 5
 ·refine Bu 4 (Au (bb h0 fun r4 e5 h0 => dE (H313 a0 r4 e5) (Bs (Hr (fun _ => rfl)) rfl) (o_ ?_)))
  obtain rfl := Option.some.inj h0
  exact Dr 4

/- loop.example/g00149/impl.isList[int] -/
def Acb := [k_ 2 (.bool false)]
def Acc := [m_ 3 0, n_ 4 3, B_ .leq 5 4 4096, m_ 2 5]
def c87 : El := { np := 1, nt := 6, res := [.t 2], body := (.seq (.reg Acb) (.seq (.reg Acc) .ret)) }
def K87 (D : Bc) : Prop := ∀ (a0 : List Int) (r : Bool), g87 a0 = some r → D 87 ⟨[lI a0], []⟩ ⟨.bool r, [], []⟩
theorem F87 {C : Bc} : K87 (fun _ => Cp C c87) := by
 intro a0 r h0
 refine Fe (nl rfl) (Br 3 ⟨[(0, lI a0)], [], []⟩ (Bz (Au (st (Df rfl tv (st (c_ (Cn (e := eI) (l0 := a0) rfl rfl tv) (o_ ?_))))))))
 obtain rfl := Option.some.inj h0
 exact Dr 4

/- slices.Clone[[]int,int] -/
def EC : List Ch := [⟨some 2, .nilS 1, none⟩]
def ED : List Ch := [m_ 3 0, ⟨some 4, .isnil (.t 3) false, none⟩]
def EE : List Ch := [⟨some 2, .nilS 1, none⟩]
def EF : List Ch := [⟨some 5, .mkS 1 [(iV 0)] 0 [], none⟩, m_ 6 0, ⟨some 7, .app 1 8 (.t 5) (.t 6), none⟩, m_ 2 7]
def oR : El := { np := 1, nt := 8, res := [.t 2], body := (.seq (.reg EC) (.seq (.seq (.reg ED) (.ite (.t 4) (.seq (.reg EE) .ret) .skip)) (.seq (.reg EF) .ret))) }
def VX (D : Bc) : Prop := ∀ (a0 : List Int) (r : List Int), aT a0 = some r → D 120 ⟨[lI a0], []⟩ ⟨oI 0 r, [], []⟩
theorem F120 {C : Bc} : VX (fun _ => Cp C oR) := by
 intro a0 r h0
 refine Fe (nl rfl) ?_
 obtain ⟨hc, h0⟩ := kS h0
 obtain rfl := Option.some.inj h0
 refine Bz (Au (st (nP (Kj (Dv ⟨[(0, lI a0)], [], []⟩ (fg ⟨rfl, tv⟩ tv) (Bu 3 (Au (st (isnilL (e := eI) (l0 := a0) rfl fun b hb => (Kj (qU (xA (cb := b) rfl (fun h => ?_) (fun h => ?_)))))))))))))
 ·obtain rfl := hb h
  refine Bz (Au (st (nP (Kj (qU ?_)))))
  refine cL (Mb rfl rfl rfl rfl rfl tv)
 ·refine Nj ?_
  refine Dv ⟨[(0, lI a0)], [], []⟩ (fg ⟨rfl, tv⟩ tv) (Bu 3 (Au (st (Hj (e := eI) (l0 := ([] : List Int)) (l1 := a0) rfl rfl tv rfl (by decide) ?_ ?_))))
  rotate_left
  refine st (Df rfl tv (Kj (qU ?_)))
  refine cL (Mb rfl rfl rfl rfl rfl tv)
  have := Nat.mul_le_mul_right 8 hc
  exact Nat.le_trans this (by decide)

/- loop.example/g00149/impl.isList[loop.example/g00149/impl.Pair] -/
def MO := [k_ 2 (.bool false)]
def MP := [m_ 3 0, n_ 4 3, B_ .leq 5 4 4096, m_ 2 5]
def MN : El := { np := 1, nt := 6, res := [.t 2], body := (.seq (.reg MO) (.seq (.reg MP) .ret)) }
def WT (D : Bc) : Prop := ∀ (a0 : List Bh) (r : Bool), Ado a0 = some r → D 321 ⟨[Co a0], []⟩ ⟨.bool r, [], []⟩
theorem F321 {C : Bc} : WT (fun _ => Cp C MN) := by
 intro a0 r h0
 refine Fe (nl rfl) (Br 3 ⟨[(0, Co a0)], [], []⟩ (Bz (Au (st (Df rfl tv (st (c_ (Cn (e := Cz) (l0 := a0) rfl rfl tv) (o_ ?_))))))))
 obtain rfl := Option.some.inj h0
 exact Dr 4

/- loop.example/g00149/impl.isKey -/
def OF := [k_ 2 (.bool false)]
def OG := [m_ 3 0, (iQ 4 (.lenS (.t 3))), q_ 5 63 [(.t 4), (.c (iV 1)), (.c (iV 60))], m_ 2 5]
def OE : El := { np := 1, nt := 6, res := [.t 2], body := (.seq (.reg OF) (.seq (.reg OG) .ret)) }
def WZ (D : Bc) : Prop := ∀ (a0 : List UInt8) (r : Bool), SO a0 = some r → D 362 ⟨[.str a0], []⟩ ⟨.bool r, [], []⟩
theorem F362 {C : Bc} (H63 : K63 C) : WZ (fun _ => Cp C OE) := by
 intro a0 r h0
 refine Fe (nl rfl) (Br 3 ⟨[(0, .str a0)], [], []⟩ (Bu 3 (Au (bb h0 fun r1 e2 h0 => Re (H63 (a0.length : Int) 1 60 r1 e2) (o_ ?_)))))
 obtain rfl := Option.some.inj h0
 exact Dr 3

/- loop.example/g00149/impl.isStore -/
def MS := [k_ 2 (.bool false)]
def MT := [m_ 5 0, n_ 6 5, i_ 7 0]
def MU := [b_ .lss 8 7 6]
def MV := [m_ 9 7, x_ 10 5 7 2, L_ 11 10 2, a_ 4 [(.str []), (.str [])], m_ 3 9, s_ 4 11 2]
def MW := tk [f_ 12 4 0, l_ 13 12 1] (.alt [] (q_ 14 362 [(.t 13)]) (tk [N_ 15 14, m_ 16 15, pF 16 17 (.fieldA (.t 4) 1), pF 16 18 (.load (.t 17) 1 false), pF 16 19 (.lenS (.t 18)), pF 16 20 (.bin .gtr (.t 19) (.c (iV 400))), pk 21 (.t 16) (.c (.bool true)) (.t 20), m_ 22 21, pF 22 23 (.mv (.t 3)), pF 22 24 (.bin .gtr (.t 23) (.c (iV 0))), pF 22 25 (.mv (.t 24)), pT 25 26 (.mv (.t 0)), pT 25 27 (.mv (.t 3)), pT 25 28 (.bin .sub (.t 27) (.c (iV 1))), pT 25 29 (.idxA (.t 26) (.t 28) 2), pT 25 30 (.fieldA (.t 29) 0), pT 25 31 (.load (.t 30) 1 false), pT 25 32 (.fieldA (.t 4) 0), pT 25 33 (.load (.t 32) 1 false), pT 25 34 (.bin .geq (.t 31) (.t 33)), ⟨some 35, .pick (.t 25) (.t 34) (.c (.bool false)), some (22, false)⟩, pk 36 (.t 22) (.c (.bool true)) (.t 35)] .fin) .stop)
def MX := [k_ 2 (.bool false)]
def MY := [B_ .add 37 7 1, m_ 7 37]
def MR : IR := (.seq (.reg MU) (.seq (.ite (.t 8) .skip (.exit 0)) (.seq (.block 1 (.seq (.reg MV) (.seq (.draw MW) (.ite (.t 36) (.seq (.reg MX) .ret) .skip)))) (.reg MY))))
def MZ := [m_ 38 0, n_ 39 38, B_ .leq 40 39 100, m_ 2 40]
def MQ : El := { np := 1, nt := 41, res := [.t 2], body := (.seq (.reg MS) (.seq (.seq (.reg MT) (.block 0 (.loop MR))) (.seq (.reg MZ) .ret))) }
def WU (D : Bc) : Prop := ∀ (a0 : List Bh) (r : Bool), SM a0 = some r → D 322 ⟨[Co a0], []⟩ ⟨.bool r, [], []⟩
theorem F322 {C : Bc} (H362 : WZ C) : WU (fun _ => Cp C MQ) := by
 intro a0 r h0
 refine Fe (nl rfl) (Br 3 ⟨[(0, Co a0)], [], []⟩ (Bu 3 (Au (st (c_ (Cn (e := Cz) (l0 := a0) rfl rfl tv) (o_ (Br 2 ⟨[(0, Co a0), (5, Co a0), (6, iV (a0.length : Int)), (7, iV 0)], [], []⟩ (Cr (bb h0 fun r33 e34 h0 => Dt (R := (fun S => .inl () = r33 ∧ S = ⟨[(0, Co a0)], [], []⟩)) (Pt a0) (fun s S => match s with | p11 => S = ⟨[(0, Co a0), (5, Co a0), (6, iV (a0.length : Int)), (7, iV p11)], [], []⟩) e34 _ (Bw (by kernel_rfl)) rfl 0 (fun _ => rfl) ?_ ?_)))))))))
 ·rintro S _ hfg ⟨rfl, rfl⟩
  refine Dv _ hfg (Bz (Au (st (Df rfl tv (st (c_ (Cn (e := Cz) (l0 := a0) rfl rfl tv) (o_ ?_)))))))
  obtain rfl := Option.some.inj h0
  exact Dr 4
 ·rintro p11 o1 _ K1 rfl h1 hx1 hK1 hE1 hR1
  refine Br 3 ⟨[(0, Co a0), (5, Co a0), (6, iV (a0.length : Int)), (7, iV p11), (8, .bool (decide (p11 < (a0.length : Int))))], [], []⟩ (Bz (Dm h1 (fun c23 h1 => ?_) (fun c23 h1 => ?_)))
  ·refine Bu 6 (Au (bb h1 fun y24 e25 h1 => st (c_ (Cj (e := Cz) (y := y24) rfl rfl tv rfl rfl tv e25) (o_ (Br 5 ⟨[(0, Co a0), (3, iV p11), (4, .ptr 256 0), (5, Co a0), (6, iV (a0.length : Int)), (7, iV p11)], [(256, Cz y24)], []⟩ (Bz ?_))))))
   obtain ⟨r26, e27, h1⟩ := bnd h1
   refine bb h1 fun y28 e29 h1 => Bu 2 (Dh (Ci (Bv (r := .bool r26) false (H362 y24.key r26 e27) ⟨tv, tv⟩ rfl rfl (fun _ => rfl) (Jf ⟨[(0, Co a0), (3, iV p11), (4, .ptr 256 0), (5, Co a0), (6, iV (a0.length : Int)), (7, iV p11), (14, .bool r26)], [(256, Cz y24)], []⟩ (Bw (by kernel_rfl)) ⟨[], tv, tv, (d_ (Bu 2 (Dh (Ak tv (Da (u := .ptr 256 1) rfl (fun hg => (Ay ⟨tv, tv⟩ rfl tv)) (⟨tv, (Ak tv (Da (u := .str y24.value) rfl (fun hg => (Ay ⟨(fun _ => hg), tv⟩ rfl (nl rfl))) (⟨tv, (Ak tv (Da (u := iV (y24.value.length : Int)) rfl (fun hg => (Ay ⟨(fun _ => hg), tv⟩ rfl tv)) (⟨tv, (Ak tv (Da (u := .bool (decide ((y24.value.length : Int) > 400))) rfl (fun hg => (Ay ⟨(fun _ => hg), tv, tv⟩ rfl tv)) (⟨tv, (Ak tv (Ey rfl rfl rfl tv (fun h => dG h) rfl (⟨tv, (Ak tv (Df rfl tv (⟨tv, (Ak tv (Da (u := iV p11) rfl (fun hg => (Gs (v := iV p11) rfl tv)) (⟨tv, (Ak tv (Da (u := .bool (decide (p11 > 0))) rfl (fun hg => (Ay ⟨(fun _ => hg), tv, tv⟩ rfl tv)) (⟨tv, (Ak tv (Da (u := .bool (decide (p11 > 0))) rfl (fun hg => (Gs (v := .may ((bif (!r26) then true else (decide ((y24.value.length : Int) > 400))) == false) (.bool (decide (p11 > 0)))) rfl (fun _ => hg))) (⟨tv, (Ak tv (Da (u := Co a0) rfl (fun hg => (Gs (v := Co a0) rfl tv)) (⟨tv, ?_⟩)))⟩)))⟩)))⟩)))⟩)))⟩)))⟩)))⟩)))⟩)))⟩))))))⟩)) Bp))
   refine Ak tv (Da (u := iV p11) rfl (fun hg => (Gs (v := iV p11) rfl tv)) (⟨tv, (Ak tv (Da (u := iV (IntKind.i64.wrap (p11 - 1))) rfl (fun hg => (Ay ⟨(fun _ => hg), tv, tv⟩ rfl tv)) (⟨tv, (Ak tv (Da (u := .iptr (Cz y28)) rfl (fun hg => (Cj (e := Cz) (y := y28) rfl rfl (fun _ => hg) rfl rfl (fun _ => hg) (ip hg e29))) (⟨tv, (Ak tv (Da (u := .iptr (Cz y28)) rfl (fun hg => (Ay ⟨(fun _ => hg), tv⟩ rfl (nl rfl))) (⟨tv, (Ak tv (Da (u := .str y28.key) rfl (fun hg => (Ay ⟨(fun _ => hg), tv⟩ rfl (nl rfl))) (⟨tv, (Ak tv (Da (u := .ptr 256 0) rfl (fun hg => (Ay ⟨tv, tv⟩ rfl tv)) (⟨tv, (Ak tv (Da (u := .str y24.key) rfl (fun hg => (Ay ⟨(fun _ => hg), tv⟩ rfl (nl rfl))) (⟨tv, (Ak tv (Da (u := .bool (!(Op.bytesLess y28.key y24.key))) rfl (fun hg => (Ay ⟨(fun _ => hg), (fun _ => hg), tv⟩ rfl tv)) (⟨tv, (Ak tv (Ke (u := .bool (bif (decide (p11 > 0)) then (!(Op.bytesLess y28.key y24.key)) else false)) rfl (fun hg => Qm rfl rfl (fun _ => hg) rfl rfl (fun h => Bs hg (dH h)) tv rfl) (⟨tv, (Ak tv (Ey rfl rfl rfl tv (fun h => dG h) rfl (⟨tv, (Nt (bv h1 fun v30 e31 h1 => Dv ⟨[(0, Co a0), (5, Co a0), (6, iV (a0.length : Int)), (7, iV p11), (36, .bool v30)], [], []⟩ (Bw (by subst e31; kernel_rfl)) (Dm h1 (fun c32 h1 => ?_) (fun c32 h1 => ?_))))⟩)))⟩)))⟩)))⟩)))⟩)))⟩)))⟩)))⟩)))⟩)))⟩))
   ·obtain rfl := Option.some.inj h1
    obtain rfl := hx1 _ rfl
    obtain rfl := Option.some.inj h0
    exact aN 4 hR1
   ·refine Bu 6 ?_
    obtain rfl := Option.some.inj h1
    exact hK1 _ rfl _ _ (Bw (by kernel_rfl)) rfl
  ·obtain rfl := Option.some.inj h1
   obtain rfl := hx1 _ rfl
   refine Nc rfl ?_
   exact hE1 _ _ (Bw (by kernel_rfl)) ⟨rfl, rfl⟩

/- internal/stringslite.HasPrefix -/
def PL := [k_ 4 (.bool false)]
def PM := [m_ 5 0, (iQ 6 (.lenS (.t 5))), m_ 7 1, (iQ 8 (.lenS (.t 7))), b_ .geq 9 6 8, m_ 10 9, pT 10 11 (.mv (.t 0)), pT 10 12 (.mv (.t 1)), pT 10 13 (.lenS (.t 12)), pT 10 14 (.sliceStr (.t 11) none (some (.t 13))), pT 10 15 (.mv (.t 1)), pT 10 16 (.bin .eql (.t 14) (.t 15)), pk 17 (.t 10) (.t 16) (.c (.bool false)), m_ 4 17]
def PK : El := { np := 2, nt := 18, res := [.t 4], body := (.seq (.reg PL) (.seq (.reg PM) .ret)) }
def XF (D : Bc) : Prop := ∀ (a0 : List UInt8) (a1 : List UInt8) (r : Bool), SR a0 a1 = some r → D 375 ⟨[.str a0, .str a1], []⟩ ⟨.bool r, [], []⟩
theorem F375 {C : Bc} : XF (fun _ => Cp C PK) := by
 intro a0 a1 r h0
 refine Fe (nl rfl) (Br 3 ⟨[(0, .str a0), (1, .str a1)], [], []⟩ (Lh 10 (Au (bb h0 fun s1 e2 h0 => st (Da (u := .str s1) rfl (fun hg => (Wg (y := s1) rfl rfl (fun _ => hg) ⟨(fun _ => hg), tv⟩ rfl rfl (ip hg e2))) (o_ (Lh 5 (bv h0 fun v3 e4 h0 => Dv ⟨[(4, .bool v3)], [], []⟩ (Bw (by subst e4; kernel_rfl)) ?_))))))))
 obtain rfl := Option.some.inj h0
 exact cL (Mb rfl rfl rfl rfl rfl tv)

/- internal/stringslite.CutPrefix -/
def PG := [k_ 4 (.str []), k_ 5 (.bool false)]
def PH := [m_ 6 0, m_ 7 1, q_ 8 375 [(.t 6), (.t 7)], N_ 9 8]
def PI := [m_ 10 0, m_ 4 10, k_ 5 (.bool false)]
def PJ : List Ch := [m_ 11 0, m_ 12 1, (iQ 13 (.lenS (.t 12))), ⟨some 14, .p (.sliceStr (.t 11) (some (.t 13)) none), none⟩, m_ 4 14, k_ 5 (.bool true)]
def PF : El := { np := 2, nt := 15, res := [.t 4, .t 5], body := (.seq (.reg PG) (.seq (.seq (.reg PH) (.ite (.t 9) (.seq (.reg PI) .ret) .skip)) (.seq (.reg PJ) .ret))) }
def XE (D : Bc) : Prop := ∀ (a0 : List UInt8) (a1 : List UInt8) (r : (List UInt8) × Bool), SQ a0 a1 = some r → D 372 ⟨[.str a0, .str a1], []⟩ ⟨.tup [.str r.1, .bool r.2], [], []⟩
theorem F372 {C : Bc} (H375 : XF C) : XE (fun _ => Cp C PF) := by
 intro a0 a1 r h0
 refine Fe (nl rfl) (Br 4 ⟨[(0, .str a0), (1, .str a1)], [], []⟩ (Bu 4 (Au (bb h0 fun r1 e2 h0 => Re (H375 a0 a1 r1 e2) (o_ (Br 2 ⟨[(0, .str a0), (1, .str a1), (9, .bool (!r1))], [], []⟩ (Dm h0 (fun c3 h0 => ?_) (fun c3 h0 => ?_))))))))
 ·obtain rfl := Option.some.inj h0
  exact Dr 6
 ·refine Bu 6 (Au (bb h0 fun s4 e5 h0 => st (c_ (Wg (y := s4) rfl rfl tv ⟨tv, tv⟩ rfl rfl e5) (o_ ?_))))
  obtain rfl := Option.some.inj h0
  exact Dr 4

/- strings.CutPrefix -/
def OI := [k_ 4 (.str []), k_ 5 (.bool false)]
def OJ := [m_ 6 0, m_ 7 1, q_ 8 372 [(.t 6), (.t 7)], e_ 9 8 0, e_ 10 8 1, m_ 4 9, m_ 5 10]
def OH : El := { np := 2, nt := 11, res := [.t 4, .t 5], body := (.seq (.reg OI) (.seq (.reg OJ) .ret)) }
def XA (D : Bc) : Prop := ∀ (a0 : List UInt8) (a1 : List UInt8) (r : (List UInt8) × Bool), Vz a0 a1 = some r → D 363 ⟨[.str a0, .str a1], []⟩ ⟨.tup [.str r.1, .bool r.2], [], []⟩
theorem F363 {C : Bc} (H372 : XE C) : XA (fun _ => Cp C OH) := by
 intro a0 a1 r h0
 refine Fe (nl rfl) (Br 4 ⟨[(0, .str a0), (1, .str a1)], [], []⟩ (Bu 3 (Au (bb h0 fun r1 e2 h0 => Re (H372 a0 a1 r1 e2) (o_ ?_)))))
 obtain rfl := Option.some.inj h0
 exact Dr 6

/- internal/stringslite.IndexByte -/
def PD := [i_ 4 0]
def PE := [m_ 5 0, m_ 6 1, (iQ 7 (.xbyte (.t 5) (.t 6))), m_ 4 7]
def PC : El := { np := 2, nt := 8, res := [.t 4], body := (.seq (.reg PD) (.seq (.reg PE) .ret)) }
def XD (D : Bc) : Prop := ∀ (a0 : List UInt8) (a1 : UInt8) (r : Int), Adp a0 a1 = some r → D 370 ⟨[.str a0, .int .u8 ((a1).toNat : Int)], []⟩ ⟨iV r, [], []⟩
theorem F370 {C : Bc} : XD (fun _ => Cp C PC) := by
 intro a0 a1 r h0
 refine Fe (nl rfl) (Br 3 ⟨[(0, .str a0), (1, .int .u8 ((a1).toNat : Int))], [], []⟩ (Bu 3 (Au (st (c_ (AcV rfl rfl tv rfl rfl tv) (o_ ?_))))))
 obtain rfl := Option.some.inj h0
 exact Dr 3

/- strings.IndexByte -/
def NN := [i_ 4 0]
def NO := [m_ 5 0, m_ 6 1, q_ 7 370 [(.t 5), (.t 6)], m_ 4 7]
def NM : El := { np := 2, nt := 8, res := [.t 4], body := (.seq (.reg NN) (.seq (.reg NO) .ret)) }
def WW (D : Bc) : Prop := ∀ (a0 : List UInt8) (a1 : UInt8) (r : Int), SN a0 a1 = some r → D 341 ⟨[.str a0, .int .u8 ((a1).toNat : Int)], []⟩ ⟨iV r, [], []⟩
theorem F341 {C : Bc} (H370 : XD C) : WW (fun _ => Cp C NM) := by
 intro a0 a1 r h0
 refine Fe (nl rfl) (Br 3 ⟨[(0, .str a0), (1, .int .u8 ((a1).toNat : Int))], [], []⟩ (Bu 3 (Au (bb h0 fun r1 e2 h0 => Re (H370 a0 a1 r1 e2) (o_ ?_)))))
 obtain rfl := Option.some.inj h0
 exact Dr 3

/- loop.example/g00149/impl.readHex -/
def ON := [i_ 2 0, k_ 3 (.str []), k_ 4 (.bool false)]
def OO := [m_ 9 0, (iQ 10 (.lenS (.t 9))), B_ .lss 11 10 16, m_ 12 11, pF 12 13 (.mv (.t 0)), pF 12 14 (.idxStr (.t 13) (.c (iV 0))), pF 12 15 (.bin .gtr (.t 14) (.c (.int .u8 55))), pk 16 (.t 12) (.c (.bool true)) (.t 15)]
def OP := [i_ 2 0, k_ 3 (.str []), k_ 4 (.bool false)]
def OQ := [i_ 5 0]
def OR : List Ch := [m_ 17 0, ⟨some 18, .p (.sliceStr (.t 17) none (some (.c (iV 16)))), none⟩, ⟨some 19, .toBytes (.t 18), none⟩, n_ 20 19, i_ 21 0]
def OS := [b_ .lss 22 21 20]
def OT := [x_ 23 19 21 1, l_ 24 23 1, m_ 7 24]
def OU := [m_ 25 7, q_ 26 341 [(.c (.str [48, 49, 50, 51, 52, 53, 54, 55, 56, 57, 97, 98, 99, 100, 101, 102])), (.t 25)], m_ 8 26]
def OV := [m_ 27 8, B_ .lss 28 27 0]
def OW := [i_ 2 0, k_ 3 (.str []), k_ 4 (.bool false)]
def vF : List Ch := [m_ 29 5, ⟨some 30, .p (.bin .shl (.t 29) (.c (.int .u64 4))), none⟩, m_ 31 8, b_ .or 32 30 31, m_ 5 32]
def vG := [B_ .add 33 21 1, m_ 21 33]
def OM : IR := (.seq (.reg OS) (.seq (.ite (.t 22) .skip (.exit 0)) (.seq (.block 1 (.seq (.reg OT) (.seq (.reg OU) (.seq (.seq (.reg OV) (.ite (.t 28) (.seq (.reg OW) .ret) .skip)) (.reg vF))))) (.reg vG))))
def vH := tk [m_ 34 5, m_ 35 0, ⟨some 36, .p (.sliceStr (.t 35) (some (.c (iV 16))) none), none⟩, m_ 2 34, m_ 3 36, k_ 4 (.bool true)] .fin
def OK : El := { np := 1, nt := 37, res := [.t 2, .t 3, .t 4], body := (.seq (.reg ON) (.seq (.seq (.reg OO) (.ite (.t 16) (.seq (.reg OP) .ret) .skip)) (.seq (.reg OQ) (.seq (.seq (.reg OR) (.block 0 (.loop OM))) (.seq (.draw vH) .ret))))) }
def AF (D : Bc) : Prop := ∀ (a0 : List UInt8) (r : Int × (List UInt8) × Bool), aV a0 = some r → D 364 ⟨[.str a0], []⟩ ⟨.tup [iV r.1, .str r.2.1, .bool r.2.2], [], []⟩
theorem F364 {C : Bc} (H341 : WW C) : AF (fun _ => Cp C OK) := by
 intro a0 r h0
 refine Fe (nl rfl) (Br 5 ⟨[(0, .str a0)], [], []⟩ (Lh 7 (Au (bb h0 fun y1 e2 h0 => st (Da (u := .int .u8 ((y1).toNat : Int)) rfl (fun hg => (vL (y := y1) rfl rfl (fun _ => hg) rfl rfl tv (ip hg e2))) (o_ (Lh 3 (bv h0 fun v3 e4 h0 => Dv ⟨[(0, .str a0), (16, .bool v3)], [], []⟩ (Bw (by subst e4; kernel_rfl)) (Dm h0 (fun c5 h0 => ?_) (fun c5 h0 => ?_))))))))))
 ·obtain rfl := Option.some.inj h0
  exact Dr 6
 ·refine Br 5 ⟨[(0, .str a0), (5, iV 0)], [], []⟩ (Bu 3 (Au (bb h0 fun s6 e7 h0 => st (c_ (Wg (y := s6) rfl rfl tv ⟨tv, tv⟩ rfl rfl e7) (st (zA rfl (st (c_ (Cn (e := Wh) (l0 := s6) rfl rfl tv) (o_ (Br 2 ⟨[(0, .str a0), (5, iV 0), (19, pV s6), (20, iV (s6.length : Int)), (21, iV 0)], [], []⟩ (Cr (bb h0 fun r31 e32 h0 => Dt (R := (fun S => ∃ p24 : Int, .inl p24 = r31 ∧ S = ⟨[(0, .str a0), (5, iV p24)], [], []⟩)) (Hs s6) (fun s S => match s with | (p14, p15) => S = ⟨[(0, .str a0), (5, iV p14), (19, pV s6), (20, iV (s6.length : Int)), (21, iV p15)], [], []⟩) e32 _ (Bw (by kernel_rfl)) rfl 0 (fun _ => rfl) ?_ ?_))))))))))))
  ·rintro S _ hfg ⟨p24, rfl, rfl⟩
   refine Dv _ hfg (Bz (bb h0 fun s33 e34 h0 => Bu 2 (Dh (Ak tv (c_ (Wg (y := s33) rfl rfl tv ⟨tv, tv⟩ rfl rfl e34) (⟨tv, (d_ ?_)⟩))))))
   obtain rfl := Option.some.inj h0
   exact Dr 5
  ·rintro ⟨p14, p15⟩ o1 _ K1 rfl h1 hx1 hK1 hE1 hR1
   refine Br 3 ⟨[(0, .str a0), (5, iV p14), (19, pV s6), (20, iV (s6.length : Int)), (21, iV p15), (22, .bool (decide (p15 < (s6.length : Int))))], [], []⟩ (Bz (Dm h1 (fun c25 h1 => ?_) (fun c25 h1 => ?_)))
   ·refine Uv 5 (Au (bb h1 fun y26 e27 h1 => st (c_ (Cj (e := Wh) (y := y26) rfl rfl tv rfl rfl tv e27) (o_ (Br 3 ⟨[(0, .str a0), (5, iV p14), (7, .int .u8 ((y26).toNat : Int)), (19, pV s6), (20, iV (s6.length : Int)), (21, iV p15)], [], []⟩ (Bz (Au (st (Df rfl tv (bb h1 fun r28 e29 h1 => Re (H341 ([48, 49, 50, 51, 52, 53, 54, 55, 56, 57, 97, 98, 99, 100, 101, 102] : List UInt8) y26 r28 e29) (o_ (Br 8 ⟨[(0, .str a0), (5, iV p14), (8, iV r28), (19, pV s6), (20, iV (s6.length : Int)), (21, iV p15), (28, .bool (decide (r28 < 0)))], [], []⟩ (Dm h1 (fun c30 h1 => ?_) (fun c30 h1 => ?_))))))))))))))
    ·obtain rfl := Option.some.inj h1
     obtain rfl := hx1 _ rfl
     obtain rfl := Option.some.inj h0
     exact aN 6 hR1
    ·refine Bu 3 (Au (st (c_ (Ay ⟨tv, tv, tv⟩ rfl (by decide)) (o_ (Br 5 ⟨[(0, .str a0), (5, iV (ior .i64 (Ut .i64 p14 4) r28)), (19, pV s6), (20, iV (s6.length : Int)), (21, iV p15)], [], []⟩ (Bu 3 ?_))))))
     obtain rfl := Option.some.inj h1
     exact hK1 _ rfl _ _ (Bw (by kernel_rfl)) rfl
   ·obtain rfl := Option.some.inj h1
    obtain rfl := hx1 _ rfl
    refine Nc rfl ?_
    exact hE1 _ _ (Bw (by kernel_rfl)) ⟨_, rfl, rfl⟩

/- loop.example/g00149/impl.readTwo -/
def OY := [i_ 6 0, i_ 7 0, k_ 8 (.bool false), k_ 9 (.bool false)]
def OZ := [m_ 17 0, q_ 18 364 [(.t 17)], m_ 16 18, e_ 19 16 0, e_ 20 16 1, e_ 21 16 2, m_ 10 19, m_ 11 20, m_ 12 21]
def PA := [m_ 23 11, q_ 24 364 [(.t 23)], m_ 22 24, e_ 25 22 0, e_ 26 22 1, e_ 27 22 2, m_ 13 25, m_ 14 26, m_ 15 27]
def PB : List Ch := [m_ 28 10, m_ 29 13, m_ 30 14, m_ 31 1, b_ .eql 32 30 31, m_ 33 12, m_ 34 33, pT 34 35 (.mv (.t 15)), pk 36 (.t 34) (.t 35) (.c (.bool false)), m_ 37 36, pT 37 38 (.mv (.t 14)), pT 37 39 (.mv (.t 1)), pT 37 40 (.bin .eql (.t 38) (.t 39)), pT 37 41 (.mv (.t 40)), pF 41 42 (.mv (.t 14)), pF 41 43 (.mv (.t 2)), pF 41 44 (.bin .eql (.t 42) (.t 43)), ⟨some 45, .pick (.t 41) (.c (.bool true)) (.t 44), some (37, true)⟩, pk 46 (.t 37) (.t 45) (.c (.bool false)), m_ 6 28, m_ 7 29, m_ 8 32, m_ 9 46]
def OX : El := { np := 3, nt := 47, res := [.t 6, .t 7, .t 8, .t 9], body := (.seq (.reg OY) (.seq (.reg OZ) (.seq (.reg PA) (.seq (.reg PB) .ret)))) }
def XC (D : Bc) : Prop := ∀ (a0 : List UInt8) (a1 : List UInt8) (a2 : List UInt8) (r : Int × Int × Bool × Bool), gR a0 a1 a2 = some r → D 365 ⟨[.str a0, .str a1, .str a2], []⟩ ⟨.tup [iV r.1, iV r.2.1, .bool r.2.2.1, .bool r.2.2.2], [], []⟩
theorem F365 {C : Bc} (H364 : AF C) : XC (fun _ => Cp C OX) := by
 intro a0 a1 a2 r h0
 refine Fe (nl rfl) (Br 6 ⟨[(0, .str a0), (1, .str a1), (2, .str a2)], [], []⟩ (Bz (Au (st (Df rfl tv (bb h0 fun r1 e2 h0 => Re (H364 a0 r1 e2) (o_ (Br 8 ⟨[(1, .str a1), (2, .str a2), (10, iV r1.1), (11, .str r1.2.1), (12, .bool r1.2.2)], [], []⟩ (Bz (Au (st (Df rfl tv (bb h0 fun r3 e4 h0 => Re (H364 r1.2.1 r3 e4) (o_ (Br 8 ⟨[(1, .str a1), (2, .str a2), (10, iV r1.1), (12, .bool r1.2.2), (13, iV r3.1), (14, .str r3.2.1), (15, .bool r3.2.2)], [], []⟩ (Lh 18 (Au (st (Ke (u := .bool (bif (r3.2.1 == a1) then true else (r3.2.1 == a2))) rfl (fun hg => Qm rfl rfl (fun _ => hg) rfl rfl tv (fun h => Bs hg (dG h)) rfl) (st (Ey rfl rfl rfl (fun h => dH h) tv rfl ?_)))))))))))))))))))))
 refine o_ (Bu 5 (bv h0 fun v5 e6 h0 => Dv ⟨[(6, iV r1.1), (7, iV r3.1), (8, .bool (r3.2.1 == a1)), (9, .bool v5)], [], []⟩ (Bw (by subst e6; kernel_rfl)) ?_))
 obtain rfl := Option.some.inj h0
 exact cL (Mb rfl rfl rfl rfl rfl tv)

/- (*loop.example/g00149/impl.Vault).take -/
def NC := [X_ 3 1, k_ 4 (.bool false)]
def ND := [f_ 24 3 0, l_ 25 24 1, q_ 26 363 [(.t 25), (.c (.str [105, 110, 116, 101, 110, 116, 47]))], m_ 23 26, e_ 27 23 0, e_ 28 23 1, m_ 5 27, m_ 6 28]
def NE := [m_ 29 6]
def NF := [m_ 31 5, q_ 32 364 [(.t 31)], m_ 30 32, e_ 33 30 0, e_ 34 30 1, e_ 35 30 2, m_ 7 33, m_ 8 34, m_ 9 35]
def NG := tk [m_ 36 0, m_ 37 0, (iQ 38 (.nilc (.t 37))), f_ 39 38 3, l_ 40 39 1, m_ 41 7, f_ 42 3 1, l_ 43 42 1, ⟨some 44, .p (.bin .eql (.t 43) (.c (.str [117, 110, 100, 111]))), none⟩, ⟨some 45, .p (.build [(iV 0), (.bool false)] [(0, 1, (.t 41)), (1, 1, (.t 44))]), none⟩] (.alt [l_ 40 39 1, f_ 39 38 3, (iQ 38 (.nilc (.t 37))), m_ 37 0, m_ 36 0] ⟨some 46, .mkS 2 [(iV 0), (.bool false)] 1 [(0, (.t 45))], none⟩ (.alt [m_ 36 0] ⟨some 47, .app 2 16 (.t 40) (.t 46), none⟩ (tk [(iQ 48 (.nilc (.t 36))), f_ 49 48 3] (.alt [] (s_ 49 47 1) .fin .stop)) .stop) .stop)
def NH : List Ch := [m_ 50 9, m_ 51 50, pT 51 52 (.mv (.t 8)), pT 51 53 (.bin .eql (.t 52) (.c (.str []))), pk 54 (.t 51) (.t 53) (.c (.bool false)), m_ 55 54, pT 55 56 (.fieldA (.t 3) 1), pT 55 57 (.load (.t 56) 1 false), pT 55 58 (.bin .eql (.t 57) (.c (.str [117, 110, 100, 111]))), pT 55 59 (.mv (.t 58)), pF 59 60 (.fieldA (.t 3) 1), pF 59 61 (.load (.t 60) 1 false), pF 59 62 (.bin .eql (.t 61) (.c (.str [98, 101, 103, 117, 110]))), ⟨some 63, .pick (.t 59) (.c (.bool true)) (.t 62), some (55, true)⟩, pk 64 (.t 55) (.t 63) (.c (.bool false)), m_ 4 64]
def NI := [f_ 66 3 0, l_ 67 66 1, q_ 68 363 [(.t 67), (.c (.str [108, 101, 97, 115, 101, 47]))], m_ 65 68, e_ 69 65 0, e_ 70 65 1, m_ 10 69, m_ 11 70]
def NJ := [m_ 71 11]
def NK := [m_ 73 10, q_ 74 364 [(.t 73)], m_ 72 74, e_ 75 72 0, e_ 76 72 1, e_ 77 72 2, m_ 12 75, m_ 13 76, m_ 14 77]
def NL := [f_ 79 3 1, l_ 80 79 1, q_ 81 365 [(.t 80), (.c (.str [113, 117, 101, 117, 101, 100])), (.c (.str [108, 105, 118, 101]))], m_ 78 81, e_ 82 78 0, e_ 83 78 1, e_ 84 78 2, e_ 85 78 3, m_ 15 82, m_ 16 83, m_ 17 84, m_ 18 85]
def vA : List Ch := [m_ 86 0, m_ 87 0, (iQ 88 (.nilc (.t 87))), f_ 89 88 0, f_ 90 89 2, l_ 91 90 1, m_ 92 12, m_ 93 15, m_ 94 16, m_ 95 17, ⟨some 96, .p (.build [(iV 0), (iV 0), (iV 0), (.bool false)] [(0, 1, (.t 92)), (1, 1, (.t 93)), (2, 1, (.t 94)), (3, 1, (.t 95))]), none⟩, ⟨some 97, .mkS 4 [(iV 0), (iV 0), (iV 0), (.bool false)] 1 [(0, (.t 96))], none⟩, ⟨some 98, .app 4 32 (.t 91) (.t 97), none⟩, (iQ 99 (.nilc (.t 86))), f_ 100 99 0, f_ 101 100 2, s_ 101 98 1]
def vB := [m_ 102 14, m_ 103 102, pT 103 104 (.mv (.t 13)), pT 103 105 (.bin .eql (.t 104) (.c (.str []))), pk 106 (.t 103) (.t 105) (.c (.bool false)), m_ 107 106, pT 107 108 (.mv (.t 18)), pk 109 (.t 107) (.t 108) (.c (.bool false)), m_ 4 109]
def vC := [f_ 111 3 1, l_ 112 111 1, q_ 113 365 [(.t 112), (.c (.str [115, 101, 97, 108, 101, 100])), (.c (.str [111, 112, 101, 110]))], m_ 110 113, e_ 114 110 0, e_ 115 110 1, e_ 116 110 2, e_ 117 110 3, m_ 19 114, m_ 20 115, m_ 21 116, m_ 22 117]
def vD := [m_ 118 0, m_ 119 0, m_ 120 0, m_ 121 19, m_ 122 20, m_ 123 21, (iQ 124 (.nilc (.t 118))), f_ 125 124 0, f_ 126 125 0, s_ 126 121 1, (iQ 127 (.nilc (.t 119))), f_ 128 127 0, f_ 129 128 1, s_ 129 122 1, (iQ 130 (.nilc (.t 120))), f_ 131 130 5, s_ 131 123 1]
def vE : List Ch := [f_ 132 3 0, l_ 133 132 1, ⟨some 134, .p (.bin .eql (.t 133) (.c (.str [118, 97, 117, 108, 116]))), none⟩, m_ 135 134, pT 135 136 (.mv (.t 22)), pk 137 (.t 135) (.t 136) (.c (.bool false)), m_ 4 137]
def NA : El := { np := 2, nt := 138, res := [.t 4], body := (.seq (.reg NC) (.seq (.seq (.reg ND) (.seq (.reg NE) (.ite (.t 29) (.seq (.reg NF) (.seq (.draw NG) (.seq (.reg NH) .ret))) .skip))) (.seq (.seq (.reg NI) (.seq (.reg NJ) (.ite (.t 71) (.seq (.reg NK) (.seq (.reg NL) (.seq (.reg vA) (.seq (.reg vB) .ret)))) .skip))) (.seq (.reg vC) (.seq (.reg vD) (.seq (.reg vE) .ret)))))) }
def WV (D : Bc) : Prop := ∀ (a0 : Ag) (a1 : Bh) (r : Bool × Ag), aU a0 a1 = some r → D 323 ⟨[.ptr 1048576 0, .agg (Cz a1)], [(By a0 (An 1024000) (An 1024001) (An 1024002))]⟩ ⟨.bool r.1, [(By r.2 (An 0) (An 1) (An 2))], []⟩
theorem F323 {C : Bc} (H363 : XA C) (H364 : AF C) (H365 : XC C) : WV (fun _ => Cp C NA) := by
 intro a0 a1 r h0
 refine Fe (nl rfl) (Br 4 ⟨[(0, .ptr 1048576 0), (3, .ptr 192 0)], [(192, Cz a1), (1048576, By a0 (An 1024000) (An 1024001) (An 1024002))], []⟩ (Bz (Bz (Au (st (c_ (Ay ⟨tv, tv⟩ rfl tv) (st (c_ (Ay ⟨tv, tv⟩ rfl (nl rfl)) (bb h0 fun r1 e2 h0 => st (Bv (r := .tup [.str r1.1, .bool r1.2]) false (H363 a1.key ([105, 110, 116, 101, 110, 116, 47] : List UInt8) r1 e2) ⟨tv, tv, tv⟩ rfl rfl (fun _ => rfl) (o_ (Br 10 ⟨[(0, .ptr 1048576 0), (3, .ptr 192 0), (5, .str r1.1), (29, .bool r1.2)], [(192, Cz a1), (1048576, By a0 (An 1024000) (An 1024001) (An 1024002))], []⟩ (Dm h0 (fun c3 h0 => ?_) (fun c3 h0 => ?_))))))))))))))
 ·refine Bz (Au (st (Df rfl tv (bb h0 fun r4 e5 h0 => st (Bv (r := .tup [iV r4.1, .str r4.2.1, .bool r4.2.2]) false (H364 r1.1 r4 e5) ⟨tv, tv⟩ rfl rfl (fun _ => rfl) (o_ (Br 8 ⟨[(0, .ptr 1048576 0), (3, .ptr 192 0), (7, iV r4.1), (8, .str r4.2.1), (9, .bool r4.2.2)], [(192, Cz a1), (1048576, By a0 (An 1024000) (An 1024001) (An 1024002))], []⟩ (Bz (gg h0 fun c6 h0 => Dh (Ak tv (Df rfl tv (⟨tv, (Ak tv (Df rfl tv (⟨tv, (Ak tv (c_ (Ay ⟨tv, tv⟩ rfl tv) (⟨tv, (Ak tv (c_ (Ay ⟨tv, tv⟩ rfl tv) (⟨tv, (Ak tv (c_ (Ay ⟨tv, tv⟩ rfl (nl rfl)) (⟨tv, (Ak tv (Df rfl tv (⟨tv, (Ak tv (c_ (Ay ⟨tv, tv⟩ rfl tv) (⟨tv, (Ak tv (c_ (Ay ⟨tv, tv⟩ rfl (nl rfl)) (⟨tv, (Ak tv (c_ (Ay t3 rfl tv) (⟨tv, (Ak tv (c_ (v := .agg [iV r4.1, .bool (a1.value == ([117, 110, 100, 111] : List UInt8))]) (Ay ⟨tv, tv, tv⟩ rfl ⟨⟨rfl, rfl, nl rfl⟩, ⟨rfl, rfl, nl rfl⟩, tv⟩) (⟨tv, (Ci (Ni ⟨tv, tv⟩ ⟨⟨nl rfl, rfl, rfl⟩, tv⟩ (Jr ⟨[], ⟨⟨.inl tv, (Ao (Ay ⟨tv, tv⟩ rfl (nl rfl)) rfl)⟩, ⟨.inl tv, (Ao (Ay ⟨tv, tv⟩ rfl tv) rfl)⟩, ⟨.inl tv, (Ao (Ay ⟨tv, tv⟩ rfl tv) rfl)⟩, ⟨.inl tv, (Ao (Gs (v := .ptr 1048576 0) rfl tv) rfl)⟩, ⟨.inl tv, (Ao (Gs (v := .ptr 1048576 0) rfl tv) rfl)⟩, tv⟩, tv, (Ci (Hj (e := Bi) (l0 := a0.Aa) (l1 := ([(Af.mk r4.1 (a1.value == ([117, 110, 100, 111] : List UInt8)))] : List Af)) rfl rfl tv rfl (by decide) c6 (Jf ⟨[(0, .ptr 1048576 0), (3, .ptr 192 0), (8, .str r4.2.1), (9, .bool r4.2.2), (36, .ptr 1048576 0), (47, .own 1024001 0 2 ((a0.Aa ++ ([(Af.mk r4.1 (a1.value == ([117, 110, 100, 111] : List UInt8)))] : List Af)).map Bi))], [(192, Cz a1), (1048576, [iV a0.Ac.clock, iV a0.Ac.next, Es 1024000 a0.Ac.Ad, .undef, oI 1024002 a0.Ae, .bool a0.Al])], []⟩ (Bw (by kernel_rfl)) ⟨[], ⟨⟨.inl tv, (Ao (Gs (v := .ptr 1048576 0) rfl tv) rfl)⟩, tv⟩, tv, (Ak tv (c_ (Ay ⟨tv, tv⟩ rfl tv) (⟨tv, (Ak tv (c_ (Ay ⟨tv, tv⟩ rfl tv) (⟨tv, (Ci (Ia rfl rfl tv rfl rfl rfl (nl rfl) (Jr ⟨[], tv, tv, ?_⟩)) Bp)⟩)))⟩)))⟩)) Bp)⟩)) Bp)⟩)))⟩)))⟩)))⟩)))⟩)))⟩)))⟩)))⟩)))⟩)))⟩))))))))))))
  refine Nt (bv h0 fun v7 e8 h0 => Dv ⟨[(3, .ptr 192 0), (8, .str r4.2.1), (9, .bool r4.2.2)], [(192, Cz a1), (1048576, (Aj a0.Ac.clock a0.Ac.next (An 1024000) a0.Ac.Ad (An 1024001) v7 (An 1024002) a0.Ae a0.Al))], []⟩ (Bw (by subst e8; kernel_rfl)) (Bz (Au (st (Df rfl tv (st (Df rfl tv (st (Da (u := .str r4.2.1) rfl (fun hg => (Gs (v := .str r4.2.1) rfl tv)) (st (Da (u := .bool (r4.2.1 == ([] : List UInt8))) rfl (fun hg => (Ay ⟨(fun _ => hg), tv, tv⟩ rfl tv)) (st (Ey rfl rfl rfl (fun h => dH h) tv rfl (st (Df rfl tv (st (Da (u := .ptr 192 1) rfl (fun hg => (Ay ⟨tv, tv⟩ rfl tv)) (st (Da (u := .str a1.value) rfl (fun hg => (Ay ⟨(fun _ => hg), tv⟩ rfl (nl rfl))) (st (Da (u := .bool (a1.value == ([117, 110, 100, 111] : List UInt8))) rfl (fun hg => (Ay ⟨(fun _ => hg), tv, tv⟩ rfl tv)) (st (Da (u := .bool (a1.value == ([117, 110, 100, 111] : List UInt8))) rfl (fun hg => (Gs (v := .may ((bif r4.2.2 then (r4.2.1 == ([] : List UInt8)) else false) == true) (.bool (a1.value == ([117, 110, 100, 111] : List UInt8)))) rfl (fun _ => hg))) (st (Da (u := .ptr 192 1) rfl (fun hg => (Ay ⟨tv, tv⟩ rfl tv)) (st (Da (u := .str a1.value) rfl (fun hg => (Ay ⟨(fun _ => hg), tv⟩ rfl (nl rfl))) (st (Da (u := .bool (a1.value == ([98, 101, 103, 117, 110] : List UInt8))) rfl (fun hg => (Ay ⟨(fun _ => hg), tv, tv⟩ rfl tv)) (st (Ke (u := .bool (bif (a1.value == ([117, 110, 100, 111] : List UInt8)) then true else (a1.value == ([98, 101, 103, 117, 110] : List UInt8)))) rfl (fun hg => Qm rfl rfl (fun _ => hg) rfl rfl tv (fun h => Bs hg (dG h)) rfl) (st (Ey rfl rfl rfl (fun h => dH h) tv rfl (sw ⟨[(64, .bool (bif (bif r4.2.2 then (r4.2.1 == ([] : List UInt8)) else false) then (bif (a1.value == ([117, 110, 100, 111] : List UInt8)) then true else (a1.value == ([98, 101, 103, 117, 110] : List UInt8))) else false))], [(1048576, (Aj a0.Ac.clock a0.Ac.next (An 1024000) a0.Ac.Ad (An 1024001) v7 (An 1024002) a0.Ae a0.Al))], []⟩ (Bw (by kernel_rfl)) (Df rfl tv (Kj (bv h0 fun v9 e10 h0 => Dv ⟨[(4, .bool v9)], [(1048576, (Aj a0.Ac.clock a0.Ac.next (An 1024000) a0.Ac.Ad (An 1024001) v7 (An 1024002) a0.Ae a0.Al))], []⟩ (Bw (by subst e10; kernel_rfl)) ?_)))))))))))))))))))))))))))))))))))))
  obtain rfl := Option.some.inj h0
  exact cL (Mb rfl rfl rfl rfl rfl tv)
 ·refine Nj (qU (Bz (Bz (Au (st (c_ (Ay ⟨tv, tv⟩ rfl tv) (st (c_ (Ay ⟨tv, tv⟩ rfl (nl rfl)) (bb h0 fun r11 e12 h0 => st (Bv (r := .tup [.str r11.1, .bool r11.2]) false (H363 a1.key ([108, 101, 97, 115, 101, 47] : List UInt8) r11 e12) ⟨tv, tv, tv⟩ rfl rfl (fun _ => rfl) (o_ (Br 10 ⟨[(0, .ptr 1048576 0), (3, .ptr 192 0), (10, .str r11.1), (71, .bool r11.2)], [(192, Cz a1), (1048576, By a0 (An 1024000) (An 1024001) (An 1024002))], []⟩ (Dm h0 (fun c13 h0 => ?_) (fun c13 h0 => ?_))))))))))))))
  ·refine Bz (Au (st (Df rfl tv (bb h0 fun r14 e15 h0 => st (Bv (r := .tup [iV r14.1, .str r14.2.1, .bool r14.2.2]) false (H364 r11.1 r14 e15) ⟨tv, tv⟩ rfl rfl (fun _ => rfl) (o_ (Br 8 ⟨[(0, .ptr 1048576 0), (3, .ptr 192 0), (12, iV r14.1), (13, .str r14.2.1), (14, .bool r14.2.2)], [(192, Cz a1), (1048576, By a0 (An 1024000) (An 1024001) (An 1024002))], []⟩ (Bz (Au (st (c_ (Ay ⟨tv, tv⟩ rfl tv) (st (c_ (Ay ⟨tv, tv⟩ rfl (nl rfl)) (bb h0 fun r16 e17 h0 => st (Bv (r := .tup [iV r16.1, iV r16.2.1, .bool r16.2.2.1, .bool r16.2.2.2]) false (H365 a1.value ([113, 117, 101, 117, 101, 100] : List UInt8) ([108, 105, 118, 101] : List UInt8) r16 e17) ⟨tv, tv, tv, tv⟩ rfl rfl (fun _ => rfl) (o_ (Br 10 ⟨[(0, .ptr 1048576 0), (12, iV r14.1), (13, .str r14.2.1), (14, .bool r14.2.2), (15, iV r16.1), (16, iV r16.2.1), (17, .bool r16.2.2.1), (18, .bool r16.2.2.2)], [(1048576, By a0 (An 1024000) (An 1024001) (An 1024002))], []⟩ (Bz (Au (st (Df rfl tv (st (Df rfl tv (st (c_ (Ay ⟨tv, tv⟩ rfl tv) (st (c_ (Ay ⟨tv, tv⟩ rfl tv) (st (c_ (Ay ⟨tv, tv⟩ rfl tv) (st (c_ (Ay ⟨tv, tv⟩ rfl (nl rfl)) (st (Df rfl tv (st (Df rfl tv (st (Df rfl tv (st (Df rfl tv (st (c_ (v := .agg (mL r14.1 r16.1 r16.2.1 r16.2.2.1)) (Ay ⟨tv, tv, tv, tv, tv⟩ rfl ⟨⟨rfl, rfl, nl rfl⟩, ⟨rfl, rfl, nl rfl⟩, ⟨rfl, rfl, nl rfl⟩, ⟨rfl, rfl, nl rfl⟩, tv⟩) (st (Ni ⟨tv, tv⟩ ⟨⟨nl rfl, rfl, rfl⟩, tv⟩ (gg h0 fun rG h0 => st (Hj (e := At) (l0 := a0.Ac.Ad) (l1 := ([(Ab.mk r14.1 r16.1 r16.2.1 r16.2.2.1)] : List Ab)) rfl rfl tv rfl (by decide) rG (sw ⟨[(13, .str r14.2.1), (14, .bool r14.2.2), (18, .bool r16.2.2.2), (86, .ptr 1048576 0), (98, Es 1024000 (a0.Ac.Ad ++ ([(Ab.mk r14.1 r16.1 r16.2.1 r16.2.2.1)] : List Ab)))], [(1048576, [iV a0.Ac.clock, iV a0.Ac.next, .undef, Ei 1024001 a0.Aa, oI 1024002 a0.Ae, .bool a0.Al])], []⟩ (Bw (by kernel_rfl)) (c_ (Ay ⟨tv, tv⟩ rfl tv) (st (c_ (Ay ⟨tv, tv⟩ rfl tv) (st (c_ (Ay ⟨tv, tv⟩ rfl tv) (st (Ia rfl rfl tv rfl rfl rfl (nl rfl) (Kj (bv h0 fun v19 e20 h0 => Dv ⟨[(13, .str r14.2.1), (14, .bool r14.2.2), (18, .bool r16.2.2.2)], [(1048576, (Aj a0.Ac.clock a0.Ac.next (An 1024000) v19 (An 1024001) a0.Aa (An 1024002) a0.Ae a0.Al))], []⟩ (Bw (by subst e20; kernel_rfl)) (Bz (Au (st (Df rfl tv (st (Df rfl tv (st (Da (u := .str r14.2.1) rfl (fun hg => (Gs (v := .str r14.2.1) rfl tv)) (st (Da (u := .bool (r14.2.1 == ([] : List UInt8))) rfl (fun hg => (Ay ⟨(fun _ => hg), tv, tv⟩ rfl tv)) (st (Ey rfl rfl rfl (fun h => dH h) tv rfl (st (Df rfl tv (st (Da (u := .bool r16.2.2.2) rfl (fun hg => (Gs (v := .bool r16.2.2.2) rfl tv)) (st (Ey rfl rfl rfl (fun h => dH h) tv rfl (st (Df rfl tv (Kj (bv h0 fun v21 e22 h0 => Dv ⟨[(4, .bool v21)], [(1048576, (Aj a0.Ac.clock a0.Ac.next (An 1024000) v19 (An 1024001) a0.Aa (An 1024002) a0.Ae a0.Al))], []⟩ (Bw (by subst e22; kernel_rfl)) ?_)))))))))))))))))))))))))))))))))))))))))))))))))))))))))))))))))))))))))))))
   obtain rfl := Option.some.inj h0
   exact cL (Mb rfl rfl rfl rfl rfl tv)
  ·refine Nj (qU (Bz (Au (st (c_ (Ay ⟨tv, tv⟩ rfl tv) (st (c_ (Ay ⟨tv, tv⟩ rfl (nl rfl)) (bb h0 fun r23 e24 h0 => st (Bv (r := .tup [iV r23.1, iV r23.2.1, .bool r23.2.2.1, .bool r23.2.2.2]) false (H365 a1.value ([115, 101, 97, 108, 101, 100] : List UInt8) ([111, 112, 101, 110] : List UInt8) r23 e24) ⟨tv, tv, tv, tv⟩ rfl rfl (fun _ => rfl) (o_ (Br 10 ⟨[(0, .ptr 1048576 0), (3, .ptr 192 0), (19, iV r23.1), (20, iV r23.2.1), (21, .bool r23.2.2.1), (22, .bool r23.2.2.2)], [(192, Cz a1), (1048576, By a0 (An 1024000) (An 1024001) (An 1024002))], []⟩ (Bz (Au (st (Df rfl tv (st (Df rfl tv (st (Df rfl tv (st (Df rfl tv (st (Df rfl tv (st (Df rfl tv (st (c_ (Ay ⟨tv, tv⟩ rfl tv) (st (c_ (Ay ⟨tv, tv⟩ rfl tv) (st (c_ (Ay ⟨tv, tv⟩ rfl tv) (st (Ia rfl rfl tv rfl rfl rfl (nl rfl) (st (c_ (Ay ⟨tv, tv⟩ rfl tv) (st (c_ (Ay ⟨tv, tv⟩ rfl tv) (st (c_ (Ay ⟨tv, tv⟩ rfl tv) (sw ⟨[(3, .ptr 192 0), (22, .bool r23.2.2.2), (120, .ptr 1048576 0), (122, iV r23.2.1), (123, .bool r23.2.2.1), (129, .ptr 1048576 1)], [(192, Cz a1), (1048576, (Aj r23.1 a0.Ac.next (An 1024000) a0.Ac.Ad (An 1024001) a0.Aa (An 1024002) a0.Ae a0.Al))], []⟩ (Bw (by kernel_rfl)) (Ia rfl rfl tv rfl rfl rfl (nl rfl) (st (c_ (Ay ⟨tv, tv⟩ rfl tv) (st (c_ (Ay ⟨tv, tv⟩ rfl tv) (st (Ia rfl rfl tv rfl rfl rfl (nl rfl) ?_)))))))))))))))))))))))))))))))))))))))))))))))
   refine o_ (Br 1 ⟨[(3, .ptr 192 0), (22, .bool r23.2.2.2)], [(192, Cz a1), (1048576, (Aj r23.1 r23.2.1 (An 1024000) a0.Ac.Ad (An 1024001) a0.Aa (An 1024002) a0.Ae r23.2.2.1))], []⟩ (Bz (Au (st (c_ (Ay ⟨tv, tv⟩ rfl tv) (st (c_ (Ay ⟨tv, tv⟩ rfl (nl rfl)) (st (c_ (Ay t3 rfl tv) (st (Df rfl tv (st (Da (u := .bool r23.2.2.2) rfl (fun hg => (Gs (v := .bool r23.2.2.2) rfl tv)) (st (Ey rfl rfl rfl (fun h => dH h) tv rfl (st (Df rfl tv (Kj (bv h0 fun v25 e26 h0 => Dv ⟨[(4, .bool v25)], [(1048576, (Aj r23.1 r23.2.1 (An 1024000) a0.Ac.Ad (An 1024001) a0.Aa (An 1024002) a0.Ae r23.2.2.1))], []⟩ (Bw (by subst e26; kernel_rfl)) ?_)))))))))))))))))))
   obtain rfl := Option.some.inj h0
   exact cL (Mb rfl rfl rfl rfl rfl tv)

/- loop.example/g00149/impl.VaultOf -/
def KI := [a_ 4 [(iV 0), (iV 0), (.own 259 0 4 []), (.own 260 0 2 []), (.own 261 0 1 []), (.bool false)], i_ 5 0]
def KJ : List Ch := [m_ 10 0, q_ 11 321 [(.t 10)], N_ 12 11, m_ 13 12, pF 13 14 (.mv (.t 1)), ⟨some 15, .call 87 [(.t 14)], some (13, false)⟩, pF 13 16 (.un .not (.t 15)), pk 17 (.t 13) (.c (.bool true)) (.t 16), m_ 9 17]
def KK := [(iQ 18 (.build [(iV 0), (iV 0), (.own 1155 0 4 []), (.own 1156 0 2 []), (.own 1157 0 1 []), (.bool false)] [])), s_ 4 18 6, i_ 5 2]
def KL := [m_ 20 0, q_ 21 322 [(.t 20)], N_ 22 21, m_ 19 22]
def KM := [(iQ 23 (.build [(iV 0), (iV 0), (.own 1475 0 4 []), (.own 1476 0 2 []), (.own 1477 0 1 []), (.bool false)] [])), s_ 4 23 6, i_ 5 1]
def KN : List Ch := [m_ 24 1, q_ 25 120 [(.t 24)], ⟨some 26, .p (.build [(iV 0), (iV 0), (.own 1667 0 4 []), (.own 1668 0 2 []), (.own 1669 0 1 []), (.bool false)] [(4, 1, (.t 25))]), none⟩, a_ 6 [(iV 0), (iV 0), (.own 387 0 4 []), (.own 388 0 2 []), (.own 389 0 1 []), (.bool false)], s_ 6 26 6]
def KO := [m_ 27 0, n_ 28 27, i_ 29 0]
def KP := [b_ .lss 30 29 28]
def KQ := [x_ 31 27 29 2, L_ 32 31 2, a_ 8 [(.str []), (.str [])], s_ 8 32 2]
def KR := [L_ 33 8 2, q_ 34 323 [(.t 6), (.t 33)], N_ 35 34]
def uS := [(iQ 36 (.build [(iV 0), (iV 0), (.own 2307 0 4 []), (.own 2308 0 2 []), (.own 2309 0 1 []), (.bool false)] [])), s_ 4 36 6, i_ 5 3]
def uT := [B_ .add 37 29 1, m_ 29 37]
def KH : IR := (.seq (.reg KP) (.seq (.ite (.t 30) .skip (.exit 1)) (.seq (.block 2 (.seq (.reg KQ) (.seq (.reg KR) (.ite (.t 35) (.seq (.reg uS) .ret) .skip)))) (.reg uT))))
def uU := [L_ 38 6 6, q_ 39 48 [(.t 38)], N_ 40 39]
def uV := [(iQ 41 (.build [(iV 0), (iV 0), (.own 2627 0 4 []), (.own 2628 0 2 []), (.own 2629 0 1 []), (.bool false)] [])), s_ 4 41 6, i_ 5 13]
def uW := [L_ 42 6 6, s_ 4 42 6, i_ 5 0]
def KG : El := { np := 2, nt := 43, res := [.cell 4 6 true, .t 5], body := (.seq (.reg KI) (.seq (.block 0 (.seq (.reg KJ) (.ite (.t 9) (.seq (.reg KK) .ret) (.seq (.reg KL) (.ite (.t 19) (.seq (.reg KM) .ret) .skip))))) (.seq (.reg KN) (.seq (.seq (.reg KO) (.block 1 (.loop KH))) (.seq (.seq (.reg uU) (.ite (.t 40) (.seq (.reg uV) .ret) .skip)) (.seq (.reg uW) .ret)))))) }
def WO (D : Bc) : Prop := ∀ (a0 : List Bh) (a1 : List Int) (r : Ag × Int), SH a0 a1 = some r → D 258 ⟨[Co a0, lI a1], []⟩ ⟨.tup [.agg (By r.1 (An 0) (An 1) (An 2)), iV r.2], [], []⟩
theorem F258 {C : Bc} (H48 : K48 C) (H87 : K87 C) (H120 : VX C) (H321 : WT C) (H322 : WU C) (H323 : WV C) : WO (fun _ => Cp C KG) := by
 intro a0 a1 r h0
 refine Fe (nl rfl) (Br 4 ⟨[(0, Co a0), (1, lI a1), (4, .ptr 256 0)], [(256, (Aj 0 0 (An 259) [] (An 260) [] (An 261) [] false))], []⟩ (Bu 4 (Au (bb h0 fun r1 e2 h0 => Re (H321 a0 r1 e2) (o_ (Lh 3 (Au (bb h0 fun r3 e4 h0 => st (Ga (r := .bool r3) rfl false (fun hg => H87 a1 r3 (ip hg e4)) ⟨(fun hg => hg), tv⟩ (fun _ => rfl) (fun _ => rfl) (fun _ => rfl) (fun h => nomatch h) (o_ (SZ 4 ⟨[(0, Co a0), (1, lI a1), (4, .ptr 256 0), (9, .bool (bif (!r1) then true else (!r3)))], [(256, (Aj 0 0 (An 259) [] (An 260) [] (An 261) [] false))], []⟩ (Dm h0 (fun c5 h0 => ?_) (fun c5 h0 => ?_)))))))))))))
 ·obtain rfl := Option.some.inj h0
  exact Dr 6
 ·refine Bz (Au (st (Df rfl tv (bb h0 fun r6 e7 h0 => Re (H322 a0 r6 e7) (o_ (Br 3 ⟨[(0, Co a0), (1, lI a1), (4, .ptr 256 0), (19, .bool (!r6))], [(256, (Aj 0 0 (An 259) [] (An 260) [] (An 261) [] false))], []⟩ (Dm h0 (fun c8 h0 => ?_) (fun c8 h0 => ?_))))))))
  ·obtain rfl := Option.some.inj h0
   exact Dr 6
  ·refine Bu 5 (Au (bb h0 fun r9 e10 h0 => dE (H120 a1 r9 e10) (Bs (Hr (fun _ => rfl)) rfl) (st (c_ (v := .agg (Aj 0 0 (An 1667) [] (An 1668) [] (An 1600) r9 false)) (Ay ⟨tv, tv⟩ rfl ⟨⟨rfl, rfl, nl rfl⟩, tv⟩) (o_ (Br 3 ⟨[(0, Co a0), (4, .ptr 256 0), (6, .ptr 384 0)], [(256, (Aj 0 0 (An 259) [] (An 260) [] (An 261) [] false)), (384, (Aj 0 0 (An 1667) [] (An 1668) [] (An 1600) r9 false))], []⟩ (Bu 3 (Au (st (c_ (Cn (e := Cz) (l0 := a0) rfl rfl tv) (o_ (Br 2 ⟨[(4, .ptr 256 0), (6, .ptr 384 0), (27, Co a0), (28, iV (a0.length : Int)), (29, iV 0)], [(256, (Aj 0 0 (An 259) [] (An 260) [] (An 261) [] false)), (384, (Aj 0 0 (An 1667) [] (An 1668) [] (An 1600) r9 false))], []⟩ (Cr (bb h0 fun r49 e50 h0 => Dt (R := (fun S => ∃ p37 : Int, ∃ p38 : Int, ∃ p39 : List Ab, ∃ p40 : List Af, ∃ p41 : List Int, ∃ p42 : Bool, .inl (p37, p38, p39, p40, p41, p42) = r49 ∧ S = ⟨[(4, .ptr 256 0), (6, .ptr 384 0)], [(256, (Aj 0 0 (An 259) [] (An 260) [] (An 261) [] false)), (384, (Aj p37 p38 (An 1667) p39 (An 1668) p40 (An 1600) p41 p42))], []⟩)) (Pr a0) (fun s S => match s with | (p17, p18, p19, p20, p21, p22, p23) => S = ⟨[(4, .ptr 256 0), (6, .ptr 384 0), (27, Co a0), (28, iV (a0.length : Int)), (29, iV p17)], [(256, (Aj 0 0 (An 259) [] (An 260) [] (An 261) [] false)), (384, (Aj p18 p19 (An 1667) p20 (An 1668) p21 (An 1600) p22 p23))], []⟩) e50 _ (Bw (by kernel_rfl)) rfl 1 (fun _ => rfl) ?_ ?_))))))))))))))
   ·rintro S _ hfg ⟨p37, p38, p39, p40, p41, p42, rfl, rfl⟩
    refine Dv _ hfg (Bu 3 (Au (bb h0 fun r51 e52 h0 => Re (H48 (Ag.mk (Ai.mk p37 p38 p39) p40 p41 p42) r51 e52) (o_ (Br 2 ⟨[(4, .ptr 256 0), (6, .ptr 384 0), (40, .bool (!r51))], [(256, (Aj 0 0 (An 259) [] (An 260) [] (An 261) [] false)), (384, (Aj p37 p38 (An 1667) p39 (An 1668) p40 (An 1600) p41 p42))], []⟩ (Dm h0 (fun zY h0 => ?_) (fun zY h0 => ?_)))))))
    ·obtain rfl := Option.some.inj h0
     exact Dr 6
    ·obtain rfl := Option.some.inj h0
     exact Dr 8
   ·rintro ⟨p17, p18, p19, p20, p21, p22, p23⟩ o1 _ K1 rfl h1 hx1 hK1 hE1 hR1
    refine Br 3 ⟨[(4, .ptr 256 0), (6, .ptr 384 0), (27, Co a0), (28, iV (a0.length : Int)), (29, iV p17), (30, .bool (decide (p17 < (a0.length : Int))))], [(256, (Aj 0 0 (An 259) [] (An 260) [] (An 261) [] false)), (384, (Aj p18 p19 (An 1667) p20 (An 1668) p21 (An 1600) p22 p23))], []⟩ (Bz (Dm h1 (fun c43 h1 => ?_) (fun c43 h1 => ?_)))
    ·refine Uv 5 (Au (bb h1 fun y44 e45 h1 => st (c_ (Cj (e := Cz) (y := y44) rfl rfl tv rfl rfl tv e45) (o_ (Br 4 ⟨[(4, .ptr 256 0), (6, .ptr 384 0), (8, .ptr 512 0), (27, Co a0), (28, iV (a0.length : Int)), (29, iV p17)], [(256, (Aj 0 0 (An 259) [] (An 260) [] (An 261) [] false)), (384, (Aj p18 p19 (An 1667) p20 (An 1668) p21 (An 1600) p22 p23)), (512, Cz y44)], []⟩ (Bu 2 (Au (bb h1 fun r46 e47 h1 => st (Ef [384] [] [1667, 1668, 1600] false (H323 (Ag.mk (Ai.mk p18 p19 p20) p21 p22 p23) y44 r46 e47) ⟨tv, tv, tv⟩ (by kernel_rfl) (by kernel_rfl) (by kernel_rfl) (by kernel_rfl) (fun _ => Bs (Bs rfl (Bs rfl (Bs rfl (Bs (Hr (fun _ => rfl)) (Bs (Hr (fun _ => rfl)) (Bs (Hr (fun _ => rfl)) (Bs rfl rfl))))))) rfl) (o_ (Br 2 ⟨[(4, .ptr 256 0), (6, .ptr 384 0), (27, Co a0), (28, iV (a0.length : Int)), (29, iV p17), (35, .bool (!r46.1))], [(256, (Aj 0 0 (An 259) [] (An 260) [] (An 261) [] false)), (384, By r46.2 (An 2176) (An 2177) (An 2178))], []⟩ (Dm h1 (fun UN h1 => ?_) (fun UN h1 => ?_)))))))))))))
     ·obtain rfl := Option.some.inj h1
      obtain rfl := hx1 _ rfl
      obtain rfl := Option.some.inj h0
      exact aN 6 hR1
     ·refine Bu 6 ?_
      obtain rfl := Option.some.inj h1
      exact hK1 _ rfl _ ⟨[(4, .ptr 256 0), (6, .ptr 384 0), (27, Co a0), (28, iV (a0.length : Int)), (29, iV (IntKind.i64.wrap (p17 + 1)))], [(256, (Aj 0 0 (An 259) [] (An 260) [] (An 261) [] false)), (384, By r46.2 (An 1667) (An 1668) (An 1600))], []⟩ (dJ [] [(2176, 1667), (2177, 1668), (2178, 1600)] rfl (by kernel_rfl)) rfl
    ·obtain rfl := Option.some.inj h1
     obtain rfl := hx1 _ rfl
     refine Nc rfl ?_
     exact hE1 _ _ (Bw (by kernel_rfl)) ⟨_, _, _, _, _, _, rfl, rfl⟩

/- loop.example/g00149/laws.samePairs -/
def KU := [k_ 4 (.bool false)]
def KV := [m_ 6 0, n_ 7 6, m_ 8 1, n_ 9 8, b_ .neq 10 7 9]
def KW := [k_ 4 (.bool false)]
def KX := [i_ 5 0]
def KY := [m_ 11 5, m_ 12 0, n_ 13 12, b_ .lss 14 11 13]
def KZ := tk [m_ 17 0, m_ 18 5, x_ 19 17 18 2, L_ 20 19 2, m_ 21 1, m_ 22 5, x_ 23 21 22 2, L_ 24 23 2, (iQ 25 (.eqs true [2, 2] (.t 20) (.t 24)))] .fin
def LA := [k_ 4 (.bool false)]
def LC := [m_ 15 5, B_ .add 16 15 1, m_ 5 16]
def KT : IR := (.seq (.seq (.reg KY) (.ite (.t 14) .skip (.exit 0))) (.seq (.block 1 (.seq (.draw KZ) (.ite (.t 25) (.seq (.reg LA) .ret) .skip))) (.reg LC)))
def LD := [k_ 4 (.bool true)]
def KS : El := { np := 2, nt := 26, res := [.t 4], body := (.seq (.reg KU) (.seq (.seq (.reg KV) (.ite (.t 10) (.seq (.reg KW) .ret) .skip)) (.seq (.seq (.reg KX) (.block 0 (.loop KT))) (.seq (.reg LD) .ret)))) }
def WP (D : Bc) : Prop := ∀ (a0 : List Bh) (a1 : List Bh) (r : Bool), SI a0 a1 = some r → D 260 ⟨[Co a0, Co a1], []⟩ ⟨.bool r, [], []⟩
theorem F260 {C : Bc} : WP (fun _ => Cp C KS) := by
 intro a0 a1 r h0
 refine Fe (nl rfl) (Br 3 ⟨[(0, Co a0), (1, Co a1)], [], []⟩ (Bu 3 (Au (st (c_ (Cn (e := Cz) (l0 := a0) rfl rfl tv) (st (Df rfl tv (st (c_ (Cn (e := Cz) (l0 := a1) rfl rfl tv) (o_ (Br 2 ⟨[(0, Co a0), (1, Co a1), (10, .bool ((a0.length : Int) != (a1.length : Int)))], [], []⟩ (Dm h0 (fun c1 h0 => ?_) (fun c1 h0 => ?_)))))))))))))
 ·obtain rfl := Option.some.inj h0
  exact Dr 4
 ·refine Br 6 ⟨[(0, Co a0), (1, Co a1), (5, iV 0)], [], []⟩ (Cr (bb h0 fun r22 e23 h0 => Dt (R := (fun S => .inl () = r22 ∧ S = ⟨[], [], []⟩)) (So a0 a1) (fun s S => match s with | p8 => S = ⟨[(0, Co a0), (1, Co a1), (5, iV p8)], [], []⟩) e23 _ (Bw (by kernel_rfl)) rfl 0 (fun _ => rfl) ?_ ?_))
  ·rintro S _ hfg ⟨rfl, rfl⟩
   refine Dv _ hfg ?_
   obtain rfl := Option.some.inj h0
   exact Dr 4
  ·rintro p8 o1 _ K1 rfl h1 hx1 hK1 hE1 hR1
   refine Bu 4 (Au (st (c_ (Cn (e := Cz) (l0 := a0) rfl rfl tv) (o_ (Br 2 ⟨[(0, Co a0), (1, Co a1), (5, iV p8), (14, .bool (decide (p8 < (a0.length : Int))))], [], []⟩ (Dm h1 (fun c16 h1 => ?_) (fun c16 h1 => ?_)))))))
   ·refine Uv 5 ?_
    obtain ⟨y17, e18, h1⟩ := bnd h1
    refine bb h1 fun y19 e20 h1 => Bu 2 (Dh (Ak tv (c_ (Cj (e := Cz) (y := y17) rfl rfl tv rfl rfl tv e18) (⟨tv, (d_ (Bu 3 (Dh (Ak tv (c_ (Cj (e := Cz) (y := y19) rfl rfl tv rfl rfl tv e20) (⟨tv, (d_ (Br 3 ⟨[(0, Co a0), (1, Co a1), (5, iV p8), (25, .bool (!((y17.key == y19.key) && ((y17.value == y19.value) && true))))], [], []⟩ (Dm h1 (fun c21 h1 => ?_) (fun c21 h1 => ?_))))⟩))))))⟩))))
    ·obtain rfl := Option.some.inj h1
     obtain rfl := hx1 _ rfl
     obtain rfl := Option.some.inj h0
     exact aN 4 hR1
    ·refine Bu 7 ?_
     obtain rfl := Option.some.inj h1
     exact hK1 _ rfl _ _ (Bw (by kernel_rfl)) rfl
   ·obtain rfl := Option.some.inj h1
    obtain rfl := hx1 _ rfl
    refine Nc rfl ?_
    exact hE1 _ _ (Bw (by kernel_rfl)) ⟨rfl, rfl⟩

/- loop.example/g00149/laws.sameTable -/
def YG := [X_ 2 0, X_ 3 1, k_ 4 (.bool false)]
def YH := [f_ 6 2 0, l_ 7 6 1, f_ 8 3 0, l_ 9 8 1, b_ .neq 10 7 9, m_ 11 10, pF 11 12 (.fieldA (.t 2) 1), pF 11 13 (.load (.t 12) 1 false), pF 11 14 (.fieldA (.t 3) 1), pF 11 15 (.load (.t 14) 1 false), pF 11 16 (.bin .neq (.t 13) (.t 15)), pk 17 (.t 11) (.c (.bool true)) (.t 16), m_ 18 17, pF 18 19 (.fieldA (.t 2) 2), pF 18 20 (.load (.t 19) 1 false), pF 18 21 (.len (.t 20)), pF 18 22 (.fieldA (.t 3) 2), pF 18 23 (.load (.t 22) 1 false), pF 18 24 (.len (.t 23)), pF 18 25 (.bin .neq (.t 21) (.t 24)), pk 26 (.t 18) (.c (.bool true)) (.t 25)]
def YI := [k_ 4 (.bool false)]
def YJ := [i_ 5 0]
def YK := [m_ 27 5, f_ 28 2 2, l_ 29 28 1, n_ 30 29, b_ .lss 31 27 30]
def YL := tk [f_ 34 2 2, l_ 35 34 1, m_ 36 5, x_ 37 35 36 4, L_ 38 37 4, f_ 39 3 2, l_ 40 39 1, m_ 41 5, x_ 42 40 41 4, L_ 43 42 4, (iQ 44 (.eqs true [0, 0, 0, 1] (.t 38) (.t 43)))] .fin
def YM := [k_ 4 (.bool false)]
def YN := [m_ 32 5, B_ .add 33 32 1, m_ 5 33]
def YF : IR := (.seq (.seq (.reg YK) (.ite (.t 31) .skip (.exit 0))) (.seq (.block 1 (.seq (.draw YL) (.ite (.t 44) (.seq (.reg YM) .ret) .skip))) (.reg YN)))
def YO := [k_ 4 (.bool true)]
def c41 : El := { np := 2, nt := 45, res := [.t 4], body := (.seq (.reg YG) (.seq (.seq (.reg YH) (.ite (.t 26) (.seq (.reg YI) .ret) .skip)) (.seq (.seq (.reg YJ) (.block 0 (.loop YF))) (.seq (.reg YO) .ret)))) }
def K41 (D : Bc) : Prop := ∀ (a0 : Ai) (a1 : Ai) (r : Bool), g41 a0 a1 = some r → D 41 ⟨[.agg (Aw a0), .agg (Aw a1)], []⟩ ⟨.bool r, [], []⟩
theorem F41 {C : Bc} : K41 (fun _ => Cp C c41) := by
 intro a0 a1 r h0
 refine Fe (nl rfl) (Br 5 ⟨[(2, .ptr 128 0), (3, .ptr 192 0)], [(128, Aw a0), (192, Aw a1)], []⟩ (Lh 17 (Au (sw ⟨[(2, .ptr 128 0), (3, .ptr 192 0), (18, .bool (bif (a0.clock != a1.clock) then true else (a0.next != a1.next))), (20, .may ((bif (a0.clock != a1.clock) then true else (a0.next != a1.next)) == false) (Bl a0.Ad))], [(128, Aw a0), (192, Aw a1)], []⟩ (Bw (by kernel_rfl)) (Da (u := iV (a0.Ad.length : Int)) rfl (fun hg => (Cn (e := At) (l0 := a0.Ad) rfl rfl (fun _ => hg))) (o_ (Lh 2 (Au (st (Da (u := iV (a1.Ad.length : Int)) rfl (fun hg => (Cn (e := At) (l0 := a1.Ad) rfl rfl (fun _ => hg))) (st (Da (u := .bool ((a0.Ad.length : Int) != (a1.Ad.length : Int))) rfl (fun hg => (Ay ⟨(fun _ => hg), (fun _ => hg), tv⟩ rfl tv)) ?_))))))))))))
 refine o_ (Lh 2 (bv h0 fun v1 e2 h0 => Dv ⟨[(2, .ptr 128 0), (3, .ptr 192 0), (26, .bool v1)], [(128, Aw a0), (192, Aw a1)], []⟩ (Bw (by subst e2; kernel_rfl)) (Dm h0 (fun c3 h0 => ?_) (fun c3 h0 => ?_))))
 ·obtain rfl := Option.some.inj h0
  exact Dr 4
 ·refine Br 6 ⟨[(2, .ptr 128 0), (3, .ptr 192 0), (5, iV 0)], [(128, Aw a0), (192, Aw a1)], []⟩ (Cr (bb h0 fun r30 e31 h0 => Dt (R := (fun S => .inl () = r30 ∧ S = ⟨[], [], []⟩)) (Yo a0 a1) (fun s S => match s with | p12 => S = ⟨[(2, .ptr 128 0), (3, .ptr 192 0), (5, iV p12)], [(128, Aw a0), (192, Aw a1)], []⟩) e31 _ (Bw (by kernel_rfl)) rfl 0 (fun _ => rfl) ?_ ?_))
  ·rintro S _ hfg ⟨rfl, rfl⟩
   refine Dv _ hfg ?_
   obtain rfl := Option.some.inj h0
   exact Dr 4
  ·rintro p12 o1 _ K1 rfl h1 hx1 hK1 hE1 hR1
   refine Bu 5 (Au (st (c_ (Cn (e := At) (l0 := a0.Ad) rfl rfl tv) (o_ (Br 2 ⟨[(2, .ptr 128 0), (3, .ptr 192 0), (5, iV p12), (31, .bool (decide (p12 < (a0.Ad.length : Int))))], [(128, Aw a0), (192, Aw a1)], []⟩ (Dm h1 (fun c22 h1 => ?_) (fun c22 h1 => ?_)))))))
   ·refine Uv 5 ?_
    obtain ⟨y23, e24, h1⟩ := bnd h1
    refine bb h1 fun y25 e26 h1 => Bu 3 (Dh (Ak tv (c_ (Cj (e := At) (y := y23) rfl rfl tv rfl rfl tv e24) (⟨tv, (d_ (Bu 4 (Dh (Ak tv (c_ (Cj (e := At) (y := y25) rfl rfl tv rfl rfl tv e26) (⟨tv, (d_ (Bu 3 (bv h1 fun v27 e28 h1 => Dv ⟨[(2, .ptr 128 0), (3, .ptr 192 0), (5, iV p12), (44, .bool v27)], [(128, Aw a0), (192, Aw a1)], []⟩ (Bw (by subst e28; kernel_rfl)) (Dm h1 (fun c29 h1 => ?_) (fun c29 h1 => ?_)))))⟩))))))⟩))))
    ·obtain rfl := Option.some.inj h1
     obtain rfl := hx1 _ rfl
     obtain rfl := Option.some.inj h0
     exact aN 4 hR1
    ·refine Bu 7 ?_
     obtain rfl := Option.some.inj h1
     exact hK1 _ rfl _ _ (Bw (by kernel_rfl)) rfl
   ·obtain rfl := Option.some.inj h1
    obtain rfl := hx1 _ rfl
    refine Nc rfl ?_
    exact hE1 _ _ (Bw (by kernel_rfl)) ⟨rfl, rfl⟩

/- loop.example/g00149/laws.sameInts -/
def ZT := [k_ 4 (.bool false)]
def ZU := [m_ 6 0, n_ 7 6, m_ 8 1, n_ 9 8, b_ .neq 10 7 9]
def ZV := [k_ 4 (.bool false)]
def ZW := [i_ 5 0]
def ZX := [m_ 11 5, m_ 12 0, n_ 13 12, b_ .lss 14 11 13]
def ZY := tk [m_ 17 0, m_ 18 5, x_ 19 17 18 1, l_ 20 19 1, m_ 21 1, m_ 22 5, x_ 23 21 22 1, l_ 24 23 1, b_ .neq 25 20 24] .fin
def ZZ := [k_ 4 (.bool false)]
def Aaa := [m_ 15 5, B_ .add 16 15 1, m_ 5 16]
def ZS : IR := (.seq (.seq (.reg ZX) (.ite (.t 14) .skip (.exit 0))) (.seq (.block 1 (.seq (.draw ZY) (.ite (.t 25) (.seq (.reg ZZ) .ret) .skip))) (.reg Aaa)))
def Aab := [k_ 4 (.bool true)]
def c52 : El := { np := 2, nt := 26, res := [.t 4], body := (.seq (.reg ZT) (.seq (.seq (.reg ZU) (.ite (.t 10) (.seq (.reg ZV) .ret) .skip)) (.seq (.seq (.reg ZW) (.block 0 (.loop ZS))) (.seq (.reg Aab) .ret)))) }
def K52 (D : Bc) : Prop := ∀ (a0 : List Int) (a1 : List Int) (r : Bool), g52 a0 a1 = some r → D 52 ⟨[lI a0, lI a1], []⟩ ⟨.bool r, [], []⟩
theorem F52 {C : Bc} : K52 (fun _ => Cp C c52) := by
 intro a0 a1 r h0
 refine Fe (nl rfl) (Br 3 ⟨[(0, lI a0), (1, lI a1)], [], []⟩ (Bu 3 (Au (st (c_ (Cn (e := eI) (l0 := a0) rfl rfl tv) (st (Df rfl tv (st (c_ (Cn (e := eI) (l0 := a1) rfl rfl tv) (o_ (Br 2 ⟨[(0, lI a0), (1, lI a1), (10, .bool ((a0.length : Int) != (a1.length : Int)))], [], []⟩ (Dm h0 (fun c1 h0 => ?_) (fun c1 h0 => ?_)))))))))))))
 ·obtain rfl := Option.some.inj h0
  exact Dr 4
 ·refine Br 6 ⟨[(0, lI a0), (1, lI a1), (5, iV 0)], [], []⟩ (Cr (bb h0 fun r22 e23 h0 => Dt (R := (fun S => .inl () = r22 ∧ S = ⟨[], [], []⟩)) (Yq a0 a1) (fun s S => match s with | p8 => S = ⟨[(0, lI a0), (1, lI a1), (5, iV p8)], [], []⟩) e23 _ (Bw (by kernel_rfl)) rfl 0 (fun _ => rfl) ?_ ?_))
  ·rintro S _ hfg ⟨rfl, rfl⟩
   refine Dv _ hfg ?_
   obtain rfl := Option.some.inj h0
   exact Dr 4
  ·rintro p8 o1 _ K1 rfl h1 hx1 hK1 hE1 hR1
   refine Bu 4 (Au (st (c_ (Cn (e := eI) (l0 := a0) rfl rfl tv) (o_ (Br 2 ⟨[(0, lI a0), (1, lI a1), (5, iV p8), (14, .bool (decide (p8 < (a0.length : Int))))], [], []⟩ (Dm h1 (fun c16 h1 => ?_) (fun c16 h1 => ?_)))))))
   ·refine Uv 5 ?_
    obtain ⟨y17, e18, h1⟩ := bnd h1
    refine bb h1 fun y19 e20 h1 => Bu 2 (Dh (Ak tv (c_ (Cj (e := eI) (y := y17) rfl rfl tv rfl rfl tv e18) (⟨tv, (d_ (Bu 3 (Dh (Ak tv (c_ (Cj (e := eI) (y := y19) rfl rfl tv rfl rfl tv e20) (⟨tv, (d_ (Br 3 ⟨[(0, lI a0), (1, lI a1), (5, iV p8), (25, .bool (y17 != y19))], [], []⟩ (Dm h1 (fun c21 h1 => ?_) (fun c21 h1 => ?_))))⟩))))))⟩))))
    ·obtain rfl := Option.some.inj h1
     obtain rfl := hx1 _ rfl
     obtain rfl := Option.some.inj h0
     exact aN 4 hR1
    ·refine Bu 7 ?_
     obtain rfl := Option.some.inj h1
     exact hK1 _ rfl _ _ (Bw (by kernel_rfl)) rfl
   ·obtain rfl := Option.some.inj h1
    obtain rfl := hx1 _ rfl
    refine Nc rfl ?_
    exact hE1 _ _ (Bw (by kernel_rfl)) ⟨rfl, rfl⟩

/- loop.example/g00149/laws.sameVault -/
def LG := [X_ 2 0, X_ 3 1, k_ 4 (.bool false)]
def LH : List Ch := [f_ 6 2 0, L_ 7 6 3, f_ 8 3 0, L_ 9 8 3, q_ 10 41 [(.t 7), (.t 9)], N_ 11 10, m_ 12 11, pF 12 13 (.fieldA (.t 2) 5), pF 12 14 (.load (.t 13) 1 false), pF 12 15 (.fieldA (.t 3) 5), pF 12 16 (.load (.t 15) 1 false), pF 12 17 (.binB .neq (.t 14) (.t 16)), pk 18 (.t 12) (.c (.bool true)) (.t 17), m_ 19 18, pF 19 20 (.fieldA (.t 2) 3), pF 19 21 (.load (.t 20) 1 false), pF 19 22 (.len (.t 21)), pF 19 23 (.fieldA (.t 3) 3), pF 19 24 (.load (.t 23) 1 false), pF 19 25 (.len (.t 24)), pF 19 26 (.bin .neq (.t 22) (.t 25)), pk 27 (.t 19) (.c (.bool true)) (.t 26), m_ 28 27, pF 28 29 (.fieldA (.t 2) 4), pF 28 30 (.load (.t 29) 1 false), pF 28 31 (.fieldA (.t 3) 4), pF 28 32 (.load (.t 31) 1 false), ⟨some 33, .call 52 [(.t 30), (.t 32)], some (28, false)⟩, pF 28 34 (.un .not (.t 33)), pk 35 (.t 28) (.c (.bool true)) (.t 34)]
def LI := [k_ 4 (.bool false)]
def LJ := [i_ 5 0]
def LK := [m_ 36 5, f_ 37 2 3, l_ 38 37 1, n_ 39 38, b_ .lss 40 36 39]
def LL := tk [f_ 43 2 3, l_ 44 43 1, m_ 45 5, x_ 46 44 45 2, L_ 47 46 2, f_ 48 3 3, l_ 49 48 1, m_ 50 5, x_ 51 49 50 2, L_ 52 51 2, (iQ 53 (.eqs true [0, 1] (.t 47) (.t 52)))] .fin
def LN := [k_ 4 (.bool false)]
def LO := [m_ 41 5, B_ .add 42 41 1, m_ 5 42]
def LF : IR := (.seq (.seq (.reg LK) (.ite (.t 40) .skip (.exit 0))) (.seq (.block 1 (.seq (.draw LL) (.ite (.t 53) (.seq (.reg LN) .ret) .skip))) (.reg LO)))
def LP := [k_ 4 (.bool true)]
def LE : El := { np := 2, nt := 54, res := [.t 4], body := (.seq (.reg LG) (.seq (.seq (.reg LH) (.ite (.t 35) (.seq (.reg LI) .ret) .skip)) (.seq (.seq (.reg LJ) (.block 0 (.loop LF))) (.seq (.reg LP) .ret)))) }
def WQ (D : Bc) : Prop := ∀ (a0 : Ag) (a1 : Ag) (r : Bool), SJ a0 a1 = some r → D 261 ⟨[.agg (Ah a0), .agg (Ah a1)], []⟩ ⟨.bool r, [], []⟩
theorem F261 {C : Bc} (H41 : K41 C) (H52 : K52 C) : WQ (fun _ => Cp C LE) := by
 intro a0 a1 r h0
 refine Fe (nl rfl) (Br 5 ⟨[(2, .ptr 128 0), (3, .ptr 192 0)], [(128, Ah a0), (192, Ah a1)], []⟩ (Bu 6 (Au (bb h0 fun r1 e2 h0 => Re (H41 a0.Ac a1.Ac r1 e2) (o_ (Lh 7 (Au (sw ⟨[(2, .ptr 128 0), (3, .ptr 192 0), (12, .bool (!r1)), (17, .may ((!r1) == false) (.bool (!(a0.Al == a1.Al))))], [(128, Ah a0), (192, Ah a1)], []⟩ (Bw (by kernel_rfl)) (Ey rfl rfl rfl tv (fun h => dG h) rfl (o_ (Lh 3 (Au (st (Da (u := iV (a0.Aa.length : Int)) rfl (fun hg => (Cn (e := Bi) (l0 := a0.Aa) rfl rfl (fun _ => hg))) (o_ (Lh 2 (Au (st (Da (u := iV (a1.Aa.length : Int)) rfl (fun hg => (Cn (e := Bi) (l0 := a1.Aa) rfl rfl (fun _ => hg))) (o_ (Lh 7 (Au (bb h0 fun r3 e4 h0 => sw ⟨[(2, .ptr 128 0), (3, .ptr 192 0), (28, .bool (bif (bif (!r1) then true else (!(a0.Al == a1.Al))) then true else ((a0.Aa.length : Int) != (a1.Aa.length : Int)))), (30, .may ((bif (bif (!r1) then true else (!(a0.Al == a1.Al))) then true else ((a0.Aa.length : Int) != (a1.Aa.length : Int))) == false) (lI a0.Ae)), (32, .may ((bif (bif (!r1) then true else (!(a0.Al == a1.Al))) then true else ((a0.Aa.length : Int) != (a1.Aa.length : Int))) == false) (lI a1.Ae))], [(128, Ah a0), (192, Ah a1)], []⟩ (Bw (by kernel_rfl)) (Ga (r := .bool r3) rfl false (fun hg => H52 a0.Ae a1.Ae r3 (ip hg e4)) ⟨(fun hg => hg), (fun hg => hg), tv⟩ (fun _ => rfl) (fun _ => rfl) (fun _ => rfl) (fun h => nomatch h) (o_ (Lh 3 (bv h0 fun v5 e6 h0 => Dv ⟨[(2, .ptr 128 0), (3, .ptr 192 0), (35, .bool v5)], [(128, Ah a0), (192, Ah a1)], []⟩ (Bw (by subst e6; kernel_rfl)) (Dm h0 (fun c7 h0 => ?_) (fun c7 h0 => ?_)))))))))))))))))))))))))))))
 ·obtain rfl := Option.some.inj h0
  exact Dr 4
 ·refine Br 6 ⟨[(2, .ptr 128 0), (3, .ptr 192 0), (5, iV 0)], [(128, Ah a0), (192, Ah a1)], []⟩ (Cr (bb h0 fun r28 e29 h0 => Dt (R := (fun S => .inl () = r28 ∧ S = ⟨[], [], []⟩)) (Sp a0 a1) (fun s S => match s with | p14 => S = ⟨[(2, .ptr 128 0), (3, .ptr 192 0), (5, iV p14)], [(128, Ah a0), (192, Ah a1)], []⟩) e29 _ (Bw (by kernel_rfl)) rfl 0 (fun _ => rfl) ?_ ?_))
  ·rintro S _ hfg ⟨rfl, rfl⟩
   refine Dv _ hfg ?_
   obtain rfl := Option.some.inj h0
   exact Dr 4
  ·rintro p14 o1 _ K1 rfl h1 hx1 hK1 hE1 hR1
   refine Bu 5 (Au (st (c_ (Cn (e := Bi) (l0 := a0.Aa) rfl rfl tv) (o_ (Br 2 ⟨[(2, .ptr 128 0), (3, .ptr 192 0), (5, iV p14), (40, .bool (decide (p14 < (a0.Aa.length : Int))))], [(128, Ah a0), (192, Ah a1)], []⟩ (Dm h1 (fun c22 h1 => ?_) (fun c22 h1 => ?_)))))))
   ·refine Uv 5 ?_
    obtain ⟨y23, e24, h1⟩ := bnd h1
    refine bb h1 fun y25 e26 h1 => Bu 3 (Dh (Ak tv (c_ (Cj (e := Bi) (y := y23) rfl rfl tv rfl rfl tv e24) (⟨tv, (d_ (Bu 4 (Dh (Ak tv (c_ (Cj (e := Bi) (y := y25) rfl rfl tv rfl rfl tv e26) (⟨tv, (d_ (Br 3 ⟨[(2, .ptr 128 0), (3, .ptr 192 0), (5, iV p14), (53, .bool (!((y23.Av == y25.Av) && ((y23.Hl == y25.Hl) && true))))], [(128, Ah a0), (192, Ah a1)], []⟩ (Dm h1 (fun c27 h1 => ?_) (fun c27 h1 => ?_))))⟩))))))⟩))))
    ·obtain rfl := Option.some.inj h1
     obtain rfl := hx1 _ rfl
     obtain rfl := Option.some.inj h0
     exact aN 4 hR1
    ·refine Bu 7 ?_
     obtain rfl := Option.some.inj h1
     exact hK1 _ rfl _ _ (Bw (by kernel_rfl)) rfl
   ·obtain rfl := Option.some.inj h1
    obtain rfl := hx1 _ rfl
    refine Nc rfl ?_
    exact hE1 _ _ (Bw (by kernel_rfl)) ⟨rfl, rfl⟩

/- loop.example/g00149/laws.FnVaults -/
def JG := [k_ 2 (.bool false)]
def JH := [m_ 12 0, n_ 13 12, B_ .gtr 14 13 1048576]
def JI := [k_ 2 (.bool true)]
def JJ := [m_ 16 0, q_ 17 51 [(.t 16)], q_ 18 50 [(.t 17)], m_ 15 18, e_ 19 15 0, e_ 20 15 1, e_ 21 15 2, a_ 3 [(iV 0), (iV 0), (.own 195 0 4 []), (.own 196 0 2 []), (.own 197 0 1 []), (.bool false)], s_ 3 19 6, m_ 4 20, m_ 5 21]
def JK := [L_ 23 3 6, q_ 24 250 [(.t 23)], m_ 22 24, e_ 25 22 0, e_ 26 22 1, m_ 6 25, m_ 7 26]
def JL := [m_ 28 6, f_ 29 3 4, l_ 30 29 1, q_ 31 258 [(.t 28), (.t 30)], m_ 27 31, e_ 32 27 0, e_ 33 27 1, a_ 8 [(iV 0), (iV 0), (.own 515 0 4 []), (.own 516 0 2 []), (.own 517 0 1 []), (.bool false)], s_ 8 32 6, m_ 9 33]
def JM := [L_ 35 3 6, q_ 36 249 [(.t 35)], m_ 34 36, e_ 37 34 0, e_ 38 34 1, m_ 10 37, m_ 11 38]
def JN : List Ch := [m_ 39 7, B_ .eql 40 39 0, m_ 41 40, pT 41 42 (.mv (.t 9)), pT 41 43 (.bin .eql (.t 42) (.c (iV 0))), pk 44 (.t 41) (.t 43) (.c (.bool false)), m_ 45 44, pT 45 46 (.mv (.t 6)), pT 45 47 (.mv (.t 10)), ⟨some 48, .call 260 [(.t 46), (.t 47)], some (45, true)⟩, pk 49 (.t 45) (.t 48) (.c (.bool false)), m_ 50 49, pT 50 51 (.load (.t 8) 6 true), pT 50 52 (.load (.t 3) 6 true), ⟨some 53, .call 261 [(.t 51), (.t 52)], some (50, true)⟩, pk 54 (.t 50) (.t 53) (.c (.bool false)), m_ 2 54]
def JF : El := { np := 1, nt := 55, res := [.t 2], body := (.seq (.reg JG) (.seq (.seq (.reg JH) (.ite (.t 14) (.seq (.reg JI) .ret) .skip)) (.seq (.reg JJ) (.seq (.reg JK) (.seq (.reg JL) (.seq (.reg JM) (.seq (.reg JN) .ret))))))) }
def K211 (D : Bc) : Prop := ∀ (a0 : List UInt8) (r : Bool), Adn a0 = some r → D 211 ⟨[pV a0], []⟩ ⟨.bool r, [], []⟩
theorem F211 {C : Bc} (H50 : K50 C) (H51 : K51 C) (H249 : WM C) (H250 : WN C) (H258 : WO C) (H260 : WP C) (H261 : WQ C) : K211 (fun _ => Cp C JF) := by
 intro a0 r h0
 refine Fe (nl rfl) (Br 3 ⟨[(0, pV a0)], [], []⟩ (Bu 3 (Au (st (c_ (Cn (e := Wh) (l0 := a0) rfl rfl tv) (o_ (Br 2 ⟨[(0, pV a0), (14, .bool (decide ((a0.length : Int) > 1048576)))], [], []⟩ (Dm h0 (fun c1 h0 => ?_) (fun c1 h0 => ?_)))))))))
 ·obtain rfl := Option.some.inj h0
  exact Dr 4
 ·refine Bu 4 (Au (bb h0 fun r2 e3 h0 => st (Bv (r := Ep 0 r2) true (H51 a0 r2 e3) ⟨tv, tv⟩ rfl rfl (fun h => nomatch h) (bb h0 fun r4 e5 h0 => dE (H50 r2 r4 e5) (Bs rfl (Bs rfl (Bs (Hr (fun _ => rfl)) (Bs (Hr (fun _ => rfl)) (Bs (Hr (fun _ => rfl)) (Bs rfl (Bs (Hr (fun _ => rfl)) (Bs rfl rfl)))))))) (o_ (Bu 5 (Au (sw ⟨[(3, .ptr 192 0), (19, .agg (By r4.1 (An 1152) (An 1153) (An 1154))), (20, Cs 1155 r4.2.1), (21, iV r4.2.2)], [(192, (Aj 0 0 (An 195) [] (An 196) [] (An 197) [] false))], []⟩ (Bw (by kernel_rfl)) (Ia rfl rfl tv rfl rfl rfl (nl rfl) (o_ (Br 3 ⟨[(3, .ptr 192 0)], [(192, By r4.1 (An 1152) (An 1153) (An 1154))], []⟩ (Bu 2 (Au (bb h0 fun r6 e7 h0 => dE (H250 r4.1 r6 e7) (Bs (Hr (fun _ => rfl)) (Bs rfl rfl)) (o_ (Br 6 ⟨[(3, .ptr 192 0), (6, Bf 1536 r6.1), (7, iV r6.2)], [(192, By r4.1 (An 1152) (An 1153) (An 1154))], []⟩ (Bu 4 (Au (bb h0 fun r8 e9 h0 => dE (H258 r6.1 r4.1.Ae r8 e9) (Bs rfl (Bs rfl (Bs (Hr (fun _ => rfl)) (Bs (Hr (fun _ => rfl)) (Bs (Hr (fun _ => rfl)) (Bs rfl (Bs rfl rfl))))))) (o_ (Bu 5 (Au (sw ⟨[(3, .ptr 192 0), (6, Bf 1536 r6.1), (7, iV r6.2), (8, .ptr 512 0), (33, iV r8.2)], [(192, By r4.1 (An 1152) (An 1153) (An 1154)), (512, By r8.1 (An 1984) (An 1985) (An 1986))], []⟩ (Bw (by kernel_rfl)) (Df rfl tv (o_ (Br 1 ⟨[(3, .ptr 192 0), (6, Bf 1536 r6.1), (7, iV r6.2), (8, .ptr 512 0), (9, iV r8.2)], [(192, By r4.1 (An 1152) (An 1153) (An 1154)), (512, By r8.1 (An 1984) (An 1985) (An 1986))], []⟩ (Bu 2 (Au (bb h0 fun r10 e11 h0 => dE (H249 r4.1 r10 e11) (Bs (Hr (fun _ => rfl)) (Bs rfl rfl)) (o_ (Br 6 ⟨[(3, .ptr 192 0), (6, Bf 1536 r6.1), (7, iV r6.2), (8, .ptr 512 0), (9, iV r8.2), (10, Bf 2304 r10.1)], [(192, By r4.1 (An 1152) (An 1153) (An 1154)), (512, By r8.1 (An 1984) (An 1985) (An 1986))], []⟩ (Lh 10 (Au (bb h0 fun r12 e13 h0 => sw ⟨[(3, .ptr 192 0), (8, .ptr 512 0), (45, .bool (bif (r6.2 == 0) then (r8.2 == 0) else false)), (46, .may ((bif (r6.2 == 0) then (r8.2 == 0) else false) == true) (Bf 1536 r6.1)), (47, .may ((bif (r6.2 == 0) then (r8.2 == 0) else false) == true) (Bf 2304 r10.1))], [(192, By r4.1 (An 1152) (An 1153) (An 1154)), (512, By r8.1 (An 1984) (An 1985) (An 1986))], []⟩ (Bw (by kernel_rfl)) (Ga (r := .bool r12) rfl false (fun hg => H260 r6.1 r10.1 r12 (ip hg e13)) ⟨(fun hg => hg), (fun hg => hg), tv⟩ (fun _ => rfl) (fun _ => rfl) (fun _ => rfl) (fun h => nomatch h) (o_ (Lh 4 (Au (bb h0 fun r14 e15 h0 => sw ⟨[(50, .bool (bif (bif (r6.2 == 0) then (r8.2 == 0) else false) then r12 else false)), (51, .may ((bif (bif (r6.2 == 0) then (r8.2 == 0) else false) then r12 else false) == true) (.agg (By r8.1 (An 1984) (An 1985) (An 1986)))), (52, .may ((bif (bif (r6.2 == 0) then (r8.2 == 0) else false) then r12 else false) == true) (.agg (By r4.1 (An 1152) (An 1153) (An 1154))))], [], []⟩ (Bw (by kernel_rfl)) (Ga (r := .bool r14) rfl false (fun hg => H261 r8.1 r4.1 r14 (ip hg e15)) ⟨(fun hg => hg), (fun hg => hg), tv⟩ (fun _ => rfl) (fun _ => rfl) (fun _ => rfl) (fun h => nomatch h) (o_ (Lh 3 (bv h0 fun v16 e17 h0 => Dv ⟨[(2, .bool v16)], [], []⟩ (Bw (by subst e17; kernel_rfl)) ?_)))))))))))))))))))))))))))))))))))))))))))
  obtain rfl := Option.some.inj h0
  exact cL (Mb rfl rfl rfl rfl rfl tv)
end Go.Ev
