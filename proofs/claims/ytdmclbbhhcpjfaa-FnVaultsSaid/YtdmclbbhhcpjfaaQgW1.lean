/- The walks of functions: the code comes to the answers that QgD tells. Written by a program of ours. -/
import Derived.Test.YtdmclbbhhcpjfaaQgW0
set_option linter.all false
set_option maxHeartbeats 4000000
set_option linter.unusedVariables false
set_option maxRecDepth 100000
namespace Go.Ev

/- (*loop.example/g00149/spec.l00Src).Dd -/
def IY : List Ch := [⟨some 2, .nilS 1, none⟩]
def IZ : List Ch := [⟨some 5, .mkS 1 [(iV 0)] 0 [], none⟩, m_ 3 5]
def JA := [m_ 6 0, q_ 7 117 [(.t 6), (.c (iV 4))], m_ 4 7]
def JB := [m_ 8 4, B_ .gtr 9 8 0]
def JC : List Ch := [m_ 12 3, m_ 13 0, q_ 14 117 [(.t 13), (.c (iV 5))], B_ .rem 15 14 3, ⟨some 16, .mkS 1 [(iV 0)] 1 [(0, (.t 15))], none⟩, ⟨some 17, .app 1 8 (.t 12) (.t 16), none⟩, m_ 3 17]
def JD := [m_ 10 4, B_ .sub 11 10 1, m_ 4 11]
def IX : IR := (.seq (.seq (.reg JB) (.ite (.t 9) .skip (.exit 0))) (.seq (.block 1 (.reg JC)) (.reg JD)))
def JE := [m_ 18 3, m_ 2 18]
def oU : El := { np := 1, nt := 19, res := [.t 2], body := (.seq (.reg IY) (.seq (.reg IZ) (.seq (.seq (.reg JA) (.block 0 (.loop IX))) (.seq (.reg JE) .ret)))) }
def WK (D : Bc) : Prop := ∀ (a0 : Bj) (r : (List Int) × Bj), wD a0 = some r → D 147 ⟨[.ptr 1048576 0], [(Bg a0)]⟩ ⟨oI 0 r.1, [(Bg r.2)], []⟩
theorem F147 {C : Bc} (H117 : oH C) : WK (fun _ => Cp C oU) := by
 intro a0 r h0
 refine Fe (nl rfl) (Br 8 ⟨[(0, .ptr 1048576 0), (3, oI 320 [])], [(1048576, Bg a0)], []⟩ (Bu 3 (Au (bb h0 fun r1 e2 h0 => st (Ef [1048576] [] [] true (H117 a0 4 r1 e2) ⟨tv, tv, tv⟩ (by kernel_rfl) (by kernel_rfl) (by kernel_rfl) (by kernel_rfl) (fun h => nomatch h) (o_ (Br 2 ⟨[(0, .ptr 1048576 0), (3, oI 320 []), (4, iV r1.1)], [(1048576, Bg r1.2)], []⟩ (Cr (bb h0 fun r29 e30 h0 => Dt (R := (fun S => ∃ p21 : List Int, ∃ p22 : List UInt8, ∃ p23 : Int, ∃ p24 : Int, (p21, p22, p23, p24) = r29 ∧ S = ⟨[(3, oI 320 p21)], [(1048576, (En u_ p22 p23 p24))], []⟩)) (Wt) (fun s S => match s with | (p7, p8, p9, p10, p11) => S = ⟨[(0, .ptr 1048576 0), (3, oI 320 p7), (4, iV p8)], [(1048576, (En u_ p9 p10 p11))], []⟩) e30 _ (Bw (by kernel_rfl)) rfl 0 (fun _ => rfl) ?_ ?_)))))))))
 ·rintro S _ hfg ⟨p21, p22, p23, p24, rfl, rfl⟩
  refine Dv _ hfg ?_
  obtain rfl := Option.some.inj h0
  exact Dr 5
 ·rintro ⟨p7, p8, p9, p10, p11⟩ o1 _ K1 rfl h1 hx1 hK1 hE1 hR1
  refine Br 5 ⟨[(0, .ptr 1048576 0), (3, oI 320 p7), (4, iV p8), (9, .bool (decide (p8 > 0)))], [(1048576, (En u_ p9 p10 p11))], []⟩ (Dm h1 (fun c25 h1 => ?_) (fun c25 h1 => ?_))
  ·refine Bu 6 (Au (bb h1 fun r26 e27 h1 => st (Ef [1048576] [] [] true (H117 (Bj.mk p9 p10 p11) 5 r26 e27) ⟨tv, tv, tv⟩ (by kernel_rfl) (by kernel_rfl) (by kernel_rfl) (by kernel_rfl) (fun h => nomatch h) (st (c_ (Ay ⟨tv, tv, tv⟩ rfl (by decide)) (st (Ni ⟨tv, tv⟩ ⟨⟨nl rfl, rfl, rfl⟩, tv⟩ (gg h1 fun c28 h1 => st (Hj (e := eI) (l0 := p7) (l1 := ([(r26.1).tmod 3] : List Int)) rfl rfl tv rfl (by decide) c28 (o_ (Br 3 ⟨[(0, .ptr 1048576 0), (3, oI 320 (p7 ++ ([(r26.1).tmod 3] : List Int))), (4, iV p8)], [(1048576, Bg r26.2)], []⟩ (Bu 4 ?_))))))))))))
   obtain rfl := Option.some.inj h1
   exact hK1 _ rfl _ _ (Bw (by kernel_rfl)) rfl
  ·obtain rfl := Option.some.inj h1
   obtain rfl := hx1 _ rfl
   refine Nc rfl ?_
   exact hE1 _ _ (Bw (by kernel_rfl)) ⟨_, _, _, _, rfl, rfl⟩

/- (*loop.example/g00149/spec.l00Src).vaultAct -/
def HC := [a_ 2 [(iV 0), (iV 0), (iV 0), (iV 0), (iV 0), (.own 134 0 1 []), (iV 0)]]
def HD : List Ch := [m_ 4 0, q_ 5 117 [(.t 4), (.c (iV 9))], ⟨some 6, .p (.bin .add (.c (iV 1)) (.t 5)), none⟩, m_ 7 0, q_ 8 147 [(.t 7)], ⟨some 9, .p (.build [(iV 0), (iV 0), (iV 0), (iV 0), (iV 0), (.own 582 0 1 []), (iV 0)] [(0, 1, (.c (iV 1))), (2, 1, (.t 6)), (5, 1, (.t 8))]), none⟩, a_ 3 [(iV 0), (iV 0), (iV 0), (iV 0), (iV 0), (.own 198 0 1 []), (iV 0)], s_ 3 9 7]
def HE := tk [f_ 10 3 2, l_ 11 10 1, m_ 12 0] (.alt [l_ 11 10 1, f_ 10 3 2] (q_ 13 117 [(.t 12), (.c (iV 9))]) (tk [b_ .add 14 11 13, f_ 15 3 3] (.alt [] (s_ 15 14 1) .fin .stop)) .stop)
def HF := [m_ 16 0, q_ 17 117 [(.t 16), (.c (iV 10))]]
def HG := [B_ .eql 19 17 0, m_ 18 19]
def HH : List Ch := [m_ 20 0, q_ 21 117 [(.t 20), (.c (iV 9))], ⟨some 22, .p (.bin .add (.c (iV 1)) (.t 21)), none⟩, m_ 23 0, q_ 24 117 [(.t 23), (.c (iV 12))], ⟨some 25, .p (.bin .add (.c (iV 1)) (.t 24)), none⟩, ⟨some 26, .p (.build [(iV 0), (iV 0), (iV 0), (iV 0), (iV 0), (.own 1670 0 1 []), (iV 0)] [(0, 1, (.c (iV 2))), (1, 1, (.t 22)), (2, 1, (.t 25))]), none⟩, s_ 3 26 7]
def HI := [B_ .eql 28 17 1, m_ 27 28]
def HJ : List Ch := [m_ 29 0, q_ 30 117 [(.t 29), (.c (iV 9))], ⟨some 31, .p (.bin .add (.c (iV 1)) (.t 30)), none⟩, ⟨some 32, .p (.build [(iV 0), (iV 0), (iV 0), (iV 0), (iV 0), (.own 2054 0 1 []), (iV 0)] [(0, 1, (.c (iV 3))), (1, 1, (.t 31))]), none⟩, s_ 3 32 7]
def HK := [B_ .eql 34 17 2, m_ 33 34]
def HL := [B_ .eql 35 17 3, m_ 33 35]
def tY := [B_ .eql 36 17 4, m_ 33 36]
def tZ : List Ch := [m_ 37 0, q_ 38 117 [(.t 37), (.c (iV 60))], m_ 39 0, q_ 40 147 [(.t 39)], ⟨some 41, .p (.build [(iV 0), (iV 0), (iV 0), (iV 0), (iV 0), (.own 2630 0 1 []), (iV 0)] [(0, 1, (.c (iV 4))), (4, 1, (.t 38)), (5, 1, (.t 40))]), none⟩, s_ 3 41 7]
def uA := [B_ .eql 43 17 5, m_ 42 43]
def uB : List Ch := [⟨some 44, .mkS 1 [(iV 0)] 4 [(0, (.c (iV 5))), (1, (.c (iV 6))), (2, (.c (iV 6))), (3, (.c (iV 6)))], none⟩, m_ 45 0, q_ 46 117 [(.t 45), (.c (iV 4))], x_ 47 44 46 1, l_ 48 47 1, ⟨some 49, .p (.build [(iV 0), (iV 0), (iV 0), (iV 0), (iV 0), (.own 3142 0 1 []), (iV 0)] [(0, 1, (.t 48))]), none⟩, s_ 3 49 7]
def uC := [m_ 50 0, q_ 51 119 [(.t 50), (.c (iV 7))]]
def uD : List Ch := [m_ 52 0, q_ 53 117 [(.t 52), (.c (iV 2))], ⟨some 54, .p (.bin .add (.c (iV 1)) (.t 53)), none⟩, f_ 55 3 6, s_ 55 54 1]
def uE := [L_ 56 3 7, s_ 2 56 7]
def HB : El := { np := 1, nt := 57, res := [.cell 2 7 true], body := (.seq (.reg HC) (.seq (.reg HD) (.seq (.draw HE) (.seq (.seq (.reg HF) (.block 0 (.seq (.reg HG) (.ite (.t 18) (.reg HH) (.seq (.reg HI) (.ite (.t 27) (.reg HJ) (.seq (.seq (.reg HK) (.ite (.t 33) .skip (.seq (.reg HL) (.ite (.t 33) .skip (.reg tY))))) (.ite (.t 33) (.reg tZ) (.seq (.reg uA) (.ite (.t 42) (.reg uB) .skip)))))))))) (.seq (.seq (.reg uC) (.ite (.t 51) (.reg uD) .skip)) (.seq (.reg uE) .ret)))))) }
def WF (D : Bc) : Prop := ∀ (a0 : Bj) (r : Am × Bj), RH a0 = some r → D 135 ⟨[.ptr 1048576 0], [(Bg a0)]⟩ ⟨.agg (Zk r.1 (An 0)), [(Bg r.2)], []⟩
theorem F135 {C : Bc} (H117 : oH C) (H119 : VW C) (H147 : WK C) : WF (fun _ => Cp C HB) := by
 intro a0 r h0
 refine Fe (nl rfl) (Br 3 ⟨[(0, .ptr 1048576 0), (2, .ptr 128 0)], [(128, (Ax 0 0 0 0 0 (An 134) [] 0)), (1048576, Bg a0)], []⟩ (Bz (Au (st (Df rfl tv (bb h0 fun r1 e2 h0 => st (Ef [1048576] [] [] true (H117 a0 9 r1 e2) ⟨tv, tv, tv⟩ (by kernel_rfl) (by kernel_rfl) (by kernel_rfl) (by kernel_rfl) (fun h => nomatch h) (sw ⟨[(0, .ptr 1048576 0), (2, .ptr 128 0), (5, iV r1.1)], [(128, (Ax 0 0 0 0 0 (An 134) [] 0)), (1048576, Bg r1.2)], []⟩ (Bw (by kernel_rfl)) (c_ (Ay t3 rfl tv) (st (Df rfl tv (bb h0 fun r3 e4 h0 => st (Ef [1048576] [] [] true (H147 r1.2 r3 e4) ⟨tv, tv⟩ (by kernel_rfl) (by kernel_rfl) (by kernel_rfl) (by kernel_rfl) (fun h => nomatch h) (sw ⟨[(0, .ptr 1048576 0), (2, .ptr 128 0), (6, iV (IntKind.i64.wrap (1 + r1.1))), (8, oI 512 r3.1)], [(128, (Ax 0 0 0 0 0 (An 134) [] 0)), (1048576, Bg r3.2)], []⟩ (Bw (by kernel_rfl)) (c_ (v := .agg (Ax 1 0 (IntKind.i64.wrap (1 + r1.1)) 0 0 (An 512) r3.1 0)) (Ay ⟨tv, tv, tv, tv⟩ rfl ⟨⟨rfl, rfl, nl rfl⟩, ⟨rfl, rfl, nl rfl⟩, ⟨rfl, rfl, nl rfl⟩, tv⟩) (o_ (Br 3 ⟨[(0, .ptr 1048576 0), (2, .ptr 128 0), (3, .ptr 192 0)], [(128, (Ax 0 0 0 0 0 (An 134) [] 0)), (192, (Ax 1 0 (IntKind.i64.wrap (1 + r1.1)) 0 0 (An 512) r3.1 0)), (1048576, Bg r3.2)], []⟩ (Bz (bb h0 fun r5 e6 h0 => Bu 3 (Dh (Ci (Ef [1048576] [] [] true (H117 r3.2 9 r5 e6) ⟨tv, tv, tv⟩ (by kernel_rfl) (by kernel_rfl) (by kernel_rfl) (by kernel_rfl) (fun h => nomatch h) (Jf ⟨[(0, .ptr 1048576 0), (2, .ptr 128 0), (3, .ptr 192 0), (10, .ptr 192 2), (11, iV (IntKind.i64.wrap (1 + r1.1))), (13, iV r5.1)], [(128, (Ax 0 0 0 0 0 (An 134) [] 0)), (192, (Ax 1 0 (IntKind.i64.wrap (1 + r1.1)) 0 0 (An 512) r3.1 0)), (1048576, Bg r5.2)], []⟩ (Bw (by kernel_rfl)) ⟨[], ⟨⟨.inl tv, (Ao (Ay ⟨tv, tv⟩ rfl (nl rfl)) rfl)⟩, ⟨.inl tv, (Ao (Ay ⟨tv, tv⟩ rfl tv) rfl)⟩, tv⟩, tv, (d_ (Bu 2 (Dh (Ci (Ia rfl rfl tv rfl rfl rfl (nl rfl) (Jr ⟨[], tv, tv, (d_ (Br 1 ⟨[(0, .ptr 1048576 0), (2, .ptr 128 0), (3, .ptr 192 0)], [(128, (Ax 0 0 0 0 0 (An 134) [] 0)), (192, (Ax 1 0 (IntKind.i64.wrap (1 + r1.1)) (IntKind.i64.wrap ((IntKind.i64.wrap (1 + r1.1)) + r5.1)) 0 (An 512) r3.1 0)), (1048576, Bg r5.2)], []⟩ (Bu 3 (Au (bb h0 fun r7 e8 h0 => st (Ef [1048576] [] [] true (H117 r5.2 10 r7 e8) ⟨tv, tv, tv⟩ (by kernel_rfl) (by kernel_rfl) (by kernel_rfl) (by kernel_rfl) (fun h => nomatch h) (o_ (Br 1 ⟨[(0, .ptr 1048576 0), (2, .ptr 128 0), (3, .ptr 192 0), (17, iV r7.1)], [(128, (Ax 0 0 0 0 0 (An 134) [] 0)), (192, (Ax 1 0 (IntKind.i64.wrap (1 + r1.1)) (IntKind.i64.wrap ((IntKind.i64.wrap (1 + r1.1)) + r5.1)) 0 (An 512) r3.1 0)), (1048576, Bg r7.2)], []⟩ (Np (fun S => ∃ p32 : Int, ∃ p33 : Int, ∃ p34 : Int, ∃ p35 : Int, ∃ p36 : Int, ∃ p37 : List Int, ∃ p38 : List UInt8, ∃ p39 : Int, ∃ p40 : Int, S = ⟨[(0, .ptr 1048576 0), (2, .ptr 128 0), (3, .ptr 192 0)], [(128, (Ax 0 0 0 0 0 (An 134) [] 0)), (192, (Ax p32 p33 p34 p35 p36 (An 1670) p37 0)), (1048576, (En u_ p38 p39 p40))], []⟩ ∧ Ks p32 p33 p34 p35 p36 p37 p38 p39 p40 = some r) ?_ (fun J54 => ?_))))))))))⟩)) Bp))))⟩)) Bp)))))))))))))))))))))
 ·rintro _ ⟨p32, p33, p34, p35, p36, p37, p38, p39, p40, rfl, h0⟩
  refine Bu 4 (Au (bb h0 fun r41 e42 h0 => st (Ef [1048576] [] [] true (H119 (Bj.mk p38 p39 p40) 7 r41 e42) ⟨tv, tv, tv⟩ (by kernel_rfl) (by kernel_rfl) (by kernel_rfl) (by kernel_rfl) (fun h => nomatch h) (o_ (Br 1 ⟨[(0, .ptr 1048576 0), (2, .ptr 128 0), (3, .ptr 192 0), (51, .bool r41.1)], [(128, (Ax 0 0 0 0 0 (An 134) [] 0)), (192, (Ax p32 p33 p34 p35 p36 (An 1670) p37 0)), (1048576, Bg r41.2)], []⟩ (aX (cb := r41.1) (fun S => ∃ p46 : Int, ∃ p47 : List UInt8, ∃ p48 : Int, ∃ p49 : Int, S = ⟨[(2, .ptr 128 0), (3, .ptr 192 0)], [(128, (Ax 0 0 0 0 0 (An 134) [] 0)), (192, (Ax p32 p33 p34 p35 p36 (An 1670) p37 p46)), (1048576, (En u_ p47 p48 p49))], []⟩ ∧ Wp p32 p33 p34 p35 p36 p37 p46 p47 p48 p49 = some r) rfl ?_ (fun UP J50 => ?_) (fun UP J50 => ?_)))))))
  ·rintro _ ⟨p46, p47, p48, p49, rfl, h0⟩
   obtain rfl := Option.some.inj h0
   exact Dr 6
  ·replace h0 := ip UP h0
   refine Au (st (Df rfl tv (bb h0 fun r52 e53 h0 => st (Ef [1048576] [] [] true (H117 r41.2 2 r52 e53) ⟨tv, tv, tv⟩ (by kernel_rfl) (by kernel_rfl) (by kernel_rfl) (by kernel_rfl) (fun h => nomatch h) (sw ⟨[(2, .ptr 128 0), (3, .ptr 192 0), (53, iV r52.1)], [(128, (Ax 0 0 0 0 0 (An 134) [] 0)), (192, (Ax p32 p33 p34 p35 p36 (An 1670) p37 0)), (1048576, Bg r52.2)], []⟩ (Bw (by kernel_rfl)) (c_ (Ay t3 rfl tv) (o_ (Bu 3 ?_))))))))
   exact J50 _ _ (Bw (by kernel_rfl)) ⟨_, _, _, _, rfl, h0⟩
  ·replace h0 := wX UP h0
   refine Nj ?_
   exact J50 _ _ (Bw (by kernel_rfl)) ⟨_, _, _, _, rfl, h0⟩
 ·refine Bz ?_
  refine Br 3 ⟨[(0, .ptr 1048576 0), (2, .ptr 128 0), (3, .ptr 192 0), (17, iV r7.1), (18, .bool (r7.1 == 0))], [(128, (Ax 0 0 0 0 0 (An 134) [] 0)), (192, (Ax 1 0 (IntKind.i64.wrap (1 + r1.1)) (IntKind.i64.wrap ((IntKind.i64.wrap (1 + r1.1)) + r5.1)) 0 (An 512) r3.1 0)), (1048576, Bg r7.2)], []⟩ (Dm h0 (fun c55 h0 => ?_) (fun c55 h0 => ?_))
  ·refine Au (st (Df rfl tv (bb h0 fun r56 e57 h0 => st (Ef [1048576] [] [] true (H117 r7.2 9 r56 e57) ⟨tv, tv, tv⟩ (by kernel_rfl) (by kernel_rfl) (by kernel_rfl) (by kernel_rfl) (fun h => nomatch h) (sw ⟨[(0, .ptr 1048576 0), (2, .ptr 128 0), (3, .ptr 192 0), (21, iV r56.1)], [(128, (Ax 0 0 0 0 0 (An 134) [] 0)), (192, (Ax 1 0 (IntKind.i64.wrap (1 + r1.1)) (IntKind.i64.wrap ((IntKind.i64.wrap (1 + r1.1)) + r5.1)) 0 (An 512) r3.1 0)), (1048576, Bg r56.2)], []⟩ (Bw (by kernel_rfl)) (c_ (Ay t3 rfl tv) (st (Df rfl tv (bb h0 fun r58 e59 h0 => st (Ef [1048576] [] [] true (H117 r56.2 12 r58 e59) ⟨tv, tv, tv⟩ (by kernel_rfl) (by kernel_rfl) (by kernel_rfl) (by kernel_rfl) (fun h => nomatch h) (sw ⟨[(0, .ptr 1048576 0), (2, .ptr 128 0), (3, .ptr 192 0), (22, iV (IntKind.i64.wrap (1 + r56.1))), (24, iV r58.1)], [(128, (Ax 0 0 0 0 0 (An 134) [] 0)), (192, (Ax 1 0 (IntKind.i64.wrap (1 + r1.1)) (IntKind.i64.wrap ((IntKind.i64.wrap (1 + r1.1)) + r5.1)) 0 (An 512) r3.1 0)), (1048576, Bg r58.2)], []⟩ (Bw (by kernel_rfl)) (c_ (Ay t3 rfl tv) (st (c_ (v := .agg (Ax 2 (IntKind.i64.wrap (1 + r56.1)) (IntKind.i64.wrap (1 + r58.1)) 0 0 (An 1670) [] 0)) (Ay ⟨tv, tv, tv, tv⟩ rfl ⟨⟨rfl, rfl, nl rfl⟩, ⟨rfl, rfl, nl rfl⟩, ⟨rfl, rfl, nl rfl⟩, tv⟩) (o_ (Bu 3 ?_))))))))))))))))
   exact J54 _ _ (Bw (by kernel_rfl)) ⟨_, _, _, _, _, _, _, _, _, rfl, h0⟩
  ·refine Br 4 ⟨[(0, .ptr 1048576 0), (2, .ptr 128 0), (3, .ptr 192 0), (17, iV r7.1), (27, .bool (r7.1 == 1))], [(128, (Ax 0 0 0 0 0 (An 134) [] 0)), (192, (Ax 1 0 (IntKind.i64.wrap (1 + r1.1)) (IntKind.i64.wrap ((IntKind.i64.wrap (1 + r1.1)) + r5.1)) 0 (An 512) r3.1 0)), (1048576, Bg r7.2)], []⟩ (Dm h0 (fun c60 h0 => ?_) (fun c60 h0 => ?_))
   ·refine Au (st (Df rfl tv (bb h0 fun r61 e62 h0 => st (Ef [1048576] [] [] true (H117 r7.2 9 r61 e62) ⟨tv, tv, tv⟩ (by kernel_rfl) (by kernel_rfl) (by kernel_rfl) (by kernel_rfl) (fun h => nomatch h) (sw ⟨[(0, .ptr 1048576 0), (2, .ptr 128 0), (3, .ptr 192 0), (30, iV r61.1)], [(128, (Ax 0 0 0 0 0 (An 134) [] 0)), (192, (Ax 1 0 (IntKind.i64.wrap (1 + r1.1)) (IntKind.i64.wrap ((IntKind.i64.wrap (1 + r1.1)) + r5.1)) 0 (An 512) r3.1 0)), (1048576, Bg r61.2)], []⟩ (Bw (by kernel_rfl)) (c_ (Ay t3 rfl tv) (st (c_ (v := .agg (Ax 3 (IntKind.i64.wrap (1 + r61.1)) 0 0 0 (An 2054) [] 0)) (Ay ⟨tv, tv, tv⟩ rfl ⟨⟨rfl, rfl, nl rfl⟩, ⟨rfl, rfl, nl rfl⟩, tv⟩) (o_ (Bu 3 ?_))))))))))
    exact J54 _ ⟨[(0, .ptr 1048576 0), (2, .ptr 128 0), (3, .ptr 192 0)], [(128, (Ax 0 0 0 0 0 (An 134) [] 0)), (192, (Ax 3 (IntKind.i64.wrap (1 + r61.1)) 0 0 0 (An 1670) [] 0)), (1048576, Bg r61.2)], []⟩ (dJ [] [(2054, 1670)] rfl (by kernel_rfl)) ⟨_, _, _, _, _, _, _, _, _, rfl, h0⟩
   ·refine Br 5 ⟨[(0, .ptr 1048576 0), (2, .ptr 128 0), (3, .ptr 192 0), (17, iV r7.1), (33, .bool (r7.1 == 2))], [(128, (Ax 0 0 0 0 0 (An 134) [] 0)), (192, (Ax 1 0 (IntKind.i64.wrap (1 + r1.1)) (IntKind.i64.wrap ((IntKind.i64.wrap (1 + r1.1)) + r5.1)) 0 (An 512) r3.1 0)), (1048576, Bg r7.2)], []⟩ (aX (cb := (r7.1 == 2)) (fun S => ∃ p65 : Bool, S = ⟨[(0, .ptr 1048576 0), (2, .ptr 128 0), (3, .ptr 192 0), (17, iV r7.1), (33, .bool p65)], [(128, (Ax 0 0 0 0 0 (An 134) [] 0)), (192, (Ax 1 0 (IntKind.i64.wrap (1 + r1.1)) (IntKind.i64.wrap ((IntKind.i64.wrap (1 + r1.1)) + r5.1)) 0 (An 512) r3.1 0)), (1048576, Bg r7.2)], []⟩ ∧ Po r1 r3 r5 r7 p65 = some r) rfl ?_ (fun UQ J78 => ?_) (fun UQ J78 => ?_))
    ·rintro _ ⟨p65, rfl, h0⟩
     refine Uv 1 (Dm h0 (fun c66 h0 => ?_) (fun c66 h0 => ?_))
     ·refine Au (st (Df rfl tv (bb h0 fun r67 e68 h0 => st (Ef [1048576] [] [] true (H117 r7.2 60 r67 e68) ⟨tv, tv, tv⟩ (by kernel_rfl) (by kernel_rfl) (by kernel_rfl) (by kernel_rfl) (fun h => nomatch h) (sw ⟨[(0, .ptr 1048576 0), (2, .ptr 128 0), (3, .ptr 192 0), (38, iV r67.1)], [(128, (Ax 0 0 0 0 0 (An 134) [] 0)), (192, (Ax 1 0 (IntKind.i64.wrap (1 + r1.1)) (IntKind.i64.wrap ((IntKind.i64.wrap (1 + r1.1)) + r5.1)) 0 (An 512) r3.1 0)), (1048576, Bg r67.2)], []⟩ (Bw (by kernel_rfl)) (Df rfl tv (bb h0 fun r69 e70 h0 => st (Ef [1048576] [] [] true (H147 r67.2 r69 e70) ⟨tv, tv⟩ (by kernel_rfl) (by kernel_rfl) (by kernel_rfl) (by kernel_rfl) (fun h => nomatch h) (sw ⟨[(0, .ptr 1048576 0), (2, .ptr 128 0), (3, .ptr 192 0), (38, iV r67.1), (40, oI 2560 r69.1)], [(128, (Ax 0 0 0 0 0 (An 134) [] 0)), (192, (Ax 1 0 (IntKind.i64.wrap (1 + r1.1)) (IntKind.i64.wrap ((IntKind.i64.wrap (1 + r1.1)) + r5.1)) 0 (An 512) r3.1 0)), (1048576, Bg r69.2)], []⟩ (Bw (by kernel_rfl)) (c_ (v := .agg (Ax 4 0 0 0 r67.1 (An 2560) r69.1 0)) (Ay ⟨tv, tv, tv, tv⟩ rfl ⟨⟨rfl, rfl, nl rfl⟩, ⟨rfl, rfl, nl rfl⟩, ⟨rfl, rfl, nl rfl⟩, tv⟩) (o_ (Bu 3 ?_))))))))))))
      exact J54 _ ⟨[(0, .ptr 1048576 0), (2, .ptr 128 0), (3, .ptr 192 0)], [(128, (Ax 0 0 0 0 0 (An 134) [] 0)), (192, (Ax 4 0 0 0 r67.1 (An 1670) r69.1 0)), (1048576, Bg r69.2)], []⟩ (dJ [] [(2560, 1670)] rfl (by kernel_rfl)) ⟨_, _, _, _, _, _, _, _, _, rfl, h0⟩
     ·refine Br 4 ⟨[(0, .ptr 1048576 0), (2, .ptr 128 0), (3, .ptr 192 0), (42, .bool (r7.1 == 5))], [(128, (Ax 0 0 0 0 0 (An 134) [] 0)), (192, (Ax 1 0 (IntKind.i64.wrap (1 + r1.1)) (IntKind.i64.wrap ((IntKind.i64.wrap (1 + r1.1)) + r5.1)) 0 (An 512) r3.1 0)), (1048576, Bg r7.2)], []⟩ (Dm h0 (fun c71 h0 => ?_) (fun c71 h0 => ?_))
      ·refine Bu 2 (Au (bb h0 fun r72 e73 h0 => st (Ef [1048576] [] [] true (H117 r7.2 4 r72 e73) ⟨tv, tv, tv⟩ (by kernel_rfl) (by kernel_rfl) (by kernel_rfl) (by kernel_rfl) (fun h => nomatch h) (bb h0 fun y74 e75 h0 => sw ⟨[(0, .ptr 1048576 0), (2, .ptr 128 0), (3, .ptr 192 0), (44, oI 2816 ([5, 6, 6, 6] : List Int)), (46, iV r72.1)], [(128, (Ax 0 0 0 0 0 (An 134) [] 0)), (192, (Ax 1 0 (IntKind.i64.wrap (1 + r1.1)) (IntKind.i64.wrap ((IntKind.i64.wrap (1 + r1.1)) + r5.1)) 0 (An 512) r3.1 0)), (1048576, Bg r72.2)], []⟩ (Bw (by kernel_rfl)) (c_ (Nb (e := eI) (y := y74) rfl rfl tv rfl rfl tv e75) (bb h0 fun y76 e77 h0 => st (c_ (Fn (e := eI) (y := y76) (v := iV y76) rfl rfl tv rfl rfl e77 rfl (nl rfl) rfl) (st (c_ (v := .agg (Ax y76 0 0 0 0 (An 3142) [] 0)) (Ay ⟨tv, tv⟩ rfl ⟨⟨rfl, rfl, nl rfl⟩, tv⟩) (o_ (Bu 3 ?_)))))))))))
       exact J54 _ ⟨[(0, .ptr 1048576 0), (2, .ptr 128 0), (3, .ptr 192 0)], [(128, (Ax 0 0 0 0 0 (An 134) [] 0)), (192, (Ax y76 0 0 0 0 (An 1670) [] 0)), (1048576, Bg r72.2)], []⟩ (dJ [] [(3142, 1670)] rfl (by kernel_rfl)) ⟨_, _, _, _, _, _, _, _, _, rfl, h0⟩
      ·refine Nj (aR ?_)
       exact J54 _ ⟨[(0, .ptr 1048576 0), (2, .ptr 128 0), (3, .ptr 192 0)], [(128, (Ax 0 0 0 0 0 (An 134) [] 0)), (192, (Ax 1 0 (IntKind.i64.wrap (1 + r1.1)) (IntKind.i64.wrap ((IntKind.i64.wrap (1 + r1.1)) + r5.1)) 0 (An 1670) r3.1 0)), (1048576, Bg r7.2)], []⟩ (dJ [] [(512, 1670)] rfl (by kernel_rfl)) ⟨_, _, _, _, _, _, _, _, _, rfl, h0⟩
    ·replace h0 := ip UQ h0
     refine Nj ?_
     exact J78 _ _ (Bw (by kernel_rfl)) ⟨_, rfl, h0⟩
    ·replace h0 := wX UQ h0
     refine Br 4 ⟨[(0, .ptr 1048576 0), (2, .ptr 128 0), (3, .ptr 192 0), (17, iV r7.1), (33, .bool (r7.1 == 3))], [(128, (Ax 0 0 0 0 0 (An 134) [] 0)), (192, (Ax 1 0 (IntKind.i64.wrap (1 + r1.1)) (IntKind.i64.wrap ((IntKind.i64.wrap (1 + r1.1)) + r5.1)) 0 (An 512) r3.1 0)), (1048576, Bg r7.2)], []⟩ (Dm h0 (fun c80 h0 => ?_) (fun c80 h0 => ?_))
     ·refine Nj ?_
      exact J78 _ _ (Bw (by kernel_rfl)) ⟨_, rfl, h0⟩
     ·refine Bu 3 ?_
      exact J78 _ _ (Bw (by kernel_rfl)) ⟨_, rfl, h0⟩

/- (*loop.example/g00149/spec.l00Src).vaultActs -/
def BM : List Ch := [⟨some 2, .nilS 7, none⟩]
def BN : List Ch := [⟨some 6, .mkS 7 [(iV 0), (iV 0), (iV 0), (iV 0), (iV 0), (.lst 1 []), (iV 0)] 0 [], none⟩, m_ 3 6]
def BO := [m_ 7 0, m_ 8 0, q_ 9 118 [(.t 8), (.c (iV 16))], B_ .add 10 9 3, q_ 11 117 [(.t 7), (.t 10)], m_ 4 11]
def BP := [m_ 12 4, B_ .gtr 13 12 0]
def BQ := [m_ 16 0, q_ 17 135 [(.t 16)], a_ 5 [(iV 0), (iV 0), (iV 0), (iV 0), (iV 0), (.own 326 0 1 []), (iV 0)], s_ 5 17 7]
def BR : List Ch := [m_ 18 3, L_ 19 5 7, ⟨some 20, .mkS 7 [(iV 0), (iV 0), (iV 0), (iV 0), (iV 0), (.lst 1 []), (iV 0)] 1 [(0, (.t 19))], none⟩, ⟨some 21, .app 7 72 (.t 18) (.t 20), none⟩, m_ 3 21]
def BS := [f_ 22 5 6, l_ 23 22 1, B_ .neq 24 23 0, m_ 25 24, pF 25 26 (.fieldA (.t 5) 0), pF 25 27 (.load (.t 26) 1 false), pF 25 28 (.bin .eql (.t 27) (.c (iV 5))), pk 29 (.t 25) (.c (.bool true)) (.t 28)]
def BT : List Ch := [m_ 30 3, ⟨some 31, .p (.build [(iV 0), (iV 0), (iV 0), (iV 0), (iV 0), (.own 1990 0 1 []), (iV 0)] [(0, 1, (.c (iV 6)))]), none⟩, ⟨some 32, .mkS 7 [(iV 0), (iV 0), (iV 0), (iV 0), (iV 0), (.lst 1 []), (iV 0)] 1 [(0, (.t 31))], none⟩, ⟨some 33, .app 7 72 (.t 30) (.t 32), none⟩, m_ 3 33]
def BU := [m_ 14 4, B_ .sub 15 14 1, m_ 4 15]
def BL : IR := (.seq (.seq (.reg BP) (.ite (.t 13) .skip (.exit 0))) (.seq (.block 1 (.seq (.reg BQ) (.seq (.reg BR) (.seq (.reg BS) (.ite (.t 29) (.reg BT) .skip))))) (.reg BU)))
def BV : List Ch := [m_ 34 3, m_ 35 3, n_ 36 35, ⟨some 37, .p (.mn (.t 36) (.c (iV 120))), none⟩, ⟨some 38, .p (.slice (.t 34) none (some (.t 37)) 7), none⟩, m_ 2 38]
def dB : El := { np := 1, nt := 39, res := [.t 2], body := (.seq (.reg BM) (.seq (.reg BN) (.seq (.seq (.reg BO) (.block 0 (.loop BL))) (.seq (.reg BV) .ret)))) }
def VS (D : Bc) : Prop := ∀ (a0 : Bj) (r : (List Am) × Bj), AcW a0 = some r → D 103 ⟨[.ptr 1048576 0], [(Bg a0)]⟩ ⟨Ep 0 r.1, [(Bg r.2)], []⟩
theorem F103 {C : Bc} (H117 : oH C) (H118 : VV C) (H135 : WF C) : VS (fun _ => Cp C dB) := by
 intro a0 r h0
 refine Fe (nl rfl) (Br 8 ⟨[(0, .ptr 1048576 0), (3, Ep 384 [])], [(1048576, Bg a0)], []⟩ (Bu 4 (Au (bb h0 fun r1 e2 h0 => Re (H118 a0 16 r1 e2) (st (c_ (Ay t3 rfl tv) (bb h0 fun r3 e4 h0 => st (Ef [1048576] [] [] true (H117 a0 (IntKind.i64.wrap (r1 + 3)) r3 e4) ⟨tv, tv, tv⟩ (by kernel_rfl) (by kernel_rfl) (by kernel_rfl) (by kernel_rfl) (fun h => nomatch h) (o_ (Br 2 ⟨[(0, .ptr 1048576 0), (3, Ep 384 []), (4, iV r3.1)], [(1048576, Bg r3.2)], []⟩ (Cr (bb h0 fun r55 e56 h0 => Dt (R := (fun S => ∃ p35 : List Am, ∃ p36 : List UInt8, ∃ p37 : Int, ∃ p38 : Int, (p35, p36, p37, p38) = r55 ∧ S = ⟨[(3, Ep 384 p35)], [(1048576, (En u_ p36 p37 p38))], []⟩)) (Wk) (fun s S => match s with | (p15, p16, p17, p18, p19) => S = ⟨[(0, .ptr 1048576 0), (3, Ep 384 p15), (4, iV p16)], [(1048576, (En u_ p17 p18 p19))], []⟩) e56 _ (Bw (by kernel_rfl)) rfl 0 (fun _ => rfl) ?_ ?_))))))))))))
 ·rintro S _ hfg ⟨p35, p36, p37, p38, rfl, rfl⟩
  refine Dv _ hfg (Bu 3 (Au (st (c_ (Sc (e := Ar) (l0 := p35) rfl rfl tv) (st (c_ (Ay ⟨tv, tv, tv⟩ rfl rfl) (bb h0 fun s57 e58 h0 => st (c_ (dF (e := Ar) (y := s57) rfl rfl tv ⟨tv, tv⟩ rfl rfl e58) (o_ ?_)))))))))
  obtain rfl := Option.some.inj h0
  exact Dr 3
 ·rintro ⟨p15, p16, p17, p18, p19⟩ o1 _ K1 rfl h1 hx1 hK1 hE1 hR1
  refine Br 5 ⟨[(0, .ptr 1048576 0), (3, Ep 384 p15), (4, iV p16), (13, .bool (decide (p16 > 0)))], [(1048576, (En u_ p17 p18 p19))], []⟩ (Dm h1 (fun c39 h1 => ?_) (fun c39 h1 => ?_))
  ·refine Uv 3 (Np (fun S => ∃ p45 : List Am, ∃ p46 : List UInt8, ∃ p47 : Int, ∃ p48 : Int, S = ⟨[(0, .ptr 1048576 0), (3, Ep 384 p45), (4, iV p16)], [(1048576, (En u_ p46 p47 p48))], []⟩ ∧ Wj p16 p45 p46 p47 p48 = some o1) ?_ (fun J49 => ?_))
   ·rintro _ ⟨p45, p46, p47, p48, rfl, h1⟩
    refine Bu 5 ?_
    obtain rfl := Option.some.inj h1
    exact hK1 _ rfl _ _ (Bw (by kernel_rfl)) rfl
   ·refine Bz ?_
    refine Au (st (Df rfl tv (bb h1 fun r50 e51 h1 => st (Ef [1048576] [] [] true (H135 (Bj.mk p17 p18 p19) r50 e51) ⟨tv, tv⟩ (by kernel_rfl) (by kernel_rfl) (by kernel_rfl) (by kernel_rfl) (fun h => nomatch h) (o_ (Br 3 ⟨[(0, .ptr 1048576 0), (3, Ep 384 p15), (4, iV p16), (5, .ptr 320 0)], [(320, Zk r50.1 (An 1088)), (1048576, Bg r50.2)], []⟩ (Bu 4 (Au (gg h1 fun c52 h1 => st (Hj (e := Ar) (l0 := p15) (l1 := ([r50.1] : List Am)) rfl rfl tv rfl (by decide) c52 (o_ (SZ 13 ⟨[(0, .ptr 1048576 0), (3, Ep 384 (p15 ++ ([r50.1] : List Am))), (4, iV p16), (29, .bool (bif (r50.1.stop != 0) then true else (r50.1.kind == 5)))], [(1048576, Bg r50.2)], []⟩ (Dm h1 (fun zY h1 => ?_) (fun zY h1 => ?_))))))))))))))
    ·refine Au (st (Df rfl tv (st (c_ (v := .agg (Ax 6 0 0 0 0 (An 1990) [] 0)) (Ay ⟨tv, tv⟩ rfl ⟨⟨rfl, rfl, nl rfl⟩, tv⟩) (st (Ni ⟨tv, tv⟩ ⟨⟨nl rfl, rfl, rfl⟩, tv⟩ (gg h1 fun c54 h1 => st (Hj (e := Ar) (l0 := p15 ++ ([r50.1] : List Am)) (l1 := ([(Am.mk 6 0 0 0 0 ([] : List Int) 0)] : List Am)) rfl rfl tv rfl (by decide) c54 (st (Df rfl tv (Kj (aR ?_))))))))))))
     exact J49 _ _ (Bw (by kernel_rfl)) ⟨_, _, _, _, rfl, h1⟩
    ·refine Nj (aR ?_)
     exact J49 _ _ (Bw (by kernel_rfl)) ⟨_, _, _, _, rfl, h1⟩
  ·obtain rfl := Option.some.inj h1
   obtain rfl := hx1 _ rfl
   refine Nc rfl ?_
   exact hE1 _ _ (Bw (by kernel_rfl)) ⟨_, _, _, _, rfl, rfl⟩

/- loop.example/g00149/spec.VaultActsOf -/
def ZQ : List Ch := [⟨some 2, .nilS 7, none⟩]
def ZR := [m_ 3 0, q_ 4 83 [(.t 3)], q_ 5 103 [(.t 4)], m_ 2 5]
def UP : El := { np := 1, nt := 6, res := [.t 2], body := (.seq (.reg ZQ) (.seq (.reg ZR) .ret)) }
def K51 (D : Bc) : Prop := ∀ (a0 : List UInt8) (r : (List Am)), g51 a0 = some r → D 51 ⟨[pV a0], []⟩ ⟨Ep 0 r, [], []⟩
theorem F51 {C : Bc} (H83 : K83 C) (H103 : VS C) : K51 (fun _ => Cp C UP) := by
 intro a0 r h0
 refine Fe (nl rfl) (Br 3 ⟨[(0, pV a0)], [], []⟩ (Bz (Au (st (Df rfl tv (bb h0 fun r1 e2 h0 => st (Ef [] [] [] true (H83 a0 r1 e2) ⟨tv, tv⟩ (by kernel_rfl) (by kernel_rfl) (by kernel_rfl) (by kernel_rfl) (fun h => nomatch h) (bb h0 fun r3 e4 h0 => st (Ef [256] [] [] true (H103 r1 r3 e4) ⟨tv, tv⟩ (by kernel_rfl) (by kernel_rfl) (by kernel_rfl) (by kernel_rfl) (fun h => nomatch h) (o_ ?_))))))))))
 obtain rfl := Option.some.inj h0
 exact Dr 3

/- loop.example/g00149/spec.TableOK -/
def XT := [X_ 1 0, k_ 2 (.bool false)]
def XU : List Ch := [f_ 5 1 0, l_ 6 5 1, B_ .lss 7 6 0, m_ 8 7, pF 8 9 (.fieldA (.t 1) 1), pF 8 10 (.load (.t 9) 1 false), ⟨some 11, .call 56 [(.t 10), (.c (iV 1)), (.c (iV 1000000))], some (8, false)⟩, pF 8 12 (.un .not (.t 11)), pk 13 (.t 8) (.c (.bool true)) (.t 12), m_ 14 13, pF 14 15 (.fieldA (.t 1) 2), pF 14 16 (.load (.t 15) 1 false), pF 14 17 (.len (.t 16)), pF 14 18 (.bin .gtr (.t 17) (.c (iV 40))), pk 19 (.t 14) (.c (.bool true)) (.t 18)]
def XV := [k_ 2 (.bool false)]
def XW := [i_ 3 0]
def XX := [m_ 20 3, f_ 21 1 2, l_ 22 21 1, n_ 23 22, b_ .lss 24 20 23]
def XY := [f_ 27 1 2, l_ 28 27 1, m_ 29 3, x_ 30 28 29 4, L_ 31 30 4, a_ 4 [(iV 0), (iV 0), (iV 0), (.bool false)], s_ 4 31 4]
def XZ := tk [f_ 32 4 0, l_ 33 32 1, f_ 34 1 1, l_ 35 34 1, B_ .sub 36 35 1] (.alt [] (q_ 37 56 [(.t 33), (.c (iV 1)), (.t 36)]) (tk [N_ 38 37, m_ 39 38, pF 39 40 (.mv (.t 3)), pF 39 41 (.bin .gtr (.t 40) (.c (iV 0))), pF 39 42 (.mv (.t 41)), pT 42 43 (.fieldA (.t 1) 2), pT 42 44 (.load (.t 43) 1 false), pT 42 45 (.mv (.t 3)), pT 42 46 (.bin .sub (.t 45) (.c (iV 1))), pT 42 47 (.idxA (.t 44) (.t 46) 4), pT 42 48 (.fieldA (.t 47) 0), pT 42 49 (.load (.t 48) 1 false), pT 42 50 (.fieldA (.t 4) 0), pT 42 51 (.load (.t 50) 1 false), pT 42 52 (.bin .geq (.t 49) (.t 51)), ⟨some 53, .pick (.t 42) (.t 52) (.c (.bool false)), some (39, false)⟩, pk 54 (.t 39) (.c (.bool true)) (.t 53), m_ 55 54, pF 55 56 (.fieldA (.t 4) 1), pF 55 57 (.load (.t 56) 1 false), pF 55 58 (.bin .lss (.t 57) (.c (iV 0))), pk 59 (.t 55) (.c (.bool true)) (.t 58), m_ 60 59, pF 60 61 (.fieldA (.t 4) 1), pF 60 62 (.load (.t 61) 1 false), pF 60 63 (.fieldA (.t 4) 2), pF 60 64 (.load (.t 63) 1 false), pF 60 65 (.bin .gtr (.t 62) (.t 64)), pk 66 (.t 60) (.c (.bool true)) (.t 65), m_ 67 66, pF 67 68 (.fieldA (.t 4) 3), pF 67 69 (.load (.t 68) 1 false), pF 67 70 (.un .not (.t 69)), pF 67 71 (.mv (.t 70)), pT 71 72 (.fieldA (.t 4) 1), pT 71 73 (.load (.t 72) 1 false), pT 71 74 (.fieldA (.t 1) 0), pT 71 75 (.load (.t 74) 1 false), pT 71 76 (.bin .leq (.t 73) (.t 75)), ⟨some 77, .pick (.t 71) (.t 76) (.c (.bool false)), some (67, false)⟩, pk 78 (.t 67) (.c (.bool true)) (.t 77)] .fin) .stop)
def YA := [k_ 2 (.bool false)]
def YB := [m_ 25 3, B_ .add 26 25 1, m_ 3 26]
def XS : IR := (.seq (.seq (.reg XX) (.ite (.t 24) .skip (.exit 0))) (.seq (.block 1 (.seq (.reg XY) (.seq (.draw XZ) (.ite (.t 78) (.seq (.reg YA) .ret) .skip)))) (.reg YB)))
def YC := [k_ 2 (.bool true)]
def rG : El := { np := 1, nt := 79, res := [.t 2], body := (.seq (.reg XT) (.seq (.seq (.reg XU) (.ite (.t 19) (.seq (.reg XV) .ret) .skip)) (.seq (.seq (.reg XW) (.block 0 (.loop XS))) (.seq (.reg YC) .ret)))) }
def K18 (D : Bc) : Prop := ∀ (a0 : Ai) (r : Bool), g18 a0 = some r → D 18 ⟨[.agg (Aw a0)], []⟩ ⟨.bool r, [], []⟩
theorem F18 {C : Bc} (H56 : XG C) : K18 (fun _ => Cp C rG) := by
 intro a0 r h0
 refine Fe (nl rfl) (Br 4 ⟨[(1, .ptr 64 0)], [(64, Aw a0)], []⟩ (Bu 6 (Au (st (Da (u := .ptr 64 1) rfl (fun hg => (Ay ⟨tv, tv⟩ rfl tv)) (st (Da (u := iV a0.next) rfl (fun hg => (Ay ⟨(fun _ => hg), tv⟩ rfl (nl rfl))) (bb h0 fun r1 e2 h0 => st (Ga (r := .bool r1) rfl false (fun hg => H56 a0.next 1 1000000 r1 (ip hg e2)) ⟨(fun hg => hg), tv, tv, tv⟩ (fun _ => rfl) (fun _ => rfl) (fun _ => rfl) (fun h => nomatch h) (st (Da (u := .bool (!r1)) rfl (fun hg => (Ay ⟨(fun _ => hg), tv⟩ rfl tv)) (st (Ey rfl rfl rfl tv (fun h => dG h) rfl (st (Df rfl tv (st (Da (u := .ptr 64 2) rfl (fun hg => (Ay ⟨tv, tv⟩ rfl tv)) (st (Da (u := Bl a0.Ad) rfl (fun hg => (Ay ⟨(fun _ => hg), tv⟩ rfl (nl rfl))) (st (Da (u := iV (a0.Ad.length : Int)) rfl (fun hg => (Cn (e := At) (l0 := a0.Ad) rfl rfl (fun _ => hg))) (st (Da (u := .bool (decide ((a0.Ad.length : Int) > 40))) rfl (fun hg => (Ay ⟨(fun _ => hg), tv, tv⟩ rfl tv)) (st (Ey rfl rfl rfl tv (fun h => dG h) rfl (Kj (bv h0 fun v3 e4 h0 => Dv ⟨[(1, .ptr 64 0), (19, .bool v3)], [(64, Aw a0)], []⟩ (Bw (by subst e4; kernel_rfl)) (Dm h0 (fun c5 h0 => ?_) (fun c5 h0 => ?_)))))))))))))))))))))))))))))
 ·obtain rfl := Option.some.inj h0
  exact Dr 4
 ·refine Br 6 ⟨[(1, .ptr 64 0), (3, iV 0)], [(64, Aw a0)], []⟩ (Cr (bb h0 fun r38 e39 h0 => Dt (R := (fun S => .inl () = r38 ∧ S = ⟨[], [], []⟩)) (Ym a0) (fun s S => match s with | p16 => S = ⟨[(1, .ptr 64 0), (3, iV p16)], [(64, Aw a0)], []⟩) e39 _ (Bw (by kernel_rfl)) rfl 0 (fun _ => rfl) ?_ ?_))
  ·rintro S _ hfg ⟨rfl, rfl⟩
   refine Dv _ hfg ?_
   obtain rfl := Option.some.inj h0
   exact Dr 4
  ·rintro p16 o1 _ K1 rfl h1 hx1 hK1 hE1 hR1
   refine Bu 5 (Au (st (c_ (Cn (e := At) (l0 := a0.Ad) rfl rfl tv) (o_ (Br 2 ⟨[(1, .ptr 64 0), (3, iV p16), (24, .bool (decide (p16 < (a0.Ad.length : Int))))], [(64, Aw a0)], []⟩ (Dm h1 (fun c28 h1 => ?_) (fun c28 h1 => ?_)))))))
   ·refine Bu 8 (Au (bb h1 fun y29 e30 h1 => st (c_ (Cj (e := At) (y := y29) rfl rfl tv rfl rfl tv e30) (o_ (Br 4 ⟨[(1, .ptr 64 0), (3, iV p16), (4, .ptr 256 0)], [(64, Aw a0), (256, At y29)], []⟩ (Bz ?_))))))
    obtain ⟨r31, e32, h1⟩ := bnd h1
    refine bb h1 fun y33 e34 h1 => Bu 5 (Dh (Ci (Bv (r := .bool r31) false (H56 y29.id 1 (IntKind.i64.wrap (a0.next - 1)) r31 e32) ⟨tv, tv, tv, tv⟩ rfl rfl (fun _ => rfl) (Jf ⟨[(1, .ptr 64 0), (3, iV p16), (4, .ptr 256 0), (37, .bool r31)], [(64, Aw a0), (256, At y29)], []⟩ (Bw (by kernel_rfl)) ⟨[], tv, tv, (d_ (Bu 2 (Dh (Ak tv (Da (u := iV p16) rfl (fun hg => (Gs (v := iV p16) rfl tv)) (⟨tv, (Ak tv (Da (u := .bool (decide (p16 > 0))) rfl (fun hg => (Ay ⟨(fun _ => hg), tv, tv⟩ rfl tv)) (⟨tv, (Ak tv (Da (u := .bool (decide (p16 > 0))) rfl (fun hg => (Gs (v := .may ((!r31) == false) (.bool (decide (p16 > 0)))) rfl (fun _ => hg))) (⟨tv, (Ak tv (Da (u := .ptr 64 2) rfl (fun hg => (Ay ⟨tv, tv⟩ rfl tv)) (⟨tv, (Ak tv (Da (u := Bl a0.Ad) rfl (fun hg => (Ay ⟨(fun _ => hg), tv⟩ rfl (nl rfl))) (⟨tv, (Ak tv (Da (u := iV p16) rfl (fun hg => (Gs (v := iV p16) rfl tv)) (⟨tv, (Ak tv (Da (u := iV (IntKind.i64.wrap (p16 - 1))) rfl (fun hg => (Ay ⟨(fun _ => hg), tv, tv⟩ rfl tv)) (⟨tv, ?_⟩)))⟩)))⟩)))⟩)))⟩)))⟩)))⟩))))))⟩)) Bp))
    refine Ak tv (Da (u := .iptr (At y33)) rfl (fun hg => (Cj (e := At) (y := y33) rfl rfl (fun _ => hg) rfl rfl (fun _ => hg) (ip hg e34))) (⟨tv, (Ak tv (Da (u := .iptr (At y33)) rfl (fun hg => (Ay ⟨(fun _ => hg), tv⟩ rfl (nl rfl))) (⟨tv, (Ak tv (Da (u := iV y33.id) rfl (fun hg => (Ay ⟨(fun _ => hg), tv⟩ rfl (nl rfl))) (⟨tv, (Ak tv (Da (u := .ptr 256 0) rfl (fun hg => (Ay ⟨tv, tv⟩ rfl tv)) (⟨tv, (Ak tv (Da (u := iV y29.id) rfl (fun hg => (Ay ⟨(fun _ => hg), tv⟩ rfl (nl rfl))) (⟨tv, (Ak tv (Da (u := .bool (decide (y33.id ≥ y29.id))) rfl (fun hg => (Ay ⟨(fun _ => hg), (fun _ => hg), tv⟩ rfl tv)) (⟨tv, (Ak tv (Ke (u := .bool (bif (decide (p16 > 0)) then (decide (y33.id ≥ y29.id)) else false)) rfl (fun hg => Qm rfl rfl (fun _ => hg) rfl rfl (fun h => Bs hg (dH h)) tv rfl) (⟨tv, (Ak tv (Ey rfl rfl rfl tv (fun h => dG h) rfl (⟨tv, (Ak tv (Df rfl tv (⟨tv, (Ak tv (Da (u := .ptr 256 1) rfl (fun hg => (Ay ⟨tv, tv⟩ rfl tv)) (⟨tv, (Ak tv (Da (u := iV y29.Be) rfl (fun hg => (Ay ⟨(fun _ => hg), tv⟩ rfl (nl rfl))) (⟨tv, (Ak tv (Da (u := .bool (decide (y29.Be < 0))) rfl (fun hg => (Ay ⟨(fun _ => hg), tv, tv⟩ rfl tv)) (⟨tv, (Ak tv (Ey rfl rfl rfl tv (fun h => dG h) rfl (⟨tv, (Ak tv (Df rfl tv (⟨tv, (Ak tv (Da (u := .ptr 256 1) rfl (fun hg => (Ay ⟨tv, tv⟩ rfl tv)) (⟨tv, (Ak tv (Da (u := iV y29.Be) rfl (fun hg => (Ay ⟨(fun _ => hg), tv⟩ rfl (nl rfl))) ?_))⟩)))⟩)))⟩)))⟩)))⟩)))⟩)))⟩)))⟩)))⟩)))⟩)))⟩)))⟩)))⟩)))⟩)))⟩))
    refine ⟨tv, (Ak tv (Da (u := .ptr 256 2) rfl (fun hg => (Ay ⟨tv, tv⟩ rfl tv)) (⟨tv, (Ak tv (Da (u := iV y29.cap) rfl (fun hg => (Ay ⟨(fun _ => hg), tv⟩ rfl (nl rfl))) (⟨tv, (Ak tv (Da (u := .bool (decide (y29.Be > y29.cap))) rfl (fun hg => (Ay ⟨(fun _ => hg), (fun _ => hg), tv⟩ rfl tv)) (⟨tv, (Ak tv (Ey rfl rfl rfl tv (fun h => dG h) rfl (⟨tv, (Ak tv (Df rfl tv (⟨tv, (Ak tv (Da (u := .ptr 256 3) rfl (fun hg => (Ay ⟨tv, tv⟩ rfl tv)) (⟨tv, (Ak tv (Da (u := .bool y29.Bt) rfl (fun hg => (Ay ⟨(fun _ => hg), tv⟩ rfl (nl rfl))) (⟨tv, (Ak tv (Da (u := .bool (!y29.Bt)) rfl (fun hg => (Ay ⟨(fun _ => hg), tv⟩ rfl tv)) (⟨tv, (Ak tv (Da (u := .bool (!y29.Bt)) rfl (fun hg => (Gs (v := .may ((bif (bif (bif (!r31) then true else (bif (decide (p16 > 0)) then (decide (y33.id ≥ y29.id)) else false)) then true else (decide (y29.Be < 0))) then true else (decide (y29.Be > y29.cap))) == false) (.bool (!y29.Bt))) rfl (fun _ => hg))) (⟨tv, (Ak tv (Da (u := .ptr 256 1) rfl (fun hg => (Ay ⟨tv, tv⟩ rfl tv)) (⟨tv, (Ak tv (Da (u := iV y29.Be) rfl (fun hg => (Ay ⟨(fun _ => hg), tv⟩ rfl (nl rfl))) (⟨tv, (Ak tv (Da (u := .ptr 64 0) rfl (fun hg => (Ay ⟨tv, tv⟩ rfl tv)) (⟨tv, (Ak tv (Da (u := iV a0.clock) rfl (fun hg => (Ay ⟨(fun _ => hg), tv⟩ rfl (nl rfl))) (⟨tv, (Ak tv (Da (u := .bool (decide (y29.Be ≤ a0.clock))) rfl (fun hg => (Ay ⟨(fun _ => hg), (fun _ => hg), tv⟩ rfl tv)) (⟨tv, (Ak tv (Ke (u := .bool (bif (!y29.Bt) then (decide (y29.Be ≤ a0.clock)) else false)) rfl (fun hg => Qm rfl rfl (fun _ => hg) rfl rfl (fun h => Bs hg (dH h)) tv rfl) (⟨tv, ?_⟩)))⟩)))⟩)))⟩)))⟩)))⟩)))⟩)))⟩)))⟩)))⟩)))⟩)))⟩)))⟩)))⟩)))⟩)))⟩
    refine Ak tv (Ey rfl rfl rfl tv (fun h => dG h) rfl (⟨tv, (Nt (bv h1 fun v35 e36 h1 => Dv ⟨[(1, .ptr 64 0), (3, iV p16), (78, .bool v35)], [(64, Aw a0)], []⟩ (Bw (by subst e36; kernel_rfl)) (Dm h1 (fun c37 h1 => ?_) (fun c37 h1 => ?_))))⟩))
    ·obtain rfl := Option.some.inj h1
     obtain rfl := hx1 _ rfl
     obtain rfl := Option.some.inj h0
     exact aN 4 hR1
    ·refine Bu 7 ?_
     obtain rfl := Option.some.inj h1
     exact hK1 _ rfl _ _ (Bw (by kernel_rfl)) rfl
   ·obtain rfl := Option.some.inj h1
    obtain rfl := hx1 _ rfl
    refine Nc rfl ?_
    exact hE1 _ _ (Bw (by kernel_rfl)) ⟨rfl, rfl⟩

/- loop.example/g00149/spec.l09Rising -/
def AbJ := [k_ 4 (.bool false)]
def AbK := [i_ 5 0]
def AbL := [m_ 6 5, m_ 7 0, n_ 8 7, b_ .lss 9 6 8]
def AbM := tk [m_ 12 0, m_ 13 5, x_ 14 12 13 1, l_ 15 14 1, m_ 16 1, B_ .sub 17 16 1] (.alt [] (q_ 18 56 [(.t 15), (.c (iV 1)), (.t 17)]) (tk [N_ 19 18, m_ 20 19, pF 20 21 (.mv (.t 5)), pF 20 22 (.bin .gtr (.t 21) (.c (iV 0))), pF 20 23 (.mv (.t 22)), pT 23 24 (.mv (.t 0)), pT 23 25 (.mv (.t 5)), pT 23 26 (.bin .sub (.t 25) (.c (iV 1))), pT 23 27 (.idxA (.t 24) (.t 26) 1), pT 23 28 (.load (.t 27) 1 false), pT 23 29 (.mv (.t 0)), pT 23 30 (.mv (.t 5)), pT 23 31 (.idxA (.t 29) (.t 30) 1), pT 23 32 (.load (.t 31) 1 false), pT 23 33 (.bin .geq (.t 28) (.t 32)), ⟨some 34, .pick (.t 23) (.t 33) (.c (.bool false)), some (20, false)⟩, pk 35 (.t 20) (.c (.bool true)) (.t 34)] .fin) .stop)
def AbN := [k_ 4 (.bool false)]
def AbO := [m_ 10 5, B_ .add 11 10 1, m_ 5 11]
def AbI : IR := (.seq (.seq (.reg AbL) (.ite (.t 9) .skip (.exit 0))) (.seq (.block 1 (.seq (.draw AbM) (.ite (.t 35) (.seq (.reg AbN) .ret) .skip))) (.reg AbO)))
def AbP := [k_ 4 (.bool true)]
def QB : El := { np := 2, nt := 36, res := [.t 4], body := (.seq (.reg AbJ) (.seq (.seq (.reg AbK) (.block 0 (.loop AbI))) (.seq (.reg AbP) .ret))) }
def K85 (D : Bc) : Prop := ∀ (a0 : List Int) (a1 : Int) (r : Bool), g85 a0 a1 = some r → D 85 ⟨[lI a0, iV a1], []⟩ ⟨.bool r, [], []⟩
theorem F85 {C : Bc} (H56 : XG C) : K85 (fun _ => Cp C QB) := by
 intro a0 a1 r h0
 refine Fe (nl rfl) (Br 8 ⟨[(0, lI a0), (1, iV a1), (5, iV 0)], [], []⟩ (Cr (bb h0 fun r39 e40 h0 => Dt (R := (fun S => .inl () = r39 ∧ S = ⟨[], [], []⟩)) (Yt a0 a1) (fun s S => match s with | p13 => S = ⟨[(0, lI a0), (1, iV a1), (5, iV p13)], [], []⟩) e40 _ (Bw (by kernel_rfl)) rfl 0 (fun _ => rfl) ?_ ?_)))
 ·rintro S _ hfg ⟨rfl, rfl⟩
  refine Dv _ hfg ?_
  obtain rfl := Option.some.inj h0
  exact Dr 4
 ·rintro p13 o1 _ K1 rfl h1 hx1 hK1 hE1 hR1
  refine Bu 4 (Au (st (c_ (Cn (e := eI) (l0 := a0) rfl rfl tv) (o_ (Br 2 ⟨[(0, lI a0), (1, iV a1), (5, iV p13), (9, .bool (decide (p13 < (a0.length : Int))))], [], []⟩ (Dm h1 (fun c27 h1 => ?_) (fun c27 h1 => ?_)))))))
  ·refine Uv 5 ?_
   obtain ⟨y28, e29, h1⟩ := bnd h1
   obtain ⟨r30, e31, h1⟩ := bnd h1
   obtain ⟨y32, e33, h1⟩ := bnd h1
   refine bb h1 fun y34 e35 h1 => Bu 2 (Dh (Ak tv (c_ (Cj (e := eI) (y := y28) rfl rfl tv rfl rfl tv e29) (⟨tv, (d_ (Bu 3 (Dh (Ci (Bv (r := .bool r30) false (H56 y28 1 (IntKind.i64.wrap (a1 - 1)) r30 e31) ⟨tv, tv, tv, tv⟩ rfl rfl (fun _ => rfl) (Jf ⟨[(0, lI a0), (1, iV a1), (5, iV p13), (18, .bool r30)], [], []⟩ (Bw (by kernel_rfl)) ⟨[], tv, tv, (d_ (Bu 2 (Dh (Ak tv (Da (u := iV p13) rfl (fun hg => (Gs (v := iV p13) rfl tv)) (⟨tv, (Ak tv (Da (u := .bool (decide (p13 > 0))) rfl (fun hg => (Ay ⟨(fun _ => hg), tv, tv⟩ rfl tv)) (⟨tv, (Ak tv (Da (u := .bool (decide (p13 > 0))) rfl (fun hg => (Gs (v := .may ((!r30) == false) (.bool (decide (p13 > 0)))) rfl (fun _ => hg))) (⟨tv, (Ak tv (Da (u := lI a0) rfl (fun hg => (Gs (v := lI a0) rfl tv)) (⟨tv, (Ak tv (Da (u := iV p13) rfl (fun hg => (Gs (v := iV p13) rfl tv)) (⟨tv, (Ak tv (Da (u := iV (IntKind.i64.wrap (p13 - 1))) rfl (fun hg => (Ay ⟨(fun _ => hg), tv, tv⟩ rfl tv)) (⟨tv, ?_⟩)))⟩)))⟩)))⟩)))⟩)))⟩))))))⟩)) Bp))))⟩))))
   refine Ak tv (Da (u := .iptr [iV y32]) rfl (fun hg => (Cj (e := eI) (y := y32) rfl rfl (fun _ => hg) rfl rfl (fun _ => hg) (ip hg e33))) (⟨tv, (Ak tv (Da (u := iV y32) rfl (fun hg => (Ay ⟨(fun _ => hg), tv⟩ rfl (nl rfl))) (⟨tv, (Ak tv (Da (u := lI a0) rfl (fun hg => (Gs (v := lI a0) rfl tv)) (⟨tv, (Ak tv (Da (u := iV p13) rfl (fun hg => (Gs (v := iV p13) rfl tv)) (⟨tv, (Ak tv (Da (u := .iptr [iV y34]) rfl (fun hg => (Cj (e := eI) (y := y34) rfl rfl (fun _ => hg) rfl rfl (fun _ => hg) (ip hg e35))) (⟨tv, (Ak tv (Da (u := iV y34) rfl (fun hg => (Ay ⟨(fun _ => hg), tv⟩ rfl (nl rfl))) (⟨tv, (Ak tv (Da (u := .bool (decide (y32 ≥ y34))) rfl (fun hg => (Ay ⟨(fun _ => hg), (fun _ => hg), tv⟩ rfl tv)) (⟨tv, (Ak tv (Ke (u := .bool (bif (decide (p13 > 0)) then (decide (y32 ≥ y34)) else false)) rfl (fun hg => Qm rfl rfl (fun _ => hg) rfl rfl (fun h => Bs hg (dH h)) tv rfl) (⟨tv, (Ak tv (Ey rfl rfl rfl tv (fun h => dG h) rfl (⟨tv, (Nt (bv h1 fun v36 e37 h1 => Dv ⟨[(0, lI a0), (1, iV a1), (5, iV p13), (35, .bool v36)], [], []⟩ (Bw (by subst e37; kernel_rfl)) (Dm h1 (fun c38 h1 => ?_) (fun c38 h1 => ?_))))⟩)))⟩)))⟩)))⟩)))⟩)))⟩)))⟩)))⟩)))⟩))
   ·obtain rfl := Option.some.inj h1
    obtain rfl := hx1 _ rfl
    obtain rfl := Option.some.inj h0
    exact aN 4 hR1
   ·refine Bu 7 ?_
    obtain rfl := Option.some.inj h1
    exact hK1 _ rfl _ _ (Bw (by kernel_rfl)) rfl
  ·obtain rfl := Option.some.inj h1
   obtain rfl := hx1 _ rfl
   refine Nc rfl ?_
   exact hE1 _ _ (Bw (by kernel_rfl)) ⟨rfl, rfl⟩

/- loop.example/g00149/spec.l09Intent -/
def EI := [X_ 2 0, i_ 4 0]
def EJ := [i_ 5 0]
def EK := [m_ 6 5, f_ 7 2 3, l_ 8 7 1, n_ 9 8, b_ .lss 10 6 9]
def EL := [f_ 13 2 3, l_ 14 13 1, m_ 15 5, x_ 16 14 15 2, f_ 17 16 0, l_ 18 17 1, m_ 19 1, b_ .eql 20 18 19]
def EM := [m_ 21 5, m_ 4 21]
def EN := [m_ 11 5, B_ .add 12 11 1, m_ 5 12]
def EH : IR := (.seq (.seq (.reg EK) (.ite (.t 10) .skip (.exit 0))) (.seq (.block 1 (.seq (.reg EL) (.ite (.t 20) (.seq (.reg EM) .ret) .skip))) (.reg EN)))
def EO := [i_ 4 (-1)]
def EG : El := { np := 2, nt := 22, res := [.t 4], body := (.seq (.reg EI) (.seq (.seq (.reg EJ) (.block 0 (.loop EH))) (.seq (.reg EO) .ret))) }
def VY (D : Bc) : Prop := ∀ (a0 : Ag) (a1 : Int) (r : Int), RA a0 a1 = some r → D 124 ⟨[.agg (Ah a0), iV a1], []⟩ ⟨iV r, [], []⟩
theorem F124 {C : Bc} : VY (fun _ => Cp C EG) := by
 intro a0 a1 r h0
 refine Fe (nl rfl) (Br 9 ⟨[(1, iV a1), (2, .ptr 128 0), (5, iV 0)], [(128, Ah a0)], []⟩ (Cr (bb h0 fun r15 e16 h0 => Dt (R := (fun S => .inl () = r15 ∧ S = ⟨[], [], []⟩)) (Wn a0 a1) (fun s S => match s with | p5 => S = ⟨[(1, iV a1), (2, .ptr 128 0), (5, iV p5)], [(128, Ah a0)], []⟩) e16 _ (Bw (by kernel_rfl)) rfl 0 (fun _ => rfl) ?_ ?_)))
 ·rintro S _ hfg ⟨rfl, rfl⟩
  refine Dv _ hfg ?_
  obtain rfl := Option.some.inj h0
  exact Dr 4
 ·rintro p5 o1 _ K1 rfl h1 hx1 hK1 hE1 hR1
  refine Bu 5 (Au (st (c_ (Cn (e := Bi) (l0 := a0.Aa) rfl rfl tv) (o_ (Br 2 ⟨[(1, iV a1), (2, .ptr 128 0), (5, iV p5), (10, .bool (decide (p5 < (a0.Aa.length : Int))))], [(128, Ah a0)], []⟩ (Dm h1 (fun c11 h1 => ?_) (fun c11 h1 => ?_)))))))
  ·refine Bu 8 (Au (bb h1 fun y12 e13 h1 => st (c_ (Cj (e := Bi) (y := y12) rfl rfl tv rfl rfl tv e13) (o_ (Br 5 ⟨[(1, iV a1), (2, .ptr 128 0), (5, iV p5), (20, .bool (y12.Av == a1))], [(128, Ah a0)], []⟩ (Dm h1 (fun c14 h1 => ?_) (fun c14 h1 => ?_)))))))
   ·obtain rfl := Option.some.inj h1
    obtain rfl := hx1 _ rfl
    obtain rfl := Option.some.inj h0
    exact aN 5 hR1
   ·refine Bu 7 ?_
    obtain rfl := Option.some.inj h1
    exact hK1 _ rfl _ _ (Bw (by kernel_rfl)) rfl
  ·obtain rfl := Option.some.inj h1
   obtain rfl := hx1 _ rfl
   refine Nc rfl ?_
   exact hE1 _ _ (Bw (by kernel_rfl)) ⟨rfl, rfl⟩

/- loop.example/g00149/spec.l09Lost -/
def Acm := [X_ 1 0, i_ 2 0]
def Acn := [i_ 3 0]
def Aco := [m_ 4 3, f_ 5 1 4, l_ 6 5 1, n_ 7 6, b_ .lss 8 4 7]
def Acp := tk [f_ 11 1 0, L_ 12 11 3, f_ 13 1 4, l_ 14 13 1, m_ 15 3, x_ 16 14 15 1, l_ 17 16 1] (.alt [] (q_ 18 92 [(.t 12), (.t 17)]) (tk [B_ .lss 19 18 0, m_ 20 19, pT 20 21 (.load (.t 1) 6 true), pT 20 22 (.fieldA (.t 1) 4), pT 20 23 (.load (.t 22) 1 false), pT 20 24 (.mv (.t 3)), pT 20 25 (.idxA (.t 23) (.t 24) 1), pT 20 26 (.load (.t 25) 1 false)] (.alt [] ⟨some 27, .call 124 [(.t 21), (.t 26)], some (20, true)⟩ (tk [pT 20 28 (.bin .lss (.t 27) (.c (iV 0))), pk 29 (.t 20) (.t 28) (.c (.bool false))] .fin) .stop)) .stop)
def Acq := [f_ 30 1 4, l_ 31 30 1, m_ 32 3, x_ 33 31 32 1, l_ 34 33 1, m_ 2 34]
def Acr := [m_ 9 3, B_ .add 10 9 1, m_ 3 10]
def Acl : IR := (.seq (.seq (.reg Aco) (.ite (.t 8) .skip (.exit 0))) (.seq (.block 1 (.seq (.draw Acp) (.ite (.t 29) (.seq (.reg Acq) .ret) .skip))) (.reg Acr)))
def Acs := [i_ 2 0]
def c93 : El := { np := 1, nt := 35, res := [.t 2], body := (.seq (.reg Acm) (.seq (.seq (.reg Acn) (.block 0 (.loop Acl))) (.seq (.reg Acs) .ret))) }
def K93 (D : Bc) : Prop := ∀ (a0 : Ag) (r : Int), g93 a0 = some r → D 93 ⟨[.agg (Ah a0)], []⟩ ⟨iV r, [], []⟩
theorem F93 {C : Bc} (H92 : XH C) (H124 : VY C) : K93 (fun _ => Cp C c93) := by
 intro a0 r h0
 refine Fe (nl rfl) (Br 9 ⟨[(1, .ptr 64 0), (3, iV 0)], [(64, Ah a0)], []⟩ (Cr (bb h0 fun r39 e40 h0 => Dt (R := (fun S => .inl () = r39 ∧ S = ⟨[], [], []⟩)) (eW a0) (fun s S => match s with | p13 => S = ⟨[(1, .ptr 64 0), (3, iV p13)], [(64, Ah a0)], []⟩) e40 _ (Bw (by kernel_rfl)) rfl 0 (fun _ => rfl) ?_ ?_)))
 ·rintro S _ hfg ⟨rfl, rfl⟩
  refine Dv _ hfg ?_
  obtain rfl := Option.some.inj h0
  exact Dr 4
 ·rintro p13 o1 _ K1 rfl h1 hx1 hK1 hE1 hR1
  refine Bu 5 (Au (st (c_ (Cn (e := eI) (l0 := a0.Ae) rfl rfl tv) (o_ (Br 2 ⟨[(1, .ptr 64 0), (3, iV p13), (8, .bool (decide (p13 < (a0.Ae.length : Int))))], [(64, Ah a0)], []⟩ (Dm h1 (fun c27 h1 => ?_) (fun c27 h1 => ?_)))))))
  ·refine Uv 5 ?_
   obtain ⟨y28, e29, h1⟩ := bnd h1
   obtain ⟨r30, e31, h1⟩ := bnd h1
   obtain ⟨y32, e33, h1⟩ := bnd h1
   refine bb h1 fun r34 e35 h1 => Bu 5 (Dh (Ak tv (c_ (Cj (e := eI) (y := y28) rfl rfl tv rfl rfl tv e29) (⟨tv, (Ak tv (c_ (Ay ⟨tv, tv⟩ rfl (nl rfl)) (⟨tv, (Ci (Bv (r := iV r30) false (H92 a0.Ac y28 r30 e31) ⟨tv, tv, tv⟩ rfl rfl (fun _ => rfl) (Jf ⟨[(1, .ptr 64 0), (3, iV p13), (18, iV r30)], [(64, Ah a0)], []⟩ (Bw (by kernel_rfl)) ⟨[], tv, tv, (d_ (Lh 6 (Dh (Ak tv (Da (u := .iptr [iV y32]) rfl (fun hg => (Cj (e := eI) (y := y32) rfl rfl (fun _ => hg) rfl rfl (fun _ => hg) (ip hg e33))) (⟨tv, ?_⟩))))))⟩)) Bp)⟩)))⟩))))
   refine Ak tv (Da (u := iV y32) rfl (fun hg => (Ay ⟨(fun _ => hg), tv⟩ rfl (nl rfl))) (⟨tv, (Ci (Ga (r := iV r34) rfl false (fun hg => H124 a0 y32 r34 (ip hg e35)) ⟨(fun hg => hg), (fun hg => hg), tv⟩ (fun _ => rfl) (fun _ => rfl) (fun _ => rfl) (fun h => nomatch h) (Jf ⟨[(1, .ptr 64 0), (3, iV p13), (20, .bool (decide (r30 < 0))), (27, .may ((decide (r30 < 0)) == true) (iV r34))], [(64, Ah a0)], []⟩ (Bw (by kernel_rfl)) ⟨[], tv, tv, (d_ (SZ 3 ⟨[(1, .ptr 64 0), (3, iV p13), (29, .bool (bif (decide (r30 < 0)) then (decide (r34 < 0)) else false))], [(64, Ah a0)], []⟩ (Dm h1 (fun c36 h1 => ?_) (fun c36 h1 => ?_))))⟩)) Bp)⟩))
   ·refine Bu 4 (Au (bb h1 fun y37 e38 h1 => st (c_ (Cj (e := eI) (y := y37) rfl rfl tv rfl rfl tv e38) (o_ ?_))))
    obtain rfl := Option.some.inj h1
    obtain rfl := hx1 _ rfl
    obtain rfl := Option.some.inj h0
    exact aN 4 hR1
   ·refine Bu 7 ?_
    obtain rfl := Option.some.inj h1
    exact hK1 _ rfl _ _ (Bw (by kernel_rfl)) rfl
  ·obtain rfl := Option.some.inj h1
   obtain rfl := hx1 _ rfl
   refine Nc rfl ?_
   exact hE1 _ _ (Bw (by kernel_rfl)) ⟨rfl, rfl⟩

/- loop.example/g00149/spec.VaultOK -/
def YQ := [X_ 1 0, k_ 2 (.bool false)]
def YR : List Ch := [f_ 5 1 0, L_ 6 5 3, q_ 7 18 [(.t 6)], N_ 8 7, m_ 9 8, pF 9 10 (.fieldA (.t 1) 3), pF 9 11 (.load (.t 10) 1 false), pF 9 12 (.len (.t 11)), pF 9 13 (.bin .gtr (.t 12) (.c (iV 40))), pk 14 (.t 9) (.c (.bool true)) (.t 13), m_ 15 14, pF 15 16 (.fieldA (.t 1) 4), pF 15 17 (.load (.t 16) 1 false), pF 15 18 (.len (.t 17)), pF 15 19 (.bin .gtr (.t 18) (.c (iV 80))), pk 20 (.t 15) (.c (.bool true)) (.t 19), m_ 21 20, pF 21 22 (.fieldA (.t 1) 4), pF 21 23 (.load (.t 22) 1 false), pF 21 24 (.fieldA (.t 1) 0), pF 21 25 (.fieldA (.t 24) 1), pF 21 26 (.load (.t 25) 1 false), ⟨some 27, .call 85 [(.t 23), (.t 26)], some (21, false)⟩, pF 21 28 (.un .not (.t 27)), pk 29 (.t 21) (.c (.bool true)) (.t 28)]
def YS := [k_ 2 (.bool false)]
def YT := [i_ 3 0]
def YU := [m_ 30 3, f_ 31 1 3, l_ 32 31 1, n_ 33 32, b_ .lss 34 30 33]
def YV := [f_ 37 1 3, l_ 38 37 1, m_ 39 3, x_ 40 38 39 2, f_ 41 40 0, l_ 42 41 1, m_ 4 42]
def YW : List Ch := [m_ 43 4, f_ 44 1 0, f_ 45 44 1, l_ 46 45 1, B_ .sub 47 46 1, q_ 48 56 [(.t 43), (.c (iV 1)), (.t 47)], N_ 49 48, m_ 50 49, pF 50 51 (.mv (.t 3)), pF 50 52 (.bin .gtr (.t 51) (.c (iV 0))), pF 50 53 (.mv (.t 52)), pT 53 54 (.fieldA (.t 1) 3), pT 53 55 (.load (.t 54) 1 false), pT 53 56 (.mv (.t 3)), pT 53 57 (.bin .sub (.t 56) (.c (iV 1))), pT 53 58 (.idxA (.t 55) (.t 57) 2), pT 53 59 (.fieldA (.t 58) 0), pT 53 60 (.load (.t 59) 1 false), pT 53 61 (.mv (.t 4)), pT 53 62 (.bin .geq (.t 60) (.t 61)), ⟨some 63, .pick (.t 53) (.t 62) (.c (.bool false)), some (50, false)⟩, pk 64 (.t 50) (.c (.bool true)) (.t 63), m_ 65 64, pF 65 66 (.fieldA (.t 1) 0), pF 65 67 (.load (.t 66) 3 true), pF 65 68 (.mv (.t 4)), ⟨some 69, .call 92 [(.t 67), (.t 68)], some (65, false)⟩, pF 65 70 (.bin .geq (.t 69) (.c (iV 0))), pk 71 (.t 65) (.c (.bool true)) (.t 70)]
def YX := [k_ 2 (.bool false)]
def YY := [m_ 35 3, B_ .add 36 35 1, m_ 3 36]
def YP : IR := (.seq (.seq (.reg YU) (.ite (.t 34) .skip (.exit 0))) (.seq (.block 1 (.seq (.reg YV) (.seq (.reg YW) (.ite (.t 71) (.seq (.reg YX) .ret) .skip)))) (.reg YY)))
def YZ := [L_ 72 1 6, q_ 73 93 [(.t 72)], B_ .eql 74 73 0, m_ 2 74]
def c46 : El := { np := 1, nt := 75, res := [.t 2], body := (.seq (.reg YQ) (.seq (.seq (.reg YR) (.ite (.t 29) (.seq (.reg YS) .ret) .skip)) (.seq (.seq (.reg YT) (.block 0 (.loop YP))) (.seq (.reg YZ) .ret)))) }
def K46 (D : Bc) : Prop := ∀ (a0 : Ag) (r : Bool), g46 a0 = some r → D 46 ⟨[.agg (Ah a0)], []⟩ ⟨.bool r, [], []⟩
theorem F46 {C : Bc} (H18 : K18 C) (H56 : XG C) (H85 : K85 C) (H92 : XH C) (H93 : K93 C) : K46 (fun _ => Cp C c46) := by
 intro a0 r h0
 refine Fe (nl rfl) (Br 4 ⟨[(1, .ptr 64 0)], [(64, Ah a0)], []⟩ (Bu 4 (Au (bb h0 fun r1 e2 h0 => Re (H18 a0.Ac r1 e2) (o_ (Lh 4 (Au (st (Da (u := iV (a0.Aa.length : Int)) rfl (fun hg => (Cn (e := Bi) (l0 := a0.Aa) rfl rfl (fun _ => hg))) (o_ (Lh 4 (Au (sw ⟨[(1, .ptr 64 0), (15, .bool (bif (!r1) then true else (decide ((a0.Aa.length : Int) > 40)))), (16, .may ((bif (!r1) then true else (decide ((a0.Aa.length : Int) > 40))) == false) (.ptr 64 4))], [(64, Ah a0)], []⟩ (Bw (by kernel_rfl)) (Da (u := lI a0.Ae) rfl (fun hg => (Ay ⟨(fun _ => hg), tv⟩ rfl (nl rfl))) (st (Da (u := iV (a0.Ae.length : Int)) rfl (fun hg => (Cn (e := eI) (l0 := a0.Ae) rfl rfl (fun _ => hg))) (o_ (Lh 8 (Au (bb h0 fun r3 e4 h0 => sw ⟨[(1, .ptr 64 0), (21, .bool (bif (bif (!r1) then true else (decide ((a0.Aa.length : Int) > 40))) then true else (decide ((a0.Ae.length : Int) > 80)))), (23, .may ((bif (bif (!r1) then true else (decide ((a0.Aa.length : Int) > 40))) then true else (decide ((a0.Ae.length : Int) > 80))) == false) (lI a0.Ae)), (26, .may ((bif (bif (!r1) then true else (decide ((a0.Aa.length : Int) > 40))) then true else (decide ((a0.Ae.length : Int) > 80))) == false) (iV a0.Ac.next))], [(64, Ah a0)], []⟩ (Bw (by kernel_rfl)) (Ga (r := .bool r3) rfl false (fun hg => H85 a0.Ae a0.Ac.next r3 (ip hg e4)) ⟨(fun hg => hg), (fun hg => hg), tv⟩ (fun _ => rfl) (fun _ => rfl) (fun _ => rfl) (fun h => nomatch h) (o_ (Lh 3 (bv h0 fun v5 e6 h0 => Dv ⟨[(1, .ptr 64 0), (29, .bool v5)], [(64, Ah a0)], []⟩ (Bw (by subst e6; kernel_rfl)) (Dm h0 (fun c7 h0 => ?_) (fun c7 h0 => ?_))))))))))))))))))))))))))
 ·obtain rfl := Option.some.inj h0
  exact Dr 4
 ·refine Br 6 ⟨[(1, .ptr 64 0), (3, iV 0)], [(64, Ah a0)], []⟩ (Cr (bb h0 fun r46 e47 h0 => Dt (R := (fun S => .inl () = r46 ∧ S = ⟨[(1, .ptr 64 0)], [(64, Ah a0)], []⟩)) (Yp a0) (fun s S => match s with | p20 => S = ⟨[(1, .ptr 64 0), (3, iV p20)], [(64, Ah a0)], []⟩) e47 _ (Bw (by kernel_rfl)) rfl 0 (fun _ => rfl) ?_ ?_))
  ·rintro S _ hfg ⟨rfl, rfl⟩
   refine Dv _ hfg (Bu 2 (Au (bb h0 fun r48 e49 h0 => Re (H93 a0 r48 e49) (o_ ?_))))
   obtain rfl := Option.some.inj h0
   exact Dr 4
  ·rintro p20 o1 _ K1 rfl h1 hx1 hK1 hE1 hR1
   refine Bu 5 (Au (st (c_ (Cn (e := Bi) (l0 := a0.Aa) rfl rfl tv) (o_ (Br 2 ⟨[(1, .ptr 64 0), (3, iV p20), (34, .bool (decide (p20 < (a0.Aa.length : Int))))], [(64, Ah a0)], []⟩ (Dm h1 (fun c34 h1 => ?_) (fun c34 h1 => ?_)))))))
   ·refine Bu 8 (Au (bb h1 fun y35 e36 h1 => st (c_ (Cj (e := Bi) (y := y35) rfl rfl tv rfl rfl tv e36) (o_ (Br 4 ⟨[(1, .ptr 64 0), (3, iV p20), (4, iV y35.Av)], [(64, Ah a0)], []⟩ (Bu 6 (Au (bb h1 fun r37 e38 h1 => Re (H56 y35.Av 1 (IntKind.i64.wrap (a0.Ac.next - 1)) r37 e38) (o_ (Lh 6 (Au (sw ⟨[(1, .ptr 64 0), (3, iV p20), (4, iV y35.Av), (50, .bool (!r37)), (53, .may ((!r37) == false) (.bool (decide (p20 > 0)))), (54, .may (((!r37) == false) && ((decide (p20 > 0)) == true)) (.ptr 64 3))], [(64, Ah a0)], []⟩ (Bw (by kernel_rfl)) (Da (u := Cw a0.Aa) rfl (fun hg => (Ay ⟨(fun _ => hg), tv⟩ rfl (nl rfl))) (o_ (Lh 2 (Au (bb h1 fun y39 e40 h1 => st (Da (u := .iptr (Bi y39)) rfl (fun hg => (Cj (e := Bi) (y := y39) rfl rfl (fun _ => hg) rfl rfl (fun _ => hg) (ip hg e40))) (o_ (Lh 4 (Au (st (Ke (u := .bool (bif (decide (p20 > 0)) then (decide (y39.Av ≥ y35.Av)) else false)) rfl (fun hg => Qm rfl rfl (fun _ => hg) rfl rfl (fun h => Bs hg (dH h)) tv rfl) (o_ (Lh 5 (Au (bb h1 fun r41 e42 h1 => sw ⟨[(1, .ptr 64 0), (3, iV p20), (65, .bool (bif (!r37) then true else (bif (decide (p20 > 0)) then (decide (y39.Av ≥ y35.Av)) else false))), (67, .may ((bif (!r37) then true else (bif (decide (p20 > 0)) then (decide (y39.Av ≥ y35.Av)) else false)) == false) (.agg (Aw a0.Ac))), (68, .may ((bif (!r37) then true else (bif (decide (p20 > 0)) then (decide (y39.Av ≥ y35.Av)) else false)) == false) (iV y35.Av))], [(64, Ah a0)], []⟩ (Bw (by kernel_rfl)) (Ga (r := iV r41) rfl false (fun hg => H92 a0.Ac y35.Av r41 (ip hg e42)) ⟨(fun hg => hg), (fun hg => hg), tv⟩ (fun _ => rfl) (fun _ => rfl) (fun _ => rfl) (fun h => nomatch h) (o_ (Lh 3 (bv h1 fun v43 e44 h1 => Dv ⟨[(1, .ptr 64 0), (3, iV p20), (71, .bool v43)], [(64, Ah a0)], []⟩ (Bw (by subst e44; kernel_rfl)) (Dm h1 (fun c45 h1 => ?_) (fun c45 h1 => ?_)))))))))))))))))))))))))))))))))
    ·obtain rfl := Option.some.inj h1
     obtain rfl := hx1 _ rfl
     obtain rfl := Option.some.inj h0
     exact aN 4 hR1
    ·refine Bu 7 ?_
     obtain rfl := Option.some.inj h1
     exact hK1 _ rfl _ _ (Bw (by kernel_rfl)) rfl
   ·obtain rfl := Option.some.inj h1
    obtain rfl := hx1 _ rfl
    refine Nc rfl ?_
    exact hE1 _ _ (Bw (by kernel_rfl)) ⟨rfl, rfl⟩

/- loop.example/g00149/spec.l09Sixteen -/
def LT := [k_ 2 (.str [])]
def LU := [k_ 3 (.str [])]
def LV := [i_ 4 60]
def LW := [m_ 5 4, B_ .geq 6 5 0]
def LX : List Ch := [m_ 9 3, m_ 10 0, m_ 11 4, (iQ 12 (.conv .u64 (.t 11))), b_ .shr 13 10 12, B_ .and 14 13 15, ⟨some 15, .p (.idxStr (.c (.str [48, 49, 50, 51, 52, 53, 54, 55, 56, 57, 97, 98, 99, 100, 101, 102])) (.t 14)), none⟩, (iQ 16 (.chr (.t 15))), b_ .add 17 9 16, m_ 3 17]
def LY := [m_ 7 4, B_ .sub 8 7 4, m_ 4 8]
def LS : IR := (.seq (.seq (.reg LW) (.ite (.t 6) .skip (.exit 0))) (.seq (.block 1 (.reg LX)) (.reg LY)))
def LZ := [m_ 18 3, m_ 2 18]
def LQ : El := { np := 1, nt := 19, res := [.t 2], body := (.seq (.reg LT) (.seq (.reg LU) (.seq (.seq (.reg LV) (.block 0 (.loop LS))) (.seq (.reg LZ) .ret)))) }
def WR (D : Bc) : Prop := ∀ (a0 : Int) (r : (List UInt8)), Yn a0 = some r → D 312 ⟨[iV a0], []⟩ ⟨.str r, [], []⟩
theorem F312 {C : Bc} : WR (fun _ => Cp C LQ) := by
 intro a0 r h0
 refine Fe (nl rfl) (Br 12 ⟨[(0, iV a0), (3, .str ([] : List UInt8)), (4, iV 60)], [], []⟩ (Cr (bb h0 fun r24 e25 h0 => Dt (R := (fun S => ∃ p17 : List UInt8, p17 = r24 ∧ S = ⟨[(3, .str p17)], [], []⟩)) (Ps a0) (fun s S => match s with | (p7, p8) => S = ⟨[(0, iV a0), (3, .str p7), (4, iV p8)], [], []⟩) e25 _ (Bw (by kernel_rfl)) rfl 0 (fun _ => rfl) ?_ ?_)))
 ·rintro S _ hfg ⟨p17, rfl, rfl⟩
  refine Dv _ hfg ?_
  obtain rfl := Option.some.inj h0
  exact Dr 5
 ·rintro ⟨p7, p8⟩ o1 _ K1 rfl h1 hx1 hK1 hE1 hR1
  refine Br 5 ⟨[(0, iV a0), (3, .str p7), (4, iV p8), (6, .bool (decide (p8 ≥ 0)))], [], []⟩ (Dm h1 (fun rG h1 => ?_) (fun rG h1 => ?_))
  ·refine Bu 8 (Au (gg h1 fun c19 h1 => st (c_ (Ay ⟨tv, tv, tv⟩ rfl c19) (st (c_ (Ay t3 rfl tv) (bb h1 fun y20 e21 h1 => st (c_ (vL (y := y20) rfl rfl tv rfl rfl tv e21) (gg h1 fun c22 h1 => st (c_ (cchr (y := y20) rfl rfl tv c22) (gg h1 fun c23 h1 => st (c_ (Ay ⟨tv, tv, tv⟩ rfl c23) (o_ (Br 3 ⟨[(0, iV a0), (3, .str (p7 ++ ([y20] : List UInt8))), (4, iV p8)], [], []⟩ (Bu 4 ?_))))))))))))))
   obtain rfl := Option.some.inj h1
   exact hK1 _ rfl _ _ (Bw (by kernel_rfl)) rfl
  ·obtain rfl := Option.some.inj h1
   obtain rfl := hx1 _ rfl
   refine Nc rfl ?_
   exact hE1 _ _ (Bw (by kernel_rfl)) ⟨_, rfl, rfl⟩

/- loop.example/g00149/spec.VaultPairs -/
def JR : List Ch := [X_ 1 0, ⟨some 2, .nilS 2, none⟩, i_ 3 0]
def JS := [L_ 11 1 6, q_ 12 46 [(.t 11)], N_ 13 12]
def JT : List Ch := [⟨some 14, .mkS 2 [(.str []), (.str [])] 0 [], none⟩, m_ 2 14, i_ 3 1]
def JU : List Ch := [⟨some 15, .mkS 2 [(.str []), (.str [])] 0 [], none⟩, m_ 4 15]
def JV := [i_ 5 0]
def JW := [m_ 16 5, f_ 17 1 3, l_ 18 17 1, n_ 19 18, b_ .lss 20 16 19]
def JX := [k_ 6 (.str [98, 101, 103, 117, 110])]
def JY := [f_ 23 1 3, l_ 24 23 1, m_ 25 5, x_ 26 24 25 2, f_ 27 26 1, l_ 28 27 1]
def JZ := [k_ 6 (.str [117, 110, 100, 111])]
def KA : List Ch := [m_ 29 4, f_ 30 1 3, l_ 31 30 1, m_ 32 5, x_ 33 31 32 2, f_ 34 33 0, l_ 35 34 1, q_ 36 312 [(.t 35)], ⟨some 37, .p (.bin .add (.c (.str [105, 110, 116, 101, 110, 116, 47])) (.t 36)), none⟩, m_ 38 6, ⟨some 39, .p (.build [(.str []), (.str [])] [(0, 1, (.t 37)), (1, 1, (.t 38))]), none⟩, ⟨some 40, .mkS 2 [(.str []), (.str [])] 1 [(0, (.t 39))], none⟩, ⟨some 41, .app 2 32 (.t 29) (.t 40), none⟩, m_ 4 41]
def uF := [m_ 21 5, B_ .add 22 21 1, m_ 5 22]
def JP : IR := (.seq (.seq (.reg JW) (.ite (.t 20) .skip (.exit 0))) (.seq (.block 1 (.seq (.reg JX) (.seq (.seq (.reg JY) (.ite (.t 28) (.reg JZ) .skip)) (.reg KA)))) (.reg uF)))
def uG := [i_ 7 0]
def uH := [m_ 42 7, f_ 43 1 0, f_ 44 43 2, l_ 45 44 1, n_ 46 45, b_ .lss 47 42 46]
def uI := [f_ 50 1 0, f_ 51 50 2, l_ 52 51 1, m_ 53 7, x_ 54 52 53 4, L_ 55 54 4, a_ 8 [(iV 0), (iV 0), (iV 0), (.bool false)], s_ 8 55 4]
def uJ := tk [f_ 56 8 1, l_ 57 56 1, f_ 59 8 2, l_ 60 59 1] (.alt [l_ 60 59 1, f_ 59 8 2] (q_ 58 312 [(.t 57)]) (.alt [] (q_ 61 312 [(.t 60)]) (tk [b_ .add 62 58 61, ⟨some 63, .p (.bin .add (.t 62) (.c (.str [108, 105, 118, 101]))), none⟩, m_ 9 63] .fin) .stop) .stop)
def uK := [f_ 64 8 3, l_ 65 64 1]
def uL := tk [f_ 66 8 1, l_ 67 66 1, f_ 69 8 2, l_ 70 69 1] (.alt [l_ 70 69 1, f_ 69 8 2] (q_ 68 312 [(.t 67)]) (.alt [] (q_ 71 312 [(.t 70)]) (tk [b_ .add 72 68 71, ⟨some 73, .p (.bin .add (.t 72) (.c (.str [113, 117, 101, 117, 101, 100]))), none⟩, m_ 9 73] .fin) .stop) .stop)
def uM : List Ch := [m_ 74 4, f_ 75 8 0, l_ 76 75 1, q_ 77 312 [(.t 76)], ⟨some 78, .p (.bin .add (.c (.str [108, 101, 97, 115, 101, 47])) (.t 77)), none⟩, m_ 79 9, ⟨some 80, .p (.build [(.str []), (.str [])] [(0, 1, (.t 78)), (1, 1, (.t 79))]), none⟩, ⟨some 81, .mkS 2 [(.str []), (.str [])] 1 [(0, (.t 80))], none⟩, ⟨some 82, .app 2 32 (.t 74) (.t 81), none⟩, m_ 4 82]
def uN := [m_ 48 7, B_ .add 49 48 1, m_ 7 49]
def JQ : IR := (.seq (.seq (.reg uH) (.ite (.t 47) .skip (.exit 2))) (.seq (.block 3 (.seq (.reg uI) (.seq (.draw uJ) (.seq (.seq (.reg uK) (.ite (.t 65) (.draw uL) .skip)) (.reg uM))))) (.reg uN)))
def uO := [k_ 10 (.str [111, 112, 101, 110])]
def uP := [f_ 83 1 5, l_ 84 83 1]
def uQ := [k_ 10 (.str [115, 101, 97, 108, 101, 100])]
def uR := tk [m_ 85 4, f_ 86 1 0, f_ 87 86 0, l_ 88 87 1, f_ 90 1 0, f_ 91 90 1, l_ 92 91 1, m_ 95 10] (.alt [m_ 95 10, l_ 92 91 1, f_ 91 90 1, f_ 90 1 0, m_ 85 4] (q_ 89 312 [(.t 88)]) (.alt [m_ 95 10, m_ 85 4] (q_ 93 312 [(.t 92)]) (tk [b_ .add 94 89 93, b_ .add 96 94 95, ⟨some 97, .p (.build [(.str []), (.str [])] [(0, 1, (.c (.str [118, 97, 117, 108, 116]))), (1, 1, (.t 96))]), none⟩] (.alt [m_ 85 4] ⟨some 98, .mkS 2 [(.str []), (.str [])] 1 [(0, (.t 97))], none⟩ (.alt [] ⟨some 99, .app 2 32 (.t 85) (.t 98), none⟩ (tk [m_ 2 99, i_ 3 0] .fin) .stop) .stop)) .stop) .stop)
def JO : El := { np := 1, nt := 100, res := [.t 2, .t 3], body := (.seq (.reg JR) (.seq (.seq (.reg JS) (.ite (.t 13) (.seq (.reg JT) .ret) .skip)) (.seq (.reg JU) (.seq (.seq (.reg JV) (.block 0 (.loop JP))) (.seq (.seq (.reg uG) (.block 2 (.loop JQ))) (.seq (.reg uO) (.seq (.seq (.reg uP) (.ite (.t 84) (.reg uQ) .skip)) (.seq (.draw uR) .ret)))))))) }
def WM (D : Bc) : Prop := ∀ (a0 : Ag) (r : (List Bh) × Int), SF a0 = some r → D 249 ⟨[.agg (Ah a0)], []⟩ ⟨.tup [Bf 0 r.1, iV r.2], [], []⟩
theorem F249 {C : Bc} (H46 : K46 C) (H312 : WR C) : WM (fun _ => Cp C JO) := by
 intro a0 r h0
 refine Fe (nl rfl) (Br 5 ⟨[(1, .ptr 64 0)], [(64, Ah a0)], []⟩ (Bu 3 (Au (bb h0 fun r1 e2 h0 => Re (H46 a0 r1 e2) (o_ (Br 2 ⟨[(1, .ptr 64 0), (13, .bool (!r1))], [(64, Ah a0)], []⟩ (Dm h0 (fun c3 h0 => ?_) (fun c3 h0 => ?_))))))))
 ·obtain rfl := Option.some.inj h0
  exact Dr 6
 ·refine Br 11 ⟨[(1, .ptr 64 0), (4, Bf 960 []), (5, iV 0)], [(64, Ah a0)], []⟩ (Cr (bb h0 fun r50 e51 h0 => Dt (R := (fun S => ∃ p34 : List Bh, p34 = r50 ∧ S = ⟨[(1, .ptr 64 0), (4, Bf 960 p34)], [(64, Ah a0)], []⟩)) (Sm a0) (fun s S => match s with | (p17, p18) => S = ⟨[(1, .ptr 64 0), (4, Bf 960 p17), (5, iV p18)], [(64, Ah a0)], []⟩) e51 _ (Bw (by kernel_rfl)) rfl 0 (fun _ => rfl) ?_ ?_))
  ·rintro S _ hfg ⟨p34, rfl, rfl⟩
   refine Dv _ hfg (Br 4 ⟨[(1, .ptr 64 0), (4, Bf 960 p34), (7, iV 0)], [(64, Ah a0)], []⟩ (Cr (bb h0 fun r134 e135 h0 => Dt (R := (fun S => ∃ p102 : List Bh, p102 = r134 ∧ S = ⟨[(1, .ptr 64 0), (4, Bf 960 p102)], [(64, Ah a0)], []⟩)) (Sn a0) (fun s S => match s with | (p75, p76) => S = ⟨[(1, .ptr 64 0), (4, Bf 960 p75), (7, iV p76)], [(64, Ah a0)], []⟩) e135 _ (Bw (by kernel_rfl)) rfl 2 (fun _ => rfl) ?_ ?_)))
   ·rintro S _ hfg ⟨p102, rfl, rfl⟩
    refine Dv _ hfg (Br 9 ⟨[(1, .ptr 64 0), (4, Bf 960 p102), (10, .str ([111, 112, 101, 110] : List UInt8)), (84, .bool a0.Al)], [(64, Ah a0)], []⟩ (aX (cb := a0.Al) (fun S => ∃ p137 : List UInt8, S = ⟨[(1, .ptr 64 0), (4, Bf 960 p102), (10, .str p137)], [(64, Ah a0)], []⟩ ∧ Sl a0 p102 p137 = some r) rfl ?_ (fun c148 J147 => ?_) (fun c148 J147 => ?_)))
    ·rintro _ ⟨p137, rfl, h0⟩
     refine Uv 2 ?_
     obtain ⟨r138, e139, h0⟩ := bnd h0
     obtain ⟨r140, e141, h0⟩ := bnd h0
     obtain ⟨c142, h0⟩ := kS h0
     obtain ⟨c143, h0⟩ := kS h0
     refine gg h0 fun gG h0 => Bu 8 (Dh (Ci (Bv (r := .str r138) false (H312 a0.Ac.clock r138 e139) ⟨tv, tv⟩ rfl rfl (fun _ => rfl) (Jf ⟨[(1, .ptr 64 0), (4, Bf 960 p102), (10, .str p137), (85, Bf 960 p102), (89, .str r138), (90, .ptr 64 0), (91, .ptr 64 1), (92, iV a0.Ac.next), (95, .str p137)], [(64, Ah a0)], []⟩ (Bw (by kernel_rfl)) ⟨[], ⟨⟨.inl tv, (Ao (Gs (v := .str p137) rfl tv) rfl)⟩, ⟨.inl tv, (Ao (Ay ⟨tv, tv⟩ rfl (nl rfl)) rfl)⟩, ⟨.inl tv, (Ao (Ay ⟨tv, tv⟩ rfl tv) rfl)⟩, ⟨.inl tv, (Ao (Ay ⟨tv, tv⟩ rfl tv) rfl)⟩, ⟨.inl tv, (Ao (Gs (v := Bf 960 p102) rfl tv) rfl)⟩, tv⟩, tv, (Ci (Bv (r := .str r140) false (H312 a0.Ac.next r140 e141) ⟨tv, tv⟩ rfl rfl (fun _ => rfl) (Jf ⟨[(4, Bf 960 p102), (10, .str p137), (85, Bf 960 p102), (89, .str r138), (93, .str r140), (95, .str p137)], [], []⟩ (Bw (by kernel_rfl)) ⟨[], ⟨⟨.inl tv, (Ao (Gs (v := .str p137) rfl tv) rfl)⟩, ⟨.inl tv, (Ao (Gs (v := Bf 960 p102) rfl tv) rfl)⟩, tv⟩, tv, (Ak tv (c_ (Ay ⟨tv, tv, tv⟩ rfl c142) (⟨tv, (Ak tv (c_ (Ay ⟨tv, tv, tv⟩ rfl c143) (⟨tv, (Ak tv (c_ (v := .agg [.str ([118, 97, 117, 108, 116] : List UInt8), .str ((r138 ++ r140) ++ p137)]) (Ay ⟨tv, tv, tv⟩ rfl ⟨⟨rfl, rfl, nl rfl⟩, ⟨rfl, rfl, nl rfl⟩, tv⟩) (⟨tv, (Ci (Ni ⟨tv, tv⟩ ⟨⟨nl rfl, rfl, rfl⟩, tv⟩ (Jr ⟨[], ⟨⟨.inl tv, (Ao (Gs (v := Bf 960 p102) rfl tv) rfl)⟩, tv⟩, tv, (Ci (Hj (e := Cz) (l0 := p102) (l1 := ([(Bh.mk ([118, 97, 117, 108, 116] : List UInt8) ((r138 ++ r140) ++ p137))] : List Bh)) rfl rfl tv rfl (by decide) gG (Jr ⟨[], tv, tv, ?_⟩)) Bp)⟩)) Bp)⟩)))⟩)))⟩)))⟩)) Bp)⟩)) Bp))
     refine d_ (Bu 3 (bv h0 fun v145 e146 h0 => Dv ⟨[(2, Bf 960 v145), (3, iV 0)], [], []⟩ (Bw (by subst e146; kernel_rfl)) ?_))
     obtain rfl := Option.some.inj h0
     exact cL (Mb rfl rfl rfl rfl rfl tv)
    ·replace h0 := ip c148 h0
     refine Au (st (Tj tv (Kj ?_)))
     exact J147 _ _ (Bw (by kernel_rfl)) ⟨_, rfl, h0⟩
    ·replace h0 := wX c148 h0
     refine Nj ?_
     exact J147 _ _ (Bw (by kernel_rfl)) ⟨_, rfl, h0⟩
   ·rintro ⟨p75, p76⟩ o1 _ K1 rfl h1 hx1 hK1 hE1 hR1
    refine Bu 6 (Au (st (c_ (Cn (e := At) (l0 := a0.Ac.Ad) rfl rfl tv) (o_ (Br 2 ⟨[(1, .ptr 64 0), (4, Bf 960 p75), (7, iV p76), (47, .bool (decide (p76 < (a0.Ac.Ad.length : Int))))], [(64, Ah a0)], []⟩ (Dm h1 (fun dB h1 => ?_) (fun dB h1 => ?_)))))))
    ·refine Bu 9 (Au (bb h1 fun y104 e105 h1 => st (c_ (Cj (e := At) (y := y104) rfl rfl tv rfl rfl tv e105) (o_ (Br 4 ⟨[(1, .ptr 64 0), (4, Bf 960 p75), (7, iV p76), (8, .ptr 512 0)], [(64, Ah a0), (512, At y104)], []⟩ (Bz ?_))))))
     obtain ⟨r106, e107, h1⟩ := bnd h1
     obtain ⟨r108, e109, h1⟩ := bnd h1
     obtain ⟨oP, h1⟩ := kS h1
     refine gg h1 fun oQ h1 => Bu 4 (Dh (Ci (Bv (r := .str r106) false (H312 y104.Be r106 e107) ⟨tv, tv⟩ rfl rfl (fun _ => rfl) (Jf ⟨[(1, .ptr 64 0), (4, Bf 960 p75), (7, iV p76), (8, .ptr 512 0), (58, .str r106), (59, .ptr 512 2), (60, iV y104.cap)], [(64, Ah a0), (512, At y104)], []⟩ (Bw (by kernel_rfl)) ⟨[], ⟨⟨.inl tv, (Ao (Ay ⟨tv, tv⟩ rfl (nl rfl)) rfl)⟩, ⟨.inl tv, (Ao (Ay ⟨tv, tv⟩ rfl tv) rfl)⟩, tv⟩, tv, (Ci (Bv (r := .str r108) false (H312 y104.cap r108 e109) ⟨tv, tv⟩ rfl rfl (fun _ => rfl) (Jf ⟨[(1, .ptr 64 0), (4, Bf 960 p75), (7, iV p76), (8, .ptr 512 0), (58, .str r106), (61, .str r108)], [(64, Ah a0), (512, At y104)], []⟩ (Bw (by kernel_rfl)) ⟨[], tv, tv, (Ak tv (c_ (Ay ⟨tv, tv, tv⟩ rfl oP) (⟨tv, (Ak tv (c_ (Ay ⟨tv, tv, tv⟩ rfl oQ) (⟨tv, (d_ (Br 8 ⟨[(1, .ptr 64 0), (4, Bf 960 p75), (7, iV p76), (8, .ptr 512 0), (9, .str ((r106 ++ r108) ++ ([108, 105, 118, 101] : List UInt8))), (65, .bool y104.Bt)], [(64, Ah a0), (512, At y104)], []⟩ (aX (cb := y104.Bt) (fun S => ∃ p119 : List UInt8, S = ⟨[(1, .ptr 64 0), (4, Bf 960 p75), (7, iV p76), (8, .ptr 512 0), (9, .str p119)], [(64, Ah a0), (512, At y104)], []⟩ ∧ Sk p75 p76 y104 p119 = some o1) rfl ?_ (fun gF J126 => ?_) (fun gF J126 => ?_))))⟩)))⟩)))⟩)) Bp)⟩)) Bp))
     ·rintro _ ⟨p119, rfl, h1⟩
      refine Bu 4 (Au (bb h1 fun r120 e121 h1 => Re (H312 y104.id r120 e121) (gg h1 fun c122 h1 => st (c_ (Ay ⟨tv, tv, tv⟩ rfl c122) (st (Df rfl tv (st (c_ (v := .agg [.str (([108, 101, 97, 115, 101, 47] : List UInt8) ++ r120), .str p119]) (Ay ⟨tv, tv, tv⟩ rfl ⟨⟨rfl, rfl, nl rfl⟩, ⟨rfl, rfl, nl rfl⟩, tv⟩) (st (Ni ⟨tv, tv⟩ ⟨⟨nl rfl, rfl, rfl⟩, tv⟩ (gg h1 fun c123 h1 => st (Hj (e := Cz) (l0 := p75) (l1 := ([(Bh.mk (([108, 101, 97, 115, 101, 47] : List UInt8) ++ r120) p119)] : List Bh)) rfl rfl tv rfl (by decide) c123 (st (Df rfl tv (Kj (aR (bv h1 fun v124 e125 h1 => Dv ⟨[(1, .ptr 64 0), (4, Bf 960 v124), (7, iV p76)], [(64, Ah a0)], []⟩ (Bw (by subst e125; kernel_rfl)) (Bu 4 ?_))))))))))))))))))
      obtain rfl := Option.some.inj h1
      exact hK1 _ rfl _ _ (Bw (by kernel_rfl)) rfl
     ·replace h1 := ip gF h1
      obtain ⟨r128, e129, h1⟩ := bnd h1
      obtain ⟨r130, e131, h1⟩ := bnd h1
      obtain ⟨oS, h1⟩ := kS h1
      refine gg h1 fun oT h1 => Bu 4 (Dh (Ci (Bv (r := .str r128) false (H312 y104.Be r128 e129) ⟨tv, tv⟩ rfl rfl (fun _ => rfl) (Jf ⟨[(1, .ptr 64 0), (4, Bf 960 p75), (7, iV p76), (8, .ptr 512 0), (9, .str ((r106 ++ r108) ++ ([108, 105, 118, 101] : List UInt8))), (68, .str r128), (69, .ptr 512 2), (70, iV y104.cap)], [(64, Ah a0), (512, At y104)], []⟩ (Bw (by kernel_rfl)) ⟨[], ⟨⟨.inl tv, (Ao (Ay ⟨tv, tv⟩ rfl (nl rfl)) rfl)⟩, ⟨.inl tv, (Ao (Ay ⟨tv, tv⟩ rfl tv) rfl)⟩, tv⟩, tv, (Ci (Bv (r := .str r130) false (H312 y104.cap r130 e131) ⟨tv, tv⟩ rfl rfl (fun _ => rfl) (Jf ⟨[(1, .ptr 64 0), (4, Bf 960 p75), (7, iV p76), (8, .ptr 512 0), (9, .str ((r106 ++ r108) ++ ([108, 105, 118, 101] : List UInt8))), (68, .str r128), (71, .str r130)], [(64, Ah a0), (512, At y104)], []⟩ (Bw (by kernel_rfl)) ⟨[], tv, tv, (Ak tv (c_ (Ay ⟨tv, tv, tv⟩ rfl oS) (⟨tv, (Ak tv (c_ (Ay ⟨tv, tv, tv⟩ rfl oT) (⟨tv, (d_ (Bu 2 ?_))⟩)))⟩)))⟩)) Bp)⟩)) Bp))
      exact J126 _ _ (Bw (by kernel_rfl)) ⟨_, rfl, h1⟩
     ·replace h1 := wX gF h1
      refine Nj ?_
      exact J126 _ _ (Bw (by kernel_rfl)) ⟨_, rfl, h1⟩
    ·obtain rfl := Option.some.inj h1
     obtain rfl := hx1 _ rfl
     refine Nc rfl ?_
     exact hE1 _ _ (Bw (by kernel_rfl)) ⟨_, rfl, rfl⟩
  ·rintro ⟨p17, p18⟩ o1 _ K1 rfl h1 hx1 hK1 hE1 hR1
   refine Bu 5 (Au (st (c_ (Cn (e := Bi) (l0 := a0.Aa) rfl rfl tv) (o_ (Br 2 ⟨[(1, .ptr 64 0), (4, Bf 960 p17), (5, iV p18), (20, .bool (decide (p18 < (a0.Aa.length : Int))))], [(64, Ah a0)], []⟩ (Dm h1 (fun c35 h1 => ?_) (fun c35 h1 => ?_)))))))
   ·refine Br 7 ⟨[(1, .ptr 64 0), (4, Bf 960 p17), (5, iV p18), (6, .str ([98, 101, 103, 117, 110] : List UInt8))], [(64, Ah a0)], []⟩ (Bu 5 (Au (bb h1 fun y36 e37 h1 => st (c_ (Cj (e := Bi) (y := y36) rfl rfl tv rfl rfl tv e37) (o_ (Br 3 ⟨[(1, .ptr 64 0), (4, Bf 960 p17), (5, iV p18), (6, .str ([98, 101, 103, 117, 110] : List UInt8)), (28, .bool y36.Hl)], [(64, Ah a0)], []⟩ (aX (cb := y36.Hl) (fun S => ∃ p39 : List UInt8, S = ⟨[(1, .ptr 64 0), (4, Bf 960 p17), (5, iV p18), (6, .str p39)], [(64, Ah a0)], []⟩ ∧ Sj a0 p17 p18 p39 = some o1) rfl ?_ (fun c49 J48 => ?_) (fun c49 J48 => ?_))))))))
    ·rintro _ ⟨p39, rfl, h1⟩
     refine Bu 5 (Au (bb h1 fun y40 e41 h1 => st (c_ (Cj (e := Bi) (y := y40) rfl rfl tv rfl rfl tv e41) (o_ (Bu 2 (Au (bb h1 fun r42 e43 h1 => Re (H312 y40.Av r42 e43) (gg h1 fun c44 h1 => st (c_ (Ay ⟨tv, tv, tv⟩ rfl c44) (st (Df rfl tv (st (c_ (v := .agg [.str (([105, 110, 116, 101, 110, 116, 47] : List UInt8) ++ r42), .str p39]) (Ay ⟨tv, tv, tv⟩ rfl ⟨⟨rfl, rfl, nl rfl⟩, ⟨rfl, rfl, nl rfl⟩, tv⟩) (st (Ni ⟨tv, tv⟩ ⟨⟨nl rfl, rfl, rfl⟩, tv⟩ (gg h1 fun c45 h1 => st (Hj (e := Cz) (l0 := p17) (l1 := ([(Bh.mk (([105, 110, 116, 101, 110, 116, 47] : List UInt8) ++ r42) p39)] : List Bh)) rfl rfl tv rfl (by decide) c45 (st (Df rfl tv (Kj (aR (bv h1 fun v46 e47 h1 => Dv ⟨[(1, .ptr 64 0), (4, Bf 960 v46), (5, iV p18)], [(64, Ah a0)], []⟩ (Bw (by subst e47; kernel_rfl)) (Bu 4 ?_)))))))))))))))))))))))
     obtain rfl := Option.some.inj h1
     exact hK1 _ rfl _ _ (Bw (by kernel_rfl)) rfl
    ·replace h1 := ip c49 h1
     refine Au (st (Tj tv (Kj ?_)))
     exact J48 _ _ (Bw (by kernel_rfl)) ⟨_, rfl, h1⟩
    ·replace h1 := wX c49 h1
     refine Nj ?_
     exact J48 _ _ (Bw (by kernel_rfl)) ⟨_, rfl, h1⟩
   ·obtain rfl := Option.some.inj h1
    obtain rfl := hx1 _ rfl
    refine Nc rfl ?_
    exact hE1 _ _ (Bw (by kernel_rfl)) ⟨_, rfl, rfl⟩

/- loop.example/g00149/impl.within -/
def AaG := [k_ 6 (.bool false)]
def AaH := [m_ 7 1, m_ 8 0, b_ .leq 9 7 8, m_ 10 9, pT 10 11 (.mv (.t 0)), pT 10 12 (.mv (.t 2)), pT 10 13 (.bin .leq (.t 11) (.t 12)), pk 14 (.t 10) (.t 13) (.c (.bool false)), m_ 6 14]
def c63 : El := { np := 3, nt := 15, res := [.t 6], body := (.seq (.reg AaG) (.seq (.reg AaH) .ret)) }
def K63 (D : Bc) : Prop := ∀ (a0 : Int) (a1 : Int) (a2 : Int) (r : Bool), wL a0 a1 a2 = some r → D 63 ⟨[iV a0, iV a1, iV a2], []⟩ ⟨.bool r, [], []⟩
theorem F63 {C : Bc} : K63 (fun _ => Cp C c63) := by
 intro a0 a1 a2 r h0
 refine Fe (nl rfl) (Br 3 ⟨[(0, iV a0), (1, iV a1), (2, iV a2)], [], []⟩ (Lh 9 (Au (o_ ?_))))
 obtain rfl := Option.some.inj h0
 exact Dr 3

/- loop.example/g00149/impl.isSerial -/
def Aai := [k_ 2 (.bool false)]
def Aaj := [m_ 3 0, q_ 4 63 [(.t 3), (.c (iV 1)), (.c (iV 1000000))], m_ 2 4]
def c58 : El := { np := 1, nt := 5, res := [.t 2], body := (.seq (.reg Aai) (.seq (.reg Aaj) .ret)) }
def K58 (D : Bc) : Prop := ∀ (a0 : Int) (r : Bool), g58 a0 = some r → D 58 ⟨[iV a0], []⟩ ⟨.bool r, [], []⟩
theorem F58 {C : Bc} (H63 : K63 C) : K58 (fun _ => Cp C c58) := by
 intro a0 r h0
 refine Fe (nl rfl) (Br 3 ⟨[(0, iV a0)], [], []⟩ (Bz (Au (st (Df rfl tv (bb h0 fun r1 e2 h0 => Re (H63 a0 1 1000000 r1 e2) (o_ ?_)))))))
 obtain rfl := Option.some.inj h0
 exact Dr 3

/- loop.example/g00149/impl.rises -/
def Aal := [k_ 6 (.bool false)]
def Aam := [m_ 9 0, n_ 10 9, i_ 11 0]
def Aan := [b_ .lss 12 11 10]
def Aao := [m_ 13 11, x_ 14 9 11 1, l_ 15 14 1, m_ 7 13, m_ 8 15]
def Aap : List Ch := [m_ 16 8, m_ 17 1, m_ 18 2, q_ 19 63 [(.t 16), (.t 17), (.t 18)], N_ 20 19, m_ 21 20, pF 21 22 (.mv (.t 7)), pF 21 23 (.bin .gtr (.t 22) (.c (iV 0))), pF 21 24 (.mv (.t 23)), pT 24 25 (.mv (.t 0)), pT 24 26 (.mv (.t 7)), pT 24 27 (.bin .sub (.t 26) (.c (iV 1))), pT 24 28 (.idxA (.t 25) (.t 27) 1), pT 24 29 (.load (.t 28) 1 false), pT 24 30 (.mv (.t 8)), pT 24 31 (.bin .geq (.t 29) (.t 30)), ⟨some 32, .pick (.t 24) (.t 31) (.c (.bool false)), some (21, false)⟩, pk 33 (.t 21) (.c (.bool true)) (.t 32)]
def Aaq := [k_ 6 (.bool false)]
def Aar := [B_ .add 34 11 1, m_ 11 34]
def Aak : IR := (.seq (.reg Aan) (.seq (.ite (.t 12) .skip (.exit 0)) (.seq (.block 1 (.seq (.reg Aao) (.seq (.reg Aap) (.ite (.t 33) (.seq (.reg Aaq) .ret) .skip)))) (.reg Aar))))
def Aas := [k_ 6 (.bool true)]
def c59 : El := { np := 3, nt := 35, res := [.t 6], body := (.seq (.reg Aal) (.seq (.seq (.reg Aam) (.block 0 (.loop Aak))) (.seq (.reg Aas) .ret))) }
def K59 (D : Bc) : Prop := ∀ (a0 : List Int) (a1 : Int) (a2 : Int) (r : Bool), g59 a0 a1 a2 = some r → D 59 ⟨[lI a0, iV a1, iV a2], []⟩ ⟨.bool r, [], []⟩
theorem F59 {C : Bc} (H63 : K63 C) : K59 (fun _ => Cp C c59) := by
 intro a0 a1 a2 r h0
 refine Fe (nl rfl) (Br 3 ⟨[(0, lI a0), (1, iV a1), (2, iV a2)], [], []⟩ (Bu 3 (Au (st (c_ (Cn (e := eI) (l0 := a0) rfl rfl tv) (o_ (Br 2 ⟨[(0, lI a0), (1, iV a1), (2, iV a2), (9, lI a0), (10, iV (a0.length : Int)), (11, iV 0)], [], []⟩ (Cr (bb h0 fun r33 e34 h0 => Dt (R := (fun S => .inl () = r33 ∧ S = ⟨[], [], []⟩)) (Yr a0 a1 a2) (fun s S => match s with | p11 => S = ⟨[(0, lI a0), (1, iV a1), (2, iV a2), (9, lI a0), (10, iV (a0.length : Int)), (11, iV p11)], [], []⟩) e34 _ (Bw (by kernel_rfl)) rfl 0 (fun _ => rfl) ?_ ?_)))))))))
 ·rintro S _ hfg ⟨rfl, rfl⟩
  refine Dv _ hfg ?_
  obtain rfl := Option.some.inj h0
  exact Dr 4
 ·rintro p11 o1 _ K1 rfl h1 hx1 hK1 hE1 hR1
  refine Br 3 ⟨[(0, lI a0), (1, iV a1), (2, iV a2), (9, lI a0), (10, iV (a0.length : Int)), (11, iV p11), (12, .bool (decide (p11 < (a0.length : Int))))], [], []⟩ (Bz (Dm h1 (fun c23 h1 => ?_) (fun c23 h1 => ?_)))
  ·refine Bu 6 (Au (bb h1 fun y24 e25 h1 => st (c_ (Cj (e := eI) (y := y24) rfl rfl tv rfl rfl tv e25) (o_ (Br 4 ⟨[(0, lI a0), (1, iV a1), (2, iV a2), (7, iV p11), (8, iV y24), (9, lI a0), (10, iV (a0.length : Int)), (11, iV p11)], [], []⟩ (Bu 4 (Au (bb h1 fun r26 e27 h1 => Re (H63 y24 a1 a2 r26 e27) (o_ (Lh 8 (Au (bb h1 fun y28 e29 h1 => sw ⟨[(0, lI a0), (1, iV a1), (2, iV a2), (8, iV y24), (9, lI a0), (10, iV (a0.length : Int)), (11, iV p11), (21, .bool (!r26)), (24, .may ((!r26) == false) (.bool (decide (p11 > 0)))), (25, .may (((!r26) == false) && ((decide (p11 > 0)) == true)) (lI a0)), (27, .may (((!r26) == false) && ((decide (p11 > 0)) == true)) (iV (IntKind.i64.wrap (p11 - 1))))], [], []⟩ (Bw (by kernel_rfl)) (Da (u := .iptr [iV y28]) rfl (fun hg => (Cj (e := eI) (y := y28) rfl rfl (fun _ => hg) rfl rfl (fun _ => hg) (ip hg e29))) (o_ (Lh 3 (Au (st (Ke (u := .bool (bif (decide (p11 > 0)) then (decide (y28 ≥ y24)) else false)) rfl (fun hg => Qm rfl rfl (fun _ => hg) rfl rfl (fun h => Bs hg (dH h)) tv rfl) (o_ (Lh 2 (bv h1 fun v30 e31 h1 => Dv ⟨[(0, lI a0), (1, iV a1), (2, iV a2), (9, lI a0), (10, iV (a0.length : Int)), (11, iV p11), (33, .bool v30)], [], []⟩ (Bw (by subst e31; kernel_rfl)) (Dm h1 (fun c32 h1 => ?_) (fun c32 h1 => ?_)))))))))))))))))))))))
   ·obtain rfl := Option.some.inj h1
    obtain rfl := hx1 _ rfl
    obtain rfl := Option.some.inj h0
    exact aN 4 hR1
   ·refine Bu 6 ?_
    obtain rfl := Option.some.inj h1
    exact hK1 _ rfl _ _ (Bw (by kernel_rfl)) rfl
  ·obtain rfl := Option.some.inj h1
   obtain rfl := hx1 _ rfl
   refine Nc rfl ?_
   exact hE1 _ _ (Bw (by kernel_rfl)) ⟨rfl, rfl⟩

/- (loop.example/g00149/impl.Table).ids -/
def Aau : List Ch := [X_ 1 0, ⟨some 2, .nilS 1, none⟩]
def Aav : List Ch := [⟨some 3, .nilS 1, none⟩]
def Aaw := [f_ 6 1 2, l_ 7 6 1, n_ 8 7, i_ 9 0]
def Aax := [b_ .lss 10 9 8]
def Aay := [x_ 11 7 9 4, L_ 12 11 4, a_ 5 [(iV 0), (iV 0), (iV 0), (.bool false)], s_ 5 12 4]
def Aaz : List Ch := [m_ 13 3, f_ 14 5 0, l_ 15 14 1, ⟨some 16, .mkS 1 [(iV 0)] 1 [(0, (.t 15))], none⟩, ⟨some 17, .app 1 8 (.t 13) (.t 16), none⟩, m_ 3 17]
def AaA := [B_ .add 18 9 1, m_ 9 18]
def Aat : IR := (.seq (.reg Aax) (.seq (.ite (.t 10) .skip (.exit 0)) (.seq (.block 1 (.seq (.reg Aay) (.reg Aaz))) (.reg AaA))))
def AaB := [m_ 19 3, m_ 2 19]
def c60 : El := { np := 1, nt := 20, res := [.t 2], body := (.seq (.reg Aau) (.seq (.reg Aav) (.seq (.seq (.reg Aaw) (.block 0 (.loop Aat))) (.seq (.reg AaB) .ret)))) }
def K60 (D : Bc) : Prop := ∀ (a0 : Ai) (r : (List Int)), UU a0 = some r → D 60 ⟨[.agg (Aw a0)], []⟩ ⟨oI 0 r, [], []⟩
theorem F60 {C : Bc} : K60 (fun _ => Cp C c60) := by
 intro a0 r h0
 refine Fe (nl rfl) (Br 8 ⟨[(1, .ptr 64 0), (3, .own 192 0 1 ([].map eI))], [(64, Aw a0)], []⟩ (Bu 4 (Au (st (c_ (Cn (e := At) (l0 := a0.Ad) rfl rfl tv) (o_ (Br 2 ⟨[(3, .own 192 0 1 ([].map eI)), (7, Bl a0.Ad), (8, iV (a0.Ad.length : Int)), (9, iV 0)], [], []⟩ (Cr (bb h0 fun r18 e19 h0 => Dt (R := (fun S => ∃ p13 : List Int, p13 = r18 ∧ S = ⟨[(3, oI 192 p13)], [], []⟩)) (Mn a0) (fun s S => match s with | (p5, p6) => S = ⟨[(3, oI 192 p5), (7, Bl a0.Ad), (8, iV (a0.Ad.length : Int)), (9, iV p6)], [], []⟩) e19 _ (Bw (by kernel_rfl)) rfl 0 (fun _ => rfl) ?_ ?_)))))))))
 ·rintro S _ hfg ⟨p13, rfl, rfl⟩
  refine Dv _ hfg ?_
  obtain rfl := Option.some.inj h0
  exact Dr 5
 ·rintro ⟨p5, p6⟩ o1 _ K1 rfl h1 hx1 hK1 hE1 hR1
  refine Br 3 ⟨[(3, oI 192 p5), (7, Bl a0.Ad), (8, iV (a0.Ad.length : Int)), (9, iV p6), (10, .bool (decide (p6 < (a0.Ad.length : Int))))], [], []⟩ (Bz (Dm h1 (fun c14 h1 => ?_) (fun c14 h1 => ?_)))
  ·refine Uv 5 (Au (bb h1 fun y15 e16 h1 => st (c_ (Cj (e := At) (y := y15) rfl rfl tv rfl rfl tv e16) (o_ (Br 4 ⟨[(3, oI 192 p5), (5, .ptr 320 0), (7, Bl a0.Ad), (8, iV (a0.Ad.length : Int)), (9, iV p6)], [(320, At y15)], []⟩ (Bu 4 (Au (gg h1 fun c17 h1 => st (Hj (e := eI) (l0 := p5) (l1 := ([y15.id] : List Int)) rfl rfl tv rfl (by decide) c17 (o_ (Br 3 ⟨[(3, oI 192 (p5 ++ ([y15.id] : List Int))), (7, Bl a0.Ad), (8, iV (a0.Ad.length : Int)), (9, iV p6)], [], []⟩ (Bu 3 ?_))))))))))))
   obtain rfl := Option.some.inj h1
   exact hK1 _ rfl _ _ (Bw (by kernel_rfl)) rfl
  ·obtain rfl := Option.some.inj h1
   obtain rfl := hx1 _ rfl
   refine Nc rfl ?_
   exact hE1 _ _ (Bw (by kernel_rfl)) ⟨_, rfl, rfl⟩

/- slices.IndexFunc[[]loop.example/g00149/impl.Lease,loop.example/g00149/impl.Lease] -/
def CC := [i_ 4 0]
def CD := [m_ 6 0, n_ 7 6, i_ 8 0]
def CE := [b_ .lss 9 8 7]
def CF := [m_ 10 8, m_ 5 10]
def CG : List Ch := [m_ 11 1, m_ 12 0, m_ 13 5, x_ 14 12 13 4, L_ 15 14 4, ⟨some 16, .callv (.t 11) [(.t 15)], none⟩]
def CH := [m_ 17 5, m_ 4 17]
def CI := [B_ .add 18 8 1, m_ 8 18]
def CB : IR := (.seq (.reg CE) (.seq (.ite (.t 9) .skip (.exit 0)) (.seq (.block 1 (.seq (.reg CF) (.seq (.reg CG) (.ite (.t 16) (.seq (.reg CH) .ret) .skip)))) (.reg CI))))
def CJ := [i_ 4 (-1)]
def oO : El := { np := 2, nt := 19, res := [.t 4], body := (.seq (.reg CC) (.seq (.seq (.reg CD) (.block 0 (.loop CB))) (.seq (.reg CJ) .ret))) }
def K108 (C : Bc) : Prop := ∀ (a0 : List Ab) (f1 : Nat) (k1 : List V) (is1 : Ab → Option Bool) (hs1 : Lb k1) (hf1 : ∀ (x0 : Ab) r, is1 x0 = some r → C f1 ⟨.agg (At x0) :: k1, []⟩ ⟨.bool r, [], []⟩) (r : Int), pJ a0 is1 = some r → C 108 ⟨[Bl a0, .clo f1 k1], []⟩ ⟨iV r, [], []⟩
theorem F108 {C : Bc}  (a0 : List Ab) (f1 : Nat) (k1 : List V) (is1 : Ab → Option Bool) (hs1 : Lb k1) (hf1 : ∀ (x0 : Ab) r, is1 x0 = some r → C f1 ⟨.agg (At x0) :: k1, []⟩ ⟨.bool r, [], []⟩) (r : Int) (h0 : pJ a0 is1 = some r) : Cp C oO ⟨[Bl a0, .clo f1 k1], []⟩ ⟨iV r, [], []⟩ := by
 refine Fe (nl rfl) (Bz (Au (st (Tj tv (Kj (Dv ⟨[(0, Bl a0), (1, .clo f1 k1)], [], []⟩ (fg ⟨rfl, rfl, tv⟩ tv) (Bu 3 (Au (st (c_ (Cn (e := At) (l0 := a0) rfl rfl tv) (st (Tj tv (Kj (Dv ⟨[(0, Bl a0), (1, .clo f1 k1), (7, iV (a0.length : Int)), (8, iV 0)], [], []⟩ (fg ⟨rfl, rfl, rfl, rfl, tv⟩ tv) (Cr (bb h0 fun r21 e22 h0 => Dt (R := (fun S => .inl () = r21 ∧ S = ⟨[], [], []⟩)) (Pj a0 is1) (fun s S => match s with | p7 => S = ⟨[(0, Bl a0), (1, .clo f1 k1), (7, iV (a0.length : Int)), (8, iV p7)], [], []⟩) e22 ⟨[(0, Bl a0), (1, .clo f1 k1), (7, iV (a0.length : Int)), (8, iV 0)], [], []⟩ (fg ⟨rfl, rfl, rfl, rfl, tv⟩ tv) rfl 0 (fun _ => rfl) ?_ ?_))))))))))))))))
 ·rintro S _ hfg ⟨rfl, rfl⟩
  refine Dv _ hfg ?_
  obtain rfl := Option.some.inj h0
  exact Dr 4
 ·rintro p7 o1 _ K1 rfl h1 hx1 hK1 hE1 hR1
  refine Bu 3 (Dv ⟨[(0, Bl a0), (1, .clo f1 k1), (7, iV (a0.length : Int)), (8, iV p7), (9, .bool (decide (p7 < (a0.length : Int))))], [], []⟩ (fg ⟨rfl, rfl, rfl, rfl, rfl, tv⟩ tv) (Bz (Dm h1 (fun c15 h1 => ?_) (fun c15 h1 => ?_))))
  ·refine Nj (Dv ⟨[(0, Bl a0), (1, .clo f1 k1), (7, iV (a0.length : Int)), (8, iV p7)], [], []⟩ (fg ⟨rfl, rfl, rfl, rfl, tv⟩ tv) (Bu 6 (Dv ⟨[(0, Bl a0), (1, .clo f1 k1), (5, iV p7), (7, iV (a0.length : Int)), (8, iV p7)], [], []⟩ (fg ⟨rfl, rfl, rfl, rfl, rfl, tv⟩ tv) (Bu 4 (Au (bb h1 fun y16 e17 h1 => st (c_ (Cj (e := At) (y := y16) rfl rfl tv rfl rfl tv e17) (st (c_ (v := .agg (At y16)) (Ay ⟨tv, tv⟩ rfl (nl rfl)) (bb h1 fun r18 e19 h1 => st (Sb (r := .bool r18) rfl false (hf1 _ r18 e19) ⟨tv, tv⟩ (Bs rfl hs1.2.2.1) (Jc rfl (hs1.2.1 _ _ _ _ _)) (fun _ => rfl) (Kj (Dv ⟨[(0, Bl a0), (1, .clo f1 k1), (5, iV p7), (7, iV (a0.length : Int)), (8, iV p7), (16, .bool r18)], [], []⟩ (fg ⟨rfl, rfl, rfl, rfl, rfl, rfl, tv⟩ tv) (Dm h1 (fun zX h1 => ?_) (fun zX h1 => ?_)))))))))))))))
   ·obtain rfl := Option.some.inj h1
    obtain rfl := hx1 _ rfl
    obtain rfl := Option.some.inj h0
    exact aN 5 hR1
   ·refine Nj (aR (Dv ⟨[(0, Bl a0), (1, .clo f1 k1), (7, iV (a0.length : Int)), (8, iV p7)], [], []⟩ (fg ⟨rfl, rfl, rfl, rfl, tv⟩ tv) (Bu 3 ?_)))
    obtain rfl := Option.some.inj h1
    exact hK1 _ rfl _ ⟨[(0, Bl a0), (1, .clo f1 k1), (7, iV (a0.length : Int)), (8, iV (IntKind.i64.wrap (p7 + 1)))], [], []⟩ (fg ⟨rfl, rfl, rfl, rfl, tv⟩ tv) rfl
  ·obtain rfl := Option.some.inj h1
   obtain rfl := hx1 _ rfl
   refine Nc rfl ?_
   exact hE1 _ _ (Bw (by kernel_rfl)) ⟨rfl, rfl⟩

/- slices.ContainsFunc[[]loop.example/g00149/impl.Lease,loop.example/g00149/impl.Lease] -/
def BX := [k_ 4 (.bool false)]
def BY := [m_ 5 0, m_ 6 1, q_ 7 108 [(.t 5), (.t 6)], B_ .geq 8 7 0, m_ 4 8]
def BW : El := { np := 2, nt := 9, res := [.t 4], body := (.seq (.reg BX) (.seq (.reg BY) .ret)) }
def K105 (C : Bc) : Prop := ∀ (a0 : List Ab) (f1 : Nat) (k1 : List V) (is1 : Ab → Option Bool) (hs1 : Lb k1) (hf1 : ∀ (x0 : Ab) r, is1 x0 = some r → C f1 ⟨.agg (At x0) :: k1, []⟩ ⟨.bool r, [], []⟩) (r : Bool), QT a0 is1 = some r → C 105 ⟨[Bl a0, .clo f1 k1], []⟩ ⟨.bool r, [], []⟩
theorem F105 {C : Bc} (H108 : K108 C) (a0 : List Ab) (f1 : Nat) (k1 : List V) (is1 : Ab → Option Bool) (hs1 : Lb k1) (hf1 : ∀ (x0 : Ab) r, is1 x0 = some r → C f1 ⟨.agg (At x0) :: k1, []⟩ ⟨.bool r, [], []⟩) (r : Bool) (h0 : QT a0 is1 = some r) : Cp C BW ⟨[Bl a0, .clo f1 k1], []⟩ ⟨.bool r, [], []⟩ := by
 refine Fe (nl rfl) (Bz (Au (st (Tj tv (Kj (Dv ⟨[(0, Bl a0), (1, .clo f1 k1)], [], []⟩ (fg ⟨rfl, rfl, tv⟩ tv) (Bu 3 (Au (bb h0 fun r1 e2 h0 => st (Bv (r := iV r1) false (H108 a0 f1 k1 is1 hs1 hf1 r1 e2) ⟨tv, tv, tv⟩ rfl (Jc rfl (Jc (vM hs1) rfl)) (fun _ => rfl) (o_ ?_)))))))))))
 obtain rfl := Option.some.inj h0
 exact Dr 4

/- loop.example/g00149/impl.areAll[loop.example/g00149/impl.Lease]$1 -/
def BZ := [X_ 2 0, k_ 3 (.bool false)]
def CA : List Ch := [l_ 4 1 1, L_ 5 2 4, ⟨some 6, .callv (.t 4) [(.t 5)], none⟩, N_ 7 6, m_ 3 7]
def oN : El := { np := 2, nt := 8, res := [.t 3], body := (.seq (.reg BZ) (.seq (.reg CA) .ret)) }
def K106 (C : Bc) : Prop := ∀ (a0 : Ab) (f1 : Nat) (k1 : List V) (is1 : Ab → Option Bool) (hs1 : Lb k1) (hf1 : ∀ (x0 : Ab) r, is1 x0 = some r → C f1 ⟨.agg (At x0) :: k1, []⟩ ⟨.bool r, [], []⟩) (r : Bool), pI a0 is1 = some r → C 106 ⟨[.agg (At a0), .iptr [.clo f1 k1]], []⟩ ⟨.bool r, [], []⟩
theorem F106 {C : Bc}  (a0 : Ab) (f1 : Nat) (k1 : List V) (is1 : Ab → Option Bool) (hs1 : Lb k1) (hf1 : ∀ (x0 : Ab) r, is1 x0 = some r → C f1 ⟨.agg (At x0) :: k1, []⟩ ⟨.bool r, [], []⟩) (r : Bool) (h0 : pI a0 is1 = some r) : Cp C oN ⟨[.agg (At a0), .iptr [.clo f1 k1]], []⟩ ⟨.bool r, [], []⟩ := by
 refine Fe (nl rfl) (Bu 2 (Au (sw ⟨[(1, .iptr [.clo f1 k1]), (2, .ptr 128 0)], [(128, At a0)], []⟩ (fg ⟨rfl, rfl, tv⟩ ⟨rfl, tv⟩) (Tj tv (Kj (Dv ⟨[(1, .iptr [.clo f1 k1]), (2, .ptr 128 0)], [(128, At a0)], []⟩ (fg ⟨rfl, rfl, tv⟩ ⟨rfl, tv⟩) (Bu 3 (Au (bb h0 fun r1 e2 h0 => st (Sb (r := .bool r1) rfl false (hf1 _ r1 e2) ⟨tv, tv⟩ (Bs rfl hs1.2.2.1) (Jc rfl (hs1.2.1 _ _ _ _ _)) (fun _ => rfl) (o_ ?_)))))))))))
 obtain rfl := Option.some.inj h0
 exact Dr 4

/- loop.example/g00149/impl.areAll[loop.example/g00149/impl.Lease] -/
def AaC := [X_ 3 1, k_ 4 (.bool false)]
def AaD := [m_ 5 0, (iQ 6 (.fn 106 [(.t 3)])), q_ 7 105 [(.t 5), (.t 6)], N_ 8 7, m_ 4 8]
def c61 : El := { np := 2, nt := 9, res := [.t 4], body := (.seq (.reg AaC) (.seq (.reg AaD) .ret)) }
def K61 (C : Bc) : Prop := ∀ (a0 : List Ab) (f1 : Nat) (k1 : List V) (is1 : Ab → Option Bool) (hs1 : Lb k1) (hf1 : ∀ (x0 : Ab) r, is1 x0 = some r → C f1 ⟨.agg (At x0) :: k1, []⟩ ⟨.bool r, [], []⟩) (r : Bool), g61 a0 is1 = some r → C 61 ⟨[Bl a0, .clo f1 k1], []⟩ ⟨.bool r, [], []⟩
theorem F61 {C : Bc} (H105 : K105 C) (H106 : K106 C) (a0 : List Ab) (f1 : Nat) (k1 : List V) (is1 : Ab → Option Bool) (hs1 : Lb k1) (hf1 : ∀ (x0 : Ab) r, is1 x0 = some r → C f1 ⟨.agg (At x0) :: k1, []⟩ ⟨.bool r, [], []⟩) (r : Bool) (h0 : g61 a0 is1 = some r) : Cp C c61 ⟨[Bl a0, .clo f1 k1], []⟩ ⟨.bool r, [], []⟩ := by
 refine Fe (nl rfl) (Bz (Au (st (XP (UR hs1) tv rfl (sw ⟨[(0, Bl a0), (3, .ptr 192 0)], [(192, [.clo f1 k1])], []⟩ (fg ⟨rfl, rfl, tv⟩ ⟨rfl, tv⟩) (Tj tv (Kj (Dv ⟨[(0, Bl a0), (3, .ptr 192 0)], [(192, [.clo f1 k1])], []⟩ (fg ⟨rfl, rfl, tv⟩ ⟨rfl, tv⟩) (Bz (Au (st (Df rfl tv (st (c_ (Ay ⟨tv, tv⟩ rfl rfl) (bb h0 fun r1 e2 h0 => st (Bv (r := .bool r1) false (H105 a0 106 [.iptr [.clo f1 k1]] (fun z106_0 => pI z106_0 is1) (⟨fun _ _ _ _ _ => rfl, fun _ _ _ _ _ => rfl, rfl, fun _ _ _ n => by cases n <;> rfl, fun _ => rfl⟩) (fun z106_0 r h => H106 z106_0 f1 k1 is1 hs1 hf1 r h) r1 e2) ⟨tv, tv, tv⟩ rfl (Jc rfl (Jc (congrArg (fun z => V.clo 106 [.iptr [.clo f1 z]]) (hs1.2.2.2.1 _ _ _ _)) rfl)) (fun _ => rfl) (o_ ?_)))))))))))))))))
 obtain rfl := Option.some.inj h0
 exact Dr 4

/- loop.example/g00149/impl.TableOK$1 -/
def AaE := [X_ 2 0, k_ 3 (.bool false)]
def AaF : List Ch := [f_ 4 2 1, l_ 5 4 1, f_ 6 2 2, l_ 7 6 1, q_ 8 63 [(.t 5), (.c (iV 0)), (.t 7)], m_ 9 8, pT 9 10 (.fieldA (.t 2) 3), pT 9 11 (.load (.t 10) 1 false), pT 9 12 (.mv (.t 11)), pF 12 13 (.fieldA (.t 2) 1), pF 12 14 (.load (.t 13) 1 false), pF 12 15 (.fieldA (.t 1) 0), pF 12 16 (.load (.t 15) 1 false), pF 12 17 (.bin .gtr (.t 14) (.t 16)), ⟨some 18, .pick (.t 12) (.c (.bool true)) (.t 17), some (9, true)⟩, pk 19 (.t 9) (.t 18) (.c (.bool false)), m_ 3 19]
def c62 : El := { np := 2, nt := 20, res := [.t 3], body := (.seq (.reg AaE) (.seq (.reg AaF) .ret)) }
def K62 (D : Bc) : Prop := ∀ (a0 : Ab) (a1 : Ai) (r : Bool), g62 a0 a1 = some r → D 62 ⟨[.agg (At a0), .iptr (Aw a1)], []⟩ ⟨.bool r, [], []⟩
theorem F62 {C : Bc} (H63 : K63 C) : K62 (fun _ => Cp C c62) := by
 intro a0 a1 r h0
 refine Fe (nl rfl) (Br 4 ⟨[(1, .iptr (Aw a1)), (2, .ptr 128 0)], [(128, At a0)], []⟩ (Bu 5 (Au (bb h0 fun r1 e2 h0 => Re (H63 a0.Be 0 a0.cap r1 e2) (o_ (Lh 9 (Au (st (Ke (u := .bool (bif a0.Bt then true else (decide (a0.Be > a1.clock)))) rfl (fun hg => Qm rfl rfl (fun _ => hg) rfl rfl tv (fun h => Bs hg (dG h)) rfl) (o_ (Lh 3 (bv h0 fun v3 e4 h0 => Dv ⟨[(3, .bool v3)], [], []⟩ (Bw (by subst e4; kernel_rfl)) ?_))))))))))))
 obtain rfl := Option.some.inj h0
 exact cL (Mb rfl rfl rfl rfl rfl tv)

/- loop.example/g00149/impl.TableOK -/
def YD := [X_ 1 0, k_ 2 (.bool false)]
def YE := tk [f_ 3 1 0, l_ 4 3 1, B_ .geq 5 4 0, m_ 6 5, pT 6 7 (.fieldA (.t 1) 1), pT 6 8 (.load (.t 7) 1 false)] (.alt [] ⟨some 9, .call 58 [(.t 8)], some (6, true)⟩ (tk [pk 10 (.t 6) (.t 9) (.c (.bool false)), m_ 11 10, pT 11 12 (.fieldA (.t 1) 2), pT 11 13 (.load (.t 12) 1 false), pT 11 14 (.len (.t 13)), pT 11 15 (.bin .leq (.t 14) (.c (iV 40))), pk 16 (.t 11) (.t 15) (.c (.bool false)), m_ 17 16, pT 17 18 (.load (.t 1) 3 true), pT 17 20 (.fieldA (.t 1) 1), pT 17 21 (.load (.t 20) 1 false), pT 17 22 (.bin .sub (.t 21) (.c (iV 1)))] (.alt [pT 17 22 (.bin .sub (.t 21) (.c (iV 1))), pT 17 21 (.load (.t 20) 1 false), pT 17 20 (.fieldA (.t 1) 1)] ⟨some 19, .call 60 [(.t 18)], some (17, true)⟩ (.alt [] ⟨some 23, .call 59 [(.t 19), (.c (iV 1)), (.t 22)], some (17, true)⟩ (tk [pk 24 (.t 17) (.t 23) (.c (.bool false)), m_ 25 24, pT 25 26 (.fieldA (.t 1) 2), pT 25 27 (.load (.t 26) 1 false), pT 25 28 (.fn 62 [(.t 1)])] (.alt [] ⟨some 29, .call 61 [(.t 27), (.t 28)], some (25, true)⟩ (tk [pk 30 (.t 25) (.t 29) (.c (.bool false)), m_ 2 30] .fin) .stop)) .stop) .stop)) .stop)
def zX : El := { np := 1, nt := 31, res := [.t 2], body := (.seq (.reg YD) (.seq (.draw YE) .ret)) }
def K20 (D : Bc) : Prop := ∀ (a0 : Ai) (r : Bool), g20 a0 = some r → D 20 ⟨[.agg (Aw a0)], []⟩ ⟨.bool r, [], []⟩
theorem F20 {C : Bc} (H58 : K58 C) (H59 : K59 C) (H60 : K60 C) (H61 : K61 C) (H62 : K62 C) : K20 (fun _ => Cp C zX) := by
 intro a0 r h0
 refine Fe (nl rfl) (Br 4 ⟨[(1, .ptr 64 0)], [(64, Aw a0)], []⟩ (Bz ?_))
 obtain ⟨r1, e2, h0⟩ := bnd h0
 obtain ⟨r3, e4, h0⟩ := bnd h0
 obtain ⟨r5, e6, h0⟩ := bnd h0
 refine bb h0 fun r7 e8 h0 => Bu 4 (Dh (Ak tv (Da (u := .ptr 64 1) rfl (fun hg => (Ay ⟨tv, tv⟩ rfl tv)) (⟨tv, (Ak tv (Da (u := iV a0.next) rfl (fun hg => (Ay ⟨(fun _ => hg), tv⟩ rfl (nl rfl))) (⟨tv, (Ci (Ga (r := .bool r1) rfl false (fun hg => H58 a0.next r1 (ip hg e2)) ⟨(fun hg => hg), tv⟩ (fun _ => rfl) (fun _ => rfl) (fun _ => rfl) (fun h => nomatch h) (Jf ⟨[(1, .ptr 64 0), (6, .bool (decide (a0.clock ≥ 0))), (9, .may ((decide (a0.clock ≥ 0)) == true) (.bool r1))], [(64, Aw a0)], []⟩ (Bw (by kernel_rfl)) ⟨[], tv, tv, (Ak tv (Ey rfl rfl rfl (fun h => dH h) tv rfl (⟨tv, (Ak tv (Df rfl tv (⟨tv, (Ak tv (Da (u := .ptr 64 2) rfl (fun hg => (Ay ⟨tv, tv⟩ rfl tv)) (⟨tv, (Ak tv (Da (u := Bl a0.Ad) rfl (fun hg => (Ay ⟨(fun _ => hg), tv⟩ rfl (nl rfl))) (⟨tv, (Ak tv (Da (u := iV (a0.Ad.length : Int)) rfl (fun hg => (Cn (e := At) (l0 := a0.Ad) rfl rfl (fun _ => hg))) (⟨tv, (Ak tv (Da (u := .bool (decide ((a0.Ad.length : Int) ≤ 40))) rfl (fun hg => (Ay ⟨(fun _ => hg), tv, tv⟩ rfl tv)) (⟨tv, (Ak tv (Ey rfl rfl rfl (fun h => dH h) tv rfl (⟨tv, (Ak tv (Df rfl tv (⟨tv, ?_⟩)))⟩)))⟩)))⟩)))⟩)))⟩)))⟩)))⟩)))⟩)) Bp)⟩)))⟩))))
 refine Ak tv (Da (u := .agg (Aw a0)) rfl (fun hg => (Ay ⟨tv, tv⟩ rfl (nl rfl))) (⟨tv, (Ak tv (Da (u := .ptr 64 1) rfl (fun hg => (Ay ⟨tv, tv⟩ rfl tv)) (⟨tv, (Ak tv (Da (u := iV a0.next) rfl (fun hg => (Ay ⟨(fun _ => hg), tv⟩ rfl (nl rfl))) (⟨tv, (Ak tv (Da (u := iV (IntKind.i64.wrap (a0.next - 1))) rfl (fun hg => (Ay ⟨(fun _ => hg), tv, tv⟩ rfl tv)) (⟨tv, (Ci (Ga (r := oI 0 r3) rfl false (fun hg => H60 a0 r3 (ip hg e4)) ⟨(fun hg => hg), tv⟩ (fun _ => rfl) (fun _ => rfl) (fun _ => (Bs (Hr (fun _ => rfl)) rfl)) (fun h => nomatch h) (Jf ⟨[(1, .ptr 64 0), (17, .bool (bif (bif (decide (a0.clock ≥ 0)) then r1 else false) then (decide ((a0.Ad.length : Int) ≤ 40)) else false)), (19, .may ((bif (bif (decide (a0.clock ≥ 0)) then r1 else false) then (decide ((a0.Ad.length : Int) ≤ 40)) else false) == true) (lI r3)), (20, .may ((bif (bif (decide (a0.clock ≥ 0)) then r1 else false) then (decide ((a0.Ad.length : Int) ≤ 40)) else false) == true) (.ptr 64 1)), (21, .may ((bif (bif (decide (a0.clock ≥ 0)) then r1 else false) then (decide ((a0.Ad.length : Int) ≤ 40)) else false) == true) (iV a0.next)), (22, .may ((bif (bif (decide (a0.clock ≥ 0)) then r1 else false) then (decide ((a0.Ad.length : Int) ≤ 40)) else false) == true) (iV (IntKind.i64.wrap (a0.next - 1))))], [(64, Aw a0)], []⟩ (Bw (by kernel_rfl)) ⟨[], ⟨⟨.inl tv, (Jn (v := iV (IntKind.i64.wrap (a0.next - 1))) rfl (fun hg => (Ay ⟨(fun _ => hg), tv, tv⟩ rfl tv)) rfl)⟩, ⟨.inl tv, (Jn (v := iV a0.next) rfl (fun hg => (Ay ⟨(fun _ => hg), tv⟩ rfl (nl rfl))) rfl)⟩, ⟨.inl tv, (Jn (v := .ptr 64 1) rfl (fun hg => (Ay ⟨tv, tv⟩ rfl tv)) rfl)⟩, tv⟩, tv, (Ci (Ga (r := .bool r5) rfl false (fun hg => H59 r3 1 (IntKind.i64.wrap (a0.next - 1)) r5 (ip hg e6)) ⟨(fun hg => hg), tv, (fun hg => hg), tv⟩ (fun _ => rfl) (fun _ => rfl) (fun _ => rfl) (fun h => nomatch h) (Jf ⟨[(1, .ptr 64 0), (17, .bool (bif (bif (decide (a0.clock ≥ 0)) then r1 else false) then (decide ((a0.Ad.length : Int) ≤ 40)) else false)), (23, .may ((bif (bif (decide (a0.clock ≥ 0)) then r1 else false) then (decide ((a0.Ad.length : Int) ≤ 40)) else false) == true) (.bool r5))], [(64, Aw a0)], []⟩ (Bw (by kernel_rfl)) ⟨[], tv, tv, (Ak tv (Ey rfl rfl rfl (fun h => dH h) tv rfl (⟨tv, (Ak tv (Df rfl tv (⟨tv, (Ak tv (Da (u := .ptr 64 2) rfl (fun hg => (Ay ⟨tv, tv⟩ rfl tv)) (⟨tv, (Ak tv (Da (u := Bl a0.Ad) rfl (fun hg => (Ay ⟨(fun _ => hg), tv⟩ rfl (nl rfl))) (⟨tv, (Ak tv (Da (u := .clo 62 [.ptr 64 0]) rfl (fun hg => (Ay ⟨tv, tv⟩ rfl rfl)) (⟨tv, (Ci (Ga (r := .bool r7) rfl false (fun hg => H61 a0.Ad 62 [.iptr (Aw a0)] (fun z62_0 => g62 z62_0 a0) (⟨fun _ _ _ _ _ => rfl, fun _ _ _ _ _ => rfl, rfl, fun _ _ _ n => by cases n <;> rfl, fun _ => rfl⟩) (fun z62_0 r h => H62 z62_0 a0 r h) r7 (ip hg e8)) ⟨(fun hg => hg), (fun hg => hg), tv⟩ (fun _ => rfl) (fun _ => rfl) (fun _ => rfl) (fun h => nomatch h) (Jf ⟨[(25, .bool (bif (bif (bif (decide (a0.clock ≥ 0)) then r1 else false) then (decide ((a0.Ad.length : Int) ≤ 40)) else false) then r5 else false)), (29, .may ((bif (bif (bif (decide (a0.clock ≥ 0)) then r1 else false) then (decide ((a0.Ad.length : Int) ≤ 40)) else false) then r5 else false) == true) (.bool r7))], [], []⟩ (Bw (by kernel_rfl)) ⟨[], tv, tv, (Ak tv (Ey rfl rfl rfl (fun h => dH h) tv rfl (⟨tv, (d_ (Bu 2 (bv h0 fun v9 e10 h0 => Dv ⟨[(2, .bool v9)], [], []⟩ (Bw (by subst e10; kernel_rfl)) ?_)))⟩)))⟩)) Bp)⟩)))⟩)))⟩)))⟩)))⟩)))⟩)) Bp)⟩)) Bp)⟩)))⟩)))⟩)))⟩))
 obtain rfl := Option.some.inj h0
 exact cL (Mb rfl rfl rfl rfl rfl tv)

/- loop.example/g00149/impl.leases -/
def Acv : List Ch := [⟨some 2, .nilS 1, none⟩]
def Acw : List Ch := [⟨some 3, .nilS 1, none⟩]
def Acx := [m_ 6 0, n_ 7 6, i_ 8 0]
def Acy := [b_ .lss 9 8 7]
def Acz := [x_ 10 6 8 2, L_ 11 10 2, a_ 5 [(iV 0), (.bool false)], s_ 5 11 2]
def AcA : List Ch := [m_ 12 3, f_ 13 5 0, l_ 14 13 1, ⟨some 15, .mkS 1 [(iV 0)] 1 [(0, (.t 14))], none⟩, ⟨some 16, .app 1 8 (.t 12) (.t 15), none⟩, m_ 3 16]
def AcB := [B_ .add 17 8 1, m_ 8 17]
def Acu : IR := (.seq (.reg Acy) (.seq (.ite (.t 9) .skip (.exit 0)) (.seq (.block 1 (.seq (.reg Acz) (.reg AcA))) (.reg AcB))))
def AcC := [m_ 18 3, m_ 2 18]
def c95 : El := { np := 1, nt := 19, res := [.t 2], body := (.seq (.reg Acv) (.seq (.reg Acw) (.seq (.seq (.reg Acx) (.block 0 (.loop Acu))) (.seq (.reg AcC) .ret)))) }
def K95 (D : Bc) : Prop := ∀ (a0 : List Af) (r : (List Int)), g95 a0 = some r → D 95 ⟨[Cw a0], []⟩ ⟨oI 0 r, [], []⟩
theorem F95 {C : Bc} : K95 (fun _ => Cp C c95) := by
 intro a0 r h0
 refine Fe (nl rfl) (Br 7 ⟨[(0, Cw a0), (3, .own 192 0 1 ([].map eI))], [], []⟩ (Bu 3 (Au (st (c_ (Cn (e := Bi) (l0 := a0) rfl rfl tv) (o_ (Br 2 ⟨[(3, .own 192 0 1 ([].map eI)), (6, Cw a0), (7, iV (a0.length : Int)), (8, iV 0)], [], []⟩ (Cr (bb h0 fun r18 e19 h0 => Dt (R := (fun S => ∃ p13 : List Int, p13 = r18 ∧ S = ⟨[(3, oI 192 p13)], [], []⟩)) (Yx a0) (fun s S => match s with | (p5, p6) => S = ⟨[(3, oI 192 p5), (6, Cw a0), (7, iV (a0.length : Int)), (8, iV p6)], [], []⟩) e19 _ (Bw (by kernel_rfl)) rfl 0 (fun _ => rfl) ?_ ?_)))))))))
 ·rintro S _ hfg ⟨p13, rfl, rfl⟩
  refine Dv _ hfg ?_
  obtain rfl := Option.some.inj h0
  exact Dr 5
 ·rintro ⟨p5, p6⟩ o1 _ K1 rfl h1 hx1 hK1 hE1 hR1
  refine Br 3 ⟨[(3, oI 192 p5), (6, Cw a0), (7, iV (a0.length : Int)), (8, iV p6), (9, .bool (decide (p6 < (a0.length : Int))))], [], []⟩ (Bz (Dm h1 (fun c14 h1 => ?_) (fun c14 h1 => ?_)))
  ·refine Uv 5 (Au (bb h1 fun y15 e16 h1 => st (c_ (Cj (e := Bi) (y := y15) rfl rfl tv rfl rfl tv e16) (o_ (Br 4 ⟨[(3, oI 192 p5), (5, .ptr 320 0), (6, Cw a0), (7, iV (a0.length : Int)), (8, iV p6)], [(320, Bi y15)], []⟩ (Bu 4 (Au (gg h1 fun c17 h1 => st (Hj (e := eI) (l0 := p5) (l1 := ([y15.Av] : List Int)) rfl rfl tv rfl (by decide) c17 (o_ (Br 3 ⟨[(3, oI 192 (p5 ++ ([y15.Av] : List Int))), (6, Cw a0), (7, iV (a0.length : Int)), (8, iV p6)], [], []⟩ (Bu 3 ?_))))))))))))
   obtain rfl := Option.some.inj h1
   exact hK1 _ rfl _ _ (Bw (by kernel_rfl)) rfl
  ·obtain rfl := Option.some.inj h1
   obtain rfl := hx1 _ rfl
   refine Nc rfl ?_
   exact hE1 _ _ (Bw (by kernel_rfl)) ⟨_, rfl, rfl⟩

/- slices.Grow[[]int,int] -/
def HZ : List Ch := [⟨some 4, .nilS 1, none⟩]
def IA := [m_ 5 1, B_ .lss 6 5 0]
def IB : List Ch := [⟨some 7, .bad, none⟩, ⟨none, .bad, none⟩]
def IC : List Ch := [m_ 8 1, m_ 9 0, ⟨some 10, .cap (.t 9), none⟩, m_ 11 0, n_ 12 11, b_ .sub 13 10 12, b_ .sub 14 8 13, m_ 1 14]
def ID := [m_ 15 1, B_ .gtr 16 15 0]
def IE : List Ch := [m_ 17 0, m_ 18 0, ⟨some 19, .cap (.t 18), none⟩, ⟨some 20, .p (.slice (.t 17) none (some (.t 19)) 1), none⟩, m_ 21 1, ⟨some 22, .appz 1 8 [(iV 0)] (.t 20) (.t 21), none⟩, m_ 23 0, n_ 24 23, ⟨some 25, .p (.slice (.t 22) none (some (.t 24)) 1), none⟩, m_ 0 25]
def IF := [m_ 26 0, m_ 4 26]
def gG : El := { np := 2, nt := 27, res := [.t 4], body := (.seq (.reg HZ) (.seq (.seq (.reg IA) (.ite (.t 6) (.reg IB) .skip)) (.seq (.seq (.reg IC) (.seq (.reg ID) (.ite (.t 16) (.reg IE) .skip))) (.seq (.reg IF) .ret)))) }
def WI (D : Bc) : Prop := ∀ (a0 : List Int) (a1 : Int) (r : List Int), RL a0 a1 = some r → D 144 ⟨[oI 1024000 a0, iV a1], []⟩ ⟨oI 0 r, [], []⟩
theorem F144 {C : Bc} : WI (fun _ => Cp C gG) := by
 intro a0 a1 r h0
 refine fnc_ (nl rfl) fun f hf => ?_
 obtain ⟨⟨hb, hl⟩, h0⟩ := kS h0
 obtain rfl := Option.some.inj h0
 obtain ⟨n, rfl⟩ := Int.eq_ofNat_of_zero_le hb
 have hn : a0.length + n ≤ 17592186044416 := by omega
 have hbyte : (a0.length + n) * 8 ≤ 140737488355328 := Nat.le_trans (Nat.mul_le_mul_right 8 hn) (by decide)
 obtain ⟨hc1, hc2⟩ := hf 0 1024000 0 1 (a0.map eI) rfl (by decide)
 rw [List.length_map] at hc1
 have hc2 := hc2 rfl
 have w1 : IntKind.i64.wrap ((f 0 : Int) - (a0.length : Int)) = (f 0 : Int) - (a0.length : Int) := VP (by omega) (by omega)
 have w2 : IntKind.i64.wrap ((n : Int) - ((f 0 : Int) - (a0.length : Int))) = (n : Int) - ((f 0 : Int) - (a0.length : Int)) := VP (by omega) (by omega)
 refine Bz (Au (st (nP (Kj (Dv ⟨[(0, oI 1024000 a0), (1, iV n)], [], [(0, Gb + (f 0 : Int))]⟩ (fgc ⟨rfl, rfl, tv⟩ tv ⟨.inl ⟨_, rfl, .inl rfl⟩, tv⟩) (Bu 5 (Dv ⟨[(6, .bool (decide ((n : Int) < 0))), (0, oI 1024000 a0), (1, iV n)], [], [(0, Gb + (f 0 : Int))]⟩ (fgc ⟨rfl, rfl, rfl, tv⟩ tv ⟨.inl ⟨_, rfl, .inl rfl⟩, tv⟩) (xA (cb := decide ((n : Int) < 0)) rfl (fun h => absurd (of_decide_eq_true h) (by omega)) (fun _ => (Nj (Dv ⟨[(0, oI 1024000 a0), (1, iV n)], [], [(0, Gb + (f 0 : Int))]⟩ (fgc ⟨rfl, rfl, tv⟩ tv ⟨.inl ⟨_, rfl, .inl rfl⟩, tv⟩) (Bu 4 (Au (st (cap_ (e := eI) (l0 := a0) rfl fun c _ _ hc => ?_)))))))))))))))
 have hcf : (c : Int) = (f 0 : Int) := by have := hc _ rfl (by omega); omega
 refine st (Df rfl tv (st (c_ (Sc (e := eI) (l0 := a0) rfl rfl tv) (st (c_ (Ay (v := iV ((f 0 : Int) - (a0.length : Int))) ⟨tv, tv, tv⟩ (congrArg (fun z => some (True, V.int .i64 z)) ((congrArg (fun z => IntKind.i64.wrap (z - (a0.length : Int))) hcf).trans w1)) tv) (st (c_ (Ay (v := iV ((n : Int) - ((f 0 : Int) - (a0.length : Int)))) ⟨tv, tv, tv⟩ (congrArg (fun z => some (True, V.int .i64 z)) w2) tv) (st (Df rfl tv (Kj (Dv ⟨[(0, oI 1024000 a0), (1, iV ((n : Int) - ((f 0 : Int) - (a0.length : Int))))], [], [(0, Gb + (f 0 : Int))]⟩ (fgc ⟨rfl, rfl, tv⟩ tv ⟨.inl ⟨_, rfl, .inl rfl⟩, tv⟩) (Bu 4 (Dv ⟨[(16, .bool (decide ((n : Int) - ((f 0 : Int) - (a0.length : Int)) > 0))), (0, oI 1024000 a0), (1, iV ((n : Int) - ((f 0 : Int) - (a0.length : Int))))], [], [(0, Gb + (f 0 : Int))]⟩ (fgc ⟨rfl, rfl, rfl, tv⟩ tv ⟨.inl ⟨_, rfl, .inl rfl⟩, tv⟩) (xA (cb := decide ((n : Int) - ((f 0 : Int) - (a0.length : Int)) > 0)) rfl (fun hgt => ?_) (fun _ => ?_)))))))))))))))
 ·have hgt' : f 0 < a0.length + n := by have := of_decide_eq_true hgt; omega
  obtain ⟨m, hm⟩ : ∃ m : Nat, (n : Int) - ((f 0 : Int) - (a0.length : Int)) = (m : Int) := ⟨a0.length + n - f 0, by omega⟩
  rw [hm]
  refine Bu 2 (Au (st (cap_ (e := eI) (l0 := a0) rfl fun c2 _ _ hc3 => ?_)))
  have hcf2 : c2 = f 0 := by have := hc3 _ rfl (by omega); omega
  subst hcf2
  refine st (c_ (TT (e := eI) (l0 := a0) (t := 1024000) (sz := 1) (H := f 0) (c := Gb + (f 0 : Int)) rfl rfl hc1 (show (0 : Nat) < 1 by decide) rfl (by rw [fD]; omega)) (st (Df rfl tv (st (XM (e := eo eI 1) (l0 := a0.map some ++ List.replicate (f 0 - a0.length) none) (c := Gb + (f 0 : Int) - 0) (t := 1024000) (some (default : Int)) rfl rfl rfl (by decide) (Int.natCast_nonneg _) ?_ rfl (by omega) ?_ ?_)))))
  ·have e1 : (a0.map some ++ List.replicate (f 0 - a0.length) none).length + m = a0.length + n := by simp; omega
   have := Int.ofNat_le.2 hbyte
   rw [Int.natCast_mul] at this
   rw [← Int.natCast_add, e1]
   exact this
  ·have e1 : (a0.map some ++ List.replicate (f 0 - a0.length) none).length = f 0 := by simp; omega
   rw [e1]; omega
  refine st (Df rfl tv (st (c_ (Sc (e := eI) (l0 := a0) rfl rfl tv) ?_)))
  have hk : ((a0.map some ++ List.replicate (f 0 - a0.length) none) ++ List.replicate ((m : Int)).toNat (some (default : Int))).take a0.length = a0.map some := by
   rw [List.append_assoc, List.take_append_of_le_length (by simp), List.take_of_length_le (by simp)]
  have hlen : a0.length ≤ ((a0.map some ++ List.replicate (f 0 - a0.length) none) ++ List.replicate ((m : Int)).toNat (some (default : Int))).length := by simp only [List.length_append, List.length_map]; omega
  generalize (a0.map some ++ List.replicate (f 0 - a0.length) none) ++ List.replicate ((m : Int)).toNat (some (default : Int)) = R at hk hlen
  refine st (c_ (dF (e := eo eI 1) (y := a0.map some) rfl rfl tv ⟨tv, tv⟩ rfl rfl (by rw [show (none : Option Int).getD 0 = ((0 : Nat) : Int) from rfl]; exact (slcN R 0 a0.length (by omega) hlen).trans (congrArg some hk))) (st (Df rfl tv (Kj ?_))))
  rw [← mT]
  refine Dv ⟨[(0, oI 1408 a0)], [], []⟩ (fg ⟨rfl, tv⟩ tv) (Bu 5 ?_)
  exact cL (Mb rfl rfl rfl rfl rfl tv)
 ·refine Nj ?_
  refine Dv ⟨[(0, oI 1024000 a0)], [], []⟩ (fg ⟨rfl, tv⟩ tv) (Bu 5 ?_)
  exact cL (Mb rfl rfl rfl rfl rfl tv)


/- slices.Concat[[]int,int] -/
def ES : List Ch := [⟨some 2, .nilS 1, none⟩]
def ET := [i_ 3 0]
def EU := [m_ 9 0, n_ 10 9, i_ 11 0]
def EV := [b_ .lss 12 11 10]
def EW := [x_ 13 9 11 1, l_ 14 13 1, m_ 5 14]
def EX := [m_ 15 3, m_ 16 5, n_ 17 16, b_ .add 18 15 17, m_ 3 18]
def EY := [m_ 19 3, B_ .lss 20 19 0]
def EZ : List Ch := [⟨some 21, .bad, none⟩, ⟨none, .bad, none⟩]
def FA := [B_ .add 22 11 1, m_ 11 22]
def EQ : IR := (.seq (.reg EV) (.seq (.ite (.t 12) .skip (.exit 0)) (.seq (.block 1 (.seq (.reg EW) (.seq (.reg EX) (.seq (.reg EY) (.ite (.t 20) (.reg EZ) .skip))))) (.reg FA))))
def FB := [m_ 23 3, q_ 24 144 [(.c (.own 1048575 0 1 [])), (.t 23)], m_ 6 24]
def sR := [m_ 25 0, n_ 26 25, i_ 27 0]
def sS := [b_ .lss 28 27 26]
def sT := [x_ 29 25 27 1, l_ 30 29 1, m_ 8 30]
def sU : List Ch := [m_ 31 6, m_ 32 8, ⟨some 33, .app 1 8 (.t 31) (.t 32), none⟩, m_ 6 33]
def sV := [B_ .add 34 27 1, m_ 27 34]
def ER : IR := (.seq (.reg sS) (.seq (.ite (.t 28) .skip (.exit 2)) (.seq (.block 3 (.seq (.reg sT) (.reg sU))) (.reg sV))))
def sW := [m_ 35 6, m_ 2 35]
def EP : El := { np := 1, nt := 36, res := [.t 2], body := (.seq (.reg ES) (.seq (.reg ET) (.seq (.seq (.reg EU) (.block 0 (.loop EQ))) (.seq (.reg FB) (.seq (.seq (.reg sR) (.block 2 (.loop ER))) (.seq (.reg sW) .ret)))))) }
def VZ (D : Bc) : Prop := ∀ (a0 : List (List Int)) (r : (List Int)), RE a0 = some r → D 126 ⟨[.lst 1 (a0.map (eL 1 eI))], []⟩ ⟨oI 0 r, [], []⟩
theorem F126 {C : Bc} (H144 : WI C) : VZ (fun _ => Cp C EP) := by
 intro a0 r h0
 refine Fe (nl rfl) (Br 7 ⟨[(0, .lst 1 (a0.map (eL 1 eI))), (3, iV 0)], [], []⟩ (Bu 3 (Au (st (c_ (Cn (e := (eL 1 eI)) (l0 := a0) rfl rfl tv) (o_ (Br 2 ⟨[(0, .lst 1 (a0.map (eL 1 eI))), (3, iV 0), (9, .lst 1 (a0.map (eL 1 eI))), (10, iV (a0.length : Int)), (11, iV 0)], [], []⟩ (Cr (bb h0 fun r25 e26 h0 => Dt (R := (fun S => ∃ p15 : Int, p15 = r25 ∧ S = ⟨[(0, .lst 1 (a0.map (eL 1 eI))), (3, iV p15)], [], []⟩)) (Kp a0) (fun s S => match s with | (p6, p7) => S = ⟨[(0, .lst 1 (a0.map (eL 1 eI))), (3, iV p6), (9, .lst 1 (a0.map (eL 1 eI))), (10, iV (a0.length : Int)), (11, iV p7)], [], []⟩) e26 _ (Bw (by kernel_rfl)) rfl 0 (fun _ => rfl) ?_ ?_)))))))))
 ·rintro S _ hfg ⟨p15, rfl, rfl⟩
  refine Dv _ hfg (Bz (Au (st (Df rfl tv (bb h0 fun r27 e28 h0 => st (Ef [] [] [1048575] false (H144 ([] : List Int) p15 r27 e28) ⟨tv, tv, tv⟩ (by kernel_rfl) (by kernel_rfl) (by kernel_rfl) (by kernel_rfl) (fun _ => Bs (Bs (Hr (fun _ => rfl)) rfl) rfl) (o_ (Br 2 ⟨[(0, .lst 1 (a0.map (eL 1 eI))), (6, oI 1536 r27)], [], []⟩ (Bu 3 (Au (st (c_ (Cn (e := (eL 1 eI)) (l0 := a0) rfl rfl tv) (o_ (Br 2 ⟨[(6, oI 1536 r27), (25, .lst 1 (a0.map (eL 1 eI))), (26, iV (a0.length : Int)), (27, iV 0)], [], []⟩ (Cr (bb h0 fun r46 e47 h0 => Dt (R := (fun S => ∃ p41 : List Int, p41 = r46 ∧ S = ⟨[(6, oI 1536 p41)], [], []⟩)) (Kq a0) (fun s S => match s with | (p33, p34) => S = ⟨[(6, oI 1536 p33), (25, .lst 1 (a0.map (eL 1 eI))), (26, iV (a0.length : Int)), (27, iV p34)], [], []⟩) e47 _ (Bw (by kernel_rfl)) rfl 2 (fun _ => rfl) ?_ ?_))))))))))))))))
  ·rintro S _ hfg ⟨p41, rfl, rfl⟩
   refine Dv _ hfg ?_
   obtain rfl := Option.some.inj h0
   exact Dr 5
  ·rintro ⟨p33, p34⟩ o1 _ K1 rfl h1 hx1 hK1 hE1 hR1
   refine Br 3 ⟨[(6, oI 1536 p33), (25, .lst 1 (a0.map (eL 1 eI))), (26, iV (a0.length : Int)), (27, iV p34), (28, .bool (decide (p34 < (a0.length : Int))))], [], []⟩ (Bz (Dm h1 (fun c42 h1 => ?_) (fun c42 h1 => ?_)))
   ·refine Uv 5 (Au (bb h1 fun y43 e44 h1 => st (c_ (Cj (e := (eL 1 eI)) (y := y43) rfl rfl tv rfl rfl tv e44) (o_ (Br 3 ⟨[(6, oI 1536 p33), (8, lI y43), (25, .lst 1 (a0.map (eL 1 eI))), (26, iV (a0.length : Int)), (27, iV p34)], [], []⟩ (Bu 2 (Au (gg h1 fun c45 h1 => st (Hj (e := eI) (l0 := p33) (l1 := y43) rfl rfl tv rfl (by decide) c45 (o_ (Br 3 ⟨[(6, oI 1536 (p33 ++ y43)), (25, .lst 1 (a0.map (eL 1 eI))), (26, iV (a0.length : Int)), (27, iV p34)], [], []⟩ (Bu 3 ?_))))))))))))
    obtain rfl := Option.some.inj h1
    exact hK1 _ rfl _ _ (Bw (by kernel_rfl)) rfl
   ·obtain rfl := Option.some.inj h1
    obtain rfl := hx1 _ rfl
    refine Nc rfl ?_
    exact hE1 _ _ (Bw (by kernel_rfl)) ⟨_, rfl, rfl⟩
 ·rintro ⟨p6, p7⟩ o1 _ K1 rfl h1 hx1 hK1 hE1 hR1
  refine Br 3 ⟨[(0, .lst 1 (a0.map (eL 1 eI))), (3, iV p6), (9, .lst 1 (a0.map (eL 1 eI))), (10, iV (a0.length : Int)), (11, iV p7), (12, .bool (decide (p7 < (a0.length : Int))))], [], []⟩ (Bz (Dm h1 (fun c16 h1 => ?_) (fun c16 h1 => ?_)))
  ·refine Uv 3 (Np (fun S => ∃ p20 : Int, S = ⟨[(0, .lst 1 (a0.map (eL 1 eI))), (3, iV p20), (9, .lst 1 (a0.map (eL 1 eI))), (10, iV (a0.length : Int)), (11, iV p7)], [], []⟩ ∧ Wo p7 p20 = some o1) ?_ (fun J21 => ?_))
   ·rintro _ ⟨p20, rfl, h1⟩
    refine Bu 4 ?_
    obtain rfl := Option.some.inj h1
    exact hK1 _ rfl _ _ (Bw (by kernel_rfl)) rfl
   ·refine Bz ?_
    refine Au (bb h1 fun y22 e23 h1 => st (c_ (Cj (e := (eL 1 eI)) (y := y22) rfl rfl tv rfl rfl tv e23) (o_ (Br 3 ⟨[(0, .lst 1 (a0.map (eL 1 eI))), (3, iV p6), (5, lI y22), (9, .lst 1 (a0.map (eL 1 eI))), (10, iV (a0.length : Int)), (11, iV p7)], [], []⟩ (Bu 3 (Au (st (c_ (Cn (e := eI) (l0 := y22) rfl rfl tv) (o_ (Br 8 ⟨[(0, .lst 1 (a0.map (eL 1 eI))), (3, iV (IntKind.i64.wrap (p6 + (y22.length : Int)))), (9, .lst 1 (a0.map (eL 1 eI))), (10, iV (a0.length : Int)), (11, iV p7), (20, .bool (decide ((IntKind.i64.wrap (p6 + (y22.length : Int))) < 0)))], [], []⟩ (Dm h1 (fun c24 h1 => ?_) (fun c24 h1 => ?_))))))))))))
    ·refine Au ?_
     cases h1
    ·refine Nj (aR ?_)
     exact J21 _ _ (Bw (by kernel_rfl)) ⟨_, rfl, h1⟩
  ·obtain rfl := Option.some.inj h1
   obtain rfl := hx1 _ rfl
   refine Nc rfl ?_
   exact hE1 _ _ (Bw (by kernel_rfl)) ⟨_, rfl, rfl⟩

/- slices.IndexFunc[[]int,int] -/
def FD := [i_ 4 0]
def FE := [m_ 6 0, n_ 7 6, i_ 8 0]
def FF := [b_ .lss 9 8 7]
def FG := [m_ 10 8, m_ 5 10]
def FH : List Ch := [m_ 11 1, m_ 12 0, m_ 13 5, x_ 14 12 13 1, l_ 15 14 1, ⟨some 16, .callv (.t 11) [(.t 15)], none⟩]
def FI := [m_ 17 5, m_ 4 17]
def FJ := [B_ .add 18 8 1, m_ 8 18]
def FC : IR := (.seq (.reg FF) (.seq (.ite (.t 9) .skip (.exit 0)) (.seq (.block 1 (.seq (.reg FG) (.seq (.reg FH) (.ite (.t 16) (.seq (.reg FI) .ret) .skip)))) (.reg FJ))))
def FK := [i_ 4 (-1)]
def gF : El := { np := 2, nt := 19, res := [.t 4], body := (.seq (.reg FD) (.seq (.seq (.reg FE) (.block 0 (.loop FC))) (.seq (.reg FK) .ret))) }
def WA (C : Bc) : Prop := ∀ (a0 : List Int) (f1 : Nat) (k1 : List V) (is1 : Int → Option Bool) (hs1 : Lb k1) (hf1 : ∀ (x0 : Int) r, is1 x0 = some r → C f1 ⟨iV x0 :: k1, []⟩ ⟨.bool r, [], []⟩) (r : Int), vZ a0 is1 = some r → C 127 ⟨[lI a0, .clo f1 k1], []⟩ ⟨iV r, [], []⟩
theorem F127 {C : Bc}  (a0 : List Int) (f1 : Nat) (k1 : List V) (is1 : Int → Option Bool) (hs1 : Lb k1) (hf1 : ∀ (x0 : Int) r, is1 x0 = some r → C f1 ⟨iV x0 :: k1, []⟩ ⟨.bool r, [], []⟩) (r : Int) (h0 : vZ a0 is1 = some r) : Cp C gF ⟨[lI a0, .clo f1 k1], []⟩ ⟨iV r, [], []⟩ := by
 refine Fe (nl rfl) (Bz (Au (st (Tj tv (Kj (Dv ⟨[(0, lI a0), (1, .clo f1 k1)], [], []⟩ (fg ⟨rfl, rfl, tv⟩ tv) (Bu 3 (Au (st (c_ (Cn (e := eI) (l0 := a0) rfl rfl tv) (st (Tj tv (Kj (Dv ⟨[(0, lI a0), (1, .clo f1 k1), (7, iV (a0.length : Int)), (8, iV 0)], [], []⟩ (fg ⟨rfl, rfl, rfl, rfl, tv⟩ tv) (Cr (bb h0 fun r21 e22 h0 => Dt (R := (fun S => .inl () = r21 ∧ S = ⟨[], [], []⟩)) (mX a0 is1) (fun s S => match s with | p7 => S = ⟨[(0, lI a0), (1, .clo f1 k1), (7, iV (a0.length : Int)), (8, iV p7)], [], []⟩) e22 ⟨[(0, lI a0), (1, .clo f1 k1), (7, iV (a0.length : Int)), (8, iV 0)], [], []⟩ (fg ⟨rfl, rfl, rfl, rfl, tv⟩ tv) rfl 0 (fun _ => rfl) ?_ ?_))))))))))))))))
 ·rintro S _ hfg ⟨rfl, rfl⟩
  refine Dv _ hfg ?_
  obtain rfl := Option.some.inj h0
  exact Dr 4
 ·rintro p7 o1 _ K1 rfl h1 hx1 hK1 hE1 hR1
  refine Bu 3 (Dv ⟨[(0, lI a0), (1, .clo f1 k1), (7, iV (a0.length : Int)), (8, iV p7), (9, .bool (decide (p7 < (a0.length : Int))))], [], []⟩ (fg ⟨rfl, rfl, rfl, rfl, rfl, tv⟩ tv) (Bz (Dm h1 (fun c15 h1 => ?_) (fun c15 h1 => ?_))))
  ·refine Nj (Dv ⟨[(0, lI a0), (1, .clo f1 k1), (7, iV (a0.length : Int)), (8, iV p7)], [], []⟩ (fg ⟨rfl, rfl, rfl, rfl, tv⟩ tv) (Bu 6 (Dv ⟨[(0, lI a0), (1, .clo f1 k1), (5, iV p7), (7, iV (a0.length : Int)), (8, iV p7)], [], []⟩ (fg ⟨rfl, rfl, rfl, rfl, rfl, tv⟩ tv) (Bu 4 (Au (bb h1 fun y16 e17 h1 => st (c_ (Cj (e := eI) (y := y16) rfl rfl tv rfl rfl tv e17) (st (c_ (Ay ⟨tv, tv⟩ rfl (nl rfl)) (bb h1 fun r18 e19 h1 => st (Sb (r := .bool r18) rfl false (hf1 _ r18 e19) ⟨tv, tv⟩ (Bs rfl hs1.2.2.1) (Jc rfl (hs1.2.1 _ _ _ _ _)) (fun _ => rfl) (Kj (Dv ⟨[(0, lI a0), (1, .clo f1 k1), (5, iV p7), (7, iV (a0.length : Int)), (8, iV p7), (16, .bool r18)], [], []⟩ (fg ⟨rfl, rfl, rfl, rfl, rfl, rfl, tv⟩ tv) (Dm h1 (fun zX h1 => ?_) (fun zX h1 => ?_)))))))))))))))
   ·obtain rfl := Option.some.inj h1
    obtain rfl := hx1 _ rfl
    obtain rfl := Option.some.inj h0
    exact aN 5 hR1
   ·refine Nj (aR (Dv ⟨[(0, lI a0), (1, .clo f1 k1), (7, iV (a0.length : Int)), (8, iV p7)], [], []⟩ (fg ⟨rfl, rfl, rfl, rfl, tv⟩ tv) (Bu 3 ?_)))
    obtain rfl := Option.some.inj h1
    exact hK1 _ rfl _ ⟨[(0, lI a0), (1, .clo f1 k1), (7, iV (a0.length : Int)), (8, iV (IntKind.i64.wrap (p7 + 1)))], [], []⟩ (fg ⟨rfl, rfl, rfl, rfl, tv⟩ tv) rfl
  ·obtain rfl := Option.some.inj h1
   obtain rfl := hx1 _ rfl
   refine Nc rfl ?_
   exact hE1 _ _ (Bw (by kernel_rfl)) ⟨rfl, rfl⟩

/- (loop.example/g00149/impl.Vault).stray$1 -/
def FM := [k_ 3 (.bool false)]
def FN := [l_ 4 1 1, m_ 5 0, (iQ 6 (.mget (.t 4) (.t 5))), N_ 7 6, m_ 3 7]
def FL : El := { np := 2, nt := 8, res := [.t 3], body := (.seq (.reg FM) (.seq (.reg FN) .ret)) }
def WB (D : Bc) : Prop := ∀ (a0 : Int) (a1 : List (Int × Bool)) (r : Bool), wA a0 a1 = some r → D 128 ⟨[iV a0, .iptr [.lst 0 (aY a1)]], []⟩ ⟨.bool r, [], []⟩
theorem F128 {C : Bc} : WB (fun _ => Cp C FL) := by
 intro a0 a1 r h0
 refine Fe (nl rfl) (Br 3 ⟨[(0, iV a0), (1, .iptr [.lst 0 (aY a1)])], [], []⟩ (Bu 3 (Au (st (c_ (AcT rfl rfl) (o_ ?_))))))
 obtain rfl := Option.some.inj h0
 exact Dr 4

/- (loop.example/g00149/impl.Vault).stray -/
def AcE := [X_ 1 0, i_ 2 0, k_ 3 (.bool false)]
def AcF : List Ch := [⟨some 8, .mkM, none⟩, a_ 4 [.undef], s_ 4 8 1]
def AcG := tk [f_ 9 1 0, L_ 10 9 3, f_ 12 1 3, l_ 13 12 1, i_ 18 0] (.alt [i_ 18 0, l_ 13 12 1, f_ 12 1 3] (q_ 11 60 [(.t 10)]) (.alt [i_ 18 0] (q_ 14 95 [(.t 13)]) (.alt [i_ 18 0] ⟨some 15, .mkS 1 [(.lst 1 [])] 2 [(0, (.t 11)), (1, (.t 14))], none⟩ (.alt [i_ 18 0] (q_ 16 126 [(.t 15)]) (tk [n_ 17 16] .fin) .stop) .stop) .stop) .stop)
def AcH := [b_ .lss 19 18 17]
def AcI := [x_ 20 16 18 1, l_ 21 20 1, m_ 6 21]
def AcJ : List Ch := [l_ 22 4 1, m_ 23 6, ⟨none, .mset (.t 22) (.t 23) (.c (.bool true)), none⟩]
def AcK := [B_ .add 24 18 1, m_ 18 24]
def AcD : IR := (.seq (.reg AcH) (.seq (.ite (.t 19) .skip (.exit 0)) (.seq (.block 1 (.seq (.reg AcI) (.reg AcJ))) (.reg AcK))))
def AcL := [f_ 25 1 4, l_ 26 25 1, (iQ 27 (.fn 128 [(.t 4)])), q_ 28 127 [(.t 26), (.t 27)], m_ 7 28]
def AcM := [m_ 29 7, B_ .lss 30 29 0]
def AcN := [i_ 2 0, k_ 3 (.bool false)]
def QJ := [f_ 31 1 4, l_ 32 31 1, m_ 33 7, x_ 34 32 33 1, l_ 35 34 1, m_ 2 35, k_ 3 (.bool true)]
def c96 : El := { np := 1, nt := 36, res := [.t 2, .t 3], body := (.seq (.reg AcE) (.seq (.reg AcF) (.seq (.seq (.draw AcG) (.block 0 (.loop AcD))) (.seq (.reg AcL) (.seq (.seq (.reg AcM) (.ite (.t 30) (.seq (.reg AcN) .ret) .skip)) (.seq (.reg QJ) .ret)))))) }
def K96 (D : Bc) : Prop := ∀ (a0 : Ag) (r : Int × Bool), g96 a0 = some r → D 96 ⟨[.agg (Ah a0)], []⟩ ⟨.tup [iV r.1, .bool r.2], [], []⟩
theorem F96 {C : Bc} (H60 : K60 C) (H95 : K95 C) (H126 : VZ C) (H127 : WA C) (H128 : WB C) : K96 (fun _ => Cp C c96) := by
 intro a0 r h0
 refine Fe (nl rfl) (Br 5 ⟨[(1, .ptr 64 0)], [(64, Ah a0)], []⟩ (Bz (Au (st (mkM_ (o_ (Br 3 ⟨[(1, .ptr 64 0), (4, .ptr 256 0)], [(64, Ah a0), (256, [.own 512 0 0 (aY ([] : List (Int × Bool)))])], []⟩ (Bz (Bz ?_)))))))))
 obtain ⟨r1, e2, h0⟩ := bnd h0
 obtain ⟨r3, e4, h0⟩ := bnd h0
 refine bb h0 fun r5 e6 h0 => Dh (Ak tv (c_ (Ay ⟨tv, tv⟩ rfl tv) (⟨tv, (Ak tv (c_ (v := .agg (Aw a0.Ac)) (Ay ⟨tv, tv⟩ rfl (nl rfl)) (⟨tv, (Ak tv (c_ (Ay ⟨tv, tv⟩ rfl tv) (⟨tv, (Ak tv (c_ (Ay ⟨tv, tv⟩ rfl (nl rfl)) (⟨tv, (Ak tv (Tj tv (⟨tv, (Ci (Bv (r := oI 0 r1) false (H60 a0.Ac r1 e2) ⟨tv, tv⟩ rfl rfl (fun _ => (Bs (Hr (fun _ => rfl)) rfl)) (Jf ⟨[(1, .ptr 64 0), (4, .ptr 256 0), (11, oI 704 r1), (12, .ptr 64 3), (13, Cw a0.Aa), (18, iV 0)], [(64, Ah a0), (256, [.own 512 0 0 (aY ([] : List (Int × Bool)))])], []⟩ (Bw (by kernel_rfl)) ⟨[], ⟨⟨.inl tv, (Ao (Ay ⟨tv, tv⟩ rfl tv) rfl)⟩, ⟨.inl tv, (Ao (Ay ⟨tv, tv⟩ rfl (nl rfl)) rfl)⟩, ⟨.inl tv, (Ao (Ay ⟨tv, tv⟩ rfl tv) rfl)⟩, tv⟩, tv, (Ci (Bv (r := oI 0 r3) false (H95 a0.Aa r3 e4) ⟨tv, tv⟩ rfl rfl (fun _ => (Bs (Hr (fun _ => rfl)) rfl)) (Jf ⟨[(1, .ptr 64 0), (4, .ptr 256 0), (11, oI 704 r1), (14, oI 896 r3), (18, iV 0)], [(64, Ah a0), (256, [.own 512 0 0 (aY ([] : List (Int × Bool)))])], []⟩ (Bw (by kernel_rfl)) ⟨[], ⟨⟨.inl tv, (Ao (Ay ⟨tv, tv⟩ rfl tv) rfl)⟩, tv⟩, tv, (Ci (Ni ⟨tv, tv, tv⟩ ⟨⟨nl rfl, rfl, rfl⟩, ⟨nl rfl, rfl, rfl⟩, tv⟩ (Jr ⟨[], ⟨⟨.inl tv, (Ao (Ay ⟨tv, tv⟩ rfl tv) rfl)⟩, tv⟩, tv, (Ci (Bv (r := oI 0 r5) false (H126 ([r1, r3] : List (List Int)) r5 e6) ⟨tv, tv⟩ rfl rfl (fun _ => (Bs (Hr (fun _ => rfl)) rfl)) (Jf ⟨[(1, .ptr 64 0), (4, .ptr 256 0), (16, oI 1024 r5), (18, iV 0)], [(64, Ah a0), (256, [.own 512 0 0 (aY ([] : List (Int × Bool)))])], []⟩ (Bw (by kernel_rfl)) ⟨[], ⟨⟨.inl tv, (Ao (Ay ⟨tv, tv⟩ rfl tv) rfl)⟩, tv⟩, tv, (Ak tv (c_ (Sc (e := eI) (l0 := r5) rfl rfl tv) (⟨tv, (d_ (Br 1 ⟨[(1, .ptr 64 0), (4, .ptr 256 0), (16, oI 1024 r5), (17, iV (r5.length : Int)), (18, iV 0)], [(64, Ah a0), (256, [.own 512 0 0 (aY ([] : List (Int × Bool)))])], []⟩ (Cr (bb h0 fun r27 e28 h0 => Dt (R := (fun S => ∃ p21 : List (Int × Bool), p21 = r27 ∧ S = ⟨[(1, .ptr 64 0), (4, .ptr 256 0)], [(64, Ah a0), (256, [.own 512 0 0 (aY p21)])], []⟩)) (Uq r5) (fun s S => match s with | (p12, p13) => S = ⟨[(1, .ptr 64 0), (4, .ptr 256 0), (16, oI 1024 r5), (17, iV (r5.length : Int)), (18, iV p12)], [(64, Ah a0), (256, [.own 512 0 0 (aY p13)])], []⟩) e28 _ (Bw (by kernel_rfl)) rfl 0 (fun _ => rfl) ?_ ?_))))⟩)))⟩)) Bp)⟩)) Bp)⟩)) Bp)⟩)) Bp)⟩)))⟩)))⟩)))⟩)))⟩)))
 ·rintro S _ hfg ⟨p21, rfl, rfl⟩
  refine Dv _ hfg (Bz (Au (st (c_ (Ay ⟨tv, tv⟩ rfl tv) (st (c_ (Ay ⟨tv, tv⟩ rfl (nl rfl)) (st (c_ (Ay ⟨tv, tv⟩ rfl rfl) (bb h0 fun r29 e30 h0 => st (Bv (r := iV r29) false (H127 a0.Ae 128 [.iptr [.lst 0 (aY p21)]] (fun z128_0 => wA z128_0 p21) (⟨fun _ _ _ _ _ => rfl, fun _ _ _ _ _ => rfl, rfl, fun _ _ _ n => by cases n <;> rfl, fun _ => rfl⟩) (fun z128_0 r h => H128 z128_0 p21 r h) r29 e30) ⟨tv, tv, tv⟩ rfl rfl (fun _ => rfl) (o_ (Br 8 ⟨[(1, .ptr 64 0), (7, iV r29), (30, .bool (decide (r29 < 0)))], [(64, Ah a0)], []⟩ (Dm h0 (fun c31 h0 => ?_) (fun c31 h0 => ?_))))))))))))))
  ·obtain rfl := Option.some.inj h0
   exact Dr 5
  ·refine Nj (qU (Bz (Au (st (c_ (Ay ⟨tv, tv⟩ rfl tv) (st (c_ (Ay ⟨tv, tv⟩ rfl (nl rfl)) (st (Df rfl tv (bb h0 fun y32 e33 h0 => st (c_ (Cj (e := eI) (y := y32) rfl rfl tv rfl rfl tv e33) (o_ ?_))))))))))))
   obtain rfl := Option.some.inj h0
   exact Dr 5
 ·rintro ⟨p12, p13⟩ o1 _ K1 rfl h1 hx1 hK1 hE1 hR1
  refine Br 3 ⟨[(1, .ptr 64 0), (4, .ptr 256 0), (16, oI 1024 r5), (17, iV (r5.length : Int)), (18, iV p12), (19, .bool (decide (p12 < (r5.length : Int))))], [(64, Ah a0), (256, [.own 512 0 0 (aY p13)])], []⟩ (Bz (Dm h1 (fun c22 h1 => ?_) (fun c22 h1 => ?_)))
  ·refine Uv 5 (Au (bb h1 fun y23 e24 h1 => st (c_ (Nb (e := eI) (y := y23) rfl rfl tv rfl rfl tv e24) (bb h1 fun y25 e26 h1 => st (c_ (Fn (e := eI) (y := y25) (v := iV y25) rfl rfl tv rfl rfl e26 rfl (nl rfl) rfl) (o_ (Br 2 ⟨[(1, .ptr 64 0), (4, .ptr 256 0), (6, iV y25), (16, oI 1024 r5), (17, iV (r5.length : Int)), (18, iV p12)], [(64, Ah a0), (256, [.own 512 0 0 (aY p13)])], []⟩ (Au (st (c_ (Ay ⟨tv, tv⟩ rfl (nl rfl)) (st (Df rfl tv (st (mset_ rfl rfl rfl (Kj (aR (Dv ⟨[(1, .ptr 64 0), (4, .ptr 256 0), (16, oI 1024 r5), (17, iV (r5.length : Int)), (18, iV p12)], [(64, Ah a0), (256, [.own 512 0 0 (aY (Qt p13 y25 true))])], []⟩ (fg ⟨rfl, rfl, rfl, rfl, rfl, tv⟩ ⟨rfl, (congrArg (fun z => some (([.own 512 0 0 z] : List V))) xO), tv⟩) (Au (st (c_ (Ay t3 rfl tv) (st (Df rfl tv (Kj ?_)))))))))))))))))))))))
   obtain rfl := Option.some.inj h1
   exact hK1 _ rfl _ _ (Bw (by kernel_rfl)) rfl
  ·obtain rfl := Option.some.inj h1
   obtain rfl := hx1 _ rfl
   refine Nc rfl ?_
   exact hE1 _ _ (Bw (by kernel_rfl)) ⟨_, rfl, rfl⟩

/- slices.ContainsFunc[[]int,int] -/
def FP := [k_ 4 (.bool false)]
def FR := [m_ 5 0, m_ 6 1, q_ 7 127 [(.t 5), (.t 6)], B_ .geq 8 7 0, m_ 4 8]
def FO : El := { np := 2, nt := 9, res := [.t 4], body := (.seq (.reg FP) (.seq (.reg FR) .ret)) }
def K129 (C : Bc) : Prop := ∀ (a0 : List Int) (f1 : Nat) (k1 : List V) (is1 : Int → Option Bool) (hs1 : Lb k1) (hf1 : ∀ (x0 : Int) r, is1 x0 = some r → C f1 ⟨iV x0 :: k1, []⟩ ⟨.bool r, [], []⟩) (r : Bool), wB a0 is1 = some r → C 129 ⟨[lI a0, .clo f1 k1], []⟩ ⟨.bool r, [], []⟩
theorem F129 {C : Bc} (H127 : WA C) (a0 : List Int) (f1 : Nat) (k1 : List V) (is1 : Int → Option Bool) (hs1 : Lb k1) (hf1 : ∀ (x0 : Int) r, is1 x0 = some r → C f1 ⟨iV x0 :: k1, []⟩ ⟨.bool r, [], []⟩) (r : Bool) (h0 : wB a0 is1 = some r) : Cp C FO ⟨[lI a0, .clo f1 k1], []⟩ ⟨.bool r, [], []⟩ := by
 refine Fe (nl rfl) (Bz (Au (st (Tj tv (Kj (Dv ⟨[(0, lI a0), (1, .clo f1 k1)], [], []⟩ (fg ⟨rfl, rfl, tv⟩ tv) (Bu 3 (Au (bb h0 fun r1 e2 h0 => st (Bv (r := iV r1) false (H127 a0 f1 k1 is1 hs1 hf1 r1 e2) ⟨tv, tv, tv⟩ rfl (Jc rfl (Jc (vM hs1) rfl)) (fun _ => rfl) (o_ ?_)))))))))))
 obtain rfl := Option.some.inj h0
 exact Dr 4

/- loop.example/g00149/impl.areAll[int]$1 -/
def FT := [k_ 3 (.bool false)]
def FU : List Ch := [l_ 4 1 1, m_ 5 0, ⟨some 6, .callv (.t 4) [(.t 5)], none⟩, N_ 7 6, m_ 3 7]
def FS : El := { np := 2, nt := 8, res := [.t 3], body := (.seq (.reg FT) (.seq (.reg FU) .ret)) }
def K130 (C : Bc) : Prop := ∀ (a0 : Int) (f1 : Nat) (k1 : List V) (is1 : Int → Option Bool) (hs1 : Lb k1) (hf1 : ∀ (x0 : Int) r, is1 x0 = some r → C f1 ⟨iV x0 :: k1, []⟩ ⟨.bool r, [], []⟩) (r : Bool), wC a0 is1 = some r → C 130 ⟨[iV a0, .iptr [.clo f1 k1]], []⟩ ⟨.bool r, [], []⟩
theorem F130 {C : Bc}  (a0 : Int) (f1 : Nat) (k1 : List V) (is1 : Int → Option Bool) (hs1 : Lb k1) (hf1 : ∀ (x0 : Int) r, is1 x0 = some r → C f1 ⟨iV x0 :: k1, []⟩ ⟨.bool r, [], []⟩) (r : Bool) (h0 : wC a0 is1 = some r) : Cp C FS ⟨[iV a0, .iptr [.clo f1 k1]], []⟩ ⟨.bool r, [], []⟩ := by
 refine Fe (nl rfl) (Bz (Au (st (Tj tv (Kj (Dv ⟨[(0, iV a0), (1, .iptr [.clo f1 k1])], [], []⟩ (fg ⟨rfl, rfl, tv⟩ tv) (Bu 3 (Au (bb h0 fun r1 e2 h0 => st (Sb (r := .bool r1) rfl false (hf1 _ r1 e2) ⟨tv, tv⟩ (Bs rfl hs1.2.2.1) (Jc rfl (hs1.2.1 _ _ _ _ _)) (fun _ => rfl) (o_ ?_)))))))))))
 obtain rfl := Option.some.inj h0
 exact Dr 4

/- loop.example/g00149/impl.areAll[int] -/
def AcO := [X_ 3 1, k_ 4 (.bool false)]
def AcP := [m_ 5 0, (iQ 6 (.fn 130 [(.t 3)])), q_ 7 129 [(.t 5), (.t 6)], N_ 8 7, m_ 4 8]
def c97 : El := { np := 2, nt := 9, res := [.t 4], body := (.seq (.reg AcO) (.seq (.reg AcP) .ret)) }
def K97 (C : Bc) : Prop := ∀ (a0 : List Int) (f1 : Nat) (k1 : List V) (is1 : Int → Option Bool) (hs1 : Lb k1) (hf1 : ∀ (x0 : Int) r, is1 x0 = some r → C f1 ⟨iV x0 :: k1, []⟩ ⟨.bool r, [], []⟩) (r : Bool), g97 a0 is1 = some r → C 97 ⟨[lI a0, .clo f1 k1], []⟩ ⟨.bool r, [], []⟩
theorem F97 {C : Bc} (H129 : K129 C) (H130 : K130 C) (a0 : List Int) (f1 : Nat) (k1 : List V) (is1 : Int → Option Bool) (hs1 : Lb k1) (hf1 : ∀ (x0 : Int) r, is1 x0 = some r → C f1 ⟨iV x0 :: k1, []⟩ ⟨.bool r, [], []⟩) (r : Bool) (h0 : g97 a0 is1 = some r) : Cp C c97 ⟨[lI a0, .clo f1 k1], []⟩ ⟨.bool r, [], []⟩ := by
 refine Fe (nl rfl) (Bz (Au (st (XP (UR hs1) tv rfl (sw ⟨[(0, lI a0), (3, .ptr 192 0)], [(192, [.clo f1 k1])], []⟩ (fg ⟨rfl, rfl, tv⟩ ⟨rfl, tv⟩) (Tj tv (Kj (Dv ⟨[(0, lI a0), (3, .ptr 192 0)], [(192, [.clo f1 k1])], []⟩ (fg ⟨rfl, rfl, tv⟩ ⟨rfl, tv⟩) (Bz (Au (st (Df rfl tv (st (c_ (Ay ⟨tv, tv⟩ rfl rfl) (bb h0 fun r1 e2 h0 => st (Bv (r := .bool r1) false (H129 a0 130 [.iptr [.clo f1 k1]] (fun z130_0 => wC z130_0 is1) (⟨fun _ _ _ _ _ => rfl, fun _ _ _ _ _ => rfl, rfl, fun _ _ _ n => by cases n <;> rfl, fun _ => rfl⟩) (fun z130_0 r h => H130 z130_0 f1 k1 is1 hs1 hf1 r h) r1 e2) ⟨tv, tv, tv⟩ rfl (Jc rfl (Jc (congrArg (fun z => V.clo 130 [.iptr [.clo f1 z]]) (hs1.2.2.2.1 _ _ _ _)) rfl)) (fun _ => rfl) (o_ ?_)))))))))))))))))
 obtain rfl := Option.some.inj h0
 exact Dr 4

/- slices.BinarySearchFunc[[]loop.example/g00149/impl.Lease,loop.example/g00149/impl.Lease,int] -/
def CZ := [i_ 6 0, k_ 7 (.bool false)]
def DA := [m_ 12 0, n_ 13 12, m_ 8 13]
def DB := [m_ 14 8, i_ 9 0, m_ 10 14]
def DC := [m_ 15 9, m_ 16 10, b_ .lss 17 15 16]
def DD : List Ch := [m_ 18 9, m_ 19 10, b_ .add 20 18 19, (iQ 21 (.conv .u64 (.t 20))), ⟨some 22, .p (.bin .shr (.t 21) (.c (.int .u64 1))), none⟩, (iQ 23 (.conv .i64 (.t 22))), m_ 11 23]
def DE : List Ch := [m_ 24 2, m_ 25 0, m_ 26 11, x_ 27 25 26 4, L_ 28 27 4, m_ 29 1, ⟨some 30, .callv (.t 24) [(.t 28), (.t 29)], none⟩, B_ .lss 31 30 0]
def DF := [m_ 32 11, B_ .add 33 32 1, m_ 9 33]
def DG := [m_ 34 11, m_ 10 34]
def CY : IR := (.seq (.seq (.reg DC) (.ite (.t 17) .skip (.exit 0))) (.block 1 (.seq (.reg DD) (.seq (.reg DE) (.ite (.t 31) (.reg DF) (.reg DG))))))
def DH : List Ch := [m_ 35 9, m_ 36 9, m_ 37 8, b_ .lss 38 36 37, m_ 39 38, pT 39 40 (.mv (.t 2)), pT 39 41 (.mv (.t 0)), pT 39 42 (.mv (.t 9)), pT 39 43 (.idxA (.t 41) (.t 42) 4), pT 39 44 (.load (.t 43) 4 true), pT 39 45 (.mv (.t 1)), ⟨some 46, .callv (.t 40) [(.t 44), (.t 45)], some (39, true)⟩, pT 39 47 (.bin .eql (.t 46) (.c (iV 0))), pk 48 (.t 39) (.t 47) (.c (.bool false)), m_ 6 35, m_ 7 48]
def CX : El := { np := 3, nt := 49, res := [.t 6, .t 7], body := (.seq (.reg CZ) (.seq (.reg DA) (.seq (.reg DB) (.seq (.block 0 (.loop CY)) (.seq (.reg DH) .ret))))) }
def K113 (C : Bc) : Prop := ∀ (a0 : List Ab) (a1 : Int) (f2 : Nat) (k2 : List V) (is2 : Ab → Int → Option Int) (hs2 : Lb k2) (hf2 : ∀ (x0 : Ab) (x1 : Int) r, is2 x0 x1 = some r → C f2 ⟨.agg (At x0) :: iV x1 :: k2, []⟩ ⟨iV r, [], []⟩) (r : Int × Bool), QV a0 a1 is2 = some r → C 113 ⟨[Bl a0, iV a1, .clo f2 k2], []⟩ ⟨.tup [iV r.1, .bool r.2], [], []⟩
theorem F113 {C : Bc}  (a0 : List Ab) (a1 : Int) (f2 : Nat) (k2 : List V) (is2 : Ab → Int → Option Int) (hs2 : Lb k2) (hf2 : ∀ (x0 : Ab) (x1 : Int) r, is2 x0 x1 = some r → C f2 ⟨.agg (At x0) :: iV x1 :: k2, []⟩ ⟨iV r, [], []⟩) (r : Int × Bool) (h0 : QV a0 a1 is2 = some r) : Cp C CX ⟨[Bl a0, iV a1, .clo f2 k2], []⟩ ⟨.tup [iV r.1, .bool r.2], [], []⟩ := by
 refine Fe (nl rfl) (Bu 4 (Dv ⟨[(0, Bl a0), (1, iV a1), (2, .clo f2 k2)], [], []⟩ (fg ⟨rfl, rfl, rfl, tv⟩ tv) (Bz (Au (st (Df rfl tv (st (c_ (Cn (e := At) (l0 := a0) rfl rfl tv) (st (Df rfl tv (Kj (Dv ⟨[(0, Bl a0), (1, iV a1), (2, .clo f2 k2), (8, iV (a0.length : Int))], [], []⟩ (fg ⟨rfl, rfl, rfl, rfl, tv⟩ tv) (Bu 5 (Dv ⟨[(0, Bl a0), (1, iV a1), (2, .clo f2 k2), (8, iV (a0.length : Int)), (9, iV 0), (10, iV (a0.length : Int))], [], []⟩ (fg ⟨rfl, rfl, rfl, rfl, rfl, rfl, tv⟩ tv) (Bz (Cr (bb h0 fun r30 e31 h0 => Dt (R := (fun S => ∃ p21 : Int, p21 = r30 ∧ S = ⟨[(0, Bl a0), (1, iV a1), (2, .clo f2 k2), (8, iV (a0.length : Int)), (9, iV p21)], [], []⟩)) (Wm a0 a1 is2) (fun s S => match s with | (p9, p10) => S = ⟨[(0, Bl a0), (1, iV a1), (2, .clo f2 k2), (8, iV (a0.length : Int)), (9, iV p9), (10, iV p10)], [], []⟩) e31 ⟨[(0, Bl a0), (1, iV a1), (2, .clo f2 k2), (8, iV (a0.length : Int)), (9, iV 0), (10, iV (a0.length : Int))], [], []⟩ (fg ⟨rfl, rfl, rfl, rfl, rfl, rfl, tv⟩ tv) rfl 0 (fun _ => rfl) ?_ ?_)))))))))))))))))
 ·rintro S _ hfg ⟨p21, rfl, rfl⟩
  refine Dv ⟨[(0, Bl a0), (1, iV a1), (2, .clo f2 k2), (8, iV (a0.length : Int)), (9, iV p21)], [], []⟩ (fgl hfg ⟨rfl, rfl, rfl, rfl, rfl, tv⟩ tv) (Lh 9 (Au (bb h0 fun y32 e33 h0 => st (Da (u := .iptr (At y32)) rfl (fun hg => (Cj (e := At) (y := y32) rfl rfl (fun _ => hg) rfl rfl (fun _ => hg) (ip hg e33))) (o_ (Lh 2 (Au (bb h0 fun r34 e35 h0 => sw ⟨[(35, iV p21), (39, .bool (decide (p21 < (a0.length : Int)))), (40, .may ((decide (p21 < (a0.length : Int))) == true) (.clo f2 k2)), (44, .may ((decide (p21 < (a0.length : Int))) == true) (.agg (At y32))), (45, .may ((decide (p21 < (a0.length : Int))) == true) (iV a1))], [], []⟩ (fg ⟨rfl, rfl, rfl, rfl, rfl, tv⟩ tv) (QK (r := iV r34) rfl rfl rfl (fun hg => hg) false (fun hg => hf2 _ _ r34 (ip hg e35)) ⟨(fun hg => hg), (fun hg => hg), tv⟩ (fun _ => (Bs rfl (Bs rfl hs2.2.2.1))) (fun _ => (Jc rfl (Jc rfl (hs2.2.1 _ _ _ _ _)))) (fun _ => rfl) (fun h => nomatch h) (o_ (SZ 5 ⟨[(6, iV p21), (7, .bool (bif (decide (p21 < (a0.length : Int))) then (r34 == 0) else false))], [], []⟩ ?_)))))))))))
  obtain rfl := Option.some.inj h0
  exact cL (Mb rfl rfl rfl rfl rfl tv)
 ·rintro ⟨p9, p10⟩ o1 _ K1 rfl h1 hx1 hK1 hE1 hR1
  refine Bu 6 (Dv ⟨[(0, Bl a0), (1, iV a1), (2, .clo f2 k2), (8, iV (a0.length : Int)), (9, iV p9), (10, iV p10), (17, .bool (decide (p9 < p10)))], [], []⟩ (fg ⟨rfl, rfl, rfl, rfl, rfl, rfl, rfl, tv⟩ tv) (Dm h1 (fun c22 h1 => ?_) (fun c22 h1 => ?_)))
  ·refine Nj (Dv ⟨[(0, Bl a0), (1, iV a1), (2, .clo f2 k2), (8, iV (a0.length : Int)), (9, iV p9), (10, iV p10)], [], []⟩ (fg ⟨rfl, rfl, rfl, rfl, rfl, rfl, tv⟩ tv) (Bu 6 (Au (st (c_ (Ay ⟨tv, tv, tv⟩ rfl (by decide)) (o_ (Bu 3 (bv h1 fun v23 e24 h1 => Dv ⟨[(0, Bl a0), (1, iV a1), (2, .clo f2 k2), (8, iV (a0.length : Int)), (9, iV p9), (10, iV p10), (11, iV v23)], [], []⟩ (fg ⟨(by subst e24; rfl), (by subst e24; rfl), (by subst e24; rfl), (by subst e24; rfl), (by subst e24; rfl), (by subst e24; rfl), (by subst e24; rfl), tv⟩ tv) (Bu 4 (Au (bb h1 fun y25 e26 h1 => st (c_ (Cj (e := At) (y := y25) rfl rfl tv rfl rfl tv e26) (o_ (Bu 2 (Au (bb h1 fun r27 e28 h1 => st (Sb (r := iV r27) rfl false (hf2 _ _ r27 e28) ⟨tv, tv, tv⟩ (Bs rfl (Bs rfl hs2.2.2.1)) (Jc rfl (Jc rfl (hs2.2.1 _ _ _ _ _))) (fun _ => rfl) (o_ (Bu 2 (Dv ⟨[(0, Bl a0), (1, iV a1), (2, .clo f2 k2), (8, iV (a0.length : Int)), (9, iV p9), (10, iV p10), (11, iV v23), (31, .bool (decide (r27 < 0)))], [], []⟩ (fg ⟨rfl, rfl, rfl, rfl, rfl, rfl, rfl, rfl, tv⟩ tv) (Dm h1 (fun c29 h1 => ?_) (fun c29 h1 => ?_))))))))))))))))))))))
   ·refine Bu 5 ?_
    obtain rfl := Option.some.inj h1
    exact hK1 _ rfl _ ⟨[(0, Bl a0), (1, iV a1), (2, .clo f2 k2), (8, iV (a0.length : Int)), (9, iV (IntKind.i64.wrap (v23 + 1))), (10, iV p10)], [], []⟩ (fg ⟨rfl, rfl, rfl, rfl, rfl, rfl, tv⟩ tv) rfl
   ·refine Bu 4 ?_
    obtain rfl := Option.some.inj h1
    exact hK1 _ rfl _ ⟨[(0, Bl a0), (1, iV a1), (2, .clo f2 k2), (8, iV (a0.length : Int)), (9, iV p9), (10, iV v23)], [], []⟩ (fg ⟨rfl, rfl, rfl, rfl, rfl, rfl, tv⟩ tv) rfl
  ·obtain rfl := Option.some.inj h1
   obtain rfl := hx1 _ rfl
   refine Nc rfl ?_
   exact hE1 _ ⟨[(0, Bl a0), (1, iV a1), (2, .clo f2 k2), (8, iV (a0.length : Int)), (9, iV p9)], [], []⟩ (fg ⟨rfl, rfl, rfl, rfl, rfl, tv⟩ tv) ⟨_, rfl, rfl⟩

/- cmp.isNaN[int] -/
def HN := [k_ 2 (.bool false)]
def HO := [m_ 3 0, m_ 4 0, b_ .neq 5 3 4, m_ 2 5]
def HM : El := { np := 1, nt := 6, res := [.t 2], body := (.seq (.reg HN) (.seq (.reg HO) .ret)) }
def WG (D : Bc) : Prop := ∀ (a0 : Int) (r : Bool), gQ a0 = some r → D 136 ⟨[iV a0], []⟩ ⟨.bool r, [], []⟩
theorem F136 {C : Bc} : WG (fun _ => Cp C HM) := by
 intro a0 r h0
 refine Fe (nl rfl) (?_)
 obtain rfl := Option.some.inj h0
 exact Dr 11

/- cmp.Compare[int] -/
def CK := [i_ 4 0]
def CL := [m_ 7 0, q_ 8 136 [(.t 7)], m_ 5 8]
def CM := [m_ 9 1, q_ 10 136 [(.t 9)], m_ 6 10]
def CN := [m_ 11 5]
def CO := [m_ 12 6]
def CP := [i_ 4 0]
def CQ := [i_ 4 (-1)]
def CR := [m_ 13 6]
def CS := [i_ 4 1]
def CT := [m_ 14 0, m_ 15 1, b_ .lss 16 14 15]
def sN := [i_ 4 (-1)]
def sO := [m_ 17 0, m_ 18 1, b_ .gtr 19 17 18]
def sP := [i_ 4 1]
def sQ := [i_ 4 0]
def oP : El := { np := 2, nt := 20, res := [.t 4], body := (.seq (.reg CK) (.seq (.reg CL) (.seq (.reg CM) (.seq (.seq (.reg CN) (.ite (.t 11) (.seq (.seq (.reg CO) (.ite (.t 12) (.seq (.reg CP) .ret) .skip)) (.seq (.reg CQ) .ret)) .skip)) (.seq (.seq (.reg CR) (.ite (.t 13) (.seq (.reg CS) .ret) .skip)) (.seq (.seq (.reg CT) (.ite (.t 16) (.seq (.reg sN) .ret) .skip)) (.seq (.seq (.reg sO) (.ite (.t 19) (.seq (.reg sP) .ret) .skip)) (.seq (.reg sQ) .ret)))))))) }
def VT (D : Bc) : Prop := ∀ (a0 : Int) (a1 : Int) (r : Int), pK a0 a1 = some r → D 110 ⟨[iV a0, iV a1], []⟩ ⟨iV r, [], []⟩
theorem F110 {C : Bc} (H136 : WG C) : VT (fun _ => Cp C oP) := by
 intro a0 a1 r h0
 refine Fe (nl rfl) (Br 3 ⟨[(0, iV a0), (1, iV a1)], [], []⟩ (Bz (Au (st (Df rfl tv (bb h0 fun r1 e2 h0 => Re (H136 a0 r1 e2) (o_ (Br 2 ⟨[(0, iV a0), (1, iV a1), (5, .bool r1)], [], []⟩ (Bz (Au (st (Df rfl tv (bb h0 fun r3 e4 h0 => Re (H136 a1 r3 e4) (o_ (Br 7 ⟨[(0, iV a0), (1, iV a1), (6, .bool r3), (11, .bool r1)], [], []⟩ (Dm h0 (fun c5 h0 => ?_) (fun c5 h0 => ?_)))))))))))))))))
 ·refine Br 4 ⟨[(12, .bool r3)], [], []⟩ (Dm h0 (fun c6 h0 => ?_) (fun c6 h0 => ?_))
  ·obtain rfl := Option.some.inj h0
   exact Dr 4
  ·obtain rfl := Option.some.inj h0
   exact Dr 6
 ·refine Br 6 ⟨[(0, iV a0), (1, iV a1), (13, .bool r3)], [], []⟩ (Dm h0 (fun c7 h0 => ?_) (fun c7 h0 => ?_))
  ·obtain rfl := Option.some.inj h0
   exact Dr 4
  ·refine Br 8 ⟨[(0, iV a0), (1, iV a1), (16, .bool (decide (a0 < a1)))], [], []⟩ (Dm h0 (fun c8 h0 => ?_) (fun c8 h0 => ?_))
   ·obtain rfl := Option.some.inj h0
    exact Dr 4
   ·refine Br 8 ⟨[(19, .bool (decide (a0 > a1)))], [], []⟩ (Dm h0 (fun c9 h0 => ?_) (fun c9 h0 => ?_))
    ·obtain rfl := Option.some.inj h0
     exact Dr 4
    ·obtain rfl := Option.some.inj h0
     exact Dr 6

/- (loop.example/g00149/impl.Table).find$1 -/
def DJ := [X_ 2 0, i_ 4 0]
def DK := [f_ 5 2 0, l_ 6 5 1, m_ 7 1, q_ 8 110 [(.t 6), (.t 7)], m_ 4 8]
def DI : El := { np := 2, nt := 9, res := [.t 4], body := (.seq (.reg DJ) (.seq (.reg DK) .ret)) }
def VU (D : Bc) : Prop := ∀ (a0 : Ab) (a1 : Int) (r : Int), pL a0 a1 = some r → D 114 ⟨[.agg (At a0), iV a1], []⟩ ⟨iV r, [], []⟩
theorem F114 {C : Bc} (H110 : VT C) : VU (fun _ => Cp C DI) := by
 intro a0 a1 r h0
 refine Fe (nl rfl) (Br 4 ⟨[(1, iV a1), (2, .ptr 128 0)], [(128, At a0)], []⟩ (Bu 4 (Au (bb h0 fun r1 e2 h0 => Re (H110 a0.id a1 r1 e2) (o_ ?_)))))
 obtain rfl := Option.some.inj h0
 exact Dr 3

/- (loop.example/g00149/impl.Table).find -/
def Abi := [X_ 2 0, i_ 4 0, k_ 5 (.bool false)]
def Abj := [f_ 6 2 2, l_ 7 6 1, m_ 8 1, q_ 9 113 [(.t 7), (.t 8), (.c (.clo 114 []))], e_ 10 9 0, e_ 11 9 1, m_ 4 10, m_ 5 11]
def c77 : El := { np := 2, nt := 12, res := [.t 4, .t 5], body := (.seq (.reg Abi) (.seq (.reg Abj) .ret)) }
def K77 (D : Bc) : Prop := ∀ (a0 : Ai) (a1 : Int) (r : Int × Bool), zZ a0 a1 = some r → D 77 ⟨[.agg (Aw a0), iV a1], []⟩ ⟨.tup [iV r.1, .bool r.2], [], []⟩
theorem F77 {C : Bc} (H113 : K113 C) (H114 : VU C) : K77 (fun _ => Cp C c77) := by
 intro a0 a1 r h0
 refine Fe (nl rfl) (Br 5 ⟨[(1, iV a1), (2, .ptr 128 0)], [(128, Aw a0)], []⟩ (Bu 4 (Au (bb h0 fun r1 e2 h0 => st (Bv (r := .tup [iV r1.1, .bool r1.2]) false (H113 a0.Ad a1 114 [] (fun z114_0 z114_1 => pL z114_0 z114_1) (⟨fun _ _ _ _ _ => rfl, fun _ _ _ _ _ => rfl, rfl, fun _ _ _ n => by cases n <;> rfl, fun _ => rfl⟩) (fun z114_0 z114_1 r h => H114 z114_0 z114_1 r h) r1 e2) ⟨tv, tv, tv, tv⟩ rfl rfl (fun _ => rfl) (o_ ?_))))))
 obtain rfl := Option.some.inj h0
 exact Dr 6

/- loop.example/g00149/impl.VaultOK$1 -/
def AcQ := [k_ 3 (.bool false)]
def AcR := [f_ 7 1 0, L_ 8 7 3, m_ 9 0, q_ 10 77 [(.t 8), (.t 9)], m_ 6 10, e_ 11 6 0, e_ 12 6 1, m_ 4 11, m_ 5 12]
def AcS := [m_ 13 5, N_ 14 13, m_ 3 14]
def c98 : El := { np := 2, nt := 15, res := [.t 3], body := (.seq (.reg AcQ) (.seq (.reg AcR) (.seq (.reg AcS) .ret))) }
def K98 (D : Bc) : Prop := ∀ (a0 : Int) (a1 : Ag) (r : Bool), g98 a0 a1 = some r → D 98 ⟨[iV a0, .iptr (Ah a1)], []⟩ ⟨.bool r, [], []⟩
theorem F98 {C : Bc} (H77 : K77 C) : K98 (fun _ => Cp C c98) := by
 intro a0 a1 r h0
 refine Fe (nl rfl) (Br 3 ⟨[(0, iV a0), (1, .iptr (Ah a1))], [], []⟩ (Bu 4 (Au (bb h0 fun r1 e2 h0 => Re (H77 a1.Ac a0 r1 e2) (o_ ?_)))))
 obtain rfl := Option.some.inj h0
 exact Dr 13
end Go.Ev
