/- The walks of functions: the code comes to the answers that QgD tells. Written by a program of ours. -/
import Derived.Test.YtdmclbbhhcpjfaaQgW0
set_option linter.all false
set_option maxHeartbeats 4000000
set_option linter.unusedVariables false
set_option maxRecDepth 100000
namespace Go.Ev
variable {C:Ar}

/- loop.example/g00149/laws.FnExactAppendLog -/
def oG:=[X_ 2 0,k_ 4 (.bool false)]
def oH:=[m_ 17 1,n_ 18 17,B_ .gtr 19 18 1048576]
def oI:=[k_ 4 (.bool true)]
def oJ:=[i_ 5 1048576]
def oK:=[L_ 20 2 2,m_ 21 5,q_ 22 228 [.t 20,.t 21],m_ 5 22]
def oL:=[m_ 23 5,B_ .lss 24 23 0]
def oM:=[k_ 4 (.bool true)]
def oN:=[L_ 26 2 2,q_ 27 230 [.t 26],m_ 28 1,q_ 29 231 [.t 28],q_ 30 240 [.t 27,.t 29],m_ 25 30,e_ 31 25 0,e_ 32 25 1,a_ 6 [.own 385 0 1 [],.own 386 0 2 []],s_ 6 31 2,m_ 7 32]
def oO:=[L_ 33 2 2,q_ 34 230 [.t 33],a_ 8 [.own 513 0 1 [],.own 514 0 2 []],s_ 8 34 2]
def oP:=[m_ 35 1,q_ 36 231 [.t 35],m_ 9 36]
def gR:=[L_ 38 8 2,m_ 39 9,q_ 40 218 [.t 38,.t 39],m_ 37 40,e_ 41 37 0,e_ 42 37 1,a_ 10 [.own 641 0 1 [],.own 642 0 2 []],s_ 10 41 2,m_ 11 42]
def gS:=[L_ 43 10 2,L_ 44 6 2,q_ 45 232 [.t 43,.t 44],N_ 46 45,m_ 47 46,mF 47 48 11,mF 47 49 7,pF 47 50 (.bin .neq (.t 48) (.t 49)),po 51 47 50]
def gT:=[k_ 4 (.bool false)]
def gU:=tk [L_ 52 8 2,L_ 53 2 2] (.alt [L_ 52 8 2] (q_ 54 230 [.t 53]) (.alt [] (q_ 55 232 [.t 52,.t 54]) (tk [N_ 56 55] .fin) .stop) .stop)
def gV:=[k_ 4 (.bool false)]
def gW:=[m_ 57 9,m_ 58 1,q_ 59 231 [.t 58],q_ 60 233 [.t 57,.t 59],N_ 61 60]
def gX:=[k_ 4 (.bool false)]
def gY:=[i_ 12 1]
def gZ:=[L_ 62 8 2,m_ 63 12,q_ 64 234 [.t 62,.t 63],m_ 12 64]
def hO:=[m_ 65 9,m_ 66 12,q_ 67 235 [.t 65,.t 66],m_ 12 67]
def hY:List Az:=[m_ 68 12,B_ .lss 69 68 0,m_ 70 69,lF 70 71 10 2 true,lF 70 72 6 2 true,⟨some 73,.call 232 [.t 71,.t 72],some (70,false)⟩,pF 70 74 (.un .not (.t 73)),po 75 70 74,m_ 76 75,mF 76 77 11,mF 76 78 7,pF 76 79 (.bin .neq (.t 77) (.t 78)),po 80 76 79]
def hZ:=[k_ 4 (.bool false)]
def iA:=[i_ 13 1]
def iB:=[L_ 81 10 2,m_ 82 13,q_ 83 234 [.t 81,.t 82],m_ 13 83]
def iC:=[i_ 14 1]
def iD:=[L_ 84 10 2,m_ 85 14,q_ 86 236 [.t 84,.t 85],m_ 14 86]
def iE:=[m_ 87 14,B_ .lss 88 87 0]
def iF:=[k_ 4 (.bool false)]
def iG:=[m_ 89 14,m_ 90 13,b_ .neq 91 89 90]
def iH:=[k_ 4 (.bool false)]
def iI:=[L_ 93 2 2,q_ 94 230 [.t 93],m_ 95 1,q_ 96 231 [.t 95],q_ 97 218 [.t 94,.t 96],m_ 92 97,e_ 98 92 0,e_ 99 92 1,a_ 15 [.own 961 0 1 [],.own 962 0 2 []],s_ 15 98 2,m_ 16 99]
def iJ:=[L_ 100 15 2,L_ 101 6 2,q_ 102 232 [.t 100,.t 101],N_ 103 102,m_ 104 103,mF 104 105 16,mF 104 106 7,pF 104 107 (.bin .neq (.t 105) (.t 106)),po 108 104 107]
def iK:=[k_ 4 (.bool false)]
def iL:=[i_ 14 1]
def iM:=[L_ 109 10 2,m_ 110 14,q_ 111 236 [.t 109,.t 110],m_ 14 111]
def iN:=[m_ 112 14,B_ .lss 113 112 0]
def iO:=[k_ 4 (.bool false)]
def iP:=[m_ 114 14,m_ 115 13,b_ .neq 116 114 115]
def iR:=[k_ 4 (.bool false)]
def iS:=[k_ 4 (.bool true)]
def JW:Dx:=⟨2,117,[.t 4],sr oG (.seq (sr oH (iz 19 (rr oI))) (sr oJ (sr oK (.seq (sr oL (iz 24 (rr oM))) (sr oN (sr oO (sr oP (sr gR (.seq (sr gS (iz 51 (rr gT))) (.seq (sd gU (iz 56 (rr gV))) (.seq (sr gW (iz 61 (rr gX))) (sr gY (sr gZ (sr hO (.seq (sr hY (iz 80 (rr hZ))) (sr iA (sr iB (sr iC (sr iD (.seq (sr iE (iz 88 (rr iF))) (.seq (sr iG (iz 91 (rr iH))) (sr iI (.seq (sr iJ (iz 108 (rr iK))) (sr iL (sr iM (.seq (sr iN (iz 113 (rr iO))) (.seq (sr iP (iz 116 (rr iR))) (rr iS))))))))))))))))))))))))))))⟩
def JQ (D:Ar):Prop:=∀a0 a1 r,IA a0 a1=some r→D 207 ⟨[.agg (Ae a0),Bd a1],[]⟩ ⟨.bool r,[],[]⟩
abbrev Eh:=fun x0 x1 (r:List (Nat×V))=>(1,Bd x0)::(2,.ptr 128 0)::(6,.ptr 384 0)::(7,iV x1)::(10,.ptr 640 0)::r
abbrev Gm:=fun x0 x1 x2 (r:List (Nat×List V))=>(128,Ae x0)::(384,Ai x1 (Cf 1920) (Cf 1921))::(640,Ai x2 (Cf 2560) (Cf 2593))::r
abbrev Li:=fun x0 x1 (r:List (Nat×List V))=>(128,Ae x0)::(384,Ai x1 (Cf 1920) (Cf 1921))::r
abbrev Hw:=fun x0 (r:List (Nat×V))=>(1,Bd x0)::(2,.ptr 128 0)::r
theorem ND (H218:FZ C) (H228:GA C) (H230:GB C) (H231:gD C) (H232:GC C) (H233:gE C) (H234:GD C) (H235:gF C) (H236:GE C) (H240:GF C):JQ (FO C JW):=by
 intro a0 a1 r h0
 refine f0 (At 4 (Hw a1 []) [(128,Ae a0)] (Bi (Bi (Aj (st (Cd rfl tv (Iw rfl (o_ (At 2 (Hw a1 [(19,.bool (decide ((a1.length:Int)>1048576)))]) [(128,Ae a0)] (Dk h0 (fun c1 h0=>?_) (fun c1 h0=>?_)))))))))))
 ·obtain rfl:=sj h0
  exact Dq 4
 ·refine At 5 (Hw a1 [(5,iV 1048576)]) [(128,Ae a0)] (Bi (Aj (st (c_ (v:=.agg (Ae a0)) (Bb ⟨tv,tv⟩ rfl (nl rfl)) (st (Cd rfl tv (bb h0 fun r2 e3 h0=>Qg (H228 a0 1048576 r2 e3) (o_ (At 8 (Hw a1 [(24,.bool (decide (r2<0)))]) [(128,Ae a0)] (Dk h0 (fun c4 h0=>?_) (fun c4 h0=>?_)))))))))))
  ·obtain rfl:=sj h0
   exact Dq 4
  ·refine gC (mZ (Bi (Aj (st (c_ (v:=.agg (Ae a0)) (Bb ⟨tv,tv⟩ rfl (nl rfl)) (bb h0 fun r5 e6 h0=>Mv (H230 a0 r5 e6) (af (Fh (Tc rfl) rfl)) (st (Cd rfl tv (bb h0 fun r7 e8 h0=>Mv (H231 a1 r7 e8) (af rfl) (bb h0 fun r9 e10 h0=>sw ⟨Hw a1 [(27,.agg (Ai r5 (Cf 1728) (Cf 1761))),(29,As 1856 r7)],[(128,Ae a0)],[]⟩ (Fp (by kernel_rfl)) (Jh (r:=.tup [.agg (Ai r9.1 (Cf 0) (Cf 1)),iV r9.2]) true (H240 r5 r7 r9 e10) ⟨tv,tv,tv⟩ rfl rfl (fun h=>nomatch h) (sw ⟨Hw a1 [(30,.tup [.agg (Ai r9.1 (Cf 1920) (Cf 1921)),iV r9.2])],[(128,Ae a0)],[]⟩ (Fp (by kernel_rfl)) (Cd rfl tv (st (c_ (Bb ⟨tv,tv⟩ rfl tv) (st (c_ (Bb ⟨tv,tv⟩ rfl tv) (st (Io (sw ⟨Hw a1 [(6,.ptr 384 0),(31,.agg (Ai r9.1 (Cf 1920) (Cf 1921))),(32,iV r9.2)],[(128,Ae a0),(384,[As 385 [],Ad 418 []])],[]⟩ (Mw [] [(386,418)] rfl (by kernel_rfl)) (Kg rfl rfl tv rfl rfl rfl (nl rfl) (o_ (At 2 (Hw a1 [(6,.ptr 384 0),(7,iV r9.2)]) (Li a0 r9.1 []) (Bi (Aj (st (c_ (v:=.agg (Ae a0)) (Bb ⟨tv,tv⟩ rfl (nl rfl)) (bb h0 fun r11 e12 h0=>Mv (H230 a0 r11 e12) (af (Fh (Tc rfl) rfl)) (st (Io (sw ⟨Hw a1 [(6,.ptr 384 0),(7,iV r9.2),(8,.ptr 512 0),(34,.agg (Ai r11 (Cf 2176) (Cf 2209)))],Li a0 r9.1 [(512,[As 513 [],Ad 546 []])],[]⟩ (Mw [] [(514,546)] rfl (by kernel_rfl)) (Kg rfl rfl tv rfl rfl rfl (nl rfl) (o_ (At 1 (Hw a1 [(6,.ptr 384 0),(7,iV r9.2),(8,.ptr 512 0)]) (Li a0 r9.1 [(512,Ai r11 (Cf 2176) (Cf 2209))]) (Bi (Aj (st (Cd rfl tv (bb h0 fun r13 e14 h0=>Mv (H231 a1 r13 e14) (af rfl) (o_ (At 2 (Hw a1 [(6,.ptr 384 0),(7,iV r9.2),(8,.ptr 512 0),(9,As 2304 r13)]) (Li a0 r9.1 [(512,Ai r11 (Cf 2176) (Cf 2209))]) (Bi (Aj (st (c_ (v:=.agg (Ai r11 (Cf 2176) (Cf 2209))) (Bb ⟨tv,tv⟩ rfl (nl rfl)) (st (Cd rfl tv (bb h0 fun r15 e16 h0=>Mv (H218 r11 r13 r15 e16) (af (Fh (Tc rfl) (Fh rfl rfl))) (st (Cd rfl tv (st (c_ (Bb ⟨tv,tv⟩ rfl tv) (st (c_ (Bb ⟨tv,tv⟩ rfl tv) (st (Io (sw ⟨Eh a1 r9.2 [(8,.ptr 512 0),(9,As 2304 r13),(41,.agg (Ai r15.1 (Cf 2560) (Cf 2593))),(42,iV r15.2)],Li a0 r9.1 [(512,Ai r11 (Cf 2176) (Cf 2209)),(640,[As 641 [],Ad 674 []])],[]⟩ (Mw [] [(642,674)] rfl (by kernel_rfl)) (Kg rfl rfl tv rfl rfl rfl (nl rfl) (o_ (At 2 (Eh a1 r9.2 [(8,.ptr 512 0),(9,As 2304 r13),(11,iV r15.2)]) (Gm a0 r9.1 r15.1 [(512,Ai r11 (Cf 2176) (Cf 2209))]) (Bi (Bi (Aj (st (c_ (v:=.agg (Ai r15.1 (Cf 2560) (Cf 2593))) (Bb ⟨tv,tv⟩ rfl (nl rfl)) (st (c_ (v:=.agg (Ai r9.1 (Cf 1920) (Cf 1921))) (Bb ⟨tv,tv⟩ rfl (nl rfl)) (bb h0 fun r17 e18 h0=>Qg (H232 r15.1 r9.1 r17 e18) (st (c_ (Bb ⟨tv,tv⟩ rfl tv) (st (Cd rfl tv (st (Ei (u:=iV r15.2) rfl (fun hg=>(Qh (v:=iV r15.2) rfl tv)) (st (Ei (u:=iV r9.2) rfl (fun hg=>(Qh (v:=iV r9.2) rfl tv)) (st (Ei (u:=.bool (r15.2 != r9.2)) rfl (fun hg=>(Bb ⟨(fun _=>hg),(fun _=>hg),tv⟩ rfl tv)) (st (Gt rfl rfl rfl tv (fun h=>eG h) rfl (o_ (At 1 (Eh a1 r9.2 [(8,.ptr 512 0),(9,As 2304 r13),(11,iV r15.2),(51,.bool (bif (!r17) then true else (r15.2 != r9.2)))]) (Gm a0 r9.1 r15.1 [(512,Ai r11 (Cf 2176) (Cf 2209))]) (Dk h0 (fun c19 h0=>?_) (fun c19 h0=>?_))))))))))))))))))))))))))))))))))))))))))))))))))))))))))))))))))))))))))))))))))))
   ·obtain rfl:=sj h0
    exact Dq 4
   ·refine cZ 4 (bb h0 fun r20 e21 h0=>bb h0 fun r22 e23 h0=>Dt (An tv (c_ (v:=.agg (Ai r11 (Cf 2176) (Cf 2209))) (Bb ⟨tv,tv⟩ rfl (nl rfl)) (⟨tv,An tv (c_ (v:=.agg (Ae a0)) (Bb ⟨tv,tv⟩ rfl (nl rfl)) (⟨tv,JK (H230 a0 r20 e21) (af (Fh (Tc rfl) rfl)) (dw [(1,Bd a1),(2,.ptr 128 0),(6,.ptr 384 0),(7,iV r9.2),(8,.ptr 512 0),(9,As 2304 r13),(10,.ptr 640 0),(11,iV r15.2),(52,.agg (Ai r11 (Cf 2176) (Cf 2209))),(54,.agg (Ai r20 (Cf 3456) (Cf 3489)))] [(128,Ae a0),(384,Ai r9.1 (Cf 1920) (Cf 1921)),(512,Ai r11 (Cf 2176) (Cf 2209)),(640,Ai r15.1 (Cf 2560) (Cf 2593))] hB (JK (H232 r11 r20 r22 e23) rfl (dw [(1,Bd a1),(2,.ptr 128 0),(6,.ptr 384 0),(7,iV r9.2),(8,.ptr 512 0),(9,As 2304 r13),(10,.ptr 640 0),(11,iV r15.2),(55,.bool r22)] [(128,Ae a0),(384,Ai r9.1 (Cf 1920) (Cf 1921)),(512,Ai r11 (Cf 2176) (Cf 2209)),(640,Ai r15.1 (Cf 2560) (Cf 2593))] tv (d_ (At 2 (Eh a1 r9.2 [(8,.ptr 512 0),(9,As 2304 r13),(11,iV r15.2),(56,.bool (!r22))]) (Gm a0 r9.1 r15.1 [(512,Ai r11 (Cf 2176) (Cf 2209))]) (Dk h0 (fun c24 h0=>?_) (fun c24 h0=>?_))))) Cp)) Cp⟩))⟩))))
    ·obtain rfl:=sj h0
     exact Dq 4
    ·refine gC (mZ (Bi (Bi (Aj (st (Cd rfl tv (st (Cd rfl tv (bb h0 fun r25 e26 h0=>Mv (H231 a1 r25 e26) (af rfl) (bb h0 fun r27 e28 h0=>Qg (H233 r13 r25 r27 e28) (o_ (At 2 (Eh a1 r9.2 [(8,.ptr 512 0),(9,As 2304 r13),(11,iV r15.2),(61,.bool (!r27))]) (Gm a0 r9.1 r15.1 [(512,Ai r11 (Cf 2176) (Cf 2209))]) (Dk h0 (fun c29 h0=>?_) (fun c29 h0=>?_))))))))))))))
     ·obtain rfl:=sj h0
      exact Dq 4
     ·refine At 5 (Eh a1 r9.2 [(8,.ptr 512 0),(9,As 2304 r13),(11,iV r15.2),(12,iV 1)]) (Gm a0 r9.1 r15.1 [(512,Ai r11 (Cf 2176) (Cf 2209))]) (Bi (Aj (st (c_ (v:=.agg (Ai r11 (Cf 2176) (Cf 2209))) (Bb ⟨tv,tv⟩ rfl (nl rfl)) (st (Cd rfl tv (bb h0 fun r30 e31 h0=>gg h0 fun c32 h0=>gg h0 fun c33 h0=>PI [] [2176,2209] [] (H234 r11 1 r30 e31) (sw ⟨Eh a1 r9.2 [(9,As 2304 r13),(11,iV r15.2),(64,iV r30.1)],Gm a0 r9.1 r15.1 [],[]⟩ (Fp (by kernel_rfl)) (Cd rfl tv (o_ (At 1 (Eh a1 r9.2 [(9,As 2304 r13),(11,iV r15.2),(12,iV r30.1)]) (Gm a0 r9.1 r15.1 []) (Bi (Aj (st (Cd rfl tv (st (Cd rfl tv (bb h0 fun r34 e35 h0=>gg h0 fun c36 h0=>PH [] [2304] [] (H235 r13 r30.1 r34 e35) (ar (Fh (QD (fun _=>rfl)) rfl)) (sw ⟨Eh a1 r9.2 [(11,iV r15.2),(67,iV r34.1)],Gm a0 r9.1 r15.1 [],[]⟩ (Fp (by kernel_rfl)) (Cd rfl tv (o_ (At 1 (Eh a1 r9.2 [(11,iV r15.2),(12,iV r34.1)]) (Gm a0 r9.1 r15.1 []) (Bi (Bi (Aj (st (Cd rfl tv (st (c_ (Bb t3 rfl tv) (st (Cd rfl tv (st (Ei (u:=.agg (Ai r15.1 (Cf 2560) (Cf 2593))) rfl (fun hg=>(Bb ⟨tv,tv⟩ rfl (nl rfl))) (st (Ei (u:=.agg (Ai r9.1 (Cf 1920) (Cf 1921))) rfl (fun hg=>(Bb ⟨tv,tv⟩ rfl (nl rfl))) (bb h0 fun r37 e38 h0=>st (Sp (r:=.bool r37) rfl false (fun hg=>H232 r15.1 r9.1 r37 (ip hg e38)) ⟨(fun hg=>hg),(fun hg=>hg),tv⟩ (fun _=>rfl) (fun _=>rfl) (fun _=>rfl) (fun h=>nomatch h) (st (Ei (u:=.bool (!r37)) rfl (fun hg=>(Bb ⟨(fun _=>hg),tv⟩ rfl tv)) (st (Gt rfl rfl rfl tv (fun h=>eG h) rfl (st (Cd rfl tv (st (Ei (u:=iV r15.2) rfl (fun hg=>(Qh (v:=iV r15.2) rfl tv)) (st (Ei (u:=iV r9.2) rfl (fun hg=>(Qh (v:=iV r9.2) rfl tv)) (st (Ei (u:=.bool (r15.2 != r9.2)) rfl (fun hg=>(Bb ⟨(fun _=>hg),(fun _=>hg),tv⟩ rfl tv)) (sw ⟨Eh a1 r9.2 [(76,.bool (bif (decide (r34.1<0)) then true else (!r37))),(79,.may ((bif (decide (r34.1<0)) then true else (!r37))==false) (.bool (r15.2 != r9.2)))],Gm a0 r9.1 r15.1 [],[]⟩ (Fp (by kernel_rfl)) (Gt rfl rfl rfl tv (fun h=>eG h) rfl (Rl (bv h0 fun v39 e40 h0=>Fz ⟨Eh a1 r9.2 [(80,.bool v39)],Gm a0 r9.1 r15.1 [],[]⟩ (Fp (by subst e40; kernel_rfl)) (Dk h0 (fun c41 h0=>?_) (fun c41 h0=>?_)))))))))))))))))))))))))))))))))))))))))))))))))))))))
      ·obtain rfl:=sj h0
       exact Dq 4
      ·refine At 5 (Eh a1 r9.2 [(13,iV 1)]) (Gm a0 r9.1 r15.1 []) (Bi (Aj (st (c_ (v:=.agg (Ai r15.1 (Cf 2560) (Cf 2593))) (Bb ⟨tv,tv⟩ rfl (nl rfl)) (st (Cd rfl tv (bb h0 fun r42 e43 h0=>gg h0 fun c44 h0=>gg h0 fun c45 h0=>PI [] [2560,2593] [] (H234 r15.1 1 r42 e43) (sw ⟨[(1,Bd a1),(2,.ptr 128 0),(6,.ptr 384 0),(7,iV r9.2),(10,.ptr 640 0),(83,iV r42.1)],[(128,Ae a0),(384,Ai r9.1 (Cf 1920) (Cf 1921)),(640,[As 2560 r42.2.1,Ad 2593 r42.2.2])],[]⟩ (fg ⟨rfl,rfl,rfl,rfl,rfl,rfl,tv⟩ ⟨rfl,rfl,QK (fun z0 z1=>some (([z0,z1]:List V))) (Uj c44) (Uj c45),tv⟩) (Cd rfl tv (o_ (At 5 (Eh a1 r9.2 [(13,iV r42.1),(14,iV 1)]) (Li a0 r9.1 [(640,[As 2560 r42.2.1,Ad 2593 r42.2.2])]) (Bi (Aj (st (c_ (v:=.agg [As 2560 r42.2.1,Ad 2593 r42.2.2]) (Bb ⟨tv,tv⟩ rfl (nl rfl)) (st (Cd rfl tv (bb h0 fun r46 e47 h0=>Qg (H236 (Af.mk r42.2.1 r42.2.2) 1 r46 e47) (o_ (At 8 (Eh a1 r9.2 [(13,iV r42.1),(14,iV r46),(88,.bool (decide (r46<0)))]) (Li a0 r9.1 [(640,[As 2560 r42.2.1,Ad 2593 r42.2.2])]) (Dk h0 (fun c48 h0=>?_) (fun c48 h0=>?_))))))))))))))))))))))
       ·obtain rfl:=sj h0
        exact Dq 4
       ·refine At 8 (Eh a1 r9.2 [(13,iV r42.1),(91,.bool (r46 != r42.1))]) (Li a0 r9.1 [(640,[As 2560 r42.2.1,Ad 2593 r42.2.2])]) (Dk h0 (fun c49 h0=>?_) (fun c49 h0=>?_))
        ·obtain rfl:=sj h0
         exact Dq 4
        ·refine gC (mZ (Bi (Aj (st (c_ (v:=.agg (Ae a0)) (Bb ⟨tv,tv⟩ rfl (nl rfl)) (bb h0 fun r50 e51 h0=>Mv (H230 a0 r50 e51) (af (Fh (Tc rfl) rfl)) (st (Cd rfl tv (bb h0 fun r52 e53 h0=>Mv (H231 a1 r52 e53) (af rfl) (bb h0 fun r54 e55 h0=>sw ⟨[(6,.ptr 384 0),(7,iV r9.2),(10,.ptr 640 0),(13,iV r42.1),(94,.agg (Ai r50 (Cf 6016) (Cf 6049))),(96,As 6144 r52)],[(384,Ai r9.1 (Cf 1920) (Cf 1921)),(640,[As 2560 r42.2.1,Ad 2593 r42.2.2])],[]⟩ (Fp (by kernel_rfl)) (Jh (r:=.tup [.agg (Ai r54.1 (Cf 0) (Cf 33)),iV r54.2]) false (H218 r50 r52 r54 e55) ⟨tv,tv,tv⟩ rfl rfl (fun _=>(af (Fh (Tc rfl) (Fh rfl rfl)))) (st (Cd rfl tv (st (c_ (Bb ⟨tv,tv⟩ rfl tv) (st (c_ (Bb ⟨tv,tv⟩ rfl tv) (st (Io (sw ⟨[(6,.ptr 384 0),(7,iV r9.2),(10,.ptr 640 0),(13,iV r42.1),(15,.ptr 960 0),(98,.agg (Ai r54.1 (Cf 6208) (Cf 6241))),(99,iV r54.2)],[(384,Ai r9.1 (Cf 1920) (Cf 1921)),(640,[As 2560 r42.2.1,Ad 2593 r42.2.2]),(960,[As 961 [],Ad 994 []])],[]⟩ (Mw [] [(962,994)] rfl (by kernel_rfl)) (Kg rfl rfl tv rfl rfl rfl (nl rfl) (o_ (At 2 [(6,.ptr 384 0),(7,iV r9.2),(10,.ptr 640 0),(13,iV r42.1),(15,.ptr 960 0),(16,iV r54.2)] [(384,Ai r9.1 (Cf 1920) (Cf 1921)),(640,[As 2560 r42.2.1,Ad 2593 r42.2.2]),(960,Ai r54.1 (Cf 6208) (Cf 6241))] (Bi (Bi (Aj (st (c_ (v:=.agg (Ai r54.1 (Cf 6208) (Cf 6241))) (Bb ⟨tv,tv⟩ rfl (nl rfl)) (st (c_ (v:=.agg (Ai r9.1 (Cf 1920) (Cf 1921))) (Bb ⟨tv,tv⟩ rfl (nl rfl)) (bb h0 fun r56 e57 h0=>Qg (H232 r54.1 r9.1 r56 e57) (st (c_ (Bb ⟨tv,tv⟩ rfl tv) (st (Cd rfl tv (st (Ei (u:=iV r54.2) rfl (fun hg=>(Qh (v:=iV r54.2) rfl tv)) (st (Ei (u:=iV r9.2) rfl (fun hg=>(Qh (v:=iV r9.2) rfl tv)) (st (Ei (u:=.bool (r54.2 != r9.2)) rfl (fun hg=>(Bb ⟨(fun _=>hg),(fun _=>hg),tv⟩ rfl tv)) (st (Gt rfl rfl rfl tv (fun h=>eG h) rfl (o_ (At 1 [(10,.ptr 640 0),(13,iV r42.1),(108,.bool (bif (!r56) then true else (r54.2 != r9.2)))] [(640,[As 2560 r42.2.1,Ad 2593 r42.2.2])] (Dk h0 (fun c58 h0=>?_) (fun c58 h0=>?_)))))))))))))))))))))))))))))))))))))))))))))))
         ·obtain rfl:=sj h0
          exact Dq 4
         ·refine At 5 [(10,.ptr 640 0),(13,iV r42.1),(14,iV 1)] [(640,[As 2560 r42.2.1,Ad 2593 r42.2.2])] (Bi (Aj (st (c_ (v:=.agg [As 2560 r42.2.1,Ad 2593 r42.2.2]) (Bb ⟨tv,tv⟩ rfl (nl rfl)) (st (Cd rfl tv (bb h0 fun r59 e60 h0=>Qg (H236 (Af.mk r42.2.1 r42.2.2) 1 r59 e60) (o_ (At 8 [(13,iV r42.1),(14,iV r59),(113,.bool (decide (r59<0)))] [] (Dk h0 (fun c61 h0=>?_) (fun c61 h0=>?_)))))))))))
          ·obtain rfl:=sj h0
           exact Dq 4
          ·refine At 8 [(116,.bool (r59 != r42.1))] [] (Dk h0 (fun c62 h0=>?_) (fun c62 h0=>?_))
           ·obtain rfl:=sj h0
            exact Dq 4
           ·obtain rfl:=sj h0
            exact Dq 6
end Go.Ev
