/- The walks of functions: the code comes to the answers that QgD tells. Written by a program of ours. -/
import Derived.Test.YtfpbbpkdjmldkaaGreatQgW1
set_option linter.all false
set_option maxHeartbeats 4000000
set_option linter.unusedVariables false
set_option maxRecDepth 100000
namespace Go.Ev
variable {C:Ba}

/- loop.example/g00149/impl.VaultOf -/
def ZW:=[a_ 4 (zV 259 260 261),i_ 5 0]
def ZX:List Bj:=[m_ 10 0,q_ 11 321 [.t 10],N_ 12 11,m_ 13 12,mF 13 14 1,⟨some 15,.call 87 [.t 14],some (13,false)⟩,pF 13 16 (.un .not (.t 15)),po 17 13 16,m_ 9 17]
def ZY:=[iQ 18 (.build (zV 1155 1156 1157) []),s_ 4 18 6,i_ 5 2]
def ZZ:=[m_ 20 0,q_ 21 322 [.t 20],N_ 22 21,m_ 19 22]
def Aaa:=[iQ 23 (.build (zV 1475 1476 1477) []),s_ 4 23 6,i_ 5 1]
def Aab:List Bj:=[m_ 24 1,q_ 25 120 [.t 24],⟨some 26,.p (.build (zV 1667 1668 1669) [(4,1,.t 25)]),none⟩,a_ 6 (zV 387 388 389),s_ 6 26 6]
def Aac:=[m_ 27 0,n_ 28 27,i_ 29 0]
def Aad:=[b_ .lss 30 29 28]
def Aae:=[x_ 31 27 29 2,L_ 32 31 2,a_ 8 [.str [],.str []],s_ 8 32 2]
def Aaf:=[L_ 33 8 2,q_ 34 323 [.t 6,.t 33],N_ 35 34]
def CP:=[iQ 36 (.build (zV 2307 2308 2309) []),s_ 4 36 6,i_ 5 3]
def CQ:=[B_ .add 37 29 1,m_ 29 37]
def ZV:IR:=(sr Aad (.seq (.ite (.t 30) .skip (.exit 1)) (.seq (.block 2 (sr Aae (sr Aaf (iz 35 (rr CP))))) (.reg CQ))))
def CR:=[L_ 38 6 6,q_ 39 48 [.t 38],N_ 40 39]
def CS:=[iQ 41 (.build (zV 2627 2628 2629) []),s_ 4 41 6,i_ 5 13]
def CT:=[L_ 42 6 6,s_ 4 42 6,i_ 5 0]
def c258:De:=⟨2,43,[.cell 4 6 true,.t 5],sr ZW (.seq (.block 0 (sr ZX (.ite (.t 9) (rr ZY) (sr ZZ (iz 19 (rr Aaa)))))) (sr Aab (.seq (sr Aac (Jc 1 ZV)) (.seq (sr CR (iz 40 (rr CS))) (rr CT)))))⟩
def K258 (D:Ba):Prop:=∀a0 a1 r,Ali a0 a1=some r→D 258 ⟨[Cy a0,lI a1],[]⟩ ⟨.tup [.agg (Bi r.1 (Al 0) (Al 1) (Al 2)),iV r.2],[],[]⟩
abbrev Mi:=fun (r:List (Nat×List V))=>(256,Ap 0 0 (Al 259) [] (Al 260) [] (Al 261) [] false)::r
abbrev Rh:=fun (r:List (Nat×V))=>(4,.ptr 256 0)::(6,.ptr 384 0)::r
theorem F258 (H48:K48 C) (H87:K87 C) (H120:yY C) (H321:K321 C) (H322:K322 C) (H323:K323 C):K258 (FO C c258):=by
 intro a0 a1 r h0
 refine f0 (As 4 [(0,Cy a0),(1,lI a1),(4,.ptr 256 0)] (Mi []) (At 4 (Ah (bb h0 fun r1 e2 h0=>Il (H321 a0 r1 e2) (o_ (Hj 3 (Ah (bb h0 fun r3 e4 h0=>st (En (r:=.bool r3) rfl false (fun hg=>H87 a1 r3 (ip hg e4)) ⟨(fun hg=>hg),tv⟩ (fun _=>rfl) (fun _=>rfl) (fun _=>rfl) (fun h=>nomatch h) (o_ (uE 4 [(0,Cy a0),(1,lI a1),(4,.ptr 256 0),(9,.bool (bif (!r1) then true else (!r3)))] (Mi []) (Cw h0 (fun c5 h0=>?_) (fun c5 h0=>?_)))))))))))))
 ·obtain rfl:=sj h0
  exact Cs 6
 ·refine Bk (Ah (st (Dc rfl tv (bb h0 fun r6 e7 h0=>Il (H322 a0 r6 e7) (o_ (As 3 [(0,Cy a0),(1,lI a1),(4,.ptr 256 0),(19,.bool (!r6))] (Mi []) (Cw h0 (fun c8 h0=>?_) (fun c8 h0=>?_))))))))
  ·obtain rfl:=sj h0
   exact Cs 6
  ·refine At 5 (Ah (bb h0 fun r9 e10 h0=>Ji (H120 a1 r9 e10) (af rfl) (st (c_ (v:=.agg (Ap 0 0 (Al 1667) [] (Al 1668) [] (Al 1600) r9 false)) (Bw ⟨tv,tv⟩ rfl ⟨⟨rfl,rfl,nl rfl⟩,tv⟩) (o_ (As 3 (Rh [(0,Cy a0)]) (Mi [(384,Ap 0 0 (Al 1667) [] (Al 1668) [] (Al 1600) r9 false)]) (At 3 (Ah (Hf rfl (o_ (As 2 (Rh [(27,Cy a0),(28,iV (a0.length:Int)),(29,iV 0)]) (Mi [(384,Ap 0 0 (Al 1667) [] (Al 1668) [] (Al 1600) r9 false)]) (Ci (bb h0 fun r49 e50 h0=>Df (R:=(fun S=>∃p37:Int,∃p38:Int,∃p39:List Af,∃p40:List Ad,∃p41:List Int,∃p42:Bool,.inl (p37,p38,p39,p40,p41,p42)=r49∧S=⟨Rh [],Mi [(384,Ap p37 p38 (Al 1667) p39 (Al 1668) p40 (Al 1600) p41 p42)],[]⟩)) (Sp a0) (fun s S=>match s with | (p17,p18,p19,p20,p21,p22,p23)=>S=⟨Rh [(27,Cy a0),(28,iV (a0.length:Int)),(29,iV p17)],Mi [(384,Ap p18 p19 (Al 1667) p20 (Al 1668) p21 (Al 1600) p22 p23)],[]⟩) e50 _ (Er (by kernel_rfl)) rfl 1 (fun _=>rfl) ?_ ?_)))))))))))))
   ·rintro S _ hfg ⟨p37,p38,p39,p40,p41,p42,rfl,rfl⟩
    refine Dy _ hfg (At 3 (Ah (bb h0 fun r51 e52 h0=>Il (H48 (Ag.mk (Ak.mk p37 p38 p39) p40 p41 p42) r51 e52) (o_ (As 2 (Rh [(40,.bool (!r51))]) (Mi [(384,Ap p37 p38 (Al 1667) p39 (Al 1668) p40 (Al 1600) p41 p42)]) (Cw h0 (fun c53 h0=>?_) (fun c53 h0=>?_)))))))
    ·obtain rfl:=sj h0
     exact Cs 6
    ·obtain rfl:=sj h0
     exact Cs 8
   ·rintro ⟨p17,p18,p19,p20,p21,p22,p23⟩ o1 _ K1 rfl h1 hx1 hK1 hE1 hR1
    refine As 3 (Rh [(27,Cy a0),(28,iV (a0.length:Int)),(29,iV p17),(30,.bool (decide (p17<(a0.length:Int))))]) (Mi [(384,Ap p18 p19 (Al 1667) p20 (Al 1668) p21 (Al 1600) p22 p23)]) (Bk (Cw h1 (fun c43 h1=>?_) (fun c43 h1=>?_)))
    ·refine Mm 5 (Ah (bb h1 fun y44 e45 h1=>Ns rfl rfl e45 (o_ (As 4 (Rh [(8,.ptr 512 0),(27,Cy a0),(28,iV (a0.length:Int)),(29,iV p17)]) (Mi [(384,Ap p18 p19 (Al 1667) p20 (Al 1668) p21 (Al 1600) p22 p23),(512,Cn y44)]) (At 2 (Ah (bb h1 fun r46 e47 h1=>fE [384] [] [1667,1668,1600] (H323 (Ag.mk (Ak.mk p18 p19 p20) p21 p22 p23) y44 r46 e47) (Bq (ar (Bq rfl (ar (af (af (af (Bq rfl rfl))))))) rfl) (o_ (As 2 (Rh [(27,Cy a0),(28,iV (a0.length:Int)),(29,iV p17),(35,.bool (!r46.1))]) (Mi [(384,Bi r46.2 (Al 2176) (Al 2177) (Al 2178))]) (Cw h1 (fun c48 h1=>?_) (fun c48 h1=>?_)))))))))))
     ·obtain rfl:=sj h1
      obtain rfl:=hx1 _ rfl
      obtain rfl:=sj h0
      exact Yy 6 hR1
     ·refine At 6 ?_
      obtain rfl:=sj h1
      exact hK1 _ rfl _ _ (Lz [] [(2176,1667),(2177,1668),(2178,1600)] rfl (by kernel_rfl)) rfl
    ·obtain rfl:=sj h1
     obtain rfl:=hx1 _ rfl
     refine Iw rfl ?_
     exact jn hE1 ⟨_,_,_,_,_,_,rfl,rfl⟩

/- loop.example/g00149/laws.samePairs -/
def Aah:=[k_ 4 (.bool false)]
def Aai:=[m_ 6 0,n_ 7 6,m_ 8 1,n_ 9 8,b_ .neq 10 7 9]
def Aaj:=[k_ 4 (.bool false)]
def Aak:=[i_ 5 0]
def Aal:=[m_ 11 5,m_ 12 0,n_ 13 12,b_ .lss 14 11 13]
def Aam:=tk [m_ 17 0,m_ 18 5,x_ 19 17 18 2,L_ 20 19 2,m_ 21 1,m_ 22 5,x_ 23 21 22 2,L_ 24 23 2,iQ 25 (.eqs true [2,2] (.t 20) (.t 24))] .fin
def Aan:=[k_ 4 (.bool false)]
def Aao:=[m_ 15 5,B_ .add 16 15 1,m_ 5 16]
def Aag:IR:=(.seq (sr Aal (.ite (.t 14) .skip (.exit 0))) (.seq (.block 1 (sd Aam (iz 25 (rr Aan)))) (.reg Aao)))
def Aap:=[k_ 4 (.bool true)]
def c260:De:=⟨2,26,[.t 4],sr Aah (.seq (sr Aai (iz 10 (rr Aaj))) (.seq (sr Aak (Jc 0 Aag)) (rr Aap)))⟩
def K260 (D:Ba):Prop:=∀a0 a1 r,Alj a0 a1=some r→D 260 ⟨[Cy a0,Cy a1],[]⟩ ⟨.bool r,[],[]⟩
theorem F260:K260 (FO C c260):=by
 intro a0 a1 r h0
 refine f0 (As 3 [(0,Cy a0),(1,Cy a1)] [] (At 3 (Ah (Hf rfl (st (Dc rfl tv (Hf rfl (o_ (As 2 [(0,Cy a0),(1,Cy a1),(10,.bool ((a0.length:Int) != (a1.length:Int)))] [] (Cw h0 (fun c1 h0=>?_) (fun c1 h0=>?_)))))))))))
 ·obtain rfl:=sj h0
  exact Cs 4
 ·refine As 6 [(0,Cy a0),(1,Cy a1),(5,iV 0)] [] (Ci (bb h0 fun r22 e23 h0=>Df (R:=(fun S=>.inl ()=r22∧S=⟨[],[],[]⟩)) (Wf a0 a1) (fun s S=>match s with | p8=>S=⟨[(0,Cy a0),(1,Cy a1),(5,iV p8)],[],[]⟩) e23 _ (Er (by kernel_rfl)) rfl 0 (fun _=>rfl) ?_ ?_))
  ·rintro S _ hfg ⟨rfl,rfl⟩
   refine Dy _ hfg ?_
   obtain rfl:=sj h0
   exact Cs 4
  ·rintro p8 o1 _ K1 rfl h1 hx1 hK1 hE1 hR1
   refine At 4 (Ah (Hf rfl (o_ (As 2 [(0,Cy a0),(1,Cy a1),(5,iV p8),(14,.bool (decide (p8<(a0.length:Int))))] [] (Cw h1 (fun c16 h1=>?_) (fun c16 h1=>?_))))))
   ·refine Mm 5 (bb h1 fun y17 e18 h1=>bb h1 fun y19 e20 h1=>At 2 (Bm (d_ (sN rfl rfl rfl e18 (At 3 (Bm (d_ (sN rfl rfl rfl e20 (As 3 [(0,Cy a0),(1,Cy a1),(5,iV p8),(25,.bool (!((y17.key==y19.key)&&((y17.value==y19.value)&&true))))] [] (Cw h1 (fun c21 h1=>?_) (fun c21 h1=>?_)))))))))))
    ·obtain rfl:=sj h1
     obtain rfl:=hx1 _ rfl
     obtain rfl:=sj h0
     exact Yy 4 hR1
    ·refine At 7 ?_
     obtain rfl:=sj h1
     exact kn hK1 rfl rfl
   ·obtain rfl:=sj h1
    obtain rfl:=hx1 _ rfl
    refine Iw rfl ?_
    exact jn hE1 ⟨rfl,rfl⟩

/- loop.example/g00149/laws.sameTable -/
def c41_r0:=[X_ 2 0,X_ 3 1,k_ 4 (.bool false)]
def c41_r1:=[f_ 6 2 0,l_ 7 6 1,f_ 8 3 0,l_ 9 8 1,b_ .neq 10 7 9,m_ 11 10,fF 11 12 2 1,lF 11 13 12 1 false,fF 11 14 3 1,lF 11 15 14 1 false,pF 11 16 (.bin .neq (.t 13) (.t 15)),po 17 11 16,m_ 18 17,fF 18 19 2 2,lF 18 20 19 1 false,pF 18 21 (.len (.t 20)),fF 18 22 3 2,lF 18 23 22 1 false,pF 18 24 (.len (.t 23)),pF 18 25 (.bin .neq (.t 21) (.t 24)),po 26 18 25]
def c41_r2:=[k_ 4 (.bool false)]
def c41_r3:=[i_ 5 0]
def c41_r4:=[m_ 27 5,f_ 28 2 2,l_ 29 28 1,n_ 30 29,b_ .lss 31 27 30]
def c41_r5:=tk [f_ 34 2 2,l_ 35 34 1,m_ 36 5,x_ 37 35 36 4,L_ 38 37 4,f_ 39 3 2,l_ 40 39 1,m_ 41 5,x_ 42 40 41 4,L_ 43 42 4,iQ 44 (.eqs true [0,0,0,1] (.t 38) (.t 43))] .fin
def c41_r6:=[k_ 4 (.bool false)]
def c41_r7:=[m_ 32 5,B_ .add 33 32 1,m_ 5 33]
def c41_l0:IR:=(.seq (sr c41_r4 (.ite (.t 31) .skip (.exit 0))) (.seq (.block 1 (sd c41_r5 (iz 44 (rr c41_r6)))) (.reg c41_r7)))
def c41_r8:=[k_ 4 (.bool true)]
def c41:De:=⟨2,45,[.t 4],sr c41_r0 (.seq (sr c41_r1 (iz 26 (rr c41_r2))) (.seq (sr c41_r3 (Jc 0 c41_l0)) (rr c41_r8)))⟩
def K41 (D:Ba):Prop:=∀a0 a1 r,g41 a0 a1=some r→D 41 ⟨[.agg (Bh a0),.agg (Bh a1)],[]⟩ ⟨.bool r,[],[]⟩
abbrev hY:=fun (r:List (Nat×V))=>(2,.ptr 128 0)::(3,.ptr 192 0)::r
abbrev hZ:=fun x0 x1 (r:List (Nat×List V))=>(128,Bh x0)::(192,Bh x1)::r
theorem F41:K41 (FO C c41):=by
 intro a0 a1 r h0
 refine f0 (As 5 (hY []) (hZ a0 a1 []) (Hj 17 (Ah (st (Ep (u:=iV (a0.Ac.length:Int)) rfl (fun hg=>(Mu (e:=Bg) (l0:=a0.Ac) rfl rfl (fun _=>hg))) (o_ (Hj 2 (Ah (st (Ep (u:=iV (a1.Ac.length:Int)) rfl (fun hg=>(Mu (e:=Bg) (l0:=a1.Ac) rfl rfl (fun _=>hg))) (st (Ep (u:=.bool ((a0.Ac.length:Int) != (a1.Ac.length:Int))) rfl (fun hg=>(Bw ⟨(fun _=>hg),(fun _=>hg),tv⟩ rfl tv)) ?_))))))))))))
 refine o_ (Hj 2 (bv h0 fun v1 e2 h0=>Dy ⟨hY [(26,.bool v1)],hZ a0 a1 [],[]⟩ (Er (by subst e2; kernel_rfl)) (Cw h0 (fun c3 h0=>?_) (fun c3 h0=>?_))))
 ·obtain rfl:=sj h0
  exact Cs 4
 ·refine As 6 (hY [(5,iV 0)]) (hZ a0 a1 []) (Ci (bb h0 fun r30 e31 h0=>Df (R:=(fun S=>.inl ()=r30∧S=⟨[],[],[]⟩)) (cR a0 a1) (fun s S=>match s with | p12=>S=⟨hY [(5,iV p12)],hZ a0 a1 [],[]⟩) e31 _ (Er (by kernel_rfl)) rfl 0 (fun _=>rfl) ?_ ?_))
  ·rintro S _ hfg ⟨rfl,rfl⟩
   refine Dy _ hfg ?_
   obtain rfl:=sj h0
   exact Cs 4
  ·rintro p12 o1 _ K1 rfl h1 hx1 hK1 hE1 hR1
   refine At 5 (Ah (Hf rfl (o_ (As 2 (hY [(5,iV p12),(31,.bool (decide (p12<(a0.Ac.length:Int))))]) (hZ a0 a1 []) (Cw h1 (fun c22 h1=>?_) (fun c22 h1=>?_))))))
   ·refine Mm 5 (bb h1 fun y23 e24 h1=>bb h1 fun y25 e26 h1=>At 3 (Bm (d_ (sN rfl rfl rfl e24 (At 4 (Bm (d_ (sN rfl rfl rfl e26 (At 3 (bv h1 fun v27 e28 h1=>Dy ⟨hY [(5,iV p12),(44,.bool v27)],hZ a0 a1 [],[]⟩ (Er (by subst e28; kernel_rfl)) (Cw h1 (fun c29 h1=>?_) (fun c29 h1=>?_))))))))))))
    ·obtain rfl:=sj h1
     obtain rfl:=hx1 _ rfl
     obtain rfl:=sj h0
     exact Yy 4 hR1
    ·refine At 7 ?_
     obtain rfl:=sj h1
     exact kn hK1 rfl rfl
   ·obtain rfl:=sj h1
    obtain rfl:=hx1 _ rfl
    refine Iw rfl ?_
    exact jn hE1 ⟨rfl,rfl⟩

/- loop.example/g00149/laws.sameInts -/
def c52_r0:=[k_ 4 (.bool false)]
def c52_r1:=[m_ 6 0,n_ 7 6,m_ 8 1,n_ 9 8,b_ .neq 10 7 9]
def c52_r2:=[k_ 4 (.bool false)]
def c52_r3:=[i_ 5 0]
def c52_r4:=[m_ 11 5,m_ 12 0,n_ 13 12,b_ .lss 14 11 13]
def c52_r5:=tk [m_ 17 0,m_ 18 5,x_ 19 17 18 1,l_ 20 19 1,m_ 21 1,m_ 22 5,x_ 23 21 22 1,l_ 24 23 1,b_ .neq 25 20 24] .fin
def c52_r6:=[k_ 4 (.bool false)]
def c52_r7:=[m_ 15 5,B_ .add 16 15 1,m_ 5 16]
def c52_l0:IR:=(.seq (sr c52_r4 (.ite (.t 14) .skip (.exit 0))) (.seq (.block 1 (sd c52_r5 (iz 25 (rr c52_r6)))) (.reg c52_r7)))
def c52_r8:=[k_ 4 (.bool true)]
def c52:De:=⟨2,26,[.t 4],sr c52_r0 (.seq (sr c52_r1 (iz 10 (rr c52_r2))) (.seq (sr c52_r3 (Jc 0 c52_l0)) (rr c52_r8)))⟩
def K52 (D:Ba):Prop:=∀a0 a1 r,g52 a0 a1=some r→D 52 ⟨[lI a0,lI a1],[]⟩ ⟨.bool r,[],[]⟩
theorem F52:K52 (FO C c52):=by
 intro a0 a1 r h0
 refine f0 (As 3 [(0,lI a0),(1,lI a1)] [] (At 3 (Ah (Hf rfl (st (Dc rfl tv (Hf rfl (o_ (As 2 [(0,lI a0),(1,lI a1),(10,.bool ((a0.length:Int) != (a1.length:Int)))] [] (Cw h0 (fun c1 h0=>?_) (fun c1 h0=>?_)))))))))))
 ·obtain rfl:=sj h0
  exact Cs 4
 ·refine As 6 [(0,lI a0),(1,lI a1),(5,iV 0)] [] (Ci (bb h0 fun r22 e23 h0=>Df (R:=(fun S=>.inl ()=r22∧S=⟨[],[],[]⟩)) (cU a0 a1) (fun s S=>match s with | p8=>S=⟨[(0,lI a0),(1,lI a1),(5,iV p8)],[],[]⟩) e23 _ (Er (by kernel_rfl)) rfl 0 (fun _=>rfl) ?_ ?_))
  ·rintro S _ hfg ⟨rfl,rfl⟩
   refine Dy _ hfg ?_
   obtain rfl:=sj h0
   exact Cs 4
  ·rintro p8 o1 _ K1 rfl h1 hx1 hK1 hE1 hR1
   refine At 4 (Ah (Hf rfl (o_ (As 2 [(0,lI a0),(1,lI a1),(5,iV p8),(14,.bool (decide (p8<(a0.length:Int))))] [] (Cw h1 (fun c16 h1=>?_) (fun c16 h1=>?_))))))
   ·refine Mm 5 (bb h1 fun y17 e18 h1=>bb h1 fun y19 e20 h1=>At 2 (Bm (d_ (sN rfl rfl rfl e18 (At 3 (Bm (d_ (sN rfl rfl rfl e20 (As 3 [(0,lI a0),(1,lI a1),(5,iV p8),(25,.bool (y17 != y19))] [] (Cw h1 (fun c21 h1=>?_) (fun c21 h1=>?_)))))))))))
    ·obtain rfl:=sj h1
     obtain rfl:=hx1 _ rfl
     obtain rfl:=sj h0
     exact Yy 4 hR1
    ·refine At 7 ?_
     obtain rfl:=sj h1
     exact kn hK1 rfl rfl
   ·obtain rfl:=sj h1
    obtain rfl:=hx1 _ rfl
    refine Iw rfl ?_
    exact jn hE1 ⟨rfl,rfl⟩

/- loop.example/g00149/laws.sameVault -/
def Aar:=[X_ 2 0,X_ 3 1,k_ 4 (.bool false)]
def Aas:List Bj:=[f_ 6 2 0,L_ 7 6 3,f_ 8 3 0,L_ 9 8 3,q_ 10 41 [.t 7,.t 9],N_ 11 10,m_ 12 11,fF 12 13 2 5,lF 12 14 13 1 false,fF 12 15 3 5,lF 12 16 15 1 false,pF 12 17 (.binB .neq (.t 14) (.t 16)),po 18 12 17,m_ 19 18,fF 19 20 2 3,lF 19 21 20 1 false,pF 19 22 (.len (.t 21)),fF 19 23 3 3,lF 19 24 23 1 false,pF 19 25 (.len (.t 24)),pF 19 26 (.bin .neq (.t 22) (.t 25)),po 27 19 26,m_ 28 27,fF 28 29 2 4,lF 28 30 29 1 false,fF 28 31 3 4,lF 28 32 31 1 false,⟨some 33,.call 52 [.t 30,.t 32],some (28,false)⟩,pF 28 34 (.un .not (.t 33)),po 35 28 34]
def Aat:=[k_ 4 (.bool false)]
def Aau:=[i_ 5 0]
def Aav:=[m_ 36 5,f_ 37 2 3,l_ 38 37 1,n_ 39 38,b_ .lss 40 36 39]
def Aaw:=tk [f_ 43 2 3,l_ 44 43 1,m_ 45 5,x_ 46 44 45 2,L_ 47 46 2,f_ 48 3 3,l_ 49 48 1,m_ 50 5,x_ 51 49 50 2,L_ 52 51 2,iQ 53 (.eqs true [0,1] (.t 47) (.t 52))] .fin
def Aax:=[k_ 4 (.bool false)]
def Aay:=[m_ 41 5,B_ .add 42 41 1,m_ 5 42]
def Aaq:IR:=(.seq (sr Aav (.ite (.t 40) .skip (.exit 0))) (.seq (.block 1 (sd Aaw (iz 53 (rr Aax)))) (.reg Aay)))
def Aaz:=[k_ 4 (.bool true)]
def c261:De:=⟨2,54,[.t 4],sr Aar (.seq (sr Aas (iz 35 (rr Aat))) (.seq (sr Aau (Jc 0 Aaq)) (rr Aaz)))⟩
def K261 (D:Ba):Prop:=∀a0 a1 r,IP a0 a1=some r→D 261 ⟨[.agg (Ax a0),.agg (Ax a1)],[]⟩ ⟨.bool r,[],[]⟩
abbrev Yr:=fun (r:List (Nat×V))=>(2,.ptr 128 0)::(3,.ptr 192 0)::r
abbrev Ys:=fun x0 x1 (r:List (Nat×List V))=>(128,Ax x0)::(192,Ax x1)::r
theorem F261 (H41:K41 C) (H52:K52 C):K261 (FO C c261):=by
 intro a0 a1 r h0
 refine f0 (As 5 (Yr []) (Ys a0 a1 []) (At 6 (Ah (bb h0 fun r1 e2 h0=>Il (H41 a0.Ab a1.Ab r1 e2) (o_ (At 2 (Ah (st (Ep (u:=.ptr 128 5) rfl (fun hg=>(Bw ⟨tv,tv⟩ rfl tv)) (st (Ep (u:=.bool a0.Ai) rfl (fun hg=>(Bw ⟨(fun _=>hg),tv⟩ rfl (nl rfl))) (st (Ep (u:=.ptr 192 5) rfl (fun hg=>(Bw ⟨tv,tv⟩ rfl tv)) (st (Ep (u:=.bool a1.Ai) rfl (fun hg=>(Bw ⟨(fun _=>hg),tv⟩ rfl (nl rfl))) (st (Ep (u:=.bool (!(a0.Ai==a1.Ai))) rfl (fun hg=>(Bw ⟨(fun _=>hg),(fun _=>hg),tv⟩ rfl tv)) (st (Hp rfl rfl rfl tv (fun h=>lN h) rfl (st (Dc rfl tv (st (Ep (u:=.ptr 128 3) rfl (fun hg=>(Bw ⟨tv,tv⟩ rfl tv)) (st (Ep (u:=Cj a0.Aa) rfl (fun hg=>(Bw ⟨(fun _=>hg),tv⟩ rfl (nl rfl))) (st (Ep (u:=iV (a0.Aa.length:Int)) rfl (fun hg=>(Mu (e:=Cd) (l0:=a0.Aa) rfl rfl (fun _=>hg))) (st (Ep (u:=.ptr 192 3) rfl (fun hg=>(Bw ⟨tv,tv⟩ rfl tv)) (st (Ep (u:=Cj a1.Aa) rfl (fun hg=>(Bw ⟨(fun _=>hg),tv⟩ rfl (nl rfl))) (st (Ep (u:=iV (a1.Aa.length:Int)) rfl (fun hg=>(Mu (e:=Cd) (l0:=a1.Aa) rfl rfl (fun _=>hg))) (st (Ep (u:=.bool ((a0.Aa.length:Int) != (a1.Aa.length:Int))) rfl (fun hg=>(Bw ⟨(fun _=>hg),(fun _=>hg),tv⟩ rfl tv)) (st (Hp rfl rfl rfl tv (fun h=>lN h) rfl (st (Dc rfl tv (st (Ep (u:=.ptr 128 4) rfl (fun hg=>(Bw ⟨tv,tv⟩ rfl tv)) (st (Ep (u:=lI a0.Ae) rfl (fun hg=>(Bw ⟨(fun _=>hg),tv⟩ rfl (nl rfl))) (st (Ep (u:=.ptr 192 4) rfl (fun hg=>(Bw ⟨tv,tv⟩ rfl tv)) (st (Ep (u:=lI a1.Ae) rfl (fun hg=>(Bw ⟨(fun _=>hg),tv⟩ rfl (nl rfl))) (bb h0 fun r3 e4 h0=>st (En (r:=.bool r3) rfl false (fun hg=>H52 a0.Ae a1.Ae r3 (ip hg e4)) ⟨(fun hg=>hg),(fun hg=>hg),tv⟩ (fun _=>rfl) (fun _=>rfl) (fun _=>rfl) (fun h=>nomatch h) (st (Ep (u:=.bool (!r3)) rfl (fun hg=>(Bw ⟨(fun _=>hg),tv⟩ rfl tv)) (st (Hp rfl rfl rfl tv (fun h=>lN h) rfl (In (bv h0 fun v5 e6 h0=>Dy ⟨Yr [(35,.bool v5)],Ys a0 a1 [],[]⟩ (Er (by subst e6; kernel_rfl)) (Cw h0 (fun c7 h0=>?_) (fun c7 h0=>?_)))))))))))))))))))))))))))))))))))))))))))))))))))))))))
 ·obtain rfl:=sj h0
  exact Cs 4
 ·refine As 6 (Yr [(5,iV 0)]) (Ys a0 a1 []) (Ci (bb h0 fun r28 e29 h0=>Df (R:=(fun S=>.inl ()=r28∧S=⟨[],[],[]⟩)) (Wg a0 a1) (fun s S=>match s with | p14=>S=⟨Yr [(5,iV p14)],Ys a0 a1 [],[]⟩) e29 _ (Er (by kernel_rfl)) rfl 0 (fun _=>rfl) ?_ ?_))
  ·rintro S _ hfg ⟨rfl,rfl⟩
   refine Dy _ hfg ?_
   obtain rfl:=sj h0
   exact Cs 4
  ·rintro p14 o1 _ K1 rfl h1 hx1 hK1 hE1 hR1
   refine At 5 (Ah (Hf rfl (o_ (As 2 (Yr [(5,iV p14),(40,.bool (decide (p14<(a0.Aa.length:Int))))]) (Ys a0 a1 []) (Cw h1 (fun c22 h1=>?_) (fun c22 h1=>?_))))))
   ·refine Mm 5 (bb h1 fun y23 e24 h1=>bb h1 fun y25 e26 h1=>At 3 (Bm (d_ (sN rfl rfl rfl e24 (At 4 (Bm (d_ (sN rfl rfl rfl e26 (As 3 (Yr [(5,iV p14),(53,.bool (!((y23.Bb==y25.Bb)&&((y23.Ij==y25.Ij)&&true))))]) (Ys a0 a1 []) (Cw h1 (fun c27 h1=>?_) (fun c27 h1=>?_)))))))))))
    ·obtain rfl:=sj h1
     obtain rfl:=hx1 _ rfl
     obtain rfl:=sj h0
     exact Yy 4 hR1
    ·refine At 7 ?_
     obtain rfl:=sj h1
     exact kn hK1 rfl rfl
   ·obtain rfl:=sj h1
    obtain rfl:=hx1 _ rfl
    refine Iw rfl ?_
    exact jn hE1 ⟨rfl,rfl⟩

/- (loop.example/g00149/impl.Device).flush -/
def AaS:=[X_ 1 0,a_ 2 [.own 129 0 1 [],.own 130 0 2 []]]
def AaT:List Bj:=[L_ 3 1 2,q_ 4 263 [.t 3],⟨some 5,.p (.build [.own 321 0 1 [],.own 322 0 2 []] [(0,1,.t 4)]),none⟩,s_ 2 5 2]
def c267:De:=⟨1,6,[.cell 2 2 true],sr AaS (rr AaT)⟩
def K267 (D:Ba):Prop:=∀a0 r,g267 a0=some r→D 267 ⟨[.agg (Ch a0)],[]⟩ ⟨.agg (By r (Al 0) (Al 1)),[],[]⟩
theorem F267 (H263:pH C):K267 (FO C c267):=by
 intro a0 r h0
 refine f0 (As 4 [(1,.ptr 64 0),(2,.ptr 128 0)] [(64,Ch a0),(128,[Eo 129 [],Bo 130 []])] (At 2 (Ah (bb h0 fun r1 e2 h0=>Ji (H263 a0 r1 e2) (af rfl) (st (c_ (v:=.agg [Eo 256 r1,Bo 322 []]) (Bw ⟨tv,tv⟩ rfl ⟨⟨rfl,rfl,nl rfl⟩,tv⟩) (o_ ?_)))))))
 obtain rfl:=sj h0
 exact Cs 3

/- loop.example/g00149/impl.big -/
def Adb:List Bj:=[⟨some 4,.nilS 1,none⟩]
def Adc:List Bj:=[m_ 7 1,⟨some 8,.make 1 1 [.int .u8 0] (.t 7) (.t 7),none⟩,m_ 5 8]
def Ade:=[m_ 9 5,n_ 10 9,i_ 11 0]
def Adf:=[b_ .lss 12 11 10]
def Adg:=[m_ 13 11,m_ 6 13]
def Adh:List Bj:=[m_ 14 5,m_ 15 1,B_ .sub 16 15 1,m_ 17 6,b_ .sub 18 16 17,m_ 19 0,m_ 20 6,⟨some 21,.p (.bin .mul (.c (iV 8)) (.t 20)),none⟩,b_ .shr 22 19 21,iQ 23 (.conv .u8 (.t 22)),x_ 24 14 18 1,s_ 24 23 1]
def Adi:=[B_ .add 25 11 1,m_ 11 25]
def Ada:IR:=(sr Adf (.seq (.ite (.t 12) .skip (.exit 0)) (.seq (.block 1 (sr Adg (.reg Adh))) (.reg Adi))))
def Adj:=[m_ 26 5,m_ 4 26]
def c331:De:=⟨2,27,[.t 4],sr Adb (sr Adc (.seq (sr Ade (Jc 0 Ada)) (rr Adj)))⟩
def NU (D:Ba):Prop:=∀a0 a1 r,jP a0 a1=some r→D 331 ⟨[iV a0,iV a1],[]⟩ ⟨Eo 0 r,[],[]⟩
theorem F331:NU (FO C c331):=by
 intro a0 a1 r h0
 refine f0 (As 3 [(0,iV a0),(1,iV a1)] [] (Bk (Ah (st (Dc rfl tv (gg h0 fun c1 h0=>gg h0 fun c2 h0=>st (make_ (e:=Gh) (0:UInt8) rfl rfl c1 rfl c2 rfl (o_ (As 2 [(0,iV a0),(1,iV a1),(5,Eo 512 (List.replicate a1.toNat (0:UInt8)))] [] (At 3 (Ah (Qb rfl (o_ (As 2 [(0,iV a0),(1,iV a1),(5,Eo 512 (List.replicate a1.toNat (0:UInt8))),(10,iV ((List.replicate a1.toNat (0:UInt8)).length:Int)),(11,iV 0)] [] (Ci (bb h0 fun r26 e27 h0=>Df (R:=(fun S=>∃p19:List UInt8,p19=r26∧S=⟨[(5,Eo 512 p19)],[],[]⟩)) (Sv a0 a1) (fun s S=>match s with | (p9,p10)=>S=⟨[(0,iV a0),(1,iV a1),(5,Eo 512 p9),(10,iV ((List.replicate a1.toNat (0:UInt8)).length:Int)),(11,iV p10)],[],[]⟩) e27 _ (Er (by kernel_rfl)) rfl 0 (fun _=>rfl) ?_ ?_))))))))))))))))
 ·rintro S _ hfg ⟨p19,rfl,rfl⟩
  refine Dy _ hfg ?_
  obtain rfl:=sj h0
  exact Cs 5
 ·rintro ⟨p9,p10⟩ o1 _ K1 rfl h1 hx1 hK1 hE1 hR1
  refine As 3 [(0,iV a0),(1,iV a1),(5,Eo 512 p9),(10,iV ((List.replicate a1.toNat (0:UInt8)).length:Int)),(11,iV p10),(12,.bool (decide (p10<((List.replicate a1.toNat (0:UInt8)).length:Int))))] [] (Bk (Cw h1 (fun eZ h1=>?_) (fun eZ h1=>?_)))
  ·refine As 8 [(0,iV a0),(1,iV a1),(5,Eo 512 p9),(6,iV p10),(10,iV ((List.replicate a1.toNat (0:UInt8)).length:Int)),(11,iV p10)] [] (At 8 (Ah (gg h1 fun c21 h1=>st (c_ (Bw ⟨tv,tv,tv⟩ rfl c21) (st (c_ (cb8 (Bw ⟨tv,tv⟩ rfl tv)) (bb h1 fun y22 e23 h1=>iO rfl rfl e23 (bb h1 fun y24 e25 h1=>NJ (b8 (Kc .i64 a0 (wi (8*p10)))) rfl rfl e25 (o_ (As 2 [(0,iV a0),(1,iV a1),(5,.own 512 0 1 ((p9.set ((wi ((wi (a1-1))-p10)).toNat) (b8 (Kc .i64 a0 (wi (8*p10))))).map Gh)),(10,iV ((List.replicate a1.toNat (0:UInt8)).length:Int)),(11,iV p10)] [] (At 3 ?_)))))))))))
   obtain rfl:=sj h1
   exact kn hK1 rfl rfl
  ·obtain rfl:=sj h1
   obtain rfl:=hx1 _ rfl
   refine Iw rfl ?_
   exact jn hE1 ⟨_,rfl,rfl⟩

/- loop.example/g00149/impl.frame -/
def Abs:List Bj:=[⟨some 2,.nilS 1,none⟩]
def Abt:List Bj:=[m_ 4 0,n_ 5 4,B_ .add 6 5 1,q_ 7 331 [.t 6,.c (iV 2)],m_ 8 0,⟨some 9,.app 1 1 (.t 7) (.t 8),none⟩,m_ 3 9]
def Abu:List Bj:=[m_ 10 3,m_ 11 3,q_ 12 332 [.t 11],q_ 13 331 [.t 12,.c (iV 4)],⟨some 14,.app 1 1 (.t 10) (.t 13),none⟩,m_ 2 14]
def c274:De:=⟨1,15,[.t 2],sr Abs (sr Abt (rr Abu))⟩
def K274 (D:Ba):Prop:=∀a0 r,Als a0=some r→D 274 ⟨[Eb a0],[]⟩ ⟨Eo 0 r,[],[]⟩
theorem F274 (H331:NU C) (H332:NV C):K274 (FO C c274):=by
 intro a0 r h0
 refine f0 (As 3 [(0,Eb a0)] [] (Bk (Ah (st (Dc rfl tv (Hf rfl (st (c_ (Bw t3 rfl tv) (bb h0 fun r1 e2 h0=>Ji (H331 (wi ((a0.length:Int)+1)) 2 r1 e2) (af rfl) (st (Dc rfl tv (gg h0 fun c3 h0=>st (Fp (e:=Gh) (l0:=r1) (l1:=a0) rfl rfl tv rfl (by decide) c3 (o_ (As 2 [(3,Eo 448 (r1++a0))] [] (At 3 (Ah (bb h0 fun r4 e5 h0=>Il (H332 (r1++a0) r4 e5) (bb h0 fun r6 e7 h0=>Ji (H331 r4 4 r6 e7) (af rfl) (gg h0 fun c8 h0=>st (Fp (e:=Gh) (l0:=r1++a0) (l1:=r6) rfl rfl tv rfl (by decide) c8 (o_ ?_))))))))))))))))))))))
 obtain rfl:=sj h0
 exact Cs 3

/- (loop.example/g00149/impl.Device).appended -/
def Abk:=[X_ 2 0,a_ 4 [.own 257 0 1 [],.own 258 0 2 []],i_ 5 0]
def Abl:=[m_ 9 1,n_ 10 9,B_ .gtr 11 10 2000]
def Abm:=[iQ 12 (.build [.own 769 0 1 [],.own 770 0 2 []] []),s_ 4 12 2,i_ 5 4]
def Abn:=[L_ 14 2 2,q_ 15 263 [.t 14],q_ 16 275 [.t 15],m_ 13 16,e_ 17 13 0,e_ 18 13 1,m_ 6 17,m_ 7 18]
def Abo:=[m_ 19 1,q_ 20 274 [.t 19],m_ 8 20]
def Abp:=[m_ 21 7,m_ 22 8,n_ 23 22,q_ 24 327 [.t 21,.t 23],N_ 25 24]
def Abq:=[iQ 26 (.build [.own 1665 0 1 [],.own 1666 0 2 []] []),s_ 4 26 2,i_ 5 9]
def Abr:=[L_ 27 2 2,m_ 28 7,m_ 29 8,q_ 30 328 [.t 27,.t 28,.t 29],q_ 31 267 [.t 30],s_ 4 31 2,i_ 5 0]
def c273:De:=⟨2,32,[.cell 4 2 true,.t 5],sr Abk (.seq (sr Abl (iz 11 (rr Abm))) (sr Abn (sr Abo (.seq (sr Abp (iz 25 (rr Abq))) (rr Abr)))))⟩
def K273 (D:Ba):Prop:=∀a0 a1 r,Alr a0 a1=some r→D 273 ⟨[.agg (Ch a0),Eb a1],[]⟩ ⟨.tup [.agg (By r.1 (Al 0) (Al 1)),iV r.2],[],[]⟩
abbrev dX:=fun x0 (r:List (Nat×List V))=>(128,Ch x0)::(256,[Eo 257 [],Bo 258 []])::r
abbrev dY:=fun (r:List (Nat×V))=>(2,.ptr 128 0)::(4,.ptr 256 0)::r
theorem F273 (H263:pH C) (H267:K267 C) (H274:K274 C) (H275:zA C) (H327:NS C) (H328:NT C):K273 (FO C c273):=by
 intro a0 a1 r h0
 refine f0 (As 5 (dY [(1,Eb a1)]) (dX a0 []) (At 3 (Ah (Hf rfl (o_ (As 2 (dY [(1,Eb a1),(11,.bool (decide ((a1.length:Int)>2000)))]) (dX a0 []) (Cw h0 (fun c1 h0=>?_) (fun c1 h0=>?_))))))))
 ·obtain rfl:=sj h0
  exact Cs 6
 ·refine At 4 (Ah (bb h0 fun r2 e3 h0=>Ji (H263 a0 r2 e3) (af rfl) (bb h0 fun r4 e5 h0=>st (Cm (r:=.tup [.own 0 0 1 (r4.1.map (eL 1 Gh)),iV r4.2]) true (H275 r2 r4 e5) ⟨tv,tv⟩ rfl rfl (fun h=>nomatch h) (o_ (As 6 (dY [(1,Eb a1),(7,iV r4.2)]) (dX a0 []) (Bk (Ah (st (Dc rfl tv (bb h0 fun r6 e7 h0=>Ji (H274 a1 r6 e7) (af rfl) (o_ (As 2 (dY [(7,iV r4.2),(8,Eo 1280 r6)]) (dX a0 []) (At 4 (Ah (Qb rfl (bb h0 fun r8 e9 h0=>Il (H327 r4.2 (r6.length:Int) r8 e9) (o_ (As 2 (dY [(7,iV r4.2),(8,Eo 1280 r6),(25,.bool (!r8))]) (dX a0 []) (Cw h0 (fun c10 h0=>?_) (fun c10 h0=>?_)))))))))))))))))))))
  ·obtain rfl:=sj h0
   exact Cs 6
  ·refine At 6 (Ah (bb h0 fun r11 e12 h0=>st (Cm (r:=.agg (By r11 (Al 0) (Al 1))) true (H328 a0 r4.2 r6 r11 e12) ⟨tv,tv,tv,tv⟩ rfl rfl (fun h=>nomatch h) (bb h0 fun r13 e14 h0=>st (Cm (r:=.agg (By r13 (Al 0) (Al 1))) true (H267 r11 r13 e14) ⟨tv,tv⟩ rfl rfl (fun h=>nomatch h) (o_ ?_))))))
   obtain rfl:=sj h0
   exact Cs 4

/- loop.example/g00149/impl.isList[loop.example/g00149/impl.Change] -/
def AeZ:=[k_ 2 (.bool false)]
def Afa:=[m_ 3 0,n_ 4 3,B_ .leq 5 4 4096,m_ 2 5]
def c393:De:=⟨1,6,[.t 2],sr AeZ (rr Afa)⟩
def K393 (D:Ba):Prop:=∀a0 r,AlI a0=some r→D 393 ⟨[Co a0],[]⟩ ⟨.bool r,[],[]⟩
theorem F393:K393 (FO C c393):=by
 intro a0 r h0
 refine f0 (As 3 [(0,Co a0)] [] (Bk (Ah (st (Dc rfl tv (Hf rfl (o_ ?_)))))))
 obtain rfl:=sj h0
 exact Cs 4

/- slices.IndexFunc[[]loop.example/g00149/impl.Change,loop.example/g00149/impl.Change] -/
def Ahd:=[i_ 4 0]
def Ahe:=[m_ 6 0,n_ 7 6,i_ 8 0]
def Ahf:=[b_ .lss 9 8 7]
def Ahg:=[m_ 10 8,m_ 5 10]
def Ahh:List Bj:=[m_ 11 1,m_ 12 0,m_ 13 5,x_ 14 12 13 3,L_ 15 14 3,⟨some 16,.callv (.t 11) [.t 15],none⟩]
def Ahi:=[m_ 17 5,m_ 4 17]
def Ahj:=[B_ .add 18 8 1,m_ 8 18]
def Ahc:IR:=(sr Ahf (.seq (.ite (.t 9) .skip (.exit 0)) (.seq (.block 1 (sr Ahg (sr Ahh (iz 16 (rr Ahi))))) (.reg Ahj))))
def Ahk:=[i_ 4 (-1)]
def c429:De:=⟨2,19,[.t 4],sr Ahd (.seq (sr Ahe (Jc 0 Ahc)) (rr Ahk))⟩
def K429 (C:Ba) (D:Ba:=C):Prop:=∀(a0:List Ar) (f1:Nat) (k1:List V) (is1:Ar→Option Bool) (hs1:Kp k1) (hf1:∀(x0:Ar) r,is1 x0=some r→C f1 ⟨.agg (Dn x0)::k1,[]⟩ ⟨.bool r,[],[]⟩) (r:Int),g429 a0 is1=some r→D 429 ⟨[Co a0,.clo f1 k1],[]⟩ ⟨iV r,[],[]⟩
theorem F429:K429 C (FO C c429):=by
 intro a0 f1 k1 is1 hs1 hf1 r h0
 refine f0 (As 3 [(0,Co a0),(1,.clo f1 k1)] [] (At 3 (Ah (Hf rfl (o_ (As 2 [(0,Co a0),(1,.clo f1 k1),(7,iV (a0.length:Int)),(8,iV 0)] [] (Ci (bb h0 fun r21 e22 h0=>Df (R:=(fun S=>.inl ()=r21∧S=⟨[],[],[]⟩)) (tZ a0 is1) (fun s S=>match s with | p7=>S=⟨[(0,Co a0),(1,.clo f1 k1),(7,iV (a0.length:Int)),(8,iV p7)],[],[]⟩) e22 _ (Er (by kernel_rfl)) rfl 0 (fun _=>rfl) ?_ ?_))))))))
 ·rintro S _ hfg ⟨rfl,rfl⟩
  refine Dy _ hfg ?_
  obtain rfl:=sj h0
  exact Cs 4
 ·rintro p7 o1 _ K1 rfl h1 hx1 hK1 hE1 hR1
  refine As 3 [(0,Co a0),(1,.clo f1 k1),(7,iV (a0.length:Int)),(8,iV p7),(9,.bool (decide (p7<(a0.length:Int))))] [] (Bk (Cw h1 (fun c15 h1=>?_) (fun c15 h1=>?_)))
  ·refine As 8 [(0,Co a0),(1,.clo f1 k1),(5,iV p7),(7,iV (a0.length:Int)),(8,iV p7)] [] (At 4 (Ah (bb h1 fun y16 e17 h1=>Ns rfl rfl e17 (st (c_ (v:=.agg (Dn y16)) (Bw ⟨tv,tv⟩ rfl (nl rfl)) (bb h1 fun r18 e19 h1=>st (Gg (r:=.bool r18) rfl false (hf1 _ r18 e19) ⟨tv,tv⟩ (Bq rfl hs1.2.2.1) (Ej rfl (hs1.2.1 _ _ _ _ _)) (fun _=>rfl) (o_ (As 1 [(0,Co a0),(1,.clo f1 k1),(5,iV p7),(7,iV (a0.length:Int)),(8,iV p7),(16,.bool r18)] [] (Cw h1 (fun eZ h1=>?_) (fun eZ h1=>?_)))))))))))
   ·obtain rfl:=sj h1
    obtain rfl:=hx1 _ rfl
    obtain rfl:=sj h0
    exact Yy 5 hR1
   ·refine At 6 ?_
    obtain rfl:=sj h1
    exact kn hK1 rfl rfl
  ·obtain rfl:=sj h1
   obtain rfl:=hx1 _ rfl
   refine Iw rfl ?_
   exact jn hE1 ⟨rfl,rfl⟩

/- slices.ContainsFunc[[]loop.example/g00149/impl.Change,loop.example/g00149/impl.Change] -/
def AgS:=[k_ 4 (.bool false)]
def AgT:=[m_ 5 0,m_ 6 1,q_ 7 429 [.t 5,.t 6],B_ .geq 8 7 0,m_ 4 8]
def c424:De:=⟨2,9,[.t 4],sr AgS (rr AgT)⟩
def K424 (C:Ba) (D:Ba:=C):Prop:=∀(a0:List Ar) (f1:Nat) (k1:List V) (is1:Ar→Option Bool) (hs1:Kp k1) (hf1:∀(x0:Ar) r,is1 x0=some r→C f1 ⟨.agg (Dn x0)::k1,[]⟩ ⟨.bool r,[],[]⟩) (r:Bool),AlZ a0 is1=some r→D 424 ⟨[Co a0,.clo f1 k1],[]⟩ ⟨.bool r,[],[]⟩
theorem F424 (H429:K429 C):K424 C (FO C c424):=by
 intro a0 f1 k1 is1 hs1 hf1 r h0
 refine f0 (As 3 [(0,Co a0),(1,.clo f1 k1)] [] (At 3 (Ah (bb h0 fun r1 e2 h0=>st (Cm (r:=iV r1) false (H429 a0 f1 k1 is1 hs1 hf1 r1 e2) ⟨tv,tv,tv⟩ rfl (Ej rfl (Ej (Yc hs1) rfl)) (fun _=>rfl) (o_ ?_))))))
 obtain rfl:=sj h0
 exact Cs 4

/- loop.example/g00149/impl.areAll[loop.example/g00149/impl.Change]$1 -/
def AgU:=[X_ 2 0,k_ 3 (.bool false)]
def AgV:List Bj:=[l_ 4 1 1,L_ 5 2 3,⟨some 6,.callv (.t 4) [.t 5],none⟩,N_ 7 6,m_ 3 7]
def c425:De:=⟨2,8,[.t 3],sr AgU (rr AgV)⟩
def K425 (C:Ba) (D:Ba:=C):Prop:=∀(a0:Ar) (f1:Nat) (k1:List V) (is1:Ar→Option Bool) (hs1:Kp k1) (hf1:∀(x0:Ar) r,is1 x0=some r→C f1 ⟨.agg (Dn x0)::k1,[]⟩ ⟨.bool r,[],[]⟩) (r:Bool),Amb a0 is1=some r→D 425 ⟨[.agg (Dn a0),.iptr [.clo f1 k1]],[]⟩ ⟨.bool r,[],[]⟩
theorem F425:K425 C (FO C c425):=by
 intro a0 f1 k1 is1 hs1 hf1 r h0
 refine f0 (As 4 [(1,.iptr [.clo f1 k1]),(2,.ptr 128 0)] [(128,Dn a0)] (At 3 (Ah (bb h0 fun r1 e2 h0=>st (Gg (r:=.bool r1) rfl false (hf1 _ r1 e2) ⟨tv,tv⟩ (Bq rfl hs1.2.2.1) (Ej rfl (hs1.2.1 _ _ _ _ _)) (fun _=>rfl) (o_ ?_))))))
 obtain rfl:=sj h0
 exact Cs 4

/- loop.example/g00149/impl.areAll[loop.example/g00149/impl.Change] -/
def AfY:=[X_ 3 1,k_ 4 (.bool false)]
def AfZ:=[m_ 5 0,iQ 6 (.fn 425 [.t 3]),q_ 7 424 [.t 5,.t 6],N_ 8 7,m_ 4 8]
def c413:De:=⟨2,9,[.t 4],sr AfY (rr AfZ)⟩
def K413 (C:Ba) (D:Ba:=C):Prop:=∀(a0:List Ar) (f1:Nat) (k1:List V) (is1:Ar→Option Bool) (hs1:Kp k1) (hf1:∀(x0:Ar) r,is1 x0=some r→C f1 ⟨.agg (Dn x0)::k1,[]⟩ ⟨.bool r,[],[]⟩) (r:Bool),AlS a0 is1=some r→D 413 ⟨[Co a0,.clo f1 k1],[]⟩ ⟨.bool r,[],[]⟩
theorem F413 (H424:K424 C) (H425:K425 C):K413 C (FO C c413):=by
 intro a0 f1 k1 is1 hs1 hf1 r h0
 refine f0 (Bk (Ah (st (vX (cJ hs1) tv rfl (o_ (As 2 [(0,Co a0),(3,.ptr 192 0)] [(192,[.clo f1 k1])] (At 3 (Ah (bb h0 fun r1 e2 h0=>st (Cm (r:=.bool r1) false (H424 a0 425 [.iptr [.clo f1 k1]] (fun z425_0=>Amb z425_0 is1) (⟨fun _ _ _ _ _=>rfl,fun _ _ _ _ _=>rfl,rfl,fun _ _ _ n=>by cases n<;>rfl,fun _=>rfl⟩) (fun z425_0 r h=>H425 z425_0 f1 k1 is1 hs1 hf1 r h) r1 e2) ⟨tv,tv,tv⟩ rfl (Ej rfl (Ej (congrArg (fun z=>V.clo 425 [.iptr [.clo f1 z]]) (hs1.2.2.2.1 _ _ _ _)) rfl)) (fun _=>rfl) (o_ ?_)))))))))))
 obtain rfl:=sj h0
 exact Cs 4

/- loop.example/g00149/impl.isChange -/
def Aga:=[X_ 1 0,k_ 2 (.bool false)]
def Agb:List Bj:=[f_ 3 1 0,l_ 4 3 1,q_ 5 362 [.t 4],m_ 6 5,fT 6 7 1 1,lT 6 8 7 1 false,pT 6 9 (.lenS (.t 8)),pT 6 10 (.bin .leq (.t 9) (.c (iV 400))),pa 11 6 10,m_ 12 11,fT 12 13 1 2,lT 12 14 13 1 false,pT 12 15 (.un .not (.t 14)),mT 12 16 15,fF 16 17 1 1,lF 16 18 17 1 false,pF 16 19 (.bin .eql (.t 18) (.c (.str []))),⟨some 20,.pick (.t 16) (.c (.bool true)) (.t 19),some (12,true)⟩,pa 21 12 20,m_ 2 21]
def c414:De:=⟨1,22,[.t 2],sr Aga (rr Agb)⟩
def OB (D:Ba):Prop:=∀a0 r,qS a0=some r→D 414 ⟨[.agg (Dn a0)],[]⟩ ⟨.bool r,[],[]⟩
theorem F414 (H362:NX C):OB (FO C c414):=by
 intro a0 r h0
 refine f0 (As 4 [(1,.ptr 64 0)] [(64,Dn a0)] (At 3 (Ah (bb h0 fun r1 e2 h0=>Il (H362 a0.key r1 e2) (o_ (Hj 14 (Ah (st (Pk (u:=.bool (bif (!a0.Li) then true else (a0.value==([]:List UInt8)))) rfl (fun hg=>Vy rfl rfl (fun _=>hg) rfl rfl tv (fun h=>Bq hg (lN h)) rfl) (o_ (Hj 3 (bv h0 fun v3 e4 h0=>Dy ⟨[(2,.bool v3)],[],[]⟩ (Er (by subst e4; kernel_rfl)) ?_))))))))))))
 obtain rfl:=sj h0
 exact Kv (Fe rfl rfl rfl rfl rfl tv)

/- loop.example/g00149/impl.isBatch -/
def Afb:=[k_ 2 (.bool false)]
def Afc:List Bj:=[m_ 3 0,n_ 4 3,B_ .leq 5 4 30,m_ 6 5,mT 6 7 0,⟨some 8,.call 413 [.t 7,.c (.clo 414 [])],some (6,true)⟩,pa 9 6 8,m_ 2 9]
def c394:De:=⟨1,10,[.t 2],sr Afb (rr Afc)⟩
def K394 (D:Ba):Prop:=∀a0 r,AlK a0=some r→D 394 ⟨[Co a0],[]⟩ ⟨.bool r,[],[]⟩
theorem F394 (H413:K413 C) (H414:OB C):K394 (FO C c394):=by
 intro a0 r h0
 refine f0 (As 3 [(0,Co a0)] [] (Bk (Ah (st (Dc rfl tv (Hf rfl (o_ (Hj 3 (Ah (bb h0 fun r1 e2 h0=>st (En (r:=.bool r1) rfl false (fun hg=>H413 a0 414 [] (fun z414_0=>qS z414_0) (⟨fun _ _ _ _ _=>rfl,fun _ _ _ _ _=>rfl,rfl,fun _ _ _ n=>by cases n<;>rfl,fun _=>rfl⟩) (fun z414_0 r h=>H414 z414_0 r h) r1 (ip hg e2)) ⟨(fun hg=>hg),tv,tv⟩ (fun _=>rfl) (fun _=>rfl) (fun _=>rfl) (fun h=>nomatch h) (st (Hp rfl rfl rfl (fun h=>tM h) tv rfl (o_ ?_))))))))))))))
 obtain rfl:=sj h0
 exact Cs 3

/- loop.example/g00149/impl.batchBytes -/
def Afe:List Bj:=[⟨some 2,.nilS 1,none⟩]
def Aff:List Bj:=[⟨some 3,.nilS 1,none⟩]
def Afg:=[m_ 7 0,n_ 8 7,i_ 9 0]
def Afh:=[b_ .lss 10 9 8]
def Afi:=[x_ 11 7 9 3,L_ 12 11 3,a_ 5 [.str [],.str [],.bool false],s_ 5 12 3]
def Afj:List Bj:=[m_ 13 3,f_ 14 5 0,l_ 15 14 1,iQ 16 (.lenS (.t 15)),iQ 17 (.conv .u8 (.t 16)),⟨some 18,.mkS 1 [.int .u8 0] 1 [(0,.t 17)],none⟩,⟨some 19,.app 1 1 (.t 13) (.t 18),none⟩,m_ 3 19]
def Afk:List Bj:=[m_ 20 3,f_ 21 5 0,l_ 22 21 1,⟨some 23,.app 1 1 (.t 20) (.t 22),none⟩,m_ 3 23]
def Afl:=[f_ 24 5 1,l_ 25 24 1,iQ 26 (.lenS (.t 25)),B_ .add 27 26 1,m_ 6 27]
def Afm:=[f_ 28 5 2,l_ 29 28 1]
def Afn:=[i_ 6 0]
def DS:=tk [m_ 30 3,m_ 31 6,f_ 34 5 1,l_ 35 34 1] (.alt [l_ 35 34 1,f_ 34 5 1,m_ 30 3] (q_ 32 331 [.t 31,.c (iV 2)]) (.alt [l_ 35 34 1,f_ 34 5 1] ⟨some 33,.app 1 1 (.t 30) (.t 32),none⟩ (.alt [] ⟨some 36,.app 1 1 (.t 33) (.t 35),none⟩ (.alt [] (m_ 3 36) .fin .stop) .stop) .stop) .stop)
def DT:=[B_ .add 37 9 1,m_ 9 37]
def Afd:IR:=(sr Afh (.seq (.ite (.t 10) .skip (.exit 0)) (.seq (.block 1 (sr Afi (sr Afj (sr Afk (sr Afl (.seq (sr Afm (iz 29 (.reg Afn))) (.draw DS))))))) (.reg DT))))
def DU:=[m_ 38 3,m_ 2 38]
def c395:De:=⟨1,39,[.t 2],sr Afe (sr Aff (.seq (sr Afg (Jc 0 Afd)) (rr DU)))⟩
def K395 (D:Ba):Prop:=∀a0 r,AlM a0=some r→D 395 ⟨[Co a0],[]⟩ ⟨Eo 0 r,[],[]⟩
theorem F395 (H331:NU C):K395 (FO C c395):=by
 intro a0 r h0
 refine f0 (As 7 [(0,Co a0),(3,.own 192 0 1 ([].map Gh))] [] (At 3 (Ah (Hf rfl (o_ (As 2 [(3,.own 192 0 1 ([].map Gh)),(7,Co a0),(8,iV (a0.length:Int)),(9,iV 0)] [] (Ci (bb h0 fun r47 e48 h0=>Df (R:=(fun S=>∃p31:List UInt8,p31=r47∧S=⟨[(3,Eo 192 p31)],[],[]⟩)) (bD a0) (fun s S=>match s with | (p14,p15)=>S=⟨[(3,Eo 192 p14),(7,Co a0),(8,iV (a0.length:Int)),(9,iV p15)],[],[]⟩) e48 _ (Er (by kernel_rfl)) rfl 0 (fun _=>rfl) ?_ ?_))))))))
 ·rintro S _ hfg ⟨p31,rfl,rfl⟩
  refine Dy _ hfg ?_
  obtain rfl:=sj h0
  exact Cs 5
 ·rintro ⟨p14,p15⟩ o1 _ K1 rfl h1 hx1 hK1 hE1 hR1
  refine As 3 [(3,Eo 192 p14),(7,Co a0),(8,iV (a0.length:Int)),(9,iV p15),(10,.bool (decide (p15<(a0.length:Int))))] [] (Bk (Cw h1 (fun c32 h1=>?_) (fun c32 h1=>?_)))
  ·refine Mm 5 (Ah (bb h1 fun y33 e34 h1=>Ns rfl rfl e34 (o_ (As 4 [(3,Eo 192 p14),(5,.ptr 320 0),(7,Co a0),(8,iV (a0.length:Int)),(9,iV p15)] [(320,Dn y33)] (At 5 (Ah (st (c_ (cb8 (Bw ⟨tv,tv⟩ rfl tv)) (st (Ky ⟨tv,tv⟩ ⟨⟨nl rfl,rfl,rfl⟩,tv⟩ (gg h1 fun c35 h1=>st (Fp (e:=Gh) (l0:=p14) (l1:=([b8 (y33.key.length:Int)]:List UInt8)) rfl rfl tv rfl (by decide) c35 (o_ (As 2 [(3,Eo 192 (p14++([b8 (y33.key.length:Int)]:List UInt8))),(5,.ptr 320 0),(7,Co a0),(8,iV (a0.length:Int)),(9,iV p15)] [(320,Dn y33)] (At 4 (Ah (gg h1 fun c36 h1=>st (Fp (e:=Gh) (l0:=p14++([b8 (y33.key.length:Int)]:List UInt8)) (l1:=y33.key) rfl rfl tv rfl (by decide) c36 (o_ (As 16 [(3,Eo 192 ((p14++([b8 (y33.key.length:Int)]:List UInt8))++y33.key)),(5,.ptr 320 0),(6,iV (wi ((y33.value.length:Int)+1))),(7,Co a0),(8,iV (a0.length:Int)),(9,iV p15),(29,.bool y33.Li)] [(320,Dn y33)] (Vc (cb:=y33.Li) (fun S=>∃p38:Int,S=⟨[(3,Eo 192 ((p14++([b8 (y33.key.length:Int)]:List UInt8))++y33.key)),(5,.ptr 320 0),(6,iV p38),(7,Co a0),(8,iV (a0.length:Int)),(9,iV p15)],[(320,Dn y33)],[]⟩∧Wn p14 p15 y33 p38=some o1) rfl ?_ (fun c46 J45=>?_) (fun c46 J45=>?_))))))))))))))))))))))
   ·rintro _ ⟨p38,rfl,h1⟩
    refine Mm 1 (bb h1 fun r39 e40 h1=>gg h1 fun c41 h1=>gg h1 fun c42 h1=>At 4 (Bm (Oo (H331 p38 2 r39 e40) (af rfl) (dw [(3,Eo 192 ((p14++([b8 (y33.key.length:Int)]:List UInt8))++y33.key)),(5,.ptr 320 0),(7,Co a0),(8,iV (a0.length:Int)),(9,iV p15),(30,Eo 192 ((p14++([b8 (y33.key.length:Int)]:List UInt8))++y33.key)),(32,Eo 2048 r39),(34,.ptr 320 1),(35,.str y33.value)] [(320,Dn y33)] ⟨⟨.inl tv,Bl (Bw ⟨tv,tv⟩ rfl (nl rfl)) rfl⟩,⟨.inl tv,Bl (Bw ⟨tv,tv⟩ rfl tv) rfl⟩,⟨.inl tv,Bl (Qc (v:=Eo 192 ((p14++([b8 (y33.key.length:Int)]:List UInt8))++y33.key)) rfl tv) rfl⟩,tv⟩ (Cb (Fp (e:=Gh) (l0:=(p14++([b8 (y33.key.length:Int)]:List UInt8))++y33.key) (l1:=r39) rfl rfl tv rfl (by decide) c41 (d0 hB (Cb (Fp (e:=Gh) (l0:=((p14++([b8 (y33.key.length:Int)]:List UInt8))++y33.key)++r39) (l1:=y33.value) rfl rfl tv rfl (by decide) c42 (d0 tv (Cb (Dc rfl tv (d0 tv (Jz (Um (bv h1 fun v43 e44 h1=>Dy ⟨[(3,Eo 192 v43),(7,Co a0),(8,iV (a0.length:Int)),(9,iV p15)],[],[]⟩ (Er (by subst e44; kernel_rfl)) (At 3 ?_)))))) Az))) Az))) Az)) Az)))
    obtain rfl:=sj h1
    exact kn hK1 rfl rfl
   ·replace h1:=ip c46 h1
    refine Ah (st (mvc_ tv (In ?_)))
    exact jn J45 ⟨_,rfl,h1⟩
   ·replace h1:=oY c46 h1
    refine Nh ?_
    exact jn J45 ⟨_,rfl,h1⟩
  ·obtain rfl:=sj h1
   obtain rfl:=hx1 _ rfl
   refine Iw rfl ?_
   exact jn hE1 ⟨_,rfl,rfl⟩

/- slices.Clone[[]loop.example/g00149/impl.Pair,loop.example/g00149/impl.Pair] -/
def AfU:List Bj:=[⟨some 2,.nilS 2,none⟩]
def AfV:List Bj:=[m_ 3 0,⟨some 4,.isnil (.t 3) false,none⟩]
def AfW:List Bj:=[⟨some 2,.nilS 2,none⟩]
def AfX:List Bj:=[⟨some 5,.mkS 2 [.str [],.str []] 0 [],none⟩,m_ 6 0,⟨some 7,.app 2 32 (.t 5) (.t 6),none⟩,m_ 2 7]
def c403:De:=⟨1,8,[.t 2],sr AfU (.seq (sr AfV (iz 4 (rr AfW))) (rr AfX))⟩
def K403 (D:Ba):Prop:=∀a0 r,AlQ a0=some r→D 403 ⟨[Cy a0],[]⟩ ⟨Be 0 r,[],[]⟩
theorem F403:K403 (FO C c403):=by
 intro a0 r h0
 refine f0 ?_
 obtain ⟨hc,h0⟩:=xE h0
 obtain rfl:=sj h0
 refine As 3 [(0,Cy a0)] [] (At 3 (Ah (st (dH (e:=Cn) (l0:=a0) rfl fun b hb=>(In (aC (Od (cb:=b) rfl (fun h=>?_) (fun h=>?_))))))))
 ·obtain rfl:=hb h
  refine Bk (Ah (st (Zy (In (aC ?_)))))
  refine Kv (Fe rfl rfl rfl rfl rfl tv)
 ·refine Nh ?_
  refine As 0 [(0,Cy a0)] [] (At 3 (Ah (st (Fp (e:=Cn) (l0:=([]:List Bd)) (l1:=a0) rfl rfl tv rfl (by decide) ?_ ?_))))
  rotate_left
  refine st (Dc rfl tv (In (aC ?_)))
  refine Kv (Fe rfl rfl rfl rfl rfl tv)
  have:=Nat.mul_le_mul_right 32 hc
  exact Nat.le_trans this (by decide)

/- slices.BinarySearchFunc[[]loop.example/g00149/impl.Pair,loop.example/g00149/impl.Pair,string] -/
def Agn:=[i_ 6 0,k_ 7 (.bool false)]
def Ago:=[m_ 12 0,n_ 13 12,m_ 8 13]
def Agp:=[m_ 14 8,i_ 9 0,m_ 10 14]
def Agq:=[m_ 15 9,m_ 16 10,b_ .lss 17 15 16]
def Agr:List Bj:=[m_ 18 9,m_ 19 10,b_ .add 20 18 19,iQ 21 (.conv .u64 (.t 20)),⟨some 22,.p (.bin .shr (.t 21) (.c (.int .u64 1))),none⟩,iQ 23 (.conv .i64 (.t 22)),m_ 11 23]
def Ags:List Bj:=[m_ 24 2,m_ 25 0,m_ 26 11,x_ 27 25 26 2,L_ 28 27 2,m_ 29 1,⟨some 30,.callv (.t 24) [.t 28,.t 29],none⟩,B_ .lss 31 30 0]
def Agt:=[m_ 32 11,B_ .add 33 32 1,m_ 9 33]
def Agu:=[m_ 34 11,m_ 10 34]
def Agm:IR:=(.seq (sr Agq (.ite (.t 17) .skip (.exit 0))) (.block 1 (sr Agr (sr Ags (.ite (.t 31) (.reg Agt) (.reg Agu))))))
def Agv:List Bj:=[m_ 35 9,m_ 36 9,m_ 37 8,b_ .lss 38 36 37,m_ 39 38,mT 39 40 2,mT 39 41 0,mT 39 42 9,xT 39 43 41 42 2,lT 39 44 43 2 true,mT 39 45 1,⟨some 46,.callv (.t 40) [.t 44,.t 45],some (39,true)⟩,pT 39 47 (.bin .eql (.t 46) (.c (iV 0))),pa 48 39 47,m_ 6 35,m_ 7 48]
def c416:De:=⟨3,49,[.t 6,.t 7],sr Agn (sr Ago (sr Agp (.seq (Jc 0 Agm) (rr Agv))))⟩
def K416 (C:Ba) (D:Ba:=C):Prop:=∀(a0:List Bd) (a1:List UInt8) (f2:Nat) (k2:List V) (is2:Bd→(List UInt8)→Option Int) (hs2:Kp k2) (hf2:∀(x0:Bd) (x1:List UInt8) r,is2 x0 x1=some r→C f2 ⟨.agg (Cn x0) :: .str x1::k2,[]⟩ ⟨iV r,[],[]⟩) (r:Int×Bool),AlV a0 a1 is2=some r→D 416 ⟨[Cy a0,.str a1,.clo f2 k2],[]⟩ ⟨.tup [iV r.1,.bool r.2],[],[]⟩
abbrev Vk:=fun x0 x1 x2 x3 (r:List (Nat×V))=>(0,Cy x0)::(1,.str x1)::(2,.clo x2 x3)::r
theorem F416:K416 C (FO C c416):=by
 intro a0 a1 f2 k2 is2 hs2 hf2 r h0
 refine f0 (As 4 (Vk a0 a1 f2 k2 []) [] (Bk (Ah (st (Dc rfl tv (Hf rfl (o_ (As 8 (Vk a0 a1 f2 k2 [(8,iV (a0.length:Int)),(9,iV 0),(10,iV (a0.length:Int))]) [] (Bk (Ci (bb h0 fun r30 e31 h0=>Df (R:=(fun S=>∃p21:Int,p21=r30∧S=⟨Vk a0 a1 f2 k2 [(8,iV (a0.length:Int)),(9,iV p21)],[],[]⟩)) (bH a0 a1 is2) (fun s S=>match s with | (p9,p10)=>S=⟨Vk a0 a1 f2 k2 [(8,iV (a0.length:Int)),(9,iV p9),(10,iV p10)],[],[]⟩) e31 _ (Er (by kernel_rfl)) rfl 0 (fun _=>rfl) ?_ ?_)))))))))))
 ·rintro S _ hfg ⟨p21,rfl,rfl⟩
  refine Dy ⟨Vk a0 a1 f2 k2 [(8,iV (a0.length:Int)),(9,iV p21)],[],[]⟩ (fgl hfg ⟨rfl,rfl,rfl,rfl,rfl,tv⟩ tv) (Hj 9 (Ah (bb h0 fun y32 e33 h0=>st (Ep (u:=.iptr (Cn y32)) rfl (fun hg=>(Ua (e:=Cn) (y:=y32) rfl rfl (fun _=>hg) rfl rfl (fun _=>hg) (ip hg e33))) (o_ (Hj 2 (Ah (bb h0 fun r34 e35 h0=>st (tD (r:=iV r34) rfl rfl rfl (fun hg=>hg) false (fun hg=>hf2 _ _ r34 (ip hg e35)) ⟨(fun hg=>hg),(fun hg=>hg),tv⟩ (fun _=>(ar (Bq rfl hs2.2.2.1))) (fun _=>(Ej rfl (Ej rfl (hs2.2.1 _ _ _ _ _)))) (fun _=>rfl) (fun h=>nomatch h) (o_ (Hj 2 (Ah (o_ ?_)))))))))))))
  obtain rfl:=sj h0
  exact Cs 4
 ·rintro ⟨p9,p10⟩ o1 _ K1 rfl h1 hx1 hK1 hE1 hR1
  refine As 6 (Vk a0 a1 f2 k2 [(8,iV (a0.length:Int)),(9,iV p9),(10,iV p10),(17,.bool (decide (p9<p10)))]) [] (Cw h1 (fun c22 h1=>?_) (fun c22 h1=>?_))
  ·refine At 8 (Ah (st (c_ (Bw ⟨tv,tv,tv⟩ rfl (by decide)) (o_ (At 3 (bv h1 fun v23 e24 h1=>Dy ⟨[(0,Cy a0),(1,.str a1),(2,.clo f2 k2),(8,iV (a0.length:Int)),(9,iV p9),(10,iV p10),(11,iV v23)],[],[]⟩ (fg ⟨(by subst e24; rfl),(by subst e24; rfl),(by subst e24; rfl),(by subst e24; rfl),(by subst e24; rfl),(by subst e24; rfl),(by subst e24; rfl),tv⟩ tv) (At 4 (Ah (bb h1 fun y25 e26 h1=>Ns rfl rfl e26 (o_ (At 2 (Ah (bb h1 fun r27 e28 h1=>st (Gg (r:=iV r27) rfl false (hf2 _ _ r27 e28) ⟨tv,tv,tv⟩ (ar (Bq rfl hs2.2.2.1)) (Ej rfl (Ej rfl (hs2.2.1 _ _ _ _ _))) (fun _=>rfl) (o_ (As 2 (Vk a0 a1 f2 k2 [(8,iV (a0.length:Int)),(9,iV p9),(10,iV p10),(11,iV v23),(31,.bool (decide (r27<0)))]) [] (Cw h1 (fun c29 h1=>?_) (fun c29 h1=>?_))))))))))))))))))
   ·refine At 5 ?_
    obtain rfl:=sj h1
    exact kn hK1 rfl rfl
   ·refine At 4 ?_
    obtain rfl:=sj h1
    exact kn hK1 rfl rfl
  ·obtain rfl:=sj h1
   obtain rfl:=hx1 _ rfl
   refine Iw rfl ?_
   exact jn hE1 ⟨_,rfl,rfl⟩

/- internal/bytealg.CompareString -/
def Aha:=[i_ 4 0]
def Ahb:=[m_ 5 0,m_ 6 1,iQ 7 (.scmp (.t 5) (.t 6)),m_ 4 7]
def c427:De:=⟨2,8,[.t 4],sr Aha (rr Ahb)⟩
def K427 (D:Ba):Prop:=∀a0 a1 r,g427 a0 a1=some r→D 427 ⟨[.str a0,.str a1],[]⟩ ⟨iV r,[],[]⟩
theorem F427:K427 (FO C c427):=by
 intro a0 a1 r h0
 refine f0 (As 3 [(0,.str a0),(1,.str a1)] [] (At 3 (Ah (st (c_ (cscmp rfl rfl tv rfl rfl tv) (o_ ?_))))))
 obtain rfl:=sj h0
 exact Cs 3

/- strings.Compare -/
def Agy:=[i_ 4 0]
def Agz:=[m_ 5 0,m_ 6 1,q_ 7 427 [.t 5,.t 6],m_ 4 7]
def c418:De:=⟨2,8,[.t 4],sr Agy (rr Agz)⟩
def K418 (D:Ba):Prop:=∀a0 a1 r,g418 a0 a1=some r→D 418 ⟨[.str a0,.str a1],[]⟩ ⟨iV r,[],[]⟩
theorem F418 (H427:K427 C):K418 (FO C c418):=by
 intro a0 a1 r h0
 refine f0 (As 3 [(0,.str a0),(1,.str a1)] [] (At 3 (Ah (bb h0 fun r1 e2 h0=>Il (H427 a0 a1 r1 e2) (o_ ?_)))))
 obtain rfl:=sj h0
 exact Cs 3

/- loop.example/g00149/impl.apply$1 -/
def Agw:=[X_ 2 0,i_ 4 0]
def Agx:=[f_ 5 2 0,l_ 6 5 1,m_ 7 1,q_ 8 418 [.t 6,.t 7],m_ 4 8]
def c417:De:=⟨2,9,[.t 4],sr Agw (rr Agx)⟩
def K417 (D:Ba):Prop:=∀a0 a1 r,qT a0 a1=some r→D 417 ⟨[.agg (Cn a0),.str a1],[]⟩ ⟨iV r,[],[]⟩
theorem F417 (H418:K418 C):K417 (FO C c417):=by
 intro a0 a1 r h0
 refine f0 (As 4 [(1,.str a1),(2,.ptr 128 0)] [(128,Cn a0)] (At 4 (Ah (bb h0 fun r1 e2 h0=>Il (H418 a0.key a1 r1 e2) (o_ ?_)))))
 obtain rfl:=sj h0
 exact Cs 3

/- slices.Delete[[]loop.example/g00149/impl.Pair,loop.example/g00149/impl.Pair] -/
def AgA:List Bj:=[⟨some 6,.nilS 2,none⟩]
def AgB:List Bj:=[m_ 8 0,m_ 9 1,m_ 10 2,m_ 11 0,n_ 12 11,⟨some 13,.chk3 (.t 8) (.t 9) (.t 10) (.t 12),none⟩]
def AgC:=[m_ 14 1,m_ 15 2,b_ .eql 16 14 15]
def AgD:=[m_ 17 0,m_ 6 17]
def AgE:=[m_ 18 0,n_ 19 18,m_ 7 19]
def AgF:=tk [m_ 20 0,m_ 21 1,⟨some 22,.p (.slice (.t 20) none (some (.t 21)) 2),none⟩,m_ 23 0,m_ 24 2,⟨some 25,.p (.slice (.t 23) (some (.t 24)) none 2),none⟩] (.alt [] ⟨some 26,.app 2 32 (.t 22) (.t 25),none⟩ (.alt [] (m_ 0 26) .fin .stop) .stop)
def AgG:List Bj:=[m_ 27 0,m_ 28 0,n_ 29 28,m_ 30 7,⟨some 31,.p (.slice (.t 27) (some (.t 29)) (some (.t 30)) 2),none⟩,⟨none,.clear 2 [.str [],.str []] (.t 31),none⟩]
def AgH:=[m_ 32 0,m_ 6 32]
def c419:De:=⟨3,33,[.t 6],sr AgA (sr AgB (.seq (sr AgC (iz 16 (rr AgD))) (sr AgE (sd AgF (sr AgG (rr AgH))))))⟩
def K419 (D:Ba):Prop:=∀a0 a1 a2 r,AlX a0 a1 a2=some r→D 419 ⟨[Be 1024000 a0,iV a1,iV a2],[]⟩ ⟨Be 0 r,[],[]⟩
theorem F419:K419 (FO C c419):=by
 intro a0 a1 a2 r h0
 refine f0 ?_
 obtain ⟨⟨hb,hl⟩,h0⟩:=xE h0
 obtain rfl:=sj h0
 obtain ⟨i,rfl⟩:=Int.eq_ofNat_of_zero_le hb.1
 obtain ⟨j,rfl⟩:=Int.eq_ofNat_of_zero_le (Int.le_trans hb.1 hb.2.1)
 have hij:i≤j:=by omega
 have hx63:(a0.length:Int)<Es:=by have:=hl; simp only [Es]; omega
 have hj:j≤a0.length:=by omega
 rw [show ((i:Nat):Int).toNat=i from rfl,show ((j:Nat):Int).toNat=j from rfl]
 refine As 3 [(0,Be 1024000 a0),(1,iV i),(2,iV j)] [] (Bk (Ah (st (Dc rfl tv (st (Dc rfl tv (st (Dc rfl tv (st (Dc rfl tv (Qb rfl (st (HL (e:=Cn) (l0:=a0) rfl rfl rfl rfl ⟨by omega,by omega,by omega,Int.le_refl _⟩ (o_ (As 1 [(0,Be 1024000 a0),(1,iV i),(2,iV j)] [] (Bk (Bk (Ah (st (Dc rfl tv (st (Dc rfl tv (st (c_ (Bw t3 rfl tv) (In (aC (Od (cb:=(i:Int)==(j:Int)) rfl (fun h=>?_) (fun h=>?_))))))))))))))))))))))))))))
 ·have e1:i=j:=by have:=eq_of_beq h; omega
  subst e1
  rw [List.take_append_drop]
  refine Bk (Ah (st (Dc rfl tv (st (Dc rfl tv (In (aC ?_)))))))
  exact Kv (Fe rfl rfl rfl rfl rfl tv)
 ·have hne:i≠j:=fun e1=>by subst e1; simp at h
  have hemp:a0.map Cn≠[]:=fun e1=>by
   have:=congrArg List.length e1
   simp at this
   subst this
   simp at hj
   omega
  refine As 1 [(0,Be 1024000 a0),(1,iV i),(2,iV j)] [] (Bk (Ah (st (Dc rfl tv (Qb rfl (st (Dc rfl tv (In (Dy ⟨[(0,Be 1024000 a0),(1,iV i),(2,iV j),(7,iV (a0.length:Int))],[],[(0,(a0.length:Int))]⟩ (qG ⟨rfl,rfl,rfl,rfl,tv⟩ tv ⟨.inr (.inl ⟨_,_,_,_,rfl,hemp,by simp,hx63,by decide⟩),tv⟩) (Bk (Bm (Au tv (Dc rfl tv (⟨tv,Au tv (Dc rfl tv (⟨tv,Au tv (c_ (Dk (e:=Cn) (y:=a0.take i) rfl rfl tv ⟨tv,tv⟩ rfl rfl (by rw [show (none:Option Int).getD 0=((0:Nat):Int) from rfl]; exact yE a0 0 i (by omega) (by omega))) (⟨tv,Au tv (Dc rfl tv (⟨tv,Au tv (Dc rfl tv (⟨tv,Au tv (c_ (Dk (e:=Cn) (y:=a0.drop j) rfl rfl tv ⟨tv,tv⟩ rfl rfl (Pp a0 j hj)) (⟨tv,Cb (zK (e:=Cn) (l0:=a0.take i) (l1:=a0.drop j) (t:=1024000) (sz:=2) (vy:=.own 1024000 (0+j) 2 ((a0.drop j).map Cn)) (c:=(a0.length:Int)-0) rfl rfl tv rfl (show (1024000:Nat)<1048576 by decide) ?_ rfl ?_ ?_) Az⟩))⟩))⟩))⟩))⟩))⟩))))))))))))))
  ·have:(a0.take i).length+(a0.drop j).length≤a0.length:=by simp; omega
   exact Nat.le_trans (Nat.mul_le_mul_right 32 this) (Nat.le_trans (Nat.mul_le_mul_right 32 hl) (by decide))
  ·rw [Kn (show (a0.length:Int)-0<Es by omega)]; simp; omega
  refine d0 tv (Cb (Dc rfl tv (d0 tv (Jz ?_))) Az)
  generalize hR:a0.take i++a0.drop j=R
  have hRl:R.length≤a0.length:=by rw [←hR]; simp; omega
  refine Dy ⟨[(0,Be 1024000 R),(7,iV (a0.length:Int))],[],[(0,(a0.length:Int)-0)]⟩ (qG ⟨rfl,rfl,tv⟩ tv ⟨.inl ⟨_,rfl,.inl rfl⟩,tv⟩) (Bk (Ah (st (Dc rfl tv (st (Dc rfl tv (Qb rfl (st (Dc rfl tv (st (c_ (Zd (e:=Cn) (R:=R) (t:=1024000) (sz:=2) (L:=R.length) (H:=a0.length) (c:=(a0.length:Int)-0) rfl rfl rfl rfl hRl (show (0:Nat)<2 by decide) rfl (by rw [Kn (show (a0.length:Int)-0<Es by omega)]; omega)) (st (cC rfl (In (Dy ⟨[(0,Be 1024000 R)],[],[]⟩ (fg ⟨LF (Nat.le_refl _),tv⟩ tv) (Bk (Ah (st (Dc rfl tv (st (Dc rfl tv (In (aC ?_)))))))))))))))))))))))
  exact Kv (Fe rfl rfl rfl rfl rfl tv)

/- slices.Insert[[]loop.example/g00149/impl.Pair,loop.example/g00149/impl.Pair] -/
def AgI:List Bj:=[⟨some 6,.nilS 2,none⟩]
def AgJ:List Bj:=[m_ 10 0,m_ 11 1,⟨some 12,.p (.slice (.t 10) (some (.t 11)) none 2),none⟩]
def AgK:=[m_ 13 2,n_ 14 13,m_ 7 14]
def AgL:=[m_ 15 7,B_ .eql 16 15 0]
def AgM:=[m_ 17 0,m_ 6 17]
def AgN:=[m_ 18 0,n_ 19 18,m_ 8 19]
def AgO:=[m_ 20 1,m_ 21 8,b_ .eql 22 20 21]
def AgP:List Bj:=[m_ 23 0,m_ 24 2,⟨some 25,.app 2 32 (.t 23) (.t 24),none⟩,m_ 6 25]
def AgQ:List Bj:=[m_ 26 8,m_ 27 7,b_ .add 28 26 27,m_ 29 0,⟨some 30,.cap (.t 29),none⟩,b_ .gtr 31 28 30]
def AgR:List Bj:=[m_ 32 0,m_ 33 1,⟨some 34,.p (.slice (.t 32) none (some (.t 33)) 2),none⟩,m_ 35 8,m_ 36 7,b_ .add 37 35 36,m_ 38 1,b_ .sub 39 37 38,⟨some 40,.appz 2 32 [.str [],.str []] (.t 34) (.t 39),none⟩,m_ 9 40]
def EA:List Bj:=[m_ 41 9,m_ 42 1,⟨some 43,.p (.slice (.t 41) (some (.t 42)) none 2),none⟩,m_ 44 2,⟨some 45,.copy 2 (.t 43) (.t 44),none⟩]
def EB:=tk [m_ 46 9,m_ 47 1,m_ 48 7,b_ .add 49 47 48,⟨some 50,.p (.slice (.t 46) (some (.t 49)) none 2),none⟩,m_ 51 0,m_ 52 1,⟨some 53,.p (.slice (.t 51) (some (.t 52)) none 2),none⟩] (.alt [] ⟨some 54,.copy 2 (.t 50) (.t 53),none⟩ .fin .stop)
def EC:=[m_ 55 9,m_ 6 55]
def ED:List Bj:=[m_ 56 0,m_ 57 8,m_ 58 7,b_ .add 59 57 58,⟨some 60,.p (.slice (.t 56) none (some (.t 59)) 2),none⟩,m_ 0 60]
def EE:List Bj:=[m_ 61 2,m_ 62 0,m_ 63 1,m_ 64 7,b_ .add 65 63 64,⟨some 66,.p (.slice (.t 62) (some (.t 65)) none 2),none⟩,iQ 67 (.ovl (.t 61) (.t 66)),N_ 68 67]
def EF:=tk [m_ 69 0,m_ 70 1,m_ 71 7,b_ .add 72 70 71,⟨some 73,.p (.slice (.t 69) (some (.t 72)) none 2),none⟩,m_ 74 0,m_ 75 1,⟨some 76,.p (.slice (.t 74) (some (.t 75)) none 2),none⟩] (.alt [] ⟨some 77,.copy 2 (.t 73) (.t 76),none⟩ .fin .stop)
def EG:List Bj:=[m_ 78 0,m_ 79 1,⟨some 80,.p (.slice (.t 78) (some (.t 79)) none 2),none⟩,m_ 81 2,⟨some 82,.copy 2 (.t 80) (.t 81),none⟩]
def EH:=[m_ 83 0,m_ 6 83]
def EI:List Bj:=[m_ 84 0,m_ 85 8,⟨some 86,.p (.slice (.t 84) (some (.t 85)) none 2),none⟩,m_ 87 2,⟨some 88,.copy 2 (.t 86) (.t 87),none⟩]
def EJ:List Bj:=[m_ 89 0,m_ 90 1,⟨some 91,.p (.slice (.t 89) (some (.t 90)) none 2),none⟩,m_ 92 7,q_ 93 428 [.t 91,.t 92]]
def EK:=[m_ 94 0,m_ 6 94]
def c420:De:=⟨3,95,[.t 6],sr AgI (sr AgJ (sr AgK (.seq (sr AgL (iz 16 (rr AgM))) (sr AgN (.seq (sr AgO (iz 22 (rr AgP))) (.seq (sr AgQ (iz 31 (sr AgR (sr EA (sd EB (rr EC)))))) (sr ED (.seq (sr EE (iz 68 (sd EF (sr EG (rr EH))))) (sr EI (sr EJ (rr EK)))))))))))⟩
def K420 (D:Ba):Prop:=∀a0 a1 a2 r,AlY a0 a1 a2=some r→D 420 ⟨[Be 1024000 a0,iV a1,Be 2097152 a2],[]⟩ ⟨Be 0 r.1,[],[(0,2,r.2.map Cn)]⟩
abbrev Vl:=fun x0 x1 (r:List (Nat×V))=>(0,Be 1024000 x0)::(2,Be 2097152 x1)::r
theorem F420:K420 (FO C c420):=by
 intro a0 a1 a2 r h0
 refine f0 ?_
 obtain ⟨⟨hb,hpos,hl⟩,h0⟩:=xE h0
 obtain rfl:=sj h0
 obtain ⟨i,rfl⟩:=Int.eq_ofNat_of_zero_le hb.1
 have hi:i≤a0.length:=by omega
 rw [show ((i:Nat):Int).toNat=i from rfl]
 have hbyte:(a0.length+a2.length)*32≤140737488355328:=Nat.le_trans (Nat.mul_le_mul_right 32 hl) (by decide)
 have hsm:a0.length+a2.length≤140737488355328:=by omega
 have w1:wi ((a0.length:Int)+(a2.length:Int))=((a0.length+a2.length:Nat):Int):=iN _ (by omega) (by omega)
 have w2:wi ((i:Int)+(a2.length:Int))=((i+a2.length:Nat):Int):=iN _ (by omega) (by omega)
 have w3:wi (((a0.length+a2.length:Nat):Int)-(i:Int))=((a0.length+a2.length-i:Nat):Int):=iN _ (by omega) (by omega)
 refine As 3 (Vl a0 a2 [(1,iV i)]) [] (At 3 (Ah (st (c_ (Dk (e:=Cn) (y:=a0.drop i) rfl rfl tv ⟨tv,tv⟩ rfl rfl (Pp a0 i hi)) (o_ (As 1 (Vl a0 a2 [(1,iV i)]) [] (Bk (Ah (st (Dc rfl tv (Qb rfl (o_ (As 2 (Vl a0 a2 [(1,iV i),(7,iV (a2.length:Int))]) [] (At 6 (Od (cb:=(a2.length:Int)==0) rfl (fun h=>absurd (eq_of_beq h) (by omega)) (fun _=>(As 1 (Vl a0 a2 [(1,iV i),(7,iV (a2.length:Int))]) [] (Bk (Ah ?_)))))))))))))))))))
 refine st (Dc rfl tv (Qb rfl (o_ (As 2 (Vl a0 a2 [(1,iV i),(7,iV (a2.length:Int)),(8,iV (a0.length:Int))]) [] (At 7 (Od (cb:=(i:Int)==(a0.length:Int)) rfl (fun h=>?_) (fun h=>?_)))))))
 ·have e1:i=a0.length:=by have:=eq_of_beq h; omega
  subst e1
  rw [List.take_length,List.drop_length,List.append_nil]
  refine At 3 (Ah (st (Fp (e:=Cn) (l0:=a0) (l1:=a2) rfl rfl tv rfl (show (1024000:Nat)<1048576 by decide) hbyte (o_ (As 2 [(6,Be 1024000 (a0++a2)),(2,Be 2097152 a2)] [] ?_)))))
  exact Kv (Fe rfl rfl rfl rfl rfl ⟨⟨rfl,xP (fun _=>rfl)⟩,tv⟩)
 have hlt:i<a0.length:=by
  have:(i:Int)≠(a0.length:Int):=fun h1=>by rw [h1] at h; simp at h
  omega
 have hemp:a0.map Cn≠[]:=fun e1=>by
  have:=congrArg List.length e1
  simp at this
  subst this
  simp at hlt
 have hemp2:a2.map Cn≠[]:=fun e1=>by
  have:=congrArg List.length e1
  simp at this
  subst this
  simp at hpos
 refine As 1 (Vl a0 a2 [(1,iV i),(7,iV (a2.length:Int)),(8,iV (a0.length:Int))]) [] (At 4 (Ah (st (c_ (Bw (v:=iV ((a0.length+a2.length:Nat):Int)) ⟨tv,tv,tv⟩ (congrArg (fun z=>some (True,V.int .i64 z)) w1) tv) (st (Dc rfl tv (st (cap_ (e:=Cn) (l0:=a0) rfl fun c hc _ _=>(o_ (At 2 ?_))))))))))
 refine Dy ⟨[(31,.bool (decide (((a0.length+a2.length:Nat):Int)>(c:Int)))),(0,Be 1024000 a0),(1,iV i),(2,Be 2097152 a2),(7,iV (a2.length:Int)),(8,iV (a0.length:Int))],[],[(0,Es+(c:Int))]⟩
  (qG ⟨rfl,rfl,rfl,rfl,rfl,rfl,tv⟩ tv ⟨.inr (.inr ⟨29,Es+(c:Int),_,_,0,_,0,_,rfl,rfl,hemp,rfl,hemp,by decide,.inr ⟨rfl,rfl⟩⟩),tv⟩) ?_
 refine Od (cb:=decide (((a0.length+a2.length:Nat):Int)>(c:Int))) rfl (fun hgt=>?_) (fun hle=>?_)
 ·have hgt':c<a0.length+a2.length:=by have:=of_decide_eq_true hgt; omega
  refine At 3 (Ah (st (c_ (Dk (e:=Cn) (y:=a0.take i) rfl rfl tv ⟨tv,tv⟩ rfl rfl (by rw [show (none:Option Int).getD 0=((0:Nat):Int) from rfl]; exact yE a0 0 i (by omega) (by omega))) (o_ (At 2 (Ah (st (c_ (Bw (v:=iV ((a0.length+a2.length:Nat):Int)) ⟨tv,tv,tv⟩ (congrArg (fun z=>some (True,V.int .i64 z)) w1) tv) (st (Dc rfl tv (st (c_ (Bw (v:=iV ((a0.length+a2.length-i:Nat):Int)) ⟨tv,tv,tv⟩ (congrArg (fun z=>some (True,V.int .i64 z)) w3) tv) (st (pR (e:=Cn) (l0:=a0.take i) (c:=Es+(c:Int)-0) (t:=1024000) (default:Bd) rfl rfl rfl (by decide) (Int.natCast_nonneg _) ?_ rfl (by omega) ?_ ?_))))))))))))))
  ·have e1:(a0.take i).length+(a0.length+a2.length-i)=a0.length+a2.length:=by simp; omega
   have:=Int.ofNat_le.2 hbyte
   rw [Int.natCast_mul] at this
   rw [←Int.natCast_add,e1]
   exact this
  ·have e1:(a0.take i).length=i:=by simp; omega
   rw [e1]; omega
  rw [show ((a0.length+a2.length-i:Nat):Int).toNat=a0.length+a2.length-i from rfl]
  refine o_ (As 2 (Vl a0 a2 [(9,Be 2560 (a0.take i++List.replicate (a0.length+a2.length-i) (default:Bd))),(1,iV i),(7,iV (a2.length:Int))]) [] ?_)
  generalize hR:a0.take i++List.replicate (a0.length+a2.length-i) (default:Bd)=R
  have hRl:R.length=a0.length+a2.length:=by rw [←hR]; simp; omega
  have hRt:R.take i=a0.take i:=by rw [←hR,List.take_append_of_le_length (by simp; omega),List.take_take,Nat.min_self]
  refine At 3 (Ah (st (c_ (Dk (e:=Cn) (y:=R.drop i) rfl rfl tv ⟨tv,tv⟩ rfl rfl (Pp R i (by omega))) (st (Dc rfl tv (st (copy_ (e:=Cn) (l0:=R.drop i) (l1:=a2) (t:=2560) rfl rfl tv rfl (In (Dy ⟨[(9,Be 2560 (ovl R i (a2.take (R.drop i).length))),(0,Be 1024000 a0),(1,iV i),(2,Be 2097152 a2),(7,iV (a2.length:Int))],[],[]⟩ (fg ⟨congrArg (fun z=>some (V.own 2560 0 2 z)) (Fb (off:=0)),rfl,rfl,rfl,rfl,tv⟩ tv) ?_)))))))))
  have hR2l:(ovl R i (a2.take (R.drop i).length)).length=a0.length+a2.length:=by rw [Ng,hRl]
  generalize hR2:ovl R i (a2.take (R.drop i).length)=R2 at hR2l
  refine At 4 (Bm (Au tv (c_ (Bw (v:=iV ((i+a2.length:Nat):Int)) ⟨tv,tv,tv⟩ (congrArg (fun z=>some (True,V.int .i64 z)) w2) tv) (⟨tv,Au tv (c_ (Dk (e:=Cn) (y:=R2.drop (i+a2.length)) rfl rfl tv ⟨tv,tv⟩ rfl rfl (Pp R2 (i+a2.length) (by omega))) (⟨tv,d_ (At 2 (Bm (Au tv (c_ (Dk (e:=Cn) (y:=a0.drop i) rfl rfl tv ⟨tv,tv⟩ rfl rfl (Pp a0 i hi)) (⟨tv,Cb (copy_ (e:=Cn) (l0:=R2.drop (i+a2.length)) (l1:=a0.drop i) (t:=2560) rfl rfl tv rfl (d0 tv (Jz ?_))) Az⟩)))))⟩))⟩))))
  have hfin:ovl R2 (i+a2.length) ((a0.drop i).take (R2.drop (i+a2.length)).length)=a0.take i++a2++a0.drop i:=by
   rw [←hR2]
   exact vC hRl hRt hi
  refine Dy ⟨[(9,Be 2560 (a0.take i++a2++a0.drop i)),(2,Be 2097152 a2)],[],[]⟩ (fg ⟨(congrArg (fun z=>some (V.own 2560 0 2 z)) (Fb (off:=0))).trans (congrArg (fun z=>some (V.own 2560 0 2 (z.map Cn))) hfin),rfl,tv⟩ tv) (At 5 ?_)
  exact Kv (Fe rfl rfl rfl rfl rfl ⟨⟨rfl,xP (fun _=>rfl)⟩,tv⟩)
 ·have hle':a0.length+a2.length≤c:=by have:=of_decide_eq_false hle; omega
  refine Nh ?_
  refine Dy ⟨[(0,Be 1024000 a0),(1,iV i),(2,Be 2097152 a2),(7,iV (a2.length:Int)),(8,iV (a0.length:Int))],[],[(0,Es+(c:Int))]⟩
   (qG ⟨rfl,rfl,rfl,rfl,rfl,tv⟩ tv ⟨.inl ⟨_,rfl,.inl rfl⟩,tv⟩) ?_
  refine At 4 (Ah (st (c_ (Bw (v:=iV ((a0.length+a2.length:Nat):Int)) ⟨tv,tv,tv⟩ (congrArg (fun z=>some (True,V.int .i64 z)) w1) tv) (st (c_ (kZ (e:=Cn) (l0:=a0) (t:=1024000) (sz:=2) (H:=a0.length+a2.length) (c:=Es+(c:Int)) rfl rfl (Nat.le_add_right _ _) (show (0:Nat)<2 by decide) rfl (by rw [Yo]; omega)) (st (Dc rfl tv (In ?_))))))))
  rw [Nat.add_sub_cancel_left]
  have hA0:(a0.map some++List.replicate a2.length none).length=a0.length+a2.length:=by simp
  have hA1:(a0.map some++List.replicate a2.length none).take i=(a0.take i).map some:=by rw [List.take_append_of_le_length (by simpa using hi),List.map_take]
  have hA2:((a0.map some++List.replicate a2.length none).drop i).take (a0.length-i)=(a0.drop i).map some:=by
   rw [List.drop_append_of_le_length (by simpa using hi),←List.map_drop,List.take_append_of_le_length (by simp),List.take_of_length_le (by simp)]
  generalize (a0.map some++List.replicate a2.length none:List (Option (Bd)))=A at hA0 hA1 hA2
  refine As 0 [(0,.own 1024000 0 2 (A.map (eo Cn 2))),(1,iV i),(2,Be 2097152 a2),(7,iV (a2.length:Int)),(8,iV (a0.length:Int))] [] (At 6 (Ah (st (c_ (Bw (v:=iV ((i+a2.length:Nat):Int)) ⟨tv,tv,tv⟩ (congrArg (fun z=>some (True,V.int .i64 z)) w2) tv) (st (c_ (Dk (e:=eo Cn 2) (y:=A.drop (i+a2.length)) rfl rfl tv ⟨tv,tv⟩ rfl rfl (Pp A (i+a2.length) (by omega))) (st (c_ (covl rfl rfl (by decide) hemp2 (fun e1=>?_)) ?_))))))))
  ·have:=congrArg List.length e1
   simp at this
   omega
  refine o_ (As 2 [(68,.bool true),(0,.own 1024000 0 2 (A.map (eo Cn 2))),(1,iV i),(2,Be 2097152 a2),(7,iV (a2.length:Int)),(8,iV (a0.length:Int))] [] (Od (cb:=true) rfl (fun _=>(At 4 (Bm (Au tv (c_ (Bw (v:=iV ((i+a2.length:Nat):Int)) ⟨tv,tv,tv⟩ (congrArg (fun z=>some (True,V.int .i64 z)) w2) tv) (⟨tv,Au tv (c_ (Dk (e:=eo Cn 2) (y:=A.drop (i+a2.length)) rfl rfl tv ⟨tv,tv⟩ rfl rfl (Pp A (i+a2.length) (by omega))) (⟨tv,d_ (At 2 (Bm (Au tv (c_ (Dk (e:=eo Cn 2) (y:=A.drop i) rfl rfl tv ⟨tv,tv⟩ rfl rfl (Pp A i (by omega))) (⟨tv,Cb (copy_ (e:=eo Cn 2) (l0:=A.drop (i+a2.length)) (l1:=A.drop i) (t:=1024000) rfl rfl tv rfl (d0 tv (Jz ?_))) Az⟩)))))⟩))⟩)))))) (fun h=>by cases h)))
  have hB:(A.drop i).take (A.drop (i+a2.length)).length=(a0.drop i).map some:=by
   rw [←hA2]; congr 1; simp; omega
  rw [hB]
  refine Dy ⟨[(0,.own 1024000 0 2 ((ovl A (i+a2.length) ((a0.drop i).map some)).map (eo Cn 2))),(1,iV i),(2,Be 2097152 a2)],[],[]⟩ (fg ⟨congrArg (fun z=>some (V.own 1024000 0 2 z)) (Fb (off:=0)),rfl,rfl,tv⟩ tv) ?_
  have hR2l:(ovl A (i+a2.length) ((a0.drop i).map some)).length=a0.length+a2.length:=by rw [Ng,hA0]
  have hfin:ovl (ovl A (i+a2.length) ((a0.drop i).map some)) i (a2.map some)=(a0.take i++a2++a0.drop i).map some:=nQ hA0 hA1 hi
  generalize ovl A (i+a2.length) ((a0.drop i).map some)=R2 at hR2l hfin
  refine At 3 (Ah (st (c_ (Dk (e:=eo Cn 2) (y:=R2.drop i) rfl rfl tv ⟨tv,tv⟩ rfl rfl (Pp R2 i (by omega))) (st (Dc rfl tv (st (copy_ (e:=eo Cn 2) (l0:=R2.drop i) (l1:=a2.map some) (t:=1024000) rfl rfl tv (congrArg (fun z=>some (2,z)) (Se a2)) (In ?_))))))))
  have hT:(a2.map some).take (R2.drop i).length=a2.map some:=List.take_of_length_le (by simp; omega)
  rw [hT]
  refine Dy ⟨[(0,Be 1024000 (a0.take i++a2++a0.drop i)),(2,Be 2097152 a2)],[],[]⟩
   (fg ⟨(congrArg (fun z=>some (V.own 1024000 0 2 z)) (Fb (off:=0))).trans (congrArg (fun z=>some (V.own 1024000 0 2 z)) ((congrArg (List.map (eo Cn 2)) hfin).trans (Se _).symm)),rfl,tv⟩ tv) ?_
  refine At 5 ?_
  exact Kv (Fe rfl rfl rfl rfl rfl ⟨⟨rfl,xP (fun _=>rfl)⟩,tv⟩)


/- loop.example/g00149/impl.apply -/
def Afz:List Bj:=[⟨some 4,.nilS 2,none⟩,k_ 5 (.bool false)]
def AfA:=[m_ 11 0,q_ 12 403 [.t 11],m_ 6 12]
def AfB:=[m_ 13 1,n_ 14 13,i_ 15 0]
def AfC:=[b_ .lss 16 15 14]
def AfD:=[x_ 17 13 15 3,L_ 18 17 3,a_ 8 [.str [],.str [],.bool false],s_ 8 18 3]
def AfE:=[m_ 20 6,f_ 21 8 0,l_ 22 21 1,q_ 23 416 [.t 20,.t 22,.c (.clo 417 [])],m_ 19 23,e_ 24 19 0,e_ 25 19 1,m_ 9 24,m_ 10 25]
def AfF:=[m_ 26 10]
def AfG:=[m_ 27 6,m_ 28 9,m_ 29 9,B_ .add 30 29 1,q_ 31 419 [.t 27,.t 28,.t 30],m_ 6 31]
def AfH:=[f_ 32 8 2,l_ 33 32 1,N_ 34 33]
def AfI:List Bj:=[m_ 35 6,m_ 36 9,f_ 37 8 0,l_ 38 37 1,f_ 39 8 1,l_ 40 39 1,⟨some 41,.p (.build [.str [],.str []] [(0,1,.t 38),(1,1,.t 40)]),none⟩,⟨some 42,.mkS 2 [.str [],.str []] 1 [(0,.t 41)],none⟩,q_ 43 420 [.t 35,.t 36,.t 42],m_ 6 43]
def DV:=[B_ .add 44 15 1,m_ 15 44]
def Afy:IR:=(sr AfC (.seq (.ite (.t 16) .skip (.exit 0)) (.seq (.block 1 (sr AfD (sr AfE (.seq (sr AfF (iz 26 (.reg AfG))) (sr AfH (iz 34 (.reg AfI))))))) (.reg DV))))
def DW:=[m_ 45 6,m_ 46 6,n_ 47 46,B_ .leq 48 47 100,m_ 4 45,m_ 5 48]
def c397:De:=⟨2,49,[.t 4,.t 5],sr Afz (sr AfA (.seq (sr AfB (Jc 0 Afy)) (rr DW)))⟩
def NZ (D:Ba):Prop:=∀a0 a1 r,IX a0 a1=some r→D 397 ⟨[Cy a0,Co a1],[]⟩ ⟨.tup [Be 0 r.1,.bool r.2],[],[]⟩
theorem F397 (H403:K403 C) (H416:K416 C) (H417:K417 C) (H419:K419 C) (H420:K420 C):NZ (FO C c397):=by
 intro a0 a1 r h0
 refine f0 (As 4 [(0,Cy a0),(1,Co a1)] [] (Bk (Ah (st (Dc rfl tv (bb h0 fun r1 e2 h0=>Ji (H403 a0 r1 e2) (af rfl) (o_ (As 2 [(1,Co a1),(6,Be 768 r1)] [] (At 3 (Ah (Hf rfl (o_ (As 2 [(6,Be 768 r1),(13,Co a1),(14,iV (a1.length:Int)),(15,iV 0)] [] (Ci (bb h0 fun r67 e68 h0=>Df (R:=(fun S=>∃p35:List Bd,p35=r67∧S=⟨[(6,Be 768 p35)],[],[]⟩)) (Tb a1) (fun s S=>match s with | (p17,p18)=>S=⟨[(6,Be 768 p17),(13,Co a1),(14,iV (a1.length:Int)),(15,iV p18)],[],[]⟩) e68 _ (Er (by kernel_rfl)) rfl 0 (fun _=>rfl) ?_ ?_)))))))))))))))
 ·rintro S _ hfg ⟨p35,rfl,rfl⟩
  refine Dy _ hfg (At 3 (Ah (Qb rfl (o_ ?_))))
  obtain rfl:=sj h0
  exact Cs 5
 ·rintro ⟨p17,p18⟩ o1 _ K1 rfl h1 hx1 hK1 hE1 hR1
  refine As 3 [(6,Be 768 p17),(13,Co a1),(14,iV (a1.length:Int)),(15,iV p18),(16,.bool (decide (p18<(a1.length:Int))))] [] (Bk (Cw h1 (fun c36 h1=>?_) (fun c36 h1=>?_)))
  ·refine Mm 3 (Hz (fun S=>∃p49:List Bd,S=⟨[(6,Be 2752 p49),(13,Co a1),(14,iV (a1.length:Int)),(15,iV p18)],[],[]⟩∧bF p18 p49=some o1) ?_ (fun J50=>?_))
   ·rintro _ ⟨p49,rfl,h1⟩
    refine At 4 ?_
    obtain rfl:=sj h1
    exact hK1 _ rfl _ _ (Lz [] [(2752,768)] rfl (by kernel_rfl)) rfl
   ·refine Bk ?_
    refine Ah (bb h1 fun y51 e52 h1=>Ns rfl rfl e52 (o_ (As 4 [(6,Be 768 p17),(8,.ptr 512 0),(13,Co a1),(14,iV (a1.length:Int)),(15,iV p18)] [(512,Dn y51)] (At 4 (Ah (bb h1 fun r53 e54 h1=>st (Cm (r:=.tup [iV r53.1,.bool r53.2]) false (H416 p17 y51.key 417 [] (fun z417_0 z417_1=>qT z417_0 z417_1) (⟨fun _ _ _ _ _=>rfl,fun _ _ _ _ _=>rfl,rfl,fun _ _ _ n=>by cases n<;>rfl,fun _=>rfl⟩) (fun z417_0 z417_1 r h=>H417 z417_0 z417_1 r h) r53 e54) ⟨tv,tv,tv,tv⟩ rfl rfl (fun _=>rfl) (o_ (As 11 [(6,Be 768 p17),(8,.ptr 512 0),(9,iV r53.1),(13,Co a1),(14,iV (a1.length:Int)),(15,iV p18),(26,.bool r53.2)] [(512,Dn y51)] (Vc (cb:=r53.2) (fun S=>∃p58:List Bd,S=⟨[(6,Be 1984 p58),(8,.ptr 512 0),(9,iV r53.1),(13,Co a1),(14,iV (a1.length:Int)),(15,iV p18)],[(512,Dn y51)],[]⟩∧Wo p18 y51 r53 p58=some o1) rfl ?_ (fun c64 J63=>?_) (fun c64 J63=>?_)))))))))))
    ·rintro _ ⟨p58,rfl,h1⟩
     refine As 6 [(6,Be 1984 p58),(8,.ptr 512 0),(9,iV r53.1),(13,Co a1),(14,iV (a1.length:Int)),(15,iV p18),(34,.bool (!y51.Li))] [(512,Dn y51)] (Cw h1 (fun c59 h1=>?_) (fun c59 h1=>?_))
     ·refine At 6 (Ah (st (c_ (v:=.agg [.str y51.key,.str y51.value]) (Bw ⟨tv,tv,tv⟩ rfl ⟨⟨rfl,rfl,nl rfl⟩,⟨rfl,rfl,nl rfl⟩,tv⟩) (st (Ky ⟨tv,tv⟩ ⟨⟨nl rfl,rfl,rfl⟩,tv⟩ (bb h1 fun r60 e61 h1=>gg h1 fun c62 h1=>fE [] [2688] [1984] (H420 p58 r53.1 ([Bd.mk y51.key y51.value]:List Bd) r60 e61) (Bq (af rfl) (Bq (fl2 (fun _=>rfl)) rfl)) (st (Dc rfl tv (In (Um ?_))))))))))
      exact jn J50 ⟨_,rfl,h1⟩
     ·refine Nh (Um ?_)
      exact J50 _ _ (Lz [] [(1984,2752)] rfl (by kernel_rfl)) ⟨_,rfl,h1⟩
    ·replace h1:=ip c64 h1
     refine At 4 (Ah (bb h1 fun r65 e66 h1=>fE [] [] [768] (H419 p17 r53.1 (wi (r53.1+1)) r65 e66) (Bq (af rfl) rfl) (st (Dc rfl tv (In ?_)))))
     exact jn J63 ⟨_,rfl,h1⟩
    ·replace h1:=oY c64 h1
     refine Nh ?_
     exact J63 _ _ (Lz [] [(768,1984)] rfl (by kernel_rfl)) ⟨_,rfl,h1⟩
  ·obtain rfl:=sj h1
   obtain rfl:=hx1 _ rfl
   refine Iw rfl ?_
   exact jn hE1 ⟨_,rfl,rfl⟩

/- loop.example/g00149/impl.taken -/
def AgW:List Bj:=[⟨some 4,.nilS 1,none⟩,⟨some 5,.nilS 1,none⟩,k_ 6 (.bool false)]
def AgX:=[m_ 7 1,m_ 8 0,n_ 9 8,b_ .gtr 10 7 9]
def AgY:List Bj:=[⟨some 4,.nilS 1,none⟩,⟨some 5,.nilS 1,none⟩,k_ 6 (.bool false)]
def AgZ:=tk [m_ 11 0,m_ 12 1,⟨some 13,.p (.slice (.t 11) none (some (.t 12)) 1),none⟩,m_ 14 0,m_ 15 1,⟨some 16,.p (.slice (.t 14) (some (.t 15)) none 1),none⟩,m_ 4 13,m_ 5 16,k_ 6 (.bool true)] .fin
def c426:De:=⟨2,17,[.t 4,.t 5,.t 6],sr AgW (.seq (sr AgX (iz 10 (rr AgY))) (sd AgZ .ret))⟩
def K426 (D:Ba):Prop:=∀a0 a1 r,qU a0 a1=some r→D 426 ⟨[Eb a0,iV a1],[]⟩ ⟨.tup [Eb r.1,Eb r.2.1,.bool r.2.2],[],[]⟩
theorem F426:K426 (FO C c426):=by
 intro a0 a1 r h0
 refine f0 (As 5 [(0,Eb a0),(1,iV a1)] [] (At 4 (Ah (Hf rfl (o_ (As 2 [(0,Eb a0),(1,iV a1),(10,.bool (decide (a1>(a0.length:Int))))] [] (Cw h0 (fun c1 h0=>?_) (fun c1 h0=>?_))))))))
 ·obtain rfl:=sj h0
  exact Cs 6 [256,320]
 ·refine Mm 3 (bb h0 fun s2 e3 h0=>bb h0 fun s4 e5 h0=>At 2 (Bm (Au tv (c_ (Hi (e:=Gh) (y:=s2) rfl rfl tv ⟨tv,tv⟩ rfl rfl e3) (⟨tv,d_ (At 2 (Bm (Au tv (c_ (Hi (e:=Gh) (y:=s4) rfl rfl tv ⟨tv,tv⟩ rfl rfl e5) (⟨tv,d_ ?_⟩)))))⟩)))))
  obtain rfl:=sj h0
  exact Cs 5

/- loop.example/g00149/impl.readChange -/
def Agc:List Bj:=[a_ 2 [.str [],.str [],.bool false],⟨some 3,.nilS 1,none⟩,k_ 4 (.bool false)]
def Agd:=tk [m_ 12 0,⟨some 13,.p (.slice (.t 12) (some (.c (iV 1))) none 1),none⟩,m_ 14 0,⟨some 15,.p (.idxA (.t 14) (.c (iV 0)) 1),none⟩,l_ 16 15 1,iQ 17 (.conv .i64 (.t 16))] (.alt [] (q_ 18 426 [.t 13,.t 17]) (tk [m_ 11 18,e_ 19 11 0,e_ 20 11 1,e_ 21 11 2,m_ 5 19,m_ 6 20,m_ 7 21] .fin) .stop)
def Age:=[m_ 22 7,N_ 23 22]
def Agf:List Bj:=[iQ 24 (.build [.str [],.str [],.bool false] []),s_ 2 24 3,⟨some 3,.nilS 1,none⟩,k_ 4 (.bool false)]
def Agg:=[m_ 26 6,q_ 27 426 [.t 26,.c (iV 2)],m_ 25 27,e_ 28 25 0,e_ 29 25 1,e_ 30 25 2,m_ 8 28,m_ 6 29,m_ 7 30]
def Agh:=[m_ 31 7,N_ 32 31]
def Agi:List Bj:=[iQ 33 (.build [.str [],.str [],.bool false] []),s_ 2 33 3,⟨some 3,.nilS 1,none⟩,k_ 4 (.bool false)]
def Agj:=[m_ 34 8,q_ 35 333 [.t 34],m_ 9 35]
def Agk:List Bj:=[m_ 37 6,m_ 38 9,B_ .sub 39 38 1,⟨some 40,.p (.mx (.t 39) (.c (iV 0))),none⟩,q_ 41 426 [.t 37,.t 40],m_ 36 41,e_ 42 36 0,e_ 43 36 1,e_ 44 36 2,m_ 10 42,m_ 6 43,m_ 7 44]
def Agl:List Bj:=[m_ 45 5,iQ 46 (.toStr (.t 45)),m_ 47 10,iQ 48 (.toStr (.t 47)),m_ 49 9,B_ .eql 50 49 0,⟨some 51,.p (.build [.str [],.str [],.bool false] [(0,1,.t 46),(1,1,.t 48),(2,1,.t 50)]),none⟩,m_ 52 6,m_ 53 7,s_ 2 51 3,m_ 3 52,m_ 4 53]
def c415:De:=⟨1,54,[.cell 2 3 true,.t 3,.t 4],sr Agc (sd Agd (.seq (sr Age (iz 23 (rr Agf))) (sr Agg (.seq (sr Agh (iz 32 (rr Agi))) (sr Agj (sr Agk (rr Agl)))))))⟩
def K415 (D:Ba):Prop:=∀a0 r,AlU a0=some r→D 415 ⟨[Eb a0],[]⟩ ⟨.tup [.agg (Dn r.1),Eb r.2.1,.bool r.2.2],[],[]⟩
theorem F415 (H333:NW C) (H426:K426 C):K415 (FO C c415):=by
 intro a0 r h0
 refine f0 (As 5 [(0,Eb a0),(2,.ptr 128 0)] [(128,Ie ([]:List UInt8) ([]:List UInt8) false)] (Bk (bb h0 fun s1 e2 h0=>bb h0 fun y3 e4 h0=>bb h0 fun r5 e6 h0=>Bm (Au tv (Dc rfl tv (⟨tv,Au tv (c_ (Hi (e:=Gh) (y:=s1) rfl rfl tv ⟨tv,tv⟩ rfl rfl e2) (⟨tv,Au tv (Dc rfl tv (⟨tv,d_ (sN rfl rfl rfl e4 (At 2 (Bm (Cb (Cm (r:=.tup [Eb r5.1,Eb r5.2.1,.bool r5.2.2]) true (H426 s1 (wi ((y3).toNat:Int)) r5 e6) ⟨tv,tv,tv⟩ rfl rfl (fun h=>nomatch h) (dw [(2,.ptr 128 0),(18,.tup [Eb r5.1,Eb r5.2.1,.bool r5.2.2])] [(128,Ie ([]:List UInt8) ([]:List UInt8) false)] tv (d_ (As 8 [(2,.ptr 128 0),(5,Eb r5.1),(6,Eb r5.2.1),(7,.bool r5.2.2)] [(128,Ie ([]:List UInt8) ([]:List UInt8) false)] ?_)))) Az))))⟩))⟩))⟩))))))
 refine As 5 [(2,.ptr 128 0),(5,Eb r5.1),(6,Eb r5.2.1),(23,.bool (!r5.2.2))] [(128,Ie ([]:List UInt8) ([]:List UInt8) false)] (Cw h0 (fun c7 h0=>?_) (fun c7 h0=>?_))
 ·obtain rfl:=sj h0
  exact Cs 7 [192]
 ·refine At 4 (Ah (bb h0 fun r8 e9 h0=>st (Cm (r:=.tup [Eb r8.1,Eb r8.2.1,.bool r8.2.2]) true (H426 r5.2.1 2 r8 e9) ⟨tv,tv,tv⟩ rfl rfl (fun h=>nomatch h) (o_ (As 14 [(2,.ptr 128 0),(5,Eb r5.1),(6,Eb r8.2.1),(8,Eb r8.1),(32,.bool (!r8.2.2))] [(128,Ie ([]:List UInt8) ([]:List UInt8) false)] (Cw h0 (fun c10 h0=>?_) (fun c10 h0=>?_)))))))
  ·obtain rfl:=sj h0
   exact Cs 7 [192]
  ·refine At 4 (Ah (bb h0 fun r11 e12 h0=>Il (H333 r8.1 r11 e12) (o_ (As 2 [(2,.ptr 128 0),(5,Eb r5.1),(6,Eb r8.2.1),(9,iV r11)] [(128,Ie ([]:List UInt8) ([]:List UInt8) false)] (At 5 (Ah (bb h0 fun r13 e14 h0=>st (Cm (r:=.tup [Eb r13.1,Eb r13.2.1,.bool r13.2.2]) true (H426 r8.2.1 (if 0>(wi (r11-1)) then 0 else (wi (r11-1))) r13 e14) ⟨tv,tv,tv⟩ rfl rfl (fun h=>nomatch h) (o_ (As 8 [(2,.ptr 128 0),(5,Eb r5.1),(6,Eb r13.2.1),(7,.bool r13.2.2),(9,iV r11),(10,Eb r13.1)] [(128,Ie ([]:List UInt8) ([]:List UInt8) false)] (Bk (Ah (st (Dc rfl tv (st (c_ (tH (s:=r5.1) rfl rfl tv) (st (Dc rfl tv (st (c_ (tH (s:=r13.1) rfl rfl tv) (o_ (At 2 (Ah (st (c_ (v:=.agg (Ie r5.1 r13.1 (r11==0))) (Bw ⟨tv,tv,tv,tv⟩ rfl ⟨⟨rfl,rfl,nl rfl⟩,⟨rfl,rfl,nl rfl⟩,⟨rfl,rfl,nl rfl⟩,tv⟩) (o_ ?_))))))))))))))))))))))))))
   obtain rfl:=sj h0
   exact Cs 7

/- loop.example/g00149/impl.readBatch -/
def Afp:List Bj:=[⟨some 2,.nilS 3,none⟩,k_ 3 (.bool false)]
def Afq:List Bj:=[⟨some 4,.nilS 3,none⟩]
def Afr:=[m_ 8 0,n_ 9 8,B_ .gtr 10 9 0]
def Afs:=[m_ 12 0,q_ 13 415 [.t 12],m_ 11 13,e_ 14 11 0,e_ 15 11 1,e_ 16 11 2,a_ 5 [.str [],.str [],.bool false],s_ 5 14 3,m_ 6 15,m_ 7 16]
def Aft:List Bj:=[m_ 17 7,N_ 18 17,m_ 19 18,mF 19 20 4,pF 19 21 (.len (.t 20)),pF 19 22 (.bin .eql (.t 21) (.c (iV 30))),po 23 19 22,m_ 24 23,lF 24 25 5 3 true,⟨some 26,.call 414 [.t 25],some (24,false)⟩,pF 24 27 (.un .not (.t 26)),po 28 24 27]
def Afu:List Bj:=[⟨some 2,.nilS 3,none⟩,k_ 3 (.bool false)]
def Afv:List Bj:=[m_ 29 4,L_ 30 5 3,⟨some 31,.mkS 3 [.str [],.str [],.bool false] 1 [(0,.t 30)],none⟩,⟨some 32,.app 3 40 (.t 29) (.t 31),none⟩,m_ 4 32]
def Afw:=[m_ 33 6,m_ 0 33]
def Afo:IR:=(.seq (sr Afr (.ite (.t 10) .skip (.exit 0))) (.block 1 (sr Afs (.seq (sr Aft (iz 28 (rr Afu))) (sr Afv (.reg Afw))))))
def Afx:=[m_ 34 4,m_ 2 34,k_ 3 (.bool true)]
def c396:De:=⟨1,35,[.t 2,.t 3],sr Afp (sr Afq (.seq (Jc 0 Afo) (rr Afx)))⟩
def K396 (D:Ba):Prop:=∀a0 r,AlO a0=some r→D 396 ⟨[Eb a0],[]⟩ ⟨.tup [Jp 0 r.1,.bool r.2],[],[]⟩
theorem F396 (H414:OB C) (H415:K415 C):K396 (FO C c396):=by
 intro a0 r h0
 refine f0 (As 8 [(0,Eb a0),(4,.own 256 0 3 ([].map Dn))] [] (Bk (Ci (bb h0 fun r33 e34 h0=>Df (R:=(fun S=>∃p23:List Ar,.inl p23=r33∧S=⟨[(4,Jp 256 p23)],[],[]⟩)) (bE) (fun s S=>match s with | (p10,p11)=>S=⟨[(0,Eb p10),(4,Jp 256 p11)],[],[]⟩) e34 _ (Er (by kernel_rfl)) rfl 0 (fun _=>rfl) ?_ ?_))))
 ·rintro S _ hfg ⟨p23,rfl,rfl⟩
  refine Dy _ hfg ?_
  obtain rfl:=sj h0
  exact Cs 6
 ·rintro ⟨p10,p11⟩ o1 _ K1 rfl h1 hx1 hK1 hE1 hR1
  refine At 3 (Ah (Hf rfl (o_ (As 2 [(0,Eb p10),(4,Jp 256 p11),(10,.bool (decide ((p10.length:Int)>0)))] [] (Cw h1 (fun c24 h1=>?_) (fun c24 h1=>?_))))))
  ·refine At 5 (Ah (bb h1 fun r25 e26 h1=>st (Cm (r:=.tup [.agg (Dn r25.1),Eb r25.2.1,.bool r25.2.2]) true (H415 p10 r25 e26) ⟨tv,tv⟩ rfl rfl (fun h=>nomatch h) (o_ (As 9 [(4,Jp 256 p11),(5,.ptr 320 0),(6,Eb r25.2.1),(7,.bool r25.2.2)] [(320,Dn r25.1)] (Hj 6 (Ah (st (Ep (u:=iV (p11.length:Int)) rfl (fun hg=>(mC (e:=Dn) (l0:=p11) rfl rfl (fun _=>hg))) (o_ (Hj 4 (Ah (bb h1 fun r27 e28 h1=>st (En (r:=.bool r27) rfl false (fun hg=>H414 r25.1 r27 (ip hg e28)) ⟨(fun hg=>hg),tv⟩ (fun _=>rfl) (fun _=>rfl) (fun _=>rfl) (fun h=>nomatch h) (o_ (Hj 3 (bv h1 fun v29 e30 h1=>Dy ⟨[(4,Jp 256 p11),(5,.ptr 320 0),(6,Eb r25.2.1),(28,.bool v29)],[(320,Dn r25.1)],[]⟩ (Er (by subst e30; kernel_rfl)) (Cw h1 (fun c31 h1=>?_) (fun c31 h1=>?_)))))))))))))))))))
   ·obtain rfl:=sj h1
    obtain rfl:=hx1 _ rfl
    obtain rfl:=sj h0
    exact Yy 5 hR1
   ·refine At 6 (Ah (gg h1 fun c32 h1=>st (Fp (e:=Dn) (l0:=p11) (l1:=([r25.1]:List Ar)) rfl rfl tv rfl (by decide) c32 (o_ (As 2 [(4,Jp 256 (p11++([r25.1]:List Ar))),(6,Eb r25.2.1)] [] (At 4 ?_))))))
    obtain rfl:=sj h1
    exact kn hK1 rfl rfl
  ·obtain rfl:=sj h1
   obtain rfl:=hx1 _ rfl
   refine Iw rfl ?_
   exact jn hE1 ⟨_,rfl,rfl⟩

/- (loop.example/g00149/impl.Device).load -/
def AfK:List Bj:=[X_ 1 0,⟨some 2,.nilS 2,none⟩]
def AfL:=[L_ 12 1 2,q_ 13 263 [.t 12],q_ 14 275 [.t 13],m_ 11 14,e_ 15 11 0,e_ 16 11 1,m_ 3 15,m_ 4 16]
def AfM:List Bj:=[⟨some 5,.nilS 2,none⟩]
def AfN:=[m_ 17 3,n_ 18 17,i_ 19 0]
def AfO:=[b_ .lss 20 19 18]
def AfP:=[x_ 21 17 19 1,l_ 22 21 1,m_ 7 22]
def AfQ:=[m_ 24 7,q_ 25 396 [.t 24],m_ 23 25,e_ 26 23 0,e_ 27 23 1,m_ 8 26,m_ 9 27]
def AfR:=[m_ 28 9,N_ 29 28]
def AfS:=[m_ 31 5,m_ 32 8,q_ 33 397 [.t 31,.t 32],m_ 30 33,e_ 34 30 0,e_ 35 30 1,m_ 10 34,m_ 9 35]
def AfT:=[m_ 36 9,N_ 37 36]
def DX:=[m_ 38 10,m_ 5 38]
def DY:=[B_ .add 39 19 1,m_ 19 39]
def AfJ:IR:=(sr AfO (.seq (.ite (.t 20) .skip (.exit 0)) (.seq (.block 1 (sr AfP (sr AfQ (.seq (sr AfR (iz 29 (.exit 0))) (sr AfS (.seq (sr AfT (iz 37 (.exit 0))) (.reg DX))))))) (.reg DY))))
def DZ:=[m_ 40 5,m_ 2 40]
def c398:De:=⟨1,41,[.t 2],sr AfK (sr AfL (sr AfM (.seq (sr AfN (Jc 0 AfJ)) (rr DZ))))⟩
def OA (D:Ba):Prop:=∀a0 r,xA a0=some r→D 398 ⟨[.agg (Ch a0)],[]⟩ ⟨Be 0 r,[],[]⟩
theorem F398 (H263:pH C) (H275:zA C) (H396:K396 C) (H397:NZ C):OA (FO C c398):=by
 intro a0 r h0
 refine f0 (As 4 [(1,.ptr 64 0)] [(64,Ch a0)] (At 2 (Ah (bb h0 fun r1 e2 h0=>Ji (H263 a0 r1 e2) (af rfl) (bb h0 fun r3 e4 h0=>st (Cm (r:=.tup [.own 0 0 1 (r3.1.map (eL 1 Gh)),iV r3.2]) true (H275 r1 r3 e4) ⟨tv,tv⟩ rfl rfl (fun h=>nomatch h) (o_ (As 10 [(3,.own 896 0 1 (r3.1.map (eL 1 Gh))),(5,.own 320 0 2 ([].map Cn))] [] (At 3 (Ah (Qb rfl (o_ (As 2 [(5,.own 320 0 2 ([].map Cn)),(17,.own 896 0 1 (r3.1.map (eL 1 Gh))),(18,iV (r3.1.length:Int)),(19,iV 0)] [] (Ci (bb h0 fun r43 e44 h0=>Df (R:=(fun S=>∃p31:List Bd,p31=r43∧S=⟨[(5,Be 320 p31)],[],[]⟩)) (bG r3) (fun s S=>match s with | (p16,p17)=>S=⟨[(5,Be 320 p16),(17,.own 896 0 1 (r3.1.map (eL 1 Gh))),(18,iV (r3.1.length:Int)),(19,iV p17)],[],[]⟩) e44 _ (Er (by kernel_rfl)) rfl 0 (fun _=>rfl) ?_ ?_)))))))))))))))
 ·rintro S _ hfg ⟨p31,rfl,rfl⟩
  refine Dy _ hfg ?_
  obtain rfl:=sj h0
  exact Cs 5
 ·rintro ⟨p16,p17⟩ o1 _ K1 rfl h1 hx1 hK1 hE1 hR1
  refine As 3 [(5,Be 320 p16),(17,.own 896 0 1 (r3.1.map (eL 1 Gh))),(18,iV (r3.1.length:Int)),(19,iV p17),(20,.bool (decide (p17<(r3.1.length:Int))))] [] (Bk (Cw h1 (fun c32 h1=>?_) (fun c32 h1=>?_)))
  ·refine Mm 5 (Ah (bb h1 fun y33 e34 h1=>iO rfl rfl e34 (bb h1 fun y35 e36 h1=>NH rfl rfl e36 (o_ (As 2 [(5,Be 320 p16),(7,Eb y35),(17,.own 896 0 1 (r3.1.map (eL 1 Gh))),(18,iV (r3.1.length:Int)),(19,iV p17)] [] (Bk (Ah (st (Dc rfl tv (bb h1 fun r37 e38 h1=>Ji (H396 y35 r37 e38) (af (Bq rfl rfl)) (o_ (As 12 [(5,Be 320 p16),(8,Jp 1600 r37.1),(17,.own 896 0 1 (r3.1.map (eL 1 Gh))),(18,iV (r3.1.length:Int)),(19,iV p17),(29,.bool (!r37.2))] [] (Cw h1 (fun c39 h1=>?_) (fun c39 h1=>?_))))))))))))))
   ·obtain rfl:=sj h1
    obtain rfl:=hx1 _ rfl
    refine Iw rfl ?_
    exact jn hE1 ⟨_,rfl,rfl⟩
   ·refine At 5 (Ah (bb h1 fun r40 e41 h1=>Ji (H397 p16 r37.1 r40 e41) (af (Bq rfl rfl)) (o_ (As 12 [(5,Be 320 p16),(10,Be 2112 r40.1),(17,.own 896 0 1 (r3.1.map (eL 1 Gh))),(18,iV (r3.1.length:Int)),(19,iV p17),(37,.bool (!r40.2))] [] (Cw h1 (fun c42 h1=>?_) (fun c42 h1=>?_))))))
    ·obtain rfl:=sj h1
     obtain rfl:=hx1 _ rfl
     refine Iw rfl ?_
     exact jn hE1 ⟨_,rfl,rfl⟩
    ·refine As 6 [(5,Be 2112 r40.1),(17,.own 896 0 1 (r3.1.map (eL 1 Gh))),(18,iV (r3.1.length:Int)),(19,iV p17)] [] (At 3 ?_)
     obtain rfl:=sj h1
     exact hK1 _ rfl _ _ (Lz [] [(2112,320)] rfl (by kernel_rfl)) rfl
  ·obtain rfl:=sj h1
   obtain rfl:=hx1 _ rfl
   refine Iw rfl ?_
   exact jn hE1 ⟨_,rfl,rfl⟩

/- loop.example/g00149/impl.Commit -/
def AeM:=[X_ 2 0,a_ 4 [.own 257 0 1 [],.own 258 0 2 []],i_ 5 0]
def AeN:=[m_ 9 1,q_ 10 393 [.t 9],N_ 11 10,m_ 8 11]
def AeO:=[iQ 12 (.build [.own 769 0 1 [],.own 770 0 2 []] []),s_ 4 12 2,i_ 5 2]
def AeP:List Bj:=[L_ 14 2 2,q_ 15 216 [.t 14],N_ 16 15,m_ 17 16,mF 17 18 1,⟨some 19,.call 394 [.t 18],some (17,false)⟩,pF 17 20 (.un .not (.t 19)),po 21 17 20,m_ 13 21]
def AeQ:=[iQ 22 (.build [.own 1409 0 1 [],.own 1410 0 2 []] []),s_ 4 22 2,i_ 5 1]
def AeR:=[L_ 24 2 2,q_ 25 398 [.t 24],m_ 26 1,q_ 27 397 [.t 25,.t 26],m_ 23 27,e_ 28 23 0,e_ 29 23 1,m_ 6 28,m_ 7 29]
def AeS:=[m_ 30 7,N_ 31 30]
def AeT:=[iQ 32 (.build [.own 2049 0 1 [],.own 2050 0 2 []] []),s_ 4 32 2,i_ 5 9]
def AeU:=tk [L_ 33 2 2,m_ 34 1] (.alt [L_ 33 2 2] (q_ 35 395 [.t 34]) (.alt [] (q_ 36 273 [.t 33,.t 35]) (tk [e_ 37 36 0,e_ 38 36 1] (.alt [] (s_ 4 37 2) (tk [m_ 5 38] .fin) .stop)) .stop) .stop)
def c382:De:=⟨2,39,[.cell 4 2 true,.t 5],sr AeM (.seq (.block 0 (sr AeN (.ite (.t 8) (rr AeO) (sr AeP (iz 13 (rr AeQ)))))) (.seq (sr AeR (sr AeS (iz 31 (rr AeT)))) (sd AeU .ret)))⟩
def K382 (D:Ba):Prop:=∀a0 a1 r,qR a0 a1=some r→D 382 ⟨[.agg (Ch a0),Co a1],[]⟩ ⟨.tup [.agg (By r.1 (Al 0) (Al 1)),iV r.2],[],[]⟩
abbrev kK:=fun x0 (r:List (Nat×List V))=>(128,Ch x0)::(256,[Eo 257 [],Bo 258 []])::r
abbrev kL:=fun x0 (r:List (Nat×V))=>(1,Co x0)::(2,.ptr 128 0)::(4,.ptr 256 0)::r
theorem F382 (H216:pG C) (H273:K273 C) (H393:K393 C) (H394:K394 C) (H395:K395 C) (H397:NZ C) (H398:OA C):K382 (FO C c382):=by
 intro a0 a1 r h0
 refine f0 (As 5 (kL a1 []) (kK a0 []) (At 4 (Ah (bb h0 fun r1 e2 h0=>Il (H393 a1 r1 e2) (o_ (As 3 (kL a1 [(8,.bool (!r1))]) (kK a0 []) (Cw h0 (fun c3 h0=>?_) (fun c3 h0=>?_))))))))
 ·obtain rfl:=sj h0
  exact Cs 6
 ·refine At 2 (Ah (bb h0 fun r4 e5 h0=>Il (H216 a0 r4 e5) (o_ (Hj 3 (Ah (bb h0 fun r6 e7 h0=>st (En (r:=.bool r6) rfl false (fun hg=>H394 a1 r6 (ip hg e7)) ⟨(fun hg=>hg),tv⟩ (fun _=>rfl) (fun _=>rfl) (fun _=>rfl) (fun h=>nomatch h) (o_ (uE 4 (kL a1 [(13,.bool (bif (!r4) then true else (!r6)))]) (kK a0 []) (Cw h0 (fun c8 h0=>?_) (fun c8 h0=>?_)))))))))))
  ·obtain rfl:=sj h0
   exact Cs 6
  ·refine At 6 (Ah (bb h0 fun r9 e10 h0=>Ji (H398 a0 r9 e10) (af rfl) (st (Dc rfl tv (bb h0 fun r11 e12 h0=>Ji (H397 r9 a1 r11 e12) (af (Bq rfl rfl)) (o_ (As 11 (kL a1 [(31,.bool (!r11.2))]) (kK a0 []) (Cw h0 (fun c13 h0=>?_) (fun c13 h0=>?_)))))))))
   ·obtain rfl:=sj h0
    exact Cs 6
   ·refine Mm 3 (bb h0 fun r14 e15 h0=>bb h0 fun r16 e17 h0=>At 2 (Bm (Oo (H395 a1 r14 e15) (af rfl) (dw [(2,.ptr 128 0),(4,.ptr 256 0),(33,.agg (Ch a0)),(35,Eo 2240 r14)] [(128,Ch a0),(256,[Eo 257 [],Bo 258 []])] hB (Cb (Cm (r:=.tup [.agg (By r16.1 (Al 0) (Al 1)),iV r16.2]) true (H273 a0 r14 r16 e17) ⟨tv,tv,tv⟩ rfl rfl (fun h=>nomatch h) (dw [(4,.ptr 256 0),(36,.tup [.agg (By r16.1 (Al 2304) (Al 2305)),iV r16.2])] [(256,[Eo 257 [],Bo 258 []])] tv (d_ (At 2 (Bm (Cb (Gc rfl rfl tv rfl rfl rfl (nl rfl) (d0 tv (d_ (As 2 [(4,.ptr 256 0),(5,iV r16.2)] [(256,By r16.1 (Al 2304) (Al 2305))] ?_)))) Az)))))) Az)) Az)))
    obtain rfl:=sj h0
    exact Kv (Fe rfl rfl rfl rfl rfl tv)

/- loop.example/g00149/impl.Load -/
def AeV:List Bj:=[X_ 1 0,⟨some 2,.nilS 2,none⟩,i_ 3 0]
def AeW:=[L_ 4 1 2,q_ 5 216 [.t 4],N_ 6 5]
def AeX:List Bj:=[⟨some 2,.nilS 2,none⟩,i_ 3 1]
def AeY:=[L_ 7 1 2,q_ 8 398 [.t 7],m_ 2 8,i_ 3 0]
def c384:De:=⟨1,9,[.t 2,.t 3],sr AeV (.seq (sr AeW (iz 6 (rr AeX))) (rr AeY))⟩
def K384 (D:Ba):Prop:=∀a0 r,AlH a0=some r→D 384 ⟨[.agg (Ch a0)],[]⟩ ⟨.tup [Be 0 r.1,iV r.2],[],[]⟩
theorem F384 (H216:pG C) (H398:OA C):K384 (FO C c384):=by
 intro a0 r h0
 refine f0 (As 5 [(1,.ptr 64 0)] [(64,Ch a0)] (At 3 (Ah (bb h0 fun r1 e2 h0=>Il (H216 a0 r1 e2) (o_ (As 2 [(1,.ptr 64 0),(6,.bool (!r1))] [(64,Ch a0)] (Cw h0 (fun c3 h0=>?_) (fun c3 h0=>?_))))))))
 ·obtain rfl:=sj h0
  exact Cs 5
 ·refine At 4 (Ah (bb h0 fun r4 e5 h0=>Ji (H398 a0 r4 e5) (af rfl) (o_ ?_)))
  obtain rfl:=sj h0
  exact Cs 4

/- loop.example/g00149/impl.isList[loop.example/g00149/impl.VaultAct] -/
def AhU:=[k_ 2 (.bool false)]
def AhV:=[m_ 3 0,n_ 4 3,B_ .leq 5 4 4096,m_ 2 5]
def c455:De:=⟨1,6,[.t 2],sr AhU (rr AhV)⟩
def K455 (D:Ba):Prop:=∀a0 r,g455 a0=some r→D 455 ⟨[Ca a0],[]⟩ ⟨.bool r,[],[]⟩
theorem F455:K455 (FO C c455):=by
 intro a0 r h0
 refine f0 (As 3 [(0,Ca a0)] [] (Bk (Ah (st (Dc rfl tv (Hf rfl (o_ ?_)))))))
 obtain rfl:=sj h0
 exact Cs 4

/- slices.IndexFunc[[]loop.example/g00149/impl.VaultAct,loop.example/g00149/impl.VaultAct] -/
def AiY:=[i_ 4 0]
def AiZ:=[m_ 6 0,n_ 7 6,i_ 8 0]
def Aja:=[b_ .lss 9 8 7]
def Ajb:=[m_ 10 8,m_ 5 10]
def Ajc:List Bj:=[m_ 11 1,m_ 12 0,m_ 13 5,x_ 14 12 13 7,L_ 15 14 7,⟨some 16,.callv (.t 11) [.t 15],none⟩]
def Ajd:=[m_ 17 5,m_ 4 17]
def Aje:=[B_ .add 18 8 1,m_ 8 18]
def AiX:IR:=(sr Aja (.seq (.ite (.t 9) .skip (.exit 0)) (.seq (.block 1 (sr Ajb (sr Ajc (iz 16 (rr Ajd))))) (.reg Aje))))
def Ajf:=[i_ 4 (-1)]
def c468:De:=⟨2,19,[.t 4],sr AiY (.seq (sr AiZ (Jc 0 AiX)) (rr Ajf))⟩
def K468 (C:Ba) (D:Ba:=C):Prop:=∀(a0:List Aj) (f1:Nat) (k1:List V) (is1:Aj→Option Bool) (hs1:Kp k1) (hf1:∀(x0:Aj) r,is1 x0=some r→C f1 ⟨.agg (Ao x0)::k1,[]⟩ ⟨.bool r,[],[]⟩) (r:Int),g468 a0 is1=some r→D 468 ⟨[Ca a0,.clo f1 k1],[]⟩ ⟨iV r,[],[]⟩
theorem F468:K468 C (FO C c468):=by
 intro a0 f1 k1 is1 hs1 hf1 r h0
 refine f0 (As 3 [(0,Ca a0),(1,.clo f1 k1)] [] (At 3 (Ah (Hf rfl (o_ (As 2 [(0,Ca a0),(1,.clo f1 k1),(7,iV (a0.length:Int)),(8,iV 0)] [] (Ci (bb h0 fun r21 e22 h0=>Df (R:=(fun S=>.inl ()=r21∧S=⟨[],[],[]⟩)) (uA a0 is1) (fun s S=>match s with | p7=>S=⟨[(0,Ca a0),(1,.clo f1 k1),(7,iV (a0.length:Int)),(8,iV p7)],[],[]⟩) e22 _ (Er (by kernel_rfl)) rfl 0 (fun _=>rfl) ?_ ?_))))))))
 ·rintro S _ hfg ⟨rfl,rfl⟩
  refine Dy _ hfg ?_
  obtain rfl:=sj h0
  exact Cs 4
 ·rintro p7 o1 _ K1 rfl h1 hx1 hK1 hE1 hR1
  refine As 3 [(0,Ca a0),(1,.clo f1 k1),(7,iV (a0.length:Int)),(8,iV p7),(9,.bool (decide (p7<(a0.length:Int))))] [] (Bk (Cw h1 (fun c15 h1=>?_) (fun c15 h1=>?_)))
  ·refine As 8 [(0,Ca a0),(1,.clo f1 k1),(5,iV p7),(7,iV (a0.length:Int)),(8,iV p7)] [] (At 4 (Ah (bb h1 fun y16 e17 h1=>Ns rfl rfl e17 (st (c_ (v:=.agg (Ao y16)) (Bw ⟨tv,tv⟩ rfl (nl rfl)) (bb h1 fun r18 e19 h1=>st (Gg (r:=.bool r18) rfl false (hf1 _ r18 e19) ⟨tv,tv⟩ (Bq rfl hs1.2.2.1) (Ej rfl (hs1.2.1 _ _ _ _ _)) (fun _=>rfl) (o_ (As 1 [(0,Ca a0),(1,.clo f1 k1),(5,iV p7),(7,iV (a0.length:Int)),(8,iV p7),(16,.bool r18)] [] (Cw h1 (fun eZ h1=>?_) (fun eZ h1=>?_)))))))))))
   ·obtain rfl:=sj h1
    obtain rfl:=hx1 _ rfl
    obtain rfl:=sj h0
    exact Yy 5 hR1
   ·refine At 6 ?_
    obtain rfl:=sj h1
    exact kn hK1 rfl rfl
  ·obtain rfl:=sj h1
   obtain rfl:=hx1 _ rfl
   refine Iw rfl ?_
   exact jn hE1 ⟨rfl,rfl⟩

/- slices.ContainsFunc[[]loop.example/g00149/impl.VaultAct,loop.example/g00149/impl.VaultAct] -/
def Aio:=[k_ 4 (.bool false)]
def Aip:=[m_ 5 0,m_ 6 1,q_ 7 468 [.t 5,.t 6],B_ .geq 8 7 0,m_ 4 8]
def c461:De:=⟨2,9,[.t 4],sr Aio (rr Aip)⟩
def K461 (C:Ba) (D:Ba:=C):Prop:=∀(a0:List Aj) (f1:Nat) (k1:List V) (is1:Aj→Option Bool) (hs1:Kp k1) (hf1:∀(x0:Aj) r,is1 x0=some r→C f1 ⟨.agg (Ao x0)::k1,[]⟩ ⟨.bool r,[],[]⟩) (r:Bool),Amh a0 is1=some r→D 461 ⟨[Ca a0,.clo f1 k1],[]⟩ ⟨.bool r,[],[]⟩
theorem F461 (H468:K468 C):K461 C (FO C c461):=by
 intro a0 f1 k1 is1 hs1 hf1 r h0
 refine f0 (As 3 [(0,Ca a0),(1,.clo f1 k1)] [] (At 3 (Ah (bb h0 fun r1 e2 h0=>st (Cm (r:=iV r1) false (H468 a0 f1 k1 is1 hs1 hf1 r1 e2) ⟨tv,tv,tv⟩ rfl (Ej rfl (Ej (Yc hs1) rfl)) (fun _=>rfl) (o_ ?_))))))
 obtain rfl:=sj h0
 exact Cs 4

/- loop.example/g00149/impl.areAll[loop.example/g00149/impl.VaultAct]$1 -/
def Aiq:=[X_ 2 0,k_ 3 (.bool false)]
def Air:List Bj:=[l_ 4 1 1,L_ 5 2 7,⟨some 6,.callv (.t 4) [.t 5],none⟩,N_ 7 6,m_ 3 7]
def c462:De:=⟨2,8,[.t 3],sr Aiq (rr Air)⟩
def K462 (C:Ba) (D:Ba:=C):Prop:=∀(a0:Aj) (f1:Nat) (k1:List V) (is1:Aj→Option Bool) (hs1:Kp k1) (hf1:∀(x0:Aj) r,is1 x0=some r→C f1 ⟨.agg (Ao x0)::k1,[]⟩ ⟨.bool r,[],[]⟩) (r:Bool),Amj a0 is1=some r→D 462 ⟨[.agg (Ao a0),.iptr [.clo f1 k1]],[]⟩ ⟨.bool r,[],[]⟩
theorem F462:K462 C (FO C c462):=by
 intro a0 f1 k1 is1 hs1 hf1 r h0
 refine f0 (As 4 [(1,.iptr [.clo f1 k1]),(2,.ptr 128 0)] [(128,Ao a0)] (At 3 (Ah (bb h0 fun r1 e2 h0=>st (Gg (r:=.bool r1) rfl false (hf1 _ r1 e2) ⟨tv,tv⟩ (Bq rfl hs1.2.2.1) (Ej rfl (hs1.2.1 _ _ _ _ _)) (fun _=>rfl) (o_ ?_))))))
 obtain rfl:=sj h0
 exact Cs 4

/- loop.example/g00149/impl.areAll[loop.example/g00149/impl.VaultAct] -/
def AhW:=[X_ 3 1,k_ 4 (.bool false)]
def AhX:=[m_ 5 0,iQ 6 (.fn 462 [.t 3]),q_ 7 461 [.t 5,.t 6],N_ 8 7,m_ 4 8]
def c456:De:=⟨2,9,[.t 4],sr AhW (rr AhX)⟩
def K456 (C:Ba) (D:Ba:=C):Prop:=∀(a0:List Aj) (f1:Nat) (k1:List V) (is1:Aj→Option Bool) (hs1:Kp k1) (hf1:∀(x0:Aj) r,is1 x0=some r→C f1 ⟨.agg (Ao x0)::k1,[]⟩ ⟨.bool r,[],[]⟩) (r:Bool),Amf a0 is1=some r→D 456 ⟨[Ca a0,.clo f1 k1],[]⟩ ⟨.bool r,[],[]⟩
theorem F456 (H461:K461 C) (H462:K462 C):K456 C (FO C c456):=by
 intro a0 f1 k1 is1 hs1 hf1 r h0
 refine f0 (Bk (Ah (st (vX (cJ hs1) tv rfl (o_ (As 2 [(0,Ca a0),(3,.ptr 192 0)] [(192,[.clo f1 k1])] (At 3 (Ah (bb h0 fun r1 e2 h0=>st (Cm (r:=.bool r1) false (H461 a0 462 [.iptr [.clo f1 k1]] (fun z462_0=>Amj z462_0 is1) (⟨fun _ _ _ _ _=>rfl,fun _ _ _ _ _=>rfl,rfl,fun _ _ _ n=>by cases n<;>rfl,fun _=>rfl⟩) (fun z462_0 r h=>H462 z462_0 f1 k1 is1 hs1 hf1 r h) r1 e2) ⟨tv,tv,tv⟩ rfl (Ej rfl (Ej (congrArg (fun z=>V.clo 462 [.iptr [.clo f1 z]]) (hs1.2.2.2.1 _ _ _ _)) rfl)) (fun _=>rfl) (o_ ?_)))))))))))
 obtain rfl:=sj h0
 exact Cs 4

/- loop.example/g00149/impl.isFate -/
def c88_r0:=[k_ 2 (.bool false)]
def c88_r1:=[m_ 3 0,q_ 4 63 [.t 3,.c (iV 0),.c (iV 2)],m_ 2 4]
def c88:De:=⟨1,5,[.t 2],sr c88_r0 (rr c88_r1)⟩
def K88 (D:Ba):Prop:=∀a0 r,g88 a0=some r→D 88 ⟨[iV a0],[]⟩ ⟨.bool r,[],[]⟩
theorem F88 (H63:yV C):K88 (FO C c88):=by
 intro a0 r h0
 refine f0 (As 3 [(0,iV a0)] [] (Bk (Ah (st (Dc rfl tv (bb h0 fun r1 e2 h0=>Il (H63 a0 0 2 r1 e2) (o_ ?_)))))))
 obtain rfl:=sj h0
 exact Cs 3

/- loop.example/g00149/impl.isAct -/
def AhY:=[X_ 1 0,k_ 2 (.bool false)]
def AhZ:List Bj:=[f_ 3 1 5,l_ 4 3 1,q_ 5 87 [.t 4],m_ 6 5,fT 6 7 1 5,lT 6 8 7 1 false,⟨some 9,.call 97 [.t 8,.c (.clo 88 [])],some (6,true)⟩,pa 10 6 9,m_ 11 10,fT 11 12 1 6,lT 11 13 12 1 false,⟨some 14,.call 63 [.t 13,.c (iV 0),.c (iV 2)],some (11,true)⟩,pa 15 11 14,m_ 2 15]
def c457:De:=⟨1,16,[.t 2],sr AhY (rr AhZ)⟩
def OC (D:Ba):Prop:=∀a0 r,xB a0=some r→D 457 ⟨[.agg (Ao a0)],[]⟩ ⟨.bool r,[],[]⟩
theorem F457 (H63:yV C) (H87:K87 C) (H88:K88 C) (H97:K97 C):OC (FO C c457):=by
 intro a0 r h0
 refine f0 (As 4 [(1,.ptr 64 0)] [(64,Ao a0)] (At 3 (Ah (bb h0 fun r1 e2 h0=>Il (H87 a0.Cp r1 e2) (st (Dc rfl tv (st (Ep (u:=.ptr 64 5) rfl (fun hg=>(Bw ⟨tv,tv⟩ rfl tv)) (st (Ep (u:=lI a0.Cp) rfl (fun hg=>(Bw ⟨(fun _=>hg),tv⟩ rfl (nl rfl))) (bb h0 fun r3 e4 h0=>st (En (r:=.bool r3) rfl false (fun hg=>H97 a0.Cp 88 [] (fun z88_0=>g88 z88_0) (⟨fun _ _ _ _ _=>rfl,fun _ _ _ _ _=>rfl,rfl,fun _ _ _ n=>by cases n<;>rfl,fun _=>rfl⟩) (fun z88_0 r h=>H88 z88_0 r h) r3 (ip hg e4)) ⟨(fun hg=>hg),tv,tv⟩ (fun _=>rfl) (fun _=>rfl) (fun _=>rfl) (fun h=>nomatch h) (st (Hp rfl rfl rfl (fun h=>tM h) tv rfl (st (Dc rfl tv (st (Ep (u:=.ptr 64 6) rfl (fun hg=>(Bw ⟨tv,tv⟩ rfl tv)) (st (Ep (u:=iV a0.stop) rfl (fun hg=>(Bw ⟨(fun _=>hg),tv⟩ rfl (nl rfl))) (bb h0 fun r5 e6 h0=>st (En (r:=.bool r5) rfl false (fun hg=>H63 a0.stop 0 2 r5 (ip hg e6)) ⟨(fun hg=>hg),tv,tv,tv⟩ (fun _=>rfl) (fun _=>rfl) (fun _=>rfl) (fun h=>nomatch h) (st (Hp rfl rfl rfl (fun h=>tM h) tv rfl (o_ ?_)))))))))))))))))))))))))
 obtain rfl:=sj h0
 exact Cs 3

/- loop.example/g00149/impl.emptyVault -/
def Aia:=[a_ 0 (zV 3 4 5)]
def Aib:List Bj:=[⟨some 1,.p (.build (zT 67) [(1,1,.c (iV 1))]),none⟩,⟨some 2,.p (.build (zV 131 132 133) [(0,3,.t 1)]),none⟩,s_ 0 2 6]
def c458:De:=⟨0,3,[.cell 0 6 true],sr Aia (rr Aib)⟩
def K458 (D:Ba):Prop:=∀r,g458  = some r→D 458 ⟨[],[]⟩ ⟨.agg (Bi r (Al 0) (Al 1) (Al 2)),[],[]⟩
theorem F458:K458 (FO C c458):=by
 intro r h0
 refine f0 (As 3 [(0,.ptr 0 0)] [(0,Ap 0 0 (Al 3) [] (Al 4) [] (Al 5) [] false)] (Bk (Ah (st (c_ (v:=.agg (Bt 0 1 (Al 67) [])) (Bw ⟨tv,tv⟩ rfl ⟨⟨rfl,rfl,nl rfl⟩,tv⟩) (st (c_ (v:=.agg (Ap 0 1 (Al 67) [] (Al 132) [] (Al 133) [] false)) (Bw ⟨tv,tv⟩ rfl ⟨⟨rfl,rfl,nl rfl⟩,tv⟩) (o_ ?_))))))))
 obtain rfl:=sj h0
 exact Cs 3

/- slices.Clone[[]loop.example/g00149/impl.Lease,loop.example/g00149/impl.Lease] -/
def c66_r0:List Bj:=[⟨some 2,.nilS 4,none⟩]
def c66_r1:List Bj:=[m_ 3 0,⟨some 4,.isnil (.t 3) false,none⟩]
def c66_r2:List Bj:=[⟨some 2,.nilS 4,none⟩]
def c66_r3:List Bj:=[⟨some 5,.mkS 4 [iV 0,iV 0,iV 0,.bool false] 0 [],none⟩,m_ 6 0,⟨some 7,.app 4 32 (.t 5) (.t 6),none⟩,m_ 2 7]
def c66:De:=⟨1,8,[.t 2],sr c66_r0 (.seq (sr c66_r1 (iz 4 (rr c66_r2))) (rr c66_r3))⟩
def K66 (D:Ba):Prop:=∀a0 r,g66 a0=some r→D 66 ⟨[Dh a0],[]⟩ ⟨Bu 0 r,[],[]⟩
theorem F66:K66 (FO C c66):=by
 intro a0 r h0
 refine f0 ?_
 obtain ⟨hc,h0⟩:=xE h0
 obtain rfl:=sj h0
 refine As 3 [(0,Dh a0)] [] (At 3 (Ah (st (dH (e:=Bg) (l0:=a0) rfl fun b hb=>(In (aC (Od (cb:=b) rfl (fun h=>?_) (fun h=>?_))))))))
 ·obtain rfl:=hb h
  refine Bk (Ah (st (Zy (In (aC ?_)))))
  refine Kv (Fe rfl rfl rfl rfl rfl tv)
 ·refine Nh ?_
  refine As 0 [(0,Dh a0)] [] (At 3 (Ah (st (Fp (e:=Bg) (l0:=([]:List Af)) (l1:=a0) rfl rfl tv rfl (by decide) ?_ ?_))))
  rotate_left
  refine st (Dc rfl tv (In (aC ?_)))
  refine Kv (Fe rfl rfl rfl rfl rfl tv)
  have:=Nat.mul_le_mul_right 32 hc
  exact Nat.le_trans this (by decide)

/- (loop.example/g00149/impl.Table).own -/
def RK:=[X_ 1 0,a_ 2 (zT 131)]
def RL:=[f_ 3 1 2,l_ 4 3 1,q_ 5 66 [.t 4],f_ 6 1 2,s_ 6 5 1]
def RM:=[L_ 7 1 3,s_ 2 7 3]
def vY:De:=⟨1,8,[.cell 2 3 true],sr RK (sr RL (rr RM))⟩
def lO (D:Ba):Prop:=∀a0 r,jM a0=some r→D 112 ⟨[.agg (Bh a0)],[]⟩ ⟨.agg (Db r (Al 0)),[],[]⟩
theorem F112 (H66:K66 C):lO (FO C vY):=by
 intro a0 r h0
 refine f0 (As 4 [(1,.ptr 64 0),(2,.ptr 128 0)] [(64,Bh a0),(128,Bt 0 0 (Al 131) [])] (At 3 (Ah (bb h0 fun r1 e2 h0=>Ji (H66 a0.Ac r1 e2) (af rfl) (o_ ?_)))))
 obtain rfl:=sj h0
 exact Cs 9

/- (loop.example/g00149/impl.Table).revoke -/
def c75_r0:=[X_ 2 0,a_ 4 (zT 259),i_ 5 0]
def c75_r1:=[L_ 10 2 3,m_ 11 1,q_ 12 77 [.t 10,.t 11],m_ 9 12,e_ 13 9 0,e_ 14 9 1,m_ 6 13,m_ 7 14]
def c75_r2:=[m_ 15 7,N_ 16 15]
def c75_r3:=[iQ 17 (.build (zT 1091) []),s_ 4 17 3,i_ 5 5]
def c75_r4:=[L_ 18 2 3,q_ 19 112 [.t 18],a_ 8 (zT 515),s_ 8 19 3]
def c75_r5:List Bj:=[f_ 20 8 2,l_ 21 20 1,m_ 22 6,x_ 23 21 22 4,f_ 24 23 3,⟨none,.store (.t 24) (.c (.bool true)) 1,none⟩]
def c75_r6:=[L_ 25 8 3,s_ 4 25 3,i_ 5 0]
def c75:De:=⟨2,26,[.cell 4 3 true,.t 5],sr c75_r0 (sr c75_r1 (.seq (sr c75_r2 (iz 16 (rr c75_r3))) (sr c75_r4 (sr c75_r5 (rr c75_r6)))))⟩
def K75 (D:Ba):Prop:=∀a0 a1 r,g75 a0 a1=some r→D 75 ⟨[.agg (Bh a0),iV a1],[]⟩ ⟨.tup [.agg (Db r.1 (Al 0)),iV r.2],[],[]⟩
theorem F75 (H77:K77 C) (H112:lO C):K75 (FO C c75):=by
 intro a0 a1 r h0
 refine f0 (As 5 [(1,iV a1),(2,.ptr 128 0),(4,.ptr 256 0)] [(128,Bh a0),(256,Bt 0 0 (Al 259) [])] (At 3 (Ah (bb h0 fun r1 e2 h0=>Il (H77 a0 a1 r1 e2) (o_ (As 12 [(2,.ptr 128 0),(4,.ptr 256 0),(6,iV r1.1),(16,.bool (!r1.2))] [(128,Bh a0),(256,Bt 0 0 (Al 259) [])] (Cw h0 (fun c3 h0=>?_) (fun c3 h0=>?_))))))))
 ·obtain rfl:=sj h0
  exact Cs 6
 ·refine At 4 (Ah (bb h0 fun r4 e5 h0=>Ji (H112 a0 r4 e5) (ar (Bq rfl (af rfl))) (o_ (As 3 [(4,.ptr 256 0),(6,iV r1.1),(8,.ptr 512 0)] [(256,Bt 0 0 (Al 259) []),(512,Db r4 (Al 1216))] (At 4 (Ah (bb h0 fun y6 e7 h0=>iO rfl rfl e7 (st (c_ (Bw ⟨tv,tv⟩ rfl tv) (bb h0 fun y8 e9 h0=>NJ (Af.mk y8.id y8.Bn y8.cap true) rfl rfl e9 (o_ ?_)))))))))))
  obtain rfl:=sj h0
  exact Cs 8

/- loop.example/g00149/impl.later -/
def c54_r0:=[i_ 4 0]
def c54_r1:List Bj:=[m_ 5 0,m_ 6 1,⟨some 7,.p (.bin .sub (.c (iV 9223372036854775807)) (.t 6)),none⟩,b_ .gtr 8 5 7]
def c54_r2:=[i_ 4 9223372036854775807]
def c54_r3:=[m_ 9 0,m_ 10 1,b_ .add 11 9 10,m_ 4 11]
def c54:De:=⟨2,12,[.t 4],sr c54_r0 (.seq (sr c54_r1 (iz 8 (rr c54_r2))) (rr c54_r3))⟩
def K54 (D:Ba):Prop:=∀a0 a1 r,g54 a0 a1=some r→D 54 ⟨[iV a0,iV a1],[]⟩ ⟨iV r,[],[]⟩
theorem F54:K54 (FO C c54):=by
 intro a0 a1 r h0
 refine f0 (As 11 [(0,iV a0),(1,iV a1),(8,.bool (decide (a0>(wi (9223372036854775807-a1)))))] [] (Cw h0 (fun c1 h0=>?_) (fun c1 h0=>?_)))
 ·obtain rfl:=sj h0
  exact Cs 4
 ·obtain rfl:=sj h0
  exact Cs 9

/- (loop.example/g00149/impl.Table).renew -/
def c80_r0:=[X_ 3 0,a_ 6 (zT 387),i_ 7 0]
def c80_r1:=[L_ 12 3 3,m_ 13 1,q_ 14 77 [.t 12,.t 13],m_ 11 14,e_ 15 11 0,e_ 16 11 1,m_ 8 15,m_ 9 16]
def c80_r2:=[m_ 18 2,B_ .lss 19 18 1,m_ 17 19]
def c80_r3:=[iQ 20 (.build (zT 1283) []),s_ 6 20 3,i_ 7 4]
def c80_r4:=[m_ 22 9,N_ 23 22,m_ 21 23]
def c80_r5:=[iQ 24 (.build (zT 1539) []),s_ 6 24 3,i_ 7 5]
def c80_r6:=[f_ 26 3 2,l_ 27 26 1,m_ 28 8,x_ 29 27 28 4,f_ 30 29 3,l_ 31 30 1,m_ 25 31]
def c80_r7:=[iQ 32 (.build (zT 2051) []),s_ 6 32 3,i_ 7 13]
def c80_r8:=[L_ 33 3 3,q_ 34 112 [.t 33],a_ 10 (zT 643),s_ 10 34 3]
def c80_r9:=tk [f_ 35 10 2,l_ 36 35 1,m_ 37 8,f_ 38 3 0,l_ 39 38 1,m_ 40 2,f_ 42 10 2,l_ 43 42 1,m_ 44 8,x_ 45 43 44 4,f_ 46 45 2,l_ 47 46 1] (.alt [l_ 47 46 1,f_ 46 45 2,x_ 45 43 44 4,m_ 44 8,l_ 43 42 1,f_ 42 10 2,m_ 37 8,l_ 36 35 1,f_ 35 10 2] (q_ 41 54 [.t 39,.t 40]) (tk [iQ 48 (.mn (.t 41) (.t 47)),x_ 49 36 37 4,f_ 50 49 1] (.alt [] (s_ 50 48 1) .fin .stop)) .stop)
def Aki:=[L_ 51 10 3,s_ 6 51 3,i_ 7 0]
def c80:De:=⟨3,52,[.cell 6 3 true,.t 7],sr c80_r0 (sr c80_r1 (.seq (.block 0 (sr c80_r2 (.ite (.t 17) (rr c80_r3) (sr c80_r4 (.ite (.t 21) (rr c80_r5) (sr c80_r6 (iz 25 (rr c80_r7)))))))) (sr c80_r8 (sd c80_r9 (rr Aki)))))⟩
def K80 (D:Ba):Prop:=∀a0 a1 a2 r,g80 a0 a1 a2=some r→D 80 ⟨[.agg (Bh a0),iV a1,iV a2],[]⟩ ⟨.tup [.agg (Db r.1 (Al 0)),iV r.2],[],[]⟩
abbrev nK:=fun x0 (r:List (Nat×List V))=>(192,Bh x0)::(384,Bt 0 0 (Al 387) [])::r
abbrev nL:=fun x0 (r:List (Nat×V))=>(2,iV x0)::(3,.ptr 192 0)::(6,.ptr 384 0)::r
theorem F80 (H54:K54 C) (H77:K77 C) (H112:lO C):K80 (FO C c80):=by
 intro a0 a1 a2 r h0
 refine f0 (As 5 (nL a2 [(1,iV a1)]) (nK a0 []) (At 3 (Ah (bb h0 fun r1 e2 h0=>Il (H77 a0 a1 r1 e2) (o_ (As 14 (nL a2 [(8,iV r1.1),(9,.bool r1.2),(17,.bool (decide (a2<1)))]) (nK a0 []) (Cw h0 (fun c3 h0=>?_) (fun c3 h0=>?_))))))))
 ·obtain rfl:=sj h0
  exact Cs 6
 ·refine As 5 (nL a2 [(8,iV r1.1),(21,.bool (!r1.2))]) (nK a0 []) (Cw h0 (fun c4 h0=>?_) (fun c4 h0=>?_))
  ·obtain rfl:=sj h0
   exact Cs 6
  ·refine At 4 (Ah (bb h0 fun y5 e6 h0=>Ns rfl rfl e6 (o_ (As 4 (nL a2 [(8,iV r1.1),(25,.bool y5.Cg)]) (nK a0 []) (Cw h0 (fun c7 h0=>?_) (fun c7 h0=>?_))))))
   ·obtain rfl:=sj h0
    exact Cs 6
   ·refine At 5 (Ah (bb h0 fun r8 e9 h0=>Ji (H112 a0 r8 e9) (ar (Bq rfl (af rfl))) (o_ (As 3 (nL a2 [(8,iV r1.1),(10,.ptr 640 0)]) (nK a0 [(640,Db r8 (Al 2176))]) (Bk (bb h0 fun y10 e11 h0=>bb h0 fun y12 e13 h0=>bb h0 fun r14 e15 h0=>At 9 (Bm (d_ (xw_ rfl rfl rfl e11 (Bm (Au tv (c_ (Bw ⟨tv,tv⟩ rfl tv) (⟨tv,cL (c_ (ld_ rfl rfl e13) (⟨⟨Xu rfl rfl e13 rfl,tv⟩,Cb (Cm (r:=iV r14) false (H54 a0.clock a2 r14 e15) ⟨tv,tv,tv⟩ rfl rfl (fun _=>rfl) (dkw ⟨[(6,.ptr 384 0),(8,iV r1.1),(10,.ptr 640 0),(35,.ptr 640 2),(36,Bu 2176 r8.Ac),(37,iV r1.1),(41,iV r14),(42,.ptr 640 2),(43,Bu 2176 r8.Ac),(44,iV r1.1),(45,.optr 2176 4 (0+r1.1.toNat) 0),(46,.optr 2176 4 (0+r1.1.toNat) 2),(47,iV y12.cap)],[(384,Bt 0 0 (Al 387) []),(640,Db r8 (Al 2176))],[]⟩ (Er (by kernel_rfl)) ⟨[iQ 47 (.load (.t 46) 1 false)],⟨⟨.inr (.head _),Xu rfl rfl e13 rfl⟩,⟨.inl tv,Bl (Bw ⟨tv,tv⟩ rfl tv) rfl⟩,⟨.inl tv,Bl (ci_ rfl rfl e11) rfl⟩,⟨.inl tv,Bl (Qc (v:=iV r1.1) rfl tv) rfl⟩,⟨.inl tv,Bl (Bw ⟨tv,tv⟩ rfl (nl rfl)) rfl⟩,⟨.inl tv,Bl (Bw ⟨tv,tv⟩ rfl tv) rfl⟩,⟨.inl tv,Bl (Qc (v:=iV r1.1) rfl tv) rfl⟩,⟨.inl tv,Bl (Bw ⟨tv,tv⟩ rfl (nl rfl)) rfl⟩,⟨.inl tv,Bl (Bw ⟨tv,tv⟩ rfl tv) rfl⟩,tv⟩,⟨Xu rfl rfl e13 rfl,tv⟩,Au tv (c_ (Bw ⟨tv,tv,tv⟩ rfl rfl) (⟨⟨Xu rfl rfl e13 rfl,tv⟩,Au tv (c_ (ci_ rfl rfl e11) (⟨⟨Xu rfl rfl e13 rfl,tv⟩,?_⟩))⟩))⟩)) Az⟩))⟩)))))))))))))
    refine Au tv (c_ (Bw ⟨tv,tv⟩ rfl tv) (⟨⟨Xu rfl rfl e13 rfl,tv⟩,Cb (sto_ (y':=(Af.mk y12.id (if y12.cap<r14 then y12.cap else r14) y12.cap y12.Cg)) rfl rfl tv rfl rfl rfl rfl e13 (nl rfl) rfl rfl rfl rfl (d0 tv (Jz (Dy ⟨[(6,.ptr 384 0),(10,.ptr 640 0)],[(384,Bt 0 0 (Al 387) []),(640,Bt r8.clock r8.next (Al 2176) (r8.Ac.set r1.1.toNat (Af.mk y12.id (if y12.cap<r14 then y12.cap else r14) y12.cap y12.Cg)))],[]⟩ (fg ⟨rfl,rfl,tv⟩ ⟨rfl,congrArg (fun z=>some (([iV r8.clock,iV r8.next,.own 2176 0 4 z]:List V))) Rp,tv⟩) (At 5 (bv h0 fun v16 e17 h0=>Dy ⟨[(6,.ptr 384 0),(7,iV 0)],[(384,Bt r8.clock r8.next (Al 2176) v16)],[]⟩ (Er (by subst e17; kernel_rfl)) ?_)))))) Az⟩))
    obtain rfl:=sj h0
    exact Kv (Fe rfl rfl rfl rfl rfl tv)

/- slices.Clone[[]loop.example/g00149/impl.Intent,loop.example/g00149/impl.Intent] -/
def Ajg:List Bj:=[⟨some 2,.nilS 2,none⟩]
def Ajh:List Bj:=[m_ 3 0,⟨some 4,.isnil (.t 3) false,none⟩]
def Aji:List Bj:=[⟨some 2,.nilS 2,none⟩]
def Ajj:List Bj:=[⟨some 5,.mkS 2 [iV 0,.bool false] 0 [],none⟩,m_ 6 0,⟨some 7,.app 2 16 (.t 5) (.t 6),none⟩,m_ 2 7]
def c469:De:=⟨1,8,[.t 2],sr Ajg (.seq (sr Ajh (iz 4 (rr Aji))) (rr Ajj))⟩
def OE (D:Ba):Prop:=∀a0 r,qW a0=some r→D 469 ⟨[Cj a0],[]⟩ ⟨Cf 0 r,[],[]⟩
theorem F469:OE (FO C c469):=by
 intro a0 r h0
 refine f0 ?_
 obtain ⟨hc,h0⟩:=xE h0
 obtain rfl:=sj h0
 refine As 3 [(0,Cj a0)] [] (At 3 (Ah (st (dH (e:=Cd) (l0:=a0) rfl fun b hb=>(In (aC (Od (cb:=b) rfl (fun h=>?_) (fun h=>?_))))))))
 ·obtain rfl:=hb h
  refine Bk (Ah (st (Zy (In (aC ?_)))))
  refine Kv (Fe rfl rfl rfl rfl rfl tv)
 ·refine Nh ?_
  refine As 0 [(0,Cj a0)] [] (At 3 (Ah (st (Fp (e:=Cd) (l0:=([]:List Ad)) (l1:=a0) rfl rfl tv rfl (by decide) ?_ ?_))))
  rotate_left
  refine st (Dc rfl tv (In (aC ?_)))
  refine Kv (Fe rfl rfl rfl rfl rfl tv)
  have:=Nat.mul_le_mul_right 16 hc
  exact Nat.le_trans this (by decide)

/- (loop.example/g00149/impl.Vault).own -/
def Ais:=[X_ 1 0,a_ 2 (zV 131 132 133)]
def Ait:=tk [f_ 3 1 0,L_ 4 3 3,f_ 6 1 3,l_ 7 6 1,f_ 9 1 4,l_ 10 9 1,f_ 12 1 5,l_ 13 12 1] (.alt [l_ 13 12 1,f_ 12 1 5,l_ 10 9 1,f_ 9 1 4,l_ 7 6 1,f_ 6 1 3] (q_ 5 112 [.t 4]) (.alt [l_ 13 12 1,f_ 12 1 5,l_ 10 9 1,f_ 9 1 4] (q_ 8 469 [.t 7]) (.alt [l_ 13 12 1,f_ 12 1 5] (q_ 11 120 [.t 10]) (tk [⟨some 14,.p (.build (zV 899 900 901) [(0,3,.t 5),(3,1,.t 8),(4,1,.t 11),(5,1,.t 13)]),none⟩] (.alt [] (s_ 2 14 6) .fin .stop)) .stop) .stop) .stop)
def c463:De:=⟨1,15,[.cell 2 6 true],sr Ais (sd Ait .ret)⟩
def K463 (D:Ba):Prop:=∀a0 r,Amk a0=some r→D 463 ⟨[.agg (Ax a0)],[]⟩ ⟨.agg (Bi r (Al 0) (Al 1) (Al 2)),[],[]⟩
theorem F463 (H112:lO C) (H120:yY C) (H469:OE C):K463 (FO C c463):=by
 intro a0 r h0
 refine f0 (As 4 [(1,.ptr 64 0),(2,.ptr 128 0)] [(64,Ax a0),(128,Ap 0 0 (Al 131) [] (Al 132) [] (Al 133) [] false)] (Bk (bb h0 fun r1 e2 h0=>bb h0 fun r3 e4 h0=>bb h0 fun r5 e6 h0=>At 8 (Bm (Oo (H112 a0.Ab r1 e2) (ar (Bq rfl (af rfl))) (dw [(1,.ptr 64 0),(2,.ptr 128 0),(5,.agg (Db r1 (Al 320))),(6,.ptr 64 3),(7,Cj a0.Aa),(9,.ptr 64 4),(10,lI a0.Ae),(12,.ptr 64 5),(13,.bool a0.Ai)] [(64,Ax a0),(128,Ap 0 0 (Al 131) [] (Al 132) [] (Al 133) [] false)] hB (Oo (H469 a0.Aa r3 e4) (af rfl) (dw [(1,.ptr 64 0),(2,.ptr 128 0),(5,.agg (Db r1 (Al 320))),(8,Cf 512 r3),(9,.ptr 64 4),(10,lI a0.Ae),(12,.ptr 64 5),(13,.bool a0.Ai)] [(64,Ax a0),(128,Ap 0 0 (Al 131) [] (Al 132) [] (Al 133) [] false)] hB (Oo (H120 a0.Ae r5 e6) (af rfl) (dw [(1,.ptr 64 0),(2,.ptr 128 0),(5,.agg (Db r1 (Al 320))),(8,Cf 512 r3),(11,oI 704 r5),(12,.ptr 64 5),(13,.bool a0.Ai)] [(64,Ax a0),(128,Ap 0 0 (Al 131) [] (Al 132) [] (Al 133) [] false)] hB (Au tv (c_ (v:=.agg (Ap r1.clock r1.next (Al 320) r1.Ac (Al 512) r3 (Al 704) r5 a0.Ai)) (Bw ⟨tv,tv,tv,tv,tv⟩ rfl ⟨⟨rfl,rfl,nl rfl⟩,⟨rfl,rfl,nl rfl⟩,⟨rfl,rfl,nl rfl⟩,⟨rfl,rfl,nl rfl⟩,tv⟩) (⟨tv,Cb (Gc rfl rfl tv rfl rfl rfl (nl rfl) (d0 tv (d_ (As 1 [(2,.ptr 128 0)] [(128,Ap r1.clock r1.next (Al 320) r1.Ac (Al 512) r3 (Al 704) r5 a0.Ai)] ?_)))) Az⟩)))) Az)) Az)) Az)))))
 obtain rfl:=sj h0
 exact Kv (Fe rfl rfl rfl rfl rfl tv)

/- (loop.example/g00149/impl.Vault).refused -/
def Aiu:=[X_ 2 0,a_ 4 (zV 259 260 261),a_ 5 [iV 0,iV 0]]
def Aiv:List Bj:=[L_ 6 2 6,m_ 7 1,⟨some 8,.p (.build [iV 0,iV 0] [(0,1,.t 7)]),none⟩,s_ 4 6 6,s_ 5 8 2]
def c464:De:=⟨2,9,[.cell 4 6 true,.cell 5 2 true],sr Aiu (rr Aiv)⟩
def zB (D:Ba):Prop:=∀a0 a1 r,fN a0 a1=some r→D 464 ⟨[.agg (Bi a0 (Al 1024000) (Al 1024001) (Al 1024002)),iV a1],[]⟩ ⟨.tup [.agg (Bi r.1 (Al 0) (Al 1) (Al 2)),.agg (Bp r.2)],[],[]⟩
theorem F464:zB (FO C c464):=by
 intro a0 a1 r h0
 refine f0 (As 5 [(1,iV a1),(2,.ptr 128 0),(4,.ptr 256 0),(5,.ptr 320 0)] [(128,Bi a0 (Al 1024000) (Al 1024001) (Al 1024002)),(256,Ap 0 0 (Al 259) [] (Al 260) [] (Al 261) [] false),(320,[iV 0,iV 0])] (At 3 (Ah (st (c_ (v:=.agg [iV a1,iV 0]) (Bw ⟨tv,tv⟩ rfl ⟨⟨rfl,rfl,nl rfl⟩,tv⟩) (o_ ?_))))))
 obtain rfl:=sj h0
 exact Cs 4

/- (loop.example/g00149/impl.Table).grant -/
def c71_r0:=[X_ 3 0,a_ 6 (zT 387),i_ 7 0,i_ 8 0]
def c71_r1:=[m_ 11 1,B_ .lss 12 11 1,m_ 13 12,mF 13 14 2,mF 13 15 1,pF 13 16 (.bin .lss (.t 14) (.t 15)),po 17 13 16,m_ 10 17]
def c71_r2:=[iQ 18 (.build (zT 1155) []),s_ 6 18 3,i_ 7 0,i_ 8 4]
def c71_r3:=[f_ 20 3 0,l_ 21 20 1,B_ .eql 22 21 9223372036854775807,m_ 19 22]
def c71_r4:=[iQ 23 (.build (zT 1475) []),s_ 6 23 3,i_ 7 0,i_ 8 11]
def c71_r5:=[f_ 25 3 2,l_ 26 25 1,n_ 27 26,B_ .eql 28 27 40,m_ 29 28,fF 29 30 3 1,lF 29 31 30 1 false,pF 29 32 (.bin .eql (.t 31) (.c (iV 1000000))),po 33 29 32,m_ 24 33]
def c71_r6:=[iQ 34 (.build (zT 2179) []),s_ 6 34 3,i_ 7 0,i_ 8 9]
def c71_r7:=[L_ 35 3 3,q_ 36 112 [.t 35],a_ 9 (zT 579),s_ 9 36 3]
def c71_r8:=tk [f_ 37 9 2,l_ 38 37 1,f_ 39 3 1,l_ 40 39 1,f_ 41 3 0,l_ 42 41 1,m_ 43 1,f_ 45 3 0,l_ 46 45 1,m_ 47 2] (.alt [m_ 47 2,l_ 46 45 1,f_ 45 3 0,l_ 40 39 1,f_ 39 3 1,l_ 38 37 1,f_ 37 9 2] (q_ 44 54 [.t 42,.t 43]) (.alt [l_ 40 39 1,f_ 39 3 1,l_ 38 37 1,f_ 37 9 2] (q_ 48 54 [.t 46,.t 47]) (tk [⟨some 49,.p (.build [iV 0,iV 0,iV 0,.bool false] [(0,1,.t 40),(1,1,.t 44),(2,1,.t 48)]),none⟩] (.alt [l_ 38 37 1,f_ 37 9 2] ⟨some 50,.mkS 4 [iV 0,iV 0,iV 0,.bool false] 1 [(0,.t 49)],none⟩ (.alt [] ⟨some 51,.app 4 32 (.t 38) (.t 50),none⟩ (tk [f_ 52 9 2] (.alt [] (s_ 52 51 1) .fin .stop)) .stop) .stop)) .stop) .stop)
def c71_r9:=[f_ 53 9 1,l_ 54 53 1,B_ .add 55 54 1,f_ 56 9 1,s_ 56 55 1]
def Akg:=tk [L_ 57 9 3,f_ 58 3 1,l_ 59 58 1] (.alt [l_ 59 58 1,f_ 58 3 1] (s_ 6 57 3) (tk [m_ 7 59,i_ 8 0] .fin) .stop)
def c71:De:=⟨3,60,[.cell 6 3 true,.t 7,.t 8],sr c71_r0 (.seq (.block 0 (sr c71_r1 (.ite (.t 10) (rr c71_r2) (sr c71_r3 (.ite (.t 19) (rr c71_r4) (sr c71_r5 (iz 24 (rr c71_r6)))))))) (sr c71_r7 (sd c71_r8 (sr c71_r9 (sd Akg .ret)))))⟩
def K71 (D:Ba):Prop:=∀a0 a1 a2 r,g71 a0 a1 a2=some r→D 71 ⟨[.agg (Bh a0),iV a1,iV a2],[]⟩ ⟨.tup [.agg (Db r.1 (Al 0)),iV r.2.1,iV r.2.2],[],[]⟩
abbrev nH:=fun x0 (r:List (Nat×List V))=>(192,Bh x0)::(384,Bt 0 0 (Al 387) [])::r
abbrev uV:=fun x0 x1 (r:List (Nat×V))=>(1,iV x0)::(2,iV x1)::(3,.ptr 192 0)::(6,.ptr 384 0)::r
theorem F71 (H54:K54 C) (H112:lO C):K71 (FO C c71):=by
 intro a0 a1 a2 r h0
 refine f0 (uE 19 (uV a1 a2 [(10,.bool (bif (decide (a1<1)) then true else (decide (a2<a1))))]) (nH a0 []) (Cw h0 (fun c1 h0=>?_) (fun c1 h0=>?_)))
 ·obtain rfl:=sj h0
  exact Cs 7
 ·refine As 6 (uV a1 a2 [(19,.bool (a0.clock==9223372036854775807))]) (nH a0 []) (Cw h0 (fun c2 h0=>?_) (fun c2 h0=>?_))
  ·obtain rfl:=sj h0
   exact Cs 7
  ·refine At 3 (Ah (Hf rfl (o_ (Hj 8 (bv h0 fun v3 e4 h0=>Dy ⟨uV a1 a2 [(24,.bool v3)],nH a0 [],[]⟩ (Er (by subst e4; kernel_rfl)) (Cw h0 (fun c5 h0=>?_) (fun c5 h0=>?_)))))))
   ·obtain rfl:=sj h0
    exact Cs 7
   ·refine At 5 (Ah (bb h0 fun r6 e7 h0=>Ji (H112 a0 r6 e7) (ar (Bq rfl (af rfl))) (o_ (As 3 (uV a1 a2 [(9,.ptr 576 0)]) (nH a0 [(576,Db r6 (Al 2304))]) (Bk (bb h0 fun r8 e9 h0=>bb h0 fun r10 e11 h0=>gg h0 fun c12 h0=>At 10 (Bm (Oo (H54 a0.clock a1 r8 e9) rfl (dw [(2,iV a2),(3,.ptr 192 0),(6,.ptr 384 0),(9,.ptr 576 0),(37,.ptr 576 2),(38,Bu 2304 r6.Ac),(39,.ptr 192 1),(40,iV a0.next),(44,iV r8),(45,.ptr 192 0),(46,iV a0.clock),(47,iV a2)] [(192,Bh a0),(384,Bt 0 0 (Al 387) []),(576,Db r6 (Al 2304))] hB (Oo (H54 a0.clock a2 r10 e11) rfl (dw [(3,.ptr 192 0),(6,.ptr 384 0),(9,.ptr 576 0),(37,.ptr 576 2),(38,Bu 2304 r6.Ac),(39,.ptr 192 1),(40,iV a0.next),(44,iV r8),(48,iV r10)] [(192,Bh a0),(384,Bt 0 0 (Al 387) []),(576,Db r6 (Al 2304))] hB (Au tv (c_ (v:=.agg (jA a0.next r8 r10 false)) (Bw ⟨tv,tv,tv,tv⟩ rfl ⟨⟨rfl,rfl,nl rfl⟩,⟨rfl,rfl,nl rfl⟩,⟨rfl,rfl,nl rfl⟩,tv⟩) (⟨tv,Cb (Ky ⟨tv,tv⟩ ⟨⟨nl rfl,rfl,rfl⟩,tv⟩ (d0 hB (Cb (Fp (e:=Bg) (l0:=r6.Ac) (l1:=([Af.mk a0.next r8 r10 false]:List Af)) rfl rfl tv rfl (by decide) c12 (d0 tv ?_)) Az))) Az⟩)))) Az)) Az))))))))
    refine Au tv (c_ (Bw ⟨tv,tv⟩ rfl tv) (⟨tv,Cb (Gc rfl rfl tv rfl rfl rfl (nl rfl) (d0 tv (d_ (As 9 [(3,.ptr 192 0),(6,.ptr 384 0),(9,.ptr 576 0)] (nH a0 [(576,[iV r6.clock,iV (wi (r6.next+1)),Bu 2304 (r6.Ac++([Af.mk a0.next r8 r10 false]:List Af))])]) (At 4 (Bm (Cb (Gc rfl rfl tv rfl rfl rfl (nl rfl) (d0 hB (d_ (As 3 [(6,.ptr 384 0),(7,iV a0.next),(8,iV 0)] [(384,[iV r6.clock,iV (wi (r6.next+1)),Bu 2304 (r6.Ac++([Af.mk a0.next r8 r10 false]:List Af))])] ?_)))) Az))))))) Az⟩))
    obtain rfl:=sj h0
    exact Kv (Fe rfl rfl rfl rfl rfl tv)

/- (loop.example/g00149/impl.Vault).crashed -/
def Ajl:=[X_ 1 0,a_ 2 (zV 131 132 133),a_ 3 [iV 0,iV 0]]
def Ajm:=[f_ 5 1 3,l_ 6 5 1,n_ 7 6,i_ 8 0]
def Ajn:=[b_ .lss 9 8 7]
def Ajo:=[m_ 10 8,m_ 4 10]
def Ajp:List Bj:=[f_ 11 1 3,l_ 12 11 1,m_ 13 4,x_ 14 12 13 2,f_ 15 14 1,⟨none,.store (.t 15) (.c (.bool true)) 1,none⟩]
def Ajq:=[B_ .add 16 8 1,m_ 8 16]
def Ajk:IR:=(sr Ajn (.seq (.ite (.t 9) .skip (.exit 0)) (.seq (.block 1 (sr Ajo (.reg Ajp))) (.reg Ajq))))
def Ajr:List Bj:=[f_ 17 1 5,⟨none,.store (.t 17) (.c (.bool true)) 1,none⟩]
def Ajs:List Bj:=[L_ 18 1 6,⟨some 19,.p (.build [iV 0,iV 0] [(0,1,.c (iV 15))]),none⟩,s_ 2 18 6,s_ 3 19 2]
def c470:De:=⟨1,20,[.cell 2 6 true,.cell 3 2 true],sr Ajl (.seq (sr Ajm (Jc 0 Ajk)) (sr Ajr (rr Ajs)))⟩
def OF (D:Ba):Prop:=∀a0 r,jT a0=some r→D 470 ⟨[.agg (Bi a0 (Al 1024000) (Al 1024001) (Al 1024002))],[]⟩ ⟨.tup [.agg (Bi r.1 (Al 0) (Al 1) (Al 2)),.agg (Bp r.2)],[],[]⟩
abbrev Rl:=fun (r:List (Nat×List V))=>(128,Ap 0 0 (Al 131) [] (Al 132) [] (Al 133) [] false)::(192,[iV 0,iV 0])::r
abbrev Rm:=fun (r:List (Nat×V))=>(1,.ptr 64 0)::(2,.ptr 128 0)::(3,.ptr 192 0)::r
theorem F470:OF (FO C c470):=by
 intro a0 r h0
 refine f0 (As 5 (Rm []) (Rl [(64,Bi a0 (Al 1024000) (Al 1024001) (Al 1024002))]) (At 4 (Ah (Qb rfl (o_ (As 2 (Rm [(7,iV (a0.Aa.length:Int)),(8,iV 0)]) (Rl [(64,Bi a0 (Al 1024000) (Al 1024001) (Al 1024002))]) (Ci (bb h0 fun r21 e22 h0=>Df (R:=(fun S=>∃p15:List Ad,p15=r21∧S=⟨Rm [],Rl [(64,Ap a0.Ab.clock a0.Ab.next (Al 1024000) a0.Ab.Ac (Al 1024001) p15 (Al 1024002) a0.Ae a0.Ai)],[]⟩)) (Tf a0) (fun s S=>match s with | (p6,p7)=>S=⟨Rm [(7,iV (a0.Aa.length:Int)),(8,iV p6)],Rl [(64,Ap a0.Ab.clock a0.Ab.next (Al 1024000) a0.Ab.Ac (Al 1024001) p7 (Al 1024002) a0.Ae a0.Ai)],[]⟩) e22 _ (Er (by kernel_rfl)) rfl 0 (fun _=>rfl) ?_ ?_))))))))
 ·rintro S _ hfg ⟨p15,rfl,rfl⟩
  refine Dy _ hfg (As 4 (Rm []) (Rl [(64,Ap a0.Ab.clock a0.Ab.next (Al 1024000) a0.Ab.Ac (Al 1024001) p15 (Al 1024002) a0.Ae true)]) (At 2 (Ah (st (c_ (v:=.agg [iV 15,iV 0]) (Bw ⟨tv,tv⟩ rfl ⟨⟨rfl,rfl,nl rfl⟩,tv⟩) (o_ ?_))))))
  obtain rfl:=sj h0
  exact Cs 4
 ·rintro ⟨p6,p7⟩ o1 _ K1 rfl h1 hx1 hK1 hE1 hR1
  refine As 3 (Rm [(7,iV (a0.Aa.length:Int)),(8,iV p6),(9,.bool (decide (p6<(a0.Aa.length:Int))))]) (Rl [(64,Ap a0.Ab.clock a0.Ab.next (Al 1024000) a0.Ab.Ac (Al 1024001) p7 (Al 1024002) a0.Ae a0.Ai)]) (Bk (Cw h1 (fun c16 h1=>?_) (fun c16 h1=>?_)))
  ·refine As 8 (Rm [(4,iV p6),(7,iV (a0.Aa.length:Int)),(8,iV p6)]) (Rl [(64,Ap a0.Ab.clock a0.Ab.next (Al 1024000) a0.Ab.Ac (Al 1024001) p7 (Al 1024002) a0.Ae a0.Ai)]) (At 3 (Ah (bb h1 fun y17 e18 h1=>iO rfl rfl e18 (st (c_ (Bw ⟨tv,tv⟩ rfl tv) (bb h1 fun y19 e20 h1=>NJ (Ad.mk y19.Bb true) rfl rfl e20 (o_ (As 2 (Rm [(7,iV (a0.Aa.length:Int)),(8,iV p6)]) (Rl [(64,Ap a0.Ab.clock a0.Ab.next (Al 1024000) a0.Ab.Ac (Al 1024001) (p7.set p6.toNat (Ad.mk y19.Bb true)) (Al 1024002) a0.Ae a0.Ai)]) (At 3 ?_)))))))))
   obtain rfl:=sj h1
   exact kn hK1 rfl rfl
  ·obtain rfl:=sj h1
   obtain rfl:=hx1 _ rfl
   refine Iw rfl ?_
   exact jn hE1 ⟨_,rfl,rfl⟩

/- cmp.Less[int] -/
def XN:=[k_ 4 (.bool false)]
def XO:List Bj:=[m_ 5 0,q_ 6 136 [.t 5],m_ 7 6,mT 7 8 1,⟨some 9,.call 136 [.t 8],some (7,true)⟩,pT 7 10 (.un .not (.t 9)),pa 11 7 10,m_ 12 11,mF 12 13 0,mF 12 14 1,pF 12 15 (.bin .lss (.t 13) (.t 14)),po 16 12 15,m_ 4 16]
def c140:De:=⟨2,17,[.t 4],sr XN (rr XO)⟩
def K140 (D:Ba):Prop:=∀a0 a1 r,AkZ a0 a1=some r→D 140 ⟨[iV a0,iV a1],[]⟩ ⟨.bool r,[],[]⟩
theorem F140 (H136:NN C):K140 (FO C c140):=by
 intro a0 a1 r h0
 refine f0 (As 3 [(0,iV a0),(1,iV a1)] [] (Bk (Ah (st (Dc rfl tv (bb h0 fun r1 e2 h0=>Il (H136 a0 r1 e2) (o_ (Hj 2 (Ah (bb h0 fun r3 e4 h0=>st (En (r:=.bool r3) rfl false (fun hg=>H136 a1 r3 (ip hg e4)) ⟨(fun hg=>hg),tv⟩ (fun _=>rfl) (fun _=>rfl) (fun _=>rfl) (fun h=>nomatch h) (o_ (Hj 9 (bv h0 fun v5 e6 h0=>Dy ⟨[(4,.bool v5)],[],[]⟩ (Er (by subst e6; kernel_rfl)) ?_))))))))))))))
 obtain rfl:=sj h0
 exact Kv (Fe rfl rfl rfl rfl rfl tv)

/- slices.isNaN[int] -/
def XP:=[k_ 2 (.bool false)]
def XQ:=[m_ 3 0,m_ 4 0,b_ .neq 5 3 4,m_ 2 5]
def c141:De:=⟨1,6,[.t 2],sr XP (rr XQ)⟩
def K141 (D:Ba):Prop:=∀a0 r,IJ a0=some r→D 141 ⟨[iV a0],[]⟩ ⟨.bool r,[],[]⟩
theorem F141:K141 (FO C c141):=by
 intro a0 r h0
 refine f0 (?_)
 obtain rfl:=sj h0
 exact Cs 11

/- slices.BinarySearch[[]int,int] -/
def TG:=[i_ 4 0,k_ 5 (.bool false)]
def TH:=[m_ 10 0,n_ 11 10,m_ 6 11]
def TI:=[m_ 12 6,i_ 7 0,m_ 8 12]
def TJ:=[m_ 13 7,m_ 14 8,b_ .lss 15 13 14]
def TK:List Bj:=[m_ 16 7,m_ 17 8,b_ .add 18 16 17,iQ 19 (.conv .u64 (.t 18)),⟨some 20,.p (.bin .shr (.t 19) (.c (.int .u64 1))),none⟩,iQ 21 (.conv .i64 (.t 20)),m_ 9 21]
def TL:=[m_ 22 0,m_ 23 9,x_ 24 22 23 1,l_ 25 24 1,m_ 26 1,q_ 27 140 [.t 25,.t 26]]
def TM:=[m_ 28 9,B_ .add 29 28 1,m_ 7 29]
def TN:=[m_ 30 9,m_ 8 30]
def TF:IR:=(.seq (sr TJ (.ite (.t 15) .skip (.exit 0))) (.block 1 (sr TK (sr TL (.ite (.t 27) (.reg TM) (.reg TN))))))
def TO:List Bj:=[m_ 31 7,m_ 32 7,m_ 33 6,b_ .lss 34 32 33,m_ 35 34,mT 35 36 0,mT 35 37 7,xT 35 38 36 37 1,lT 35 39 38 1 false,mT 35 40 1,pT 35 41 (.bin .eql (.t 39) (.t 40)),mT 35 42 41,mF 42 43 0,mF 42 44 7,xF 42 45 43 44 1,lF 42 46 45 1 false,⟨some 47,.call 141 [.t 46],some (42,false)⟩,mF 42 48 47,mT 48 49 1,⟨some 50,.call 141 [.t 49],some (48,true)⟩,⟨some 51,.pick (.t 48) (.t 50) (.c (.bool false)),some (42,false)⟩,⟨some 52,.pick (.t 42) (.c (.bool true)) (.t 51),some (35,true)⟩,pa 53 35 52,m_ 4 31,m_ 5 53]
def c121:De:=⟨2,54,[.t 4,.t 5],sr TG (sr TH (sr TI (.seq (Jc 0 TF) (rr TO))))⟩
def K121 (D:Ba):Prop:=∀a0 a1 r,AkQ a0 a1=some r→D 121 ⟨[lI a0,iV a1],[]⟩ ⟨.tup [iV r.1,.bool r.2],[],[]⟩
theorem F121 (H140:K140 C) (H141:K141 C):K121 (FO C c121):=by
 intro a0 a1 r h0
 refine f0 (As 4 [(0,lI a0),(1,iV a1)] [] (Bk (Ah (st (Dc rfl tv (Hf rfl (o_ (As 8 [(0,lI a0),(1,iV a1),(6,iV (a0.length:Int)),(7,iV 0),(8,iV (a0.length:Int))] [] (Bk (Ci (bb h0 fun r30 e31 h0=>Df (R:=(fun S=>∃p21:Int,p21=r30∧S=⟨[(0,lI a0),(1,iV a1),(6,iV (a0.length:Int)),(7,iV p21)],[],[]⟩)) (aU a0 a1) (fun s S=>match s with | (p9,p10)=>S=⟨[(0,lI a0),(1,iV a1),(6,iV (a0.length:Int)),(7,iV p9),(8,iV p10)],[],[]⟩) e31 _ (Er (by kernel_rfl)) rfl 0 (fun _=>rfl) ?_ ?_)))))))))))
 ·rintro S _ hfg ⟨p21,rfl,rfl⟩
  refine Dy _ hfg (Hj 8 (Ah (bb h0 fun y32 e33 h0=>st (Ep (u:=.iptr [iV y32]) rfl (fun hg=>(Ua (e:=eI) (y:=y32) rfl rfl (fun _=>hg) rfl rfl (fun _=>hg) (ip hg e33))) (o_ (Hj 6 (Ah (bb h0 fun y34 e35 h0=>st (Ep (u:=.iptr [iV y34]) rfl (fun hg=>(Ua (e:=eI) (y:=y34) rfl rfl (fun _=>hg) rfl rfl (fun _=>hg) (ip hg e35))) (st (Ep (u:=iV y34) rfl (fun hg=>(Bw ⟨(fun _=>hg),tv⟩ rfl (nl rfl))) (bb h0 fun r36 e37 h0=>st (En (r:=.bool r36) rfl false (fun hg=>H141 y34 r36 (ip hg e37)) ⟨(fun hg=>hg),tv⟩ (fun _=>rfl) (fun _=>rfl) (fun _=>rfl) (fun h=>nomatch h) (o_ (Hj 2 (Ah (bb h0 fun r38 e39 h0=>st (En (r:=.bool r38) rfl false (fun hg=>H141 a1 r38 (ip hg e39)) ⟨(fun hg=>hg),tv⟩ (fun _=>rfl) (fun _=>rfl) (fun _=>rfl) (fun h=>nomatch h) (st (Pk (u:=.bool (bif r36 then r38 else false)) rfl (fun hg=>Vy rfl rfl (fun _=>hg) rfl rfl (fun h=>Bq hg (tM h)) tv rfl) (st (Pk (u:=.bool (bif (y32==a1) then true else (bif r36 then r38 else false))) rfl (fun hg=>Vy rfl rfl (fun _=>hg) rfl rfl tv (fun h=>Bq hg (lN h)) rfl) (o_ (Hj 4 (bv h0 fun v40 e41 h0=>Dy ⟨[(4,iV p21),(5,.bool v40)],[],[]⟩ (Er (by subst e41; kernel_rfl)) ?_)))))))))))))))))))))))))
  obtain rfl:=sj h0
  exact Kv (Fe rfl rfl rfl rfl rfl tv)
 ·rintro ⟨p9,p10⟩ o1 _ K1 rfl h1 hx1 hK1 hE1 hR1
  refine As 6 [(0,lI a0),(1,iV a1),(6,iV (a0.length:Int)),(7,iV p9),(8,iV p10),(15,.bool (decide (p9<p10)))] [] (Cw h1 (fun c22 h1=>?_) (fun c22 h1=>?_))
  ·refine At 8 (Ah (st (c_ (Bw ⟨tv,tv,tv⟩ rfl (by decide)) (o_ (At 3 (bv h1 fun v23 e24 h1=>Dy ⟨[(0,lI a0),(1,iV a1),(6,iV (a0.length:Int)),(7,iV p9),(8,iV p10),(9,iV v23)],[],[]⟩ (Er (by subst e24; kernel_rfl)) (At 3 (Ah (bb h1 fun y25 e26 h1=>Ns rfl rfl e26 (o_ (At 2 (Ah (bb h1 fun r27 e28 h1=>Il (H140 y25 a1 r27 e28) (o_ (As 1 [(0,lI a0),(1,iV a1),(6,iV (a0.length:Int)),(7,iV p9),(8,iV p10),(9,iV v23),(27,.bool r27)] [] (Cw h1 (fun c29 h1=>?_) (fun c29 h1=>?_)))))))))))))))))
   ·refine At 5 ?_
    obtain rfl:=sj h1
    exact kn hK1 rfl rfl
   ·refine At 4 ?_
    obtain rfl:=sj h1
    exact kn hK1 rfl rfl
  ·obtain rfl:=sj h1
   obtain rfl:=hx1 _ rfl
   refine Iw rfl ?_
   exact jn hE1 ⟨_,rfl,rfl⟩

/- slices.Insert[[]int,int] -/
def TQ:List Bj:=[⟨some 6,.nilS 1,none⟩]
def TR:List Bj:=[m_ 10 0,m_ 11 1,⟨some 12,.p (.slice (.t 10) (some (.t 11)) none 1),none⟩]
def TT:=[m_ 13 2,n_ 14 13,m_ 7 14]
def TU:=[m_ 15 7,B_ .eql 16 15 0]
def TV:=[m_ 17 0,m_ 6 17]
def TW:=[m_ 18 0,n_ 19 18,m_ 8 19]
def TX:=[m_ 20 1,m_ 21 8,b_ .eql 22 20 21]
def TY:List Bj:=[m_ 23 0,m_ 24 2,⟨some 25,.app 1 8 (.t 23) (.t 24),none⟩,m_ 6 25]
def TZ:List Bj:=[m_ 26 8,m_ 27 7,b_ .add 28 26 27,m_ 29 0,⟨some 30,.cap (.t 29),none⟩,b_ .gtr 31 28 30]
def UA:List Bj:=[m_ 32 0,m_ 33 1,⟨some 34,.p (.slice (.t 32) none (some (.t 33)) 1),none⟩,m_ 35 8,m_ 36 7,b_ .add 37 35 36,m_ 38 1,b_ .sub 39 37 38,⟨some 40,.appz 1 8 [iV 0] (.t 34) (.t 39),none⟩,m_ 9 40]
def AQ:List Bj:=[m_ 41 9,m_ 42 1,⟨some 43,.p (.slice (.t 41) (some (.t 42)) none 1),none⟩,m_ 44 2,⟨some 45,.copy 1 (.t 43) (.t 44),none⟩]
def AR:=tk [m_ 46 9,m_ 47 1,m_ 48 7,b_ .add 49 47 48,⟨some 50,.p (.slice (.t 46) (some (.t 49)) none 1),none⟩,m_ 51 0,m_ 52 1,⟨some 53,.p (.slice (.t 51) (some (.t 52)) none 1),none⟩] (.alt [] ⟨some 54,.copy 1 (.t 50) (.t 53),none⟩ .fin .stop)
def AS:=[m_ 55 9,m_ 6 55]
def AT:List Bj:=[m_ 56 0,m_ 57 8,m_ 58 7,b_ .add 59 57 58,⟨some 60,.p (.slice (.t 56) none (some (.t 59)) 1),none⟩,m_ 0 60]
def AU:List Bj:=[m_ 61 2,m_ 62 0,m_ 63 1,m_ 64 7,b_ .add 65 63 64,⟨some 66,.p (.slice (.t 62) (some (.t 65)) none 1),none⟩,iQ 67 (.ovl (.t 61) (.t 66)),N_ 68 67]
def AV:=tk [m_ 69 0,m_ 70 1,m_ 71 7,b_ .add 72 70 71,⟨some 73,.p (.slice (.t 69) (some (.t 72)) none 1),none⟩,m_ 74 0,m_ 75 1,⟨some 76,.p (.slice (.t 74) (some (.t 75)) none 1),none⟩] (.alt [] ⟨some 77,.copy 1 (.t 73) (.t 76),none⟩ .fin .stop)
def AW:List Bj:=[m_ 78 0,m_ 79 1,⟨some 80,.p (.slice (.t 78) (some (.t 79)) none 1),none⟩,m_ 81 2,⟨some 82,.copy 1 (.t 80) (.t 81),none⟩]
def AX:=[m_ 83 0,m_ 6 83]
def AY:List Bj:=[m_ 84 0,m_ 85 8,⟨some 86,.p (.slice (.t 84) (some (.t 85)) none 1),none⟩,m_ 87 2,⟨some 88,.copy 1 (.t 86) (.t 87),none⟩]
def AZ:List Bj:=[m_ 89 0,m_ 90 1,⟨some 91,.p (.slice (.t 89) (some (.t 90)) none 1),none⟩,m_ 92 7,q_ 93 143 [.t 91,.t 92]]
def BA:=[m_ 94 0,m_ 6 94]
def TP:De:=⟨3,95,[.t 6],sr TQ (sr TR (sr TT (.seq (sr TU (iz 16 (rr TV))) (sr TW (.seq (sr TX (iz 22 (rr TY))) (.seq (sr TZ (iz 31 (sr UA (sr AQ (sd AR (rr AS)))))) (sr AT (.seq (sr AU (iz 68 (sd AV (sr AW (rr AX))))) (sr AY (sr AZ (rr BA)))))))))))⟩
def K122 (D:Ba):Prop:=∀a0 a1 a2 r,g122 a0 a1 a2=some r→D 122 ⟨[oI 1024000 a0,iV a1,oI 2097152 a2],[]⟩ ⟨oI 0 r.1,[],[(0,1,r.2.map eI)]⟩
abbrev Vi:=fun x0 x1 (r:List (Nat×V))=>(0,oI 1024000 x0)::(2,oI 2097152 x1)::r
theorem F122:K122 (FO C TP):=by
 intro a0 a1 a2 r h0
 refine f0 ?_
 obtain ⟨⟨hb,hpos,hl⟩,h0⟩:=xE h0
 obtain rfl:=sj h0
 obtain ⟨i,rfl⟩:=Int.eq_ofNat_of_zero_le hb.1
 have hi:i≤a0.length:=by omega
 rw [show ((i:Nat):Int).toNat=i from rfl]
 have hbyte:(a0.length+a2.length)*8≤140737488355328:=Nat.le_trans (Nat.mul_le_mul_right 8 hl) (by decide)
 have hsm:a0.length+a2.length≤140737488355328:=by omega
 have w1:wi ((a0.length:Int)+(a2.length:Int))=((a0.length+a2.length:Nat):Int):=iN _ (by omega) (by omega)
 have w2:wi ((i:Int)+(a2.length:Int))=((i+a2.length:Nat):Int):=iN _ (by omega) (by omega)
 have w3:wi (((a0.length+a2.length:Nat):Int)-(i:Int))=((a0.length+a2.length-i:Nat):Int):=iN _ (by omega) (by omega)
 refine As 3 (Vi a0 a2 [(1,iV i)]) [] (At 3 (Ah (st (c_ (Dk (e:=eI) (y:=a0.drop i) rfl rfl tv ⟨tv,tv⟩ rfl rfl (Pp a0 i hi)) (o_ (As 1 (Vi a0 a2 [(1,iV i)]) [] (Bk (Ah (st (Dc rfl tv (Qb rfl (o_ (As 2 (Vi a0 a2 [(1,iV i),(7,iV (a2.length:Int))]) [] (At 6 (Od (cb:=(a2.length:Int)==0) rfl (fun h=>absurd (eq_of_beq h) (by omega)) (fun _=>(As 1 (Vi a0 a2 [(1,iV i),(7,iV (a2.length:Int))]) [] (Bk (Ah ?_)))))))))))))))))))
 refine st (Dc rfl tv (Qb rfl (o_ (As 2 (Vi a0 a2 [(1,iV i),(7,iV (a2.length:Int)),(8,iV (a0.length:Int))]) [] (At 7 (Od (cb:=(i:Int)==(a0.length:Int)) rfl (fun h=>?_) (fun h=>?_)))))))
 ·have e1:i=a0.length:=by have:=eq_of_beq h; omega
  subst e1
  rw [List.take_length,List.drop_length,List.append_nil]
  refine At 3 (Ah (st (Fp (e:=eI) (l0:=a0) (l1:=a2) rfl rfl tv rfl (show (1024000:Nat)<1048576 by decide) hbyte (o_ (As 2 [(6,oI 1024000 (a0++a2)),(2,oI 2097152 a2)] [] ?_)))))
  exact Kv (Fe rfl rfl rfl rfl rfl ⟨⟨rfl,xP (fun _=>rfl)⟩,tv⟩)
 have hlt:i<a0.length:=by
  have:(i:Int)≠(a0.length:Int):=fun h1=>by rw [h1] at h; simp at h
  omega
 have hemp:a0.map eI≠[]:=fun e1=>by
  have:=congrArg List.length e1
  simp at this
  subst this
  simp at hlt
 have hemp2:a2.map eI≠[]:=fun e1=>by
  have:=congrArg List.length e1
  simp at this
  subst this
  simp at hpos
 refine As 1 (Vi a0 a2 [(1,iV i),(7,iV (a2.length:Int)),(8,iV (a0.length:Int))]) [] (At 4 (Ah (st (c_ (Bw (v:=iV ((a0.length+a2.length:Nat):Int)) ⟨tv,tv,tv⟩ (congrArg (fun z=>some (True,V.int .i64 z)) w1) tv) (st (Dc rfl tv (st (cap_ (e:=eI) (l0:=a0) rfl fun c hc _ _=>(o_ (At 2 ?_))))))))))
 refine Dy ⟨[(31,.bool (decide (((a0.length+a2.length:Nat):Int)>(c:Int)))),(0,oI 1024000 a0),(1,iV i),(2,oI 2097152 a2),(7,iV (a2.length:Int)),(8,iV (a0.length:Int))],[],[(0,Es+(c:Int))]⟩
  (qG ⟨rfl,rfl,rfl,rfl,rfl,rfl,tv⟩ tv ⟨.inr (.inr ⟨29,Es+(c:Int),_,_,0,_,0,_,rfl,rfl,hemp,rfl,hemp,by decide,.inr ⟨rfl,rfl⟩⟩),tv⟩) ?_
 refine Od (cb:=decide (((a0.length+a2.length:Nat):Int)>(c:Int))) rfl (fun hgt=>?_) (fun hle=>?_)
 ·have hgt':c<a0.length+a2.length:=by have:=of_decide_eq_true hgt; omega
  refine At 3 (Ah (st (c_ (Dk (e:=eI) (y:=a0.take i) rfl rfl tv ⟨tv,tv⟩ rfl rfl (by rw [show (none:Option Int).getD 0=((0:Nat):Int) from rfl]; exact yE a0 0 i (by omega) (by omega))) (o_ (At 2 (Ah (st (c_ (Bw (v:=iV ((a0.length+a2.length:Nat):Int)) ⟨tv,tv,tv⟩ (congrArg (fun z=>some (True,V.int .i64 z)) w1) tv) (st (Dc rfl tv (st (c_ (Bw (v:=iV ((a0.length+a2.length-i:Nat):Int)) ⟨tv,tv,tv⟩ (congrArg (fun z=>some (True,V.int .i64 z)) w3) tv) (st (pR (e:=eI) (l0:=a0.take i) (c:=Es+(c:Int)-0) (t:=1024000) (default:Int) rfl rfl rfl (by decide) (Int.natCast_nonneg _) ?_ rfl (by omega) ?_ ?_))))))))))))))
  ·have e1:(a0.take i).length+(a0.length+a2.length-i)=a0.length+a2.length:=by simp; omega
   have:=Int.ofNat_le.2 hbyte
   rw [Int.natCast_mul] at this
   rw [←Int.natCast_add,e1]
   exact this
  ·have e1:(a0.take i).length=i:=by simp; omega
   rw [e1]; omega
  rw [show ((a0.length+a2.length-i:Nat):Int).toNat=a0.length+a2.length-i from rfl]
  refine o_ (As 2 (Vi a0 a2 [(9,oI 2560 (a0.take i++List.replicate (a0.length+a2.length-i) (default:Int))),(1,iV i),(7,iV (a2.length:Int))]) [] ?_)
  generalize hR:a0.take i++List.replicate (a0.length+a2.length-i) (default:Int)=R
  have hRl:R.length=a0.length+a2.length:=by rw [←hR]; simp; omega
  have hRt:R.take i=a0.take i:=by rw [←hR,List.take_append_of_le_length (by simp; omega),List.take_take,Nat.min_self]
  refine At 3 (Ah (st (c_ (Dk (e:=eI) (y:=R.drop i) rfl rfl tv ⟨tv,tv⟩ rfl rfl (Pp R i (by omega))) (st (Dc rfl tv (st (copy_ (e:=eI) (l0:=R.drop i) (l1:=a2) (t:=2560) rfl rfl tv rfl (In (Dy ⟨[(9,oI 2560 (ovl R i (a2.take (R.drop i).length))),(0,oI 1024000 a0),(1,iV i),(2,oI 2097152 a2),(7,iV (a2.length:Int))],[],[]⟩ (fg ⟨congrArg (fun z=>some (V.own 2560 0 1 z)) (Fb (off:=0)),rfl,rfl,rfl,rfl,tv⟩ tv) ?_)))))))))
  have hR2l:(ovl R i (a2.take (R.drop i).length)).length=a0.length+a2.length:=by rw [Ng,hRl]
  generalize hR2:ovl R i (a2.take (R.drop i).length)=R2 at hR2l
  refine At 4 (Bm (Au tv (c_ (Bw (v:=iV ((i+a2.length:Nat):Int)) ⟨tv,tv,tv⟩ (congrArg (fun z=>some (True,V.int .i64 z)) w2) tv) (⟨tv,Au tv (c_ (Dk (e:=eI) (y:=R2.drop (i+a2.length)) rfl rfl tv ⟨tv,tv⟩ rfl rfl (Pp R2 (i+a2.length) (by omega))) (⟨tv,d_ (At 2 (Bm (Au tv (c_ (Dk (e:=eI) (y:=a0.drop i) rfl rfl tv ⟨tv,tv⟩ rfl rfl (Pp a0 i hi)) (⟨tv,Cb (copy_ (e:=eI) (l0:=R2.drop (i+a2.length)) (l1:=a0.drop i) (t:=2560) rfl rfl tv rfl (d0 tv (Jz ?_))) Az⟩)))))⟩))⟩))))
  have hfin:ovl R2 (i+a2.length) ((a0.drop i).take (R2.drop (i+a2.length)).length)=a0.take i++a2++a0.drop i:=by
   rw [←hR2]
   exact vC hRl hRt hi
  refine Dy ⟨[(9,oI 2560 (a0.take i++a2++a0.drop i)),(2,oI 2097152 a2)],[],[]⟩ (fg ⟨(congrArg (fun z=>some (V.own 2560 0 1 z)) (Fb (off:=0))).trans (congrArg (fun z=>some (V.own 2560 0 1 (z.map eI))) hfin),rfl,tv⟩ tv) (At 5 ?_)
  exact Kv (Fe rfl rfl rfl rfl rfl ⟨⟨rfl,xP (fun _=>rfl)⟩,tv⟩)
 ·have hle':a0.length+a2.length≤c:=by have:=of_decide_eq_false hle; omega
  refine Nh ?_
  refine Dy ⟨[(0,oI 1024000 a0),(1,iV i),(2,oI 2097152 a2),(7,iV (a2.length:Int)),(8,iV (a0.length:Int))],[],[(0,Es+(c:Int))]⟩
   (qG ⟨rfl,rfl,rfl,rfl,rfl,tv⟩ tv ⟨.inl ⟨_,rfl,.inl rfl⟩,tv⟩) ?_
  refine At 4 (Ah (st (c_ (Bw (v:=iV ((a0.length+a2.length:Nat):Int)) ⟨tv,tv,tv⟩ (congrArg (fun z=>some (True,V.int .i64 z)) w1) tv) (st (c_ (kZ (e:=eI) (l0:=a0) (t:=1024000) (sz:=1) (H:=a0.length+a2.length) (c:=Es+(c:Int)) rfl rfl (Nat.le_add_right _ _) (show (0:Nat)<1 by decide) rfl (by rw [Yo]; omega)) (st (Dc rfl tv (In ?_))))))))
  rw [Nat.add_sub_cancel_left]
  have hA0:(a0.map some++List.replicate a2.length none).length=a0.length+a2.length:=by simp
  have hA1:(a0.map some++List.replicate a2.length none).take i=(a0.take i).map some:=by rw [List.take_append_of_le_length (by simpa using hi),List.map_take]
  have hA2:((a0.map some++List.replicate a2.length none).drop i).take (a0.length-i)=(a0.drop i).map some:=by
   rw [List.drop_append_of_le_length (by simpa using hi),←List.map_drop,List.take_append_of_le_length (by simp),List.take_of_length_le (by simp)]
  generalize (a0.map some++List.replicate a2.length none:List (Option (Int)))=A at hA0 hA1 hA2
  refine As 0 [(0,.own 1024000 0 1 (A.map (eo eI 1))),(1,iV i),(2,oI 2097152 a2),(7,iV (a2.length:Int)),(8,iV (a0.length:Int))] [] (At 6 (Ah (st (c_ (Bw (v:=iV ((i+a2.length:Nat):Int)) ⟨tv,tv,tv⟩ (congrArg (fun z=>some (True,V.int .i64 z)) w2) tv) (st (c_ (Dk (e:=eo eI 1) (y:=A.drop (i+a2.length)) rfl rfl tv ⟨tv,tv⟩ rfl rfl (Pp A (i+a2.length) (by omega))) (st (c_ (covl rfl rfl (by decide) hemp2 (fun e1=>?_)) ?_))))))))
  ·have:=congrArg List.length e1
   simp at this
   omega
  refine o_ (As 2 [(68,.bool true),(0,.own 1024000 0 1 (A.map (eo eI 1))),(1,iV i),(2,oI 2097152 a2),(7,iV (a2.length:Int)),(8,iV (a0.length:Int))] [] (Od (cb:=true) rfl (fun _=>(At 4 (Bm (Au tv (c_ (Bw (v:=iV ((i+a2.length:Nat):Int)) ⟨tv,tv,tv⟩ (congrArg (fun z=>some (True,V.int .i64 z)) w2) tv) (⟨tv,Au tv (c_ (Dk (e:=eo eI 1) (y:=A.drop (i+a2.length)) rfl rfl tv ⟨tv,tv⟩ rfl rfl (Pp A (i+a2.length) (by omega))) (⟨tv,d_ (At 2 (Bm (Au tv (c_ (Dk (e:=eo eI 1) (y:=A.drop i) rfl rfl tv ⟨tv,tv⟩ rfl rfl (Pp A i (by omega))) (⟨tv,Cb (copy_ (e:=eo eI 1) (l0:=A.drop (i+a2.length)) (l1:=A.drop i) (t:=1024000) rfl rfl tv rfl (d0 tv (Jz ?_))) Az⟩)))))⟩))⟩)))))) (fun h=>by cases h)))
  have hB:(A.drop i).take (A.drop (i+a2.length)).length=(a0.drop i).map some:=by
   rw [←hA2]; congr 1; simp; omega
  rw [hB]
  refine Dy ⟨[(0,.own 1024000 0 1 ((ovl A (i+a2.length) ((a0.drop i).map some)).map (eo eI 1))),(1,iV i),(2,oI 2097152 a2)],[],[]⟩ (fg ⟨congrArg (fun z=>some (V.own 1024000 0 1 z)) (Fb (off:=0)),rfl,rfl,tv⟩ tv) ?_
  have hR2l:(ovl A (i+a2.length) ((a0.drop i).map some)).length=a0.length+a2.length:=by rw [Ng,hA0]
  have hfin:ovl (ovl A (i+a2.length) ((a0.drop i).map some)) i (a2.map some)=(a0.take i++a2++a0.drop i).map some:=nQ hA0 hA1 hi
  generalize ovl A (i+a2.length) ((a0.drop i).map some)=R2 at hR2l hfin
  refine At 3 (Ah (st (c_ (Dk (e:=eo eI 1) (y:=R2.drop i) rfl rfl tv ⟨tv,tv⟩ rfl rfl (Pp R2 i (by omega))) (st (Dc rfl tv (st (copy_ (e:=eo eI 1) (l0:=R2.drop i) (l1:=a2.map some) (t:=1024000) rfl rfl tv (congrArg (fun z=>some (1,z)) (Se a2)) (In ?_))))))))
  have hT:(a2.map some).take (R2.drop i).length=a2.map some:=List.take_of_length_le (by simp; omega)
  rw [hT]
  refine Dy ⟨[(0,oI 1024000 (a0.take i++a2++a0.drop i)),(2,oI 2097152 a2)],[],[]⟩
   (fg ⟨(congrArg (fun z=>some (V.own 1024000 0 1 z)) (Fb (off:=0))).trans (congrArg (fun z=>some (V.own 1024000 0 1 z)) ((congrArg (List.map (eo eI 1)) hfin).trans (Se _).symm)),rfl,tv⟩ tv) ?_
  refine At 5 ?_
  exact Kv (Fe rfl rfl rfl rfl rfl ⟨⟨rfl,xP (fun _=>rfl)⟩,tv⟩)

end Go.Ev
