/- The walks of functions: the code comes to the answers that QgD tells. Written by a program of ours. -/
import Derived.Test.YtikhmmocfceliaaGreatQgW1
set_option linter.all false
set_option maxHeartbeats 4000000
set_option linter.unusedVariables false
set_option maxRecDepth 100000
namespace Go.Ev
variable {C:Bl}

/- slices.breakPatternsCmpFunc[loop.example/g00149/impl.Lease] -/
def QX:=[m_ 13 2,m_ 14 1,b_ .sub 15 13 14,m_ 8 15]
def QY:=[m_ 16 8,B_ .geq 17 16 8]
def QZ:=[m_ 18 8,iQ 19 (.conv .u64 (.t 18)),a_ 9 [.int .u64 0],s_ 9 19 1]
def RA:=[m_ 20 8,q_ 21 160 [.t 20],m_ 10 21]
def RF:=[m_ 22 1,m_ 23 8,B_ .quo 24 23 4,B_ .mul 25 24 2,b_ .add 26 22 25,B_ .sub 27 26 1,m_ 11 27]
def RG:=[m_ 28 11,m_ 29 1,m_ 30 8,B_ .quo 31 30 4,B_ .mul 32 31 2,b_ .add 33 29 32,B_ .add 34 33 1,b_ .leq 35 28 34]
def RH:List Cf:=[q_ 38 161 [.t 9],m_ 39 10,⟨some 40,.p (.bin .sub (.t 39) (.c (.int .u64 1))),none⟩,b_ .and 41 38 40,iQ 42 (.conv .i64 (.t 41)),m_ 12 42]
def RI:=[m_ 43 12,m_ 44 8,b_ .geq 45 43 44]
def RJ:=[m_ 46 12,m_ 47 8,b_ .sub 48 46 47,m_ 12 48]
def RK:=tk [m_ 49 0,m_ 50 11,m_ 51 0,m_ 52 1,m_ 53 12,b_ .add 54 52 53,m_ 55 0,m_ 56 1,m_ 57 12,b_ .add 58 56 57,x_ 59 55 58 4,L_ 60 59 4,m_ 61 0,m_ 62 11,x_ 63 61 62 4,L_ 64 63 4,x_ 65 49 50 4] (.alt [b_ .add 54 52 53,m_ 53 12,m_ 52 1,m_ 51 0] (s_ 65 60 4) (tk [x_ 66 51 54 4] (.alt [] (s_ 66 64 4) .fin .stop)) .stop)
def xB:=[m_ 36 11,B_ .add 37 36 1,m_ 11 37]
def QW:IR:=(.seq (sr RG (.ite (.t 35) .skip (.exit 0))) (.seq (.block 1 (sr RH (.seq (sr RI (iz 45 (.reg RJ))) (.draw RK)))) (.reg xB)))
def c150:Dv:=⟨4,67,[],sr QX (sr QY (iz 17 (sr QZ (sr RA (sr RF (Im 0 QW))))))⟩
def K150 (C:Bl) (D:Bl:=C):Prop:=∀(a0:List Aa) (a1:Int) (a2:Int) (f3:Nat) (k3:List V) (is3:Aa→Aa→Option Int) (hs3:Jh k3) (hf3:∀(x0:Aa) (x1:Aa) r,is3 x0 x1=some r→C f3 ⟨.agg (Ab x0) :: .agg (Ab x1)::k3,[]⟩ ⟨iV r,[],[]⟩) (r:(List Aa)),rN a0 a1 a2 is3=some r→D 150 ⟨[Ae 2097152 a0,iV a1,iV a2,.clo f3 k3],[]⟩ ⟨.tup [],[],[(0,4,r.map Ab)]⟩
abbrev Wm:=fun x0 x1 x2 (r:List (Nat×V))=>(0,Ae 2097152 x0)::(1,iV x1)::(9,.ptr 576 0)::(11,iV x2)::r
theorem F150 (H160:K160 C) (H161:K161 C):K150 C (FO C c150):=by
 intro a0 a1 a2 f3 k3 is3 hs3 hf3 r h0
 refine f0 (Ba 11 [(0,Ae 2097152 a0),(1,iV a1),(8,iV (wi (a2-a1))),(17,.bool (decide ((wi (a2-a1))≥8)))] [] (Cs h0 (fun c1 h0=>?_) (fun c1 h0=>?_)))
 ·refine Ba 6 [(0,Ae 2097152 a0),(1,iV a1),(8,iV (wi (a2-a1))),(9,.ptr 576 0)] [(576,[.int .u64 (IntKind.u64.wrap (wi (a2-a1)))])] (Aw (Ar (st (Bm rfl tv (bb h0 fun r2 e3 h0=>Sn (H160 (wi (a2-a1)) r2 e3) (o_ (Ba 2 [(0,Ae 2097152 a0),(1,iV a1),(8,iV (wi (a2-a1))),(9,.ptr 576 0),(10,.int .u64 r2)] [(576,[.int .u64 (IntKind.u64.wrap (wi (a2-a1)))])] (Bj 3 (Ar (st (c_ (Bn ⟨tv,tv,tv⟩ rfl (by decide)) (o_ (Bj 5 (bv h0 fun v4 e5 h0=>Cb ⟨[(0,Ae 2097152 a0),(1,iV a1),(8,iV (wi (a2-a1))),(9,.ptr 576 0),(10,.int .u64 r2),(11,iV v4)],[(576,[.int .u64 (IntKind.u64.wrap (wi (a2-a1)))])],[]⟩ (Cj (by subst e5; kernel_rfl)) (Bu (bb h0 fun r78 e79 h0=>Cv (R:=(fun S=>∃p54:List Aa,p54=r78∧S=⟨[(0,Ae 2097152 p54)],[],[]⟩)) (Tz a1 a2 r2) (fun s S=>match s with | (p27,p28,p29)=>S=⟨Wm p27 a1 p28 [(8,iV (wi (a2-a1))),(10,.int .u64 r2)],[(576,[.int .u64 p29])],[]⟩) e79 _ (Cj (by kernel_rfl)) rfl 0 (fun _=>rfl) ?_ ?_))))))))))))))))
  ·rintro S _ hfg ⟨p54,rfl,rfl⟩
   obtain rfl:=sj h0
   exact bV (bU hfg (Dk rfl rfl rfl rfl rfl ⟨⟨rfl,Jc (fun _=>rfl)⟩,tv⟩))
  ·rintro ⟨p27,p28,p29⟩ o1 _ K1 rfl h1 hx1 hK1 hE1 hR1
   unfold Tz at h1
   refine Bj 5 (Ar (st (c_ (Bn ⟨tv,tv,tv⟩ rfl (by decide)) (o_ (Bj 5 (bv h1 fun v55 e56 h1=>Cb ⟨Wm p27 a1 p28 [(8,iV (wi (a2-a1))),(10,.int .u64 r2),(35,.bool v55)],[(576,[.int .u64 p29])],[]⟩ (Cj (by subst e56; kernel_rfl)) (Cs h1 (fun c57 h1=>?_) (fun c57 h1=>?_))))))))
   ·refine Ot 5 (Ar (bb h1 fun r58 e59 h1=>dG [576] [] [] (H161 p29 r58 e59) (Az rfl rfl) (sw ⟨Wm p27 a1 p28 [(8,iV (wi (a2-a1))),(10,.int .u64 r2),(38,.int .u64 r58.1)],[(576,[.int .u64 r58.2])],[]⟩ (Cj (by kernel_rfl)) (Bm rfl tv (o_ (Ba 5 (Wm p27 a1 p28 [(8,iV (wi (a2-a1))),(10,.int .u64 r2),(12,iV (wi (gC .u64 r58.1 (IntKind.u64.wrap (r2-1)))))]) [(576,[.int .u64 r58.2])] (Bj 6 (bv h1 fun v60 e61 h1=>Cb ⟨Wm p27 a1 p28 [(8,iV (wi (a2-a1))),(10,.int .u64 r2),(12,iV (wi (gC .u64 r58.1 (IntKind.u64.wrap (r2-1))))),(45,.bool v60)],[(576,[.int .u64 r58.2])],[]⟩ (Cj (by subst e61; kernel_rfl)) (Lw (cb:=v60) (fun S=>∃p63:Int,S=⟨Wm p27 a1 p28 [(8,iV (wi (a2-a1))),(10,.int .u64 r2),(12,iV p63)],[(576,[.int .u64 r58.2])],[]⟩∧Tx a1 p27 p28 r58 p63=some o1) rfl ?_ (fun c77 J76=>?_) (fun c77 J76=>?_))))))))))
    ·rintro _ ⟨p63,rfl,h1⟩
     refine Ot 1 (bb h1 fun y64 e65 h1=>bb h1 fun y66 e67 h1=>bb h1 fun y68 e69 h1=>bb h1 fun y70 e71 h1=>bb h1 fun y72 e73 h1=>bb h1 fun y74 e75 h1=>Bj 10 (Bq (d_ (Zc rfl rfl rfl e65 (Bq (Ci (c_ (Ol rfl rfl e67) (⟨⟨Df rfl rfl e67 rfl,tv⟩,Al tv (Bm rfl tv (⟨⟨Df rfl rfl e67 rfl,tv⟩,Al tv (Bm rfl tv (⟨⟨Df rfl rfl e67 rfl,tv⟩,Al tv (c_ (Kp rfl rfl e69) (⟨⟨Df rfl rfl e67 rfl,tv⟩,?_⟩))⟩))⟩))⟩))))))))
     refine Ci (c_ (Ol rfl rfl e71) (⟨⟨Df rfl rfl e71 rfl,Df rfl rfl e67 rfl,tv⟩,Al tv (c_ (Kp rfl rfl e69) (⟨⟨Df rfl rfl e71 rfl,Df rfl rfl e67 rfl,tv⟩,Ck (Hc (y':=y66) rfl rfl tv rfl rfl rfl rfl e71 (nl rfl) rfl rfl rfl rfl (fG ⟨[(0,Ae 2097152 (p27.set p28.toNat y66)),(1,iV a1),(8,iV (wi (a2-a1))),(9,.ptr 576 0),(10,.int .u64 r2),(11,iV p28),(12,iV p63),(51,Ae 2097152 (p27.set p28.toNat y66)),(52,iV a1),(53,iV p63),(54,iV (wi (a1+p63))),(64,.agg (Ab y70))],[(576,[.int .u64 r58.2])],[]⟩ (fg ⟨congrArg (fun z=>some ((.own 2097152 0 4 z:V))) Ay,rfl,rfl,rfl,rfl,rfl,rfl,congrArg (fun z=>some ((.own 2097152 0 4 z:V))) Ay,rfl,rfl,rfl,rfl,tv⟩ ⟨rfl,tv⟩) ⟨[],⟨⟨.inl tv,Bf (Bn t3 rfl tv) rfl⟩,⟨.inl tv,Bf (Eb (v:=iV p63) rfl tv) rfl⟩,⟨.inl tv,Bf (Eb (v:=iV a1) rfl tv) rfl⟩,⟨.inl tv,Bf (Eb (v:=Ae 2097152 (p27.set p28.toNat y66)) rfl tv) rfl⟩,tv⟩,tv,Al tv (c_ (Kp rfl rfl e73) (⟨tv,Ck (Hc (y':=y70) rfl rfl tv rfl rfl rfl rfl e75 (nl rfl) rfl rfl rfl rfl (d0 tv (Gf (Qq (Cb ⟨[(0,Ae 2097152 ((p27.set p28.toNat y66).set ((wi (a1+p63)).toNat) y70)),(1,iV a1),(8,iV (wi (a2-a1))),(9,.ptr 576 0),(10,.int .u64 r2),(11,iV p28)],[(576,[.int .u64 r58.2])],[]⟩ (fg ⟨congrArg (fun z=>some ((.own 2097152 0 4 z:V))) Ay,rfl,rfl,rfl,rfl,rfl,tv⟩ ⟨rfl,tv⟩) (Ar (st (Bm rfl tv (st (c_ (Bn t3 rfl tv) (st (Bm rfl tv (Cz ?_))))))))))))) Bg⟩))⟩)) Bg⟩))⟩))
     obtain rfl:=sj h1
     exact kn hK1 rfl rfl
    ·replace h1:=ip c77 h1
     refine Bj 5 ?_
     exact jn J76 ⟨_,rfl,h1⟩
    ·replace h1:=Kn c77 h1
     refine Hb ?_
     exact jn J76 ⟨_,rfl,h1⟩
   ·obtain rfl:=sj h1
    obtain rfl:=hx1 _ rfl
    refine In rfl ?_
    exact jn hE1 ⟨_,rfl,rfl⟩
 ·refine Hb ?_
  obtain rfl:=sj h0
  exact bV (Dk rfl rfl rfl rfl rfl ⟨⟨rfl,Jc (fun _=>rfl)⟩,tv⟩)

/- slices.order2CmpFunc[loop.example/g00149/impl.Lease] -/
def VR:=[i_ 10 0,i_ 11 0]
def VS:=tk [m_ 12 4,m_ 13 0,m_ 14 2,x_ 15 13 14 4,L_ 16 15 4,m_ 17 0,m_ 18 1,x_ 19 17 18 4,L_ 20 19 4] (.alt [] ⟨some 21,.callv (.t 12) [.t 16,.t 20],none⟩ (tk [B_ .lss 22 21 0] .fin) .stop)
def VT:=[m_ 23 3,iQ 24 (.nilc (.t 23)),l_ 25 24 1,B_ .add 26 25 1,iQ 27 (.nilc (.t 23)),s_ 27 26 1]
def VU:=[m_ 28 2,m_ 29 1,m_ 10 28,m_ 11 29]
def VV:=[m_ 30 1,m_ 31 2,m_ 10 30,m_ 11 31]
def c165:Dv:=⟨5,32,[.t 10,.t 11],sr VR (.seq (sd VS (iz 22 (sr VT (rr VU)))) (rr VV))⟩
def K165 (C:Bl) (D:Bl:=C):Prop:=∀(a0:List Aa) (a1:Int) (a2:Int) (a3:Int) (f4:Nat) (k4:List V) (is4:Aa→Aa→Option Int) (hs4:Jh k4) (hf4:∀(x0:Aa) (x1:Aa) r,is4 x0 x1=some r→C f4 ⟨.agg (Ab x0) :: .agg (Ab x1)::k4,[]⟩ ⟨iV r,[],[]⟩) (r:Int×Int×Int),rP a0 a1 a2 a3 is4=some r→D 165 ⟨[Cg a0,iV a1,iV a2,.ptr 1048576 0,.clo f4 k4],[[iV a3]]⟩ ⟨.tup [iV r.1,iV r.2.1],[[iV r.2.2]],[]⟩
theorem F165:K165 C (FO C c165):=by
 intro a0 a1 a2 a3 f4 k4 is4 hs4 hf4 r h0
 refine f0 (Ba 4 [(0,Cg a0),(1,iV a1),(2,iV a2),(3,.ptr 1048576 0),(4,.clo f4 k4)] [(1048576,[iV a3])] (Aw (Aw (bb h0 fun y1 e2 h0=>bb h0 fun y3 e4 h0=>bb h0 fun r5 e6 h0=>Bj 3 (Bq (d_ (tH rfl rfl rfl e2 (Bj 3 (Bq (d_ (tH rfl rfl rfl e4 (Bq (Al tv (c_ (v:=.agg (Ab y3)) (Bn ⟨tv,tv⟩ rfl (nl rfl)) (⟨tv,Ck (He (r:=iV r5) rfl false (hf4 _ _ r5 e6) ⟨tv,tv,tv⟩ (ar (Az rfl hs4.2.2.1)) (Bb rfl (Bb rfl (hs4.2.1 _ _ _ _ _))) (fun _=>rfl) (dw [(1,iV a1),(2,iV a2),(3,.ptr 1048576 0),(21,iV r5)] [(1048576,[iV a3])] tv (d_ (Ba 2 [(1,iV a1),(2,iV a2),(3,.ptr 1048576 0),(22,.bool (decide (r5<0)))] [(1048576,[iV a3])] (Cs h0 (fun c7 h0=>?_) (fun c7 h0=>?_)))))) Bg⟩)))))))))))))))
 ·obtain rfl:=sj h0
  exact Cy 16
 ·obtain rfl:=sj h0
  exact Cy 9

/- slices.medianCmpFunc[loop.example/g00149/impl.Lease] -/
def VM:=[i_ 12 0]
def VN:=[m_ 14 0,m_ 15 1,m_ 16 2,m_ 17 4,m_ 18 5,q_ 19 165 [.t 14,.t 15,.t 16,.t 17,.t 18],m_ 13 19,e_ 20 13 0,e_ 21 13 1,m_ 1 20,m_ 2 21]
def VO:=[m_ 23 0,m_ 24 2,m_ 25 3,m_ 26 4,m_ 27 5,q_ 28 165 [.t 23,.t 24,.t 25,.t 26,.t 27],m_ 22 28,e_ 29 22 0,e_ 30 22 1,m_ 2 29,m_ 3 30]
def VP:=[m_ 32 0,m_ 33 1,m_ 34 2,m_ 35 4,m_ 36 5,q_ 37 165 [.t 32,.t 33,.t 34,.t 35,.t 36],m_ 31 37,e_ 38 31 0,e_ 39 31 1,m_ 1 38,m_ 2 39]
def VQ:=[m_ 40 2,m_ 12 40]
def c163:Dv:=⟨6,41,[.t 12],sr VM (sr VN (sr VO (sr VP (rr VQ))))⟩
def HS (C:Bl) (D:Bl:=C):Prop:=∀(a0:List Aa) (a1:Int) (a2:Int) (a3:Int) (a4:Int) (f5:Nat) (k5:List V) (is5:Aa→Aa→Option Int) (hs5:Jh k5) (hf5:∀(x0:Aa) (x1:Aa) r,is5 x0 x1=some r→C f5 ⟨.agg (Ab x0) :: .agg (Ab x1)::k5,[]⟩ ⟨iV r,[],[]⟩) (r:Int×Int),DL a0 a1 a2 a3 a4 is5=some r→D 163 ⟨[Cg a0,iV a1,iV a2,iV a3,.ptr 1048576 0,.clo f5 k5],[[iV a4]]⟩ ⟨iV r.1,[[iV r.2]],[]⟩
theorem F163 (H165:K165 C):HS C (FO C c163):=by
 intro a0 a1 a2 a3 a4 f5 k5 is5 hs5 hf5 r h0
 refine f0 (Ba 3 [(0,Cg a0),(1,iV a1),(2,iV a2),(3,iV a3),(4,.ptr 1048576 0),(5,.clo f5 k5)] [(1048576,[iV a4])] (Bj 6 (Ar (bb h0 fun r1 e2 h0=>st (Ef [1048576] [] [] false (H165 a0 a1 a2 a4 f5 k5 is5 hs5 hf5 r1 e2) ⟨tv,tv,tv,tv,tv,tv⟩ (by kernel_rfl) (congrArg (fun z=>Gq.mk z [[iV a4]]) (Bb rfl (Bb rfl (Bb rfl (Bb rfl (Bb (Ey hs5) rfl)))))) (by kernel_rfl) (by kernel_rfl) (fun _=>Az rfl rfl) (o_ (Ba 6 [(0,Cg a0),(1,iV r1.1),(2,iV r1.2.1),(3,iV a3),(4,.ptr 1048576 0),(5,.clo f5 k5)] [(1048576,[iV r1.2.2])] (Bj 6 (Ar (bb h0 fun r3 e4 h0=>st (Ef [1048576] [] [] false (H165 a0 r1.2.1 a3 r1.2.2 f5 k5 is5 hs5 hf5 r3 e4) ⟨tv,tv,tv,tv,tv,tv⟩ (by kernel_rfl) (congrArg (fun z=>Gq.mk z [[iV r1.2.2]]) (Bb rfl (Bb rfl (Bb rfl (Bb rfl (Bb (Ey hs5) rfl)))))) (by kernel_rfl) (by kernel_rfl) (fun _=>Az rfl rfl) (o_ (Ba 6 [(0,Cg a0),(1,iV r1.1),(2,iV r3.1),(4,.ptr 1048576 0),(5,.clo f5 k5)] [(1048576,[iV r3.2.2])] (Bj 6 (Ar (bb h0 fun r5 e6 h0=>st (Ef [1048576] [] [] false (H165 a0 r1.1 r3.1 r3.2.2 f5 k5 is5 hs5 hf5 r5 e6) ⟨tv,tv,tv,tv,tv,tv⟩ (by kernel_rfl) (congrArg (fun z=>Gq.mk z [[iV r3.2.2]]) (Bb rfl (Bb rfl (Bb rfl (Bb rfl (Bb (Ey hs5) rfl)))))) (by kernel_rfl) (by kernel_rfl) (fun _=>Az rfl rfl) (o_ ?_))))))))))))))))))
 obtain rfl:=sj h0
 exact Cy 12

/- slices.medianAdjacentCmpFunc[loop.example/g00149/impl.Lease] -/
def VK:=[i_ 8 0]
def VL:=[m_ 9 0,m_ 10 1,B_ .sub 11 10 1,m_ 12 1,m_ 13 1,B_ .add 14 13 1,m_ 15 2,m_ 16 3,q_ 17 163 [.t 9,.t 11,.t 12,.t 14,.t 15,.t 16],m_ 8 17]
def VJ:Dv:=⟨4,18,[.t 8],sr VK (rr VL)⟩
def K162 (C:Bl) (D:Bl:=C):Prop:=∀(a0:List Aa) (a1:Int) (a2:Int) (f3:Nat) (k3:List V) (is3:Aa→Aa→Option Int) (hs3:Jh k3) (hf3:∀(x0:Aa) (x1:Aa) r,is3 x0 x1=some r→C f3 ⟨.agg (Ab x0) :: .agg (Ab x1)::k3,[]⟩ ⟨iV r,[],[]⟩) (r:Int×Int),rO a0 a1 a2 is3=some r→D 162 ⟨[Cg a0,iV a1,.ptr 1048576 0,.clo f3 k3],[[iV a2]]⟩ ⟨iV r.1,[[iV r.2]],[]⟩
theorem F162 (H163:HS C):K162 C (FO C VJ):=by
 intro a0 a1 a2 f3 k3 is3 hs3 hf3 r h0
 refine f0 (Ba 3 [(0,Cg a0),(1,iV a1),(2,.ptr 1048576 0),(3,.clo f3 k3)] [(1048576,[iV a2])] (Bj 9 (Ar (bb h0 fun r1 e2 h0=>st (Ef [1048576] [] [] false (H163 a0 (wi (a1-1)) a1 (wi (a1+1)) a2 f3 k3 is3 hs3 hf3 r1 e2) ⟨tv,tv,tv,tv,tv,tv,tv⟩ (by kernel_rfl) (congrArg (fun z=>Gq.mk z [[iV a2]]) (Bb rfl (Bb rfl (Bb rfl (Bb rfl (Bb rfl (Bb (Ey hs3) rfl))))))) (by kernel_rfl) (by kernel_rfl) (fun _=>Az rfl rfl) (o_ ?_))))))
 obtain rfl:=sj h0
 exact Cy 3

/- slices.choosePivotCmpFunc[loop.example/g00149/impl.Lease] -/
def RL:=[i_ 8 0,i_ 9 0]
def RM:=[m_ 15 2,m_ 16 1,b_ .sub 17 15 16,m_ 10 17]
def RR:=[a_ 11 [iV 0]]
def RS:=[m_ 18 1,m_ 19 10,B_ .quo 20 19 4,B_ .mul 21 20 1,b_ .add 22 18 21,m_ 12 22]
def RU:=[m_ 23 1,m_ 24 10,B_ .quo 25 24 4,B_ .mul 26 25 2,b_ .add 27 23 26,m_ 13 27]
def RX:=[m_ 28 1,m_ 29 10,B_ .quo 30 29 4,B_ .mul 31 30 3,b_ .add 32 28 31,m_ 14 32]
def RY:=[m_ 33 10,B_ .geq 34 33 8]
def RZ:=[m_ 35 10,B_ .geq 36 35 50]
def SA:=[m_ 37 0,m_ 38 12,m_ 39 3,q_ 40 162 [.t 37,.t 38,.t 11,.t 39],m_ 12 40]
def SB:=[m_ 41 0,m_ 42 13,m_ 43 3,q_ 44 162 [.t 41,.t 42,.t 11,.t 43],m_ 13 44]
def xC:=[m_ 45 0,m_ 46 14,m_ 47 3,q_ 48 162 [.t 45,.t 46,.t 11,.t 47],m_ 14 48]
def xD:=[m_ 49 0,m_ 50 12,m_ 51 13,m_ 52 14,m_ 53 3,q_ 54 163 [.t 49,.t 50,.t 51,.t 52,.t 11,.t 53],m_ 13 54]
def xE:=[l_ 55 11 1]
def xG:=[B_ .eql 58 55 0,m_ 57 58]
def xH:=[m_ 59 13,m_ 8 59,i_ 9 1]
def xI:=[B_ .eql 61 55 12,m_ 60 61]
def xJ:=[m_ 62 13,m_ 8 62,i_ 9 2]
def xK:=[m_ 56 13,m_ 8 56,i_ 9 0]
def c151:Dv:=⟨4,63,[.t 8,.t 9],sr RL (sr RM (sr RR (sr RS (sr RU (sr RX (.seq (sr RY (iz 34 (.seq (sr RZ (iz 36 (sr SA (sr SB (.reg xC))))) (.reg xD)))) (sr xE (.block 0 (sr xG (.ite (.t 57) (rr xH) (sr xI (.ite (.t 60) (rr xJ) (rr xK)))))))))))))⟩
def K151 (C:Bl) (D:Bl:=C):Prop:=∀(a0:List Aa) (a1:Int) (a2:Int) (f3:Nat) (k3:List V) (is3:Aa→Aa→Option Int) (hs3:Jh k3) (hf3:∀(x0:Aa) (x1:Aa) r,is3 x0 x1=some r→C f3 ⟨.agg (Ab x0) :: .agg (Ab x1)::k3,[]⟩ ⟨iV r,[],[]⟩) (r:Int×Int),g151 a0 a1 a2 is3=some r→D 151 ⟨[Cg a0,iV a1,iV a2,.clo f3 k3],[]⟩ ⟨.tup [iV r.1,iV r.2],[],[]⟩
abbrev bF:=fun x0 x1 x2 (r:List (Nat×V))=>(0,Cg x0)::(3,.clo x1 x2)::(11,.ptr 704 0)::r
theorem F151 (H162:K162 C) (H163:HS C):K151 C (FO C c151):=by
 intro a0 a1 a2 f3 k3 is3 hs3 hf3 r h0
 refine f0 (Ba 11 [(0,Cg a0),(1,iV a1),(3,.clo f3 k3),(10,iV (wi (a2-a1)))] [] (Aw (Ar (st (Hp (Cz (Cb ⟨[(0,Cg a0),(1,iV a1),(3,.clo f3 k3),(10,iV (wi (a2-a1))),(11,.ptr 704 0)],[(704,[iV 0])],[]⟩ (fg ⟨rfl,rfl,congrArg (fun z=>some z) (iW hs3),rfl,rfl,tv⟩ ⟨rfl,tv⟩) (Bj 3 (Ar (st (c_ (Bn ⟨tv,tv,tv⟩ rfl (by decide)) (o_ (Bj 4 (bv h0 fun v1 e2 h0=>Cb ⟨[(0,Cg a0),(1,iV a1),(3,.clo f3 k3),(10,iV (wi (a2-a1))),(11,.ptr 704 0),(12,iV v1)],[(704,[iV 0])],[]⟩ (fg ⟨(by subst e2; rfl),(by subst e2; rfl),(by subst e2; rfl),(by subst e2; rfl),(by subst e2; rfl),(by subst e2; rfl),tv⟩ ⟨(by subst e2; rfl),tv⟩) (Bj 3 (Ar (st (c_ (Bn ⟨tv,tv,tv⟩ rfl (by decide)) (o_ (Bj 4 (bv h0 fun v3 e4 h0=>Cb ⟨[(0,Cg a0),(1,iV a1),(3,.clo f3 k3),(10,iV (wi (a2-a1))),(11,.ptr 704 0),(12,iV v1),(13,iV v3)],[(704,[iV 0])],[]⟩ (fg ⟨(by subst e4; rfl),(by subst e4; rfl),(by subst e4; rfl),(by subst e4; rfl),(by subst e4; rfl),(by subst e4; rfl),(by subst e4; rfl),tv⟩ ⟨(by subst e4; rfl),tv⟩) (Bj 3 (Ar (st (c_ (Bn ⟨tv,tv,tv⟩ rfl (by decide)) (o_ (Bj 4 (bv h0 fun v5 e6 h0=>Cb ⟨[(0,Cg a0),(3,.clo f3 k3),(10,iV (wi (a2-a1))),(11,.ptr 704 0),(12,iV v1),(13,iV v3),(14,iV v5)],[(704,[iV 0])],[]⟩ (fg ⟨(by subst e6; rfl),(by subst e6; rfl),(by subst e6; rfl),(by subst e6; rfl),(by subst e6; rfl),(by subst e6; rfl),(by subst e6; rfl),tv⟩ ⟨(by subst e6; rfl),tv⟩) (Ba 5 (bF a0 f3 k3 [(10,iV (wi (a2-a1))),(12,iV v1),(13,iV v3),(14,iV v5),(34,.bool (decide ((wi (a2-a1))≥8)))]) [(704,[iV 0])] (Lw (cb:=(decide ((wi (a2-a1))≥8))) (fun S=>∃p21:Int,∃p22:Int,S=⟨[(11,.ptr 704 0),(13,iV p21)],[(704,[iV p22])],[]⟩∧Ua p21 p22=some r) rfl ?_ (fun qS J25=>?_) (fun qS J25=>?_)))))))))))))))))))))))))))))))
 ·rintro _ ⟨p21,p22,rfl,h0⟩
  refine Ba 10 [(13,iV p21),(55,iV p22),(57,.bool (p22==0))] [] (Cs h0 (fun c23 h0=>?_) (fun c23 h0=>?_))
  ·obtain rfl:=sj h0
   exact Cy 6
  ·refine Ba 4 [(13,iV p21),(60,.bool (p22==12))] [] (Cs h0 (fun c24 h0=>?_) (fun c24 h0=>?_))
   ·obtain rfl:=sj h0
    exact Cy 6
   ·obtain rfl:=sj h0
    exact Cy 6
 ·replace h0:=ip qS h0
  refine Ba 5 (bF a0 f3 k3 [(12,iV v1),(13,iV v3),(14,iV v5),(36,.bool (decide ((wi (a2-a1))≥50)))]) [(704,[iV 0])] (Lw (cb:=(decide ((wi (a2-a1))≥50))) (fun S=>∃p34:Int,∃p35:Int,∃p36:Int,∃p37:Int,S=⟨bF a0 f3 k3 [(12,iV p34),(13,iV p35),(14,iV p36)],[(704,[iV p37])],[]⟩∧Ub a0 is3 p34 p35 p36 p37=some r) rfl ?_ (fun c41 J40=>?_) (fun c41 J40=>?_))
  ·rintro _ ⟨p34,p35,p36,p37,rfl,h0⟩
   refine Bj 6 (Ar (bb h0 fun r38 e39 h0=>st (Ef [704] [] [] false (H163 a0 p34 p35 p36 p37 f3 k3 is3 hs3 hf3 r38 e39) ⟨tv,tv,tv,tv,tv,tv,tv⟩ (by kernel_rfl) (congrArg (fun z=>Gq.mk z [[iV p37]]) (Bb rfl (Bb rfl (Bb rfl (Bb rfl (Bb rfl (Bb (Ey hs3) rfl))))))) (by kernel_rfl) (by kernel_rfl) (fun _=>Az rfl rfl) (st (Bm rfl tv (Cz ?_))))))
   exact jn J25 ⟨_,_,rfl,h0⟩
  ·replace h0:=ip c41 h0
   refine Bj 4 (Ar (bb h0 fun r42 e43 h0=>st (Ef [704] [] [] false (H162 a0 v1 0 f3 k3 is3 hs3 hf3 r42 e43) ⟨tv,tv,tv,tv,tv⟩ (by kernel_rfl) (congrArg (fun z=>Gq.mk z [[iV 0]]) (Bb rfl (Bb rfl (Bb rfl (Bb (Ey hs3) rfl))))) (by kernel_rfl) (by kernel_rfl) (fun _=>Az rfl rfl) (o_ (Ba 2 (bF a0 f3 k3 [(12,iV r42.1),(13,iV v3),(14,iV v5)]) [(704,[iV r42.2])] (Bj 4 (Ar (bb h0 fun r44 e45 h0=>st (Ef [704] [] [] false (H162 a0 v3 r42.2 f3 k3 is3 hs3 hf3 r44 e45) ⟨tv,tv,tv,tv,tv⟩ (by kernel_rfl) (congrArg (fun z=>Gq.mk z [[iV r42.2]]) (Bb rfl (Bb rfl (Bb rfl (Bb (Ey hs3) rfl))))) (by kernel_rfl) (by kernel_rfl) (fun _=>Az rfl rfl) (o_ (Ba 2 (bF a0 f3 k3 [(12,iV r42.1),(13,iV r44.1),(14,iV v5)]) [(704,[iV r44.2])] (Bj 3 (Ar (bb h0 fun r46 e47 h0=>st (Ef [704] [] [] false (H162 a0 v5 r44.2 f3 k3 is3 hs3 hf3 r46 e47) ⟨tv,tv,tv,tv,tv⟩ (by kernel_rfl) (congrArg (fun z=>Gq.mk z [[iV r44.2]]) (Bb rfl (Bb rfl (Bb rfl (Bb (Ey hs3) rfl))))) (by kernel_rfl) (by kernel_rfl) (fun _=>Az rfl rfl) (st (Bm rfl tv (Cz ?_))))))))))))))))))
   exact jn J40 ⟨_,_,_,_,rfl,h0⟩
  ·replace h0:=Kn c41 h0
   refine Hb ?_
   exact jn J40 ⟨_,_,_,_,rfl,h0⟩
 ·replace h0:=Kn qS h0
  refine Hb ?_
  exact jn J25 ⟨_,_,rfl,h0⟩

/- slices.reverseRangeCmpFunc[loop.example/g00149/impl.Lease] -/
def SD:=[m_ 10 1,m_ 8 10]
def SE:=[m_ 11 2,B_ .sub 12 11 1,m_ 9 12]
def SF:=[m_ 13 8,m_ 14 9,b_ .lss 15 13 14]
def SG:=tk [m_ 16 0,m_ 17 8,m_ 18 0,m_ 19 9,m_ 20 0,m_ 21 9,x_ 22 20 21 4,L_ 23 22 4,m_ 24 0,m_ 25 8,x_ 26 24 25 4,L_ 27 26 4,x_ 28 16 17 4] (.alt [m_ 19 9,m_ 18 0] (s_ 28 23 4) (tk [x_ 29 18 19 4] (.alt [] (s_ 29 27 4) .fin .stop)) .stop)
def SH:=[m_ 30 8,B_ .add 31 30 1,m_ 8 31]
def SI:=[m_ 32 9,B_ .sub 33 32 1,m_ 9 33]
def SC:IR:=(.seq (sr SF (.ite (.t 15) .skip (.exit 0))) (.block 1 (sd SG (sr SH (.reg SI)))))
def c152:Dv:=⟨4,34,[],sr SD (sr SE (Im 0 SC))⟩
def K152 (C:Bl) (D:Bl:=C):Prop:=∀(a0:List Aa) (a1:Int) (a2:Int) (f3:Nat) (k3:List V) (is3:Aa→Aa→Option Int) (hs3:Jh k3) (hf3:∀(x0:Aa) (x1:Aa) r,is3 x0 x1=some r→C f3 ⟨.agg (Ab x0) :: .agg (Ab x1)::k3,[]⟩ ⟨iV r,[],[]⟩) (r:(List Aa)),g152 a0 a1 a2 is3=some r→D 152 ⟨[Ae 2097152 a0,iV a1,iV a2,.clo f3 k3],[]⟩ ⟨.tup [],[],[(0,4,r.map Ab)]⟩
theorem F152:K152 C (FO C c152):=by
 intro a0 a1 a2 f3 k3 is3 hs3 hf3 r h0
 refine f0 (Ba 10 [(0,Ae 2097152 a0),(8,iV a1),(9,iV (wi (a2-1)))] [] (Bu (bb h0 fun r47 e48 h0=>Cv (R:=(fun S=>∃p33:List Aa,p33=r47∧S=⟨[(0,Ae 2097152 p33)],[],[]⟩)) (Yj) (fun s S=>match s with | (p14,p15,p16)=>S=⟨[(0,Ae 2097152 p14),(8,iV p15),(9,iV p16)],[],[]⟩) e48 _ (Cj (by kernel_rfl)) rfl 0 (fun _=>rfl) ?_ ?_)))
 ·rintro S _ hfg ⟨p33,rfl,rfl⟩
  obtain rfl:=sj h0
  exact bV (bU hfg (Dk rfl rfl rfl rfl rfl ⟨⟨rfl,Jc (fun _=>rfl)⟩,tv⟩))
 ·rintro ⟨p14,p15,p16⟩ o1 _ K1 rfl h1 hx1 hK1 hE1 hR1
  refine Ba 6 [(0,Ae 2097152 p14),(8,iV p15),(9,iV p16),(15,.bool (decide (p15<p16)))] [] (Cs h1 (fun c34 h1=>?_) (fun c34 h1=>?_))
  ·refine Ot 4 (bb h1 fun y35 e36 h1=>bb h1 fun y37 e38 h1=>bb h1 fun y39 e40 h1=>bb h1 fun y41 e42 h1=>bb h1 fun y43 e44 h1=>bb h1 fun y45 e46 h1=>Bj 6 (Bq (d_ (Zc rfl rfl rfl e36 (Bq (Ci (c_ (Ol rfl rfl e38) (⟨⟨Df rfl rfl e38 rfl,tv⟩,Al tv (Bm rfl tv (⟨⟨Df rfl rfl e38 rfl,tv⟩,Al tv (Bm rfl tv (⟨⟨Df rfl rfl e38 rfl,tv⟩,Al tv (c_ (Kp rfl rfl e40) (⟨⟨Df rfl rfl e38 rfl,tv⟩,Ci (c_ (Ol rfl rfl e42) (⟨⟨Df rfl rfl e42 rfl,Df rfl rfl e38 rfl,tv⟩,Al tv (c_ (Kp rfl rfl e40) (⟨⟨Df rfl rfl e42 rfl,Df rfl rfl e38 rfl,tv⟩,Ck (Hc (y':=y37) rfl rfl tv rfl rfl rfl rfl e42 (nl rfl) rfl rfl rfl rfl (fG ⟨[(0,Ae 2097152 (p14.set p15.toNat y37)),(8,iV p15),(9,iV p16),(18,Ae 2097152 (p14.set p15.toNat y37)),(19,iV p16),(27,.agg (Ab y41))],[],[]⟩ (fg ⟨congrArg (fun z=>some ((.own 2097152 0 4 z:V))) Ay,rfl,rfl,congrArg (fun z=>some ((.own 2097152 0 4 z:V))) Ay,rfl,rfl,tv⟩ tv) ⟨[],⟨⟨.inl tv,Bf (Eb (v:=iV p16) rfl tv) rfl⟩,⟨.inl tv,Bf (Eb (v:=Ae 2097152 (p14.set p15.toNat y37)) rfl tv) rfl⟩,tv⟩,tv,Al tv (c_ (Kp rfl rfl e44) (⟨tv,?_⟩))⟩)) Bg⟩))⟩))⟩))⟩))⟩))⟩))))))))
   refine Ck (Hc (y':=y41) rfl rfl tv rfl rfl rfl rfl e46 (nl rfl) rfl rfl rfl rfl (d0 tv (Gf (Cb ⟨[(0,Ae 2097152 ((p14.set p15.toNat y37).set p16.toNat y41)),(8,iV p15),(9,iV p16)],[],[]⟩ (fg ⟨congrArg (fun z=>some ((.own 2097152 0 4 z:V))) Ay,rfl,rfl,tv⟩ tv) (Ba 5 [(0,Ae 2097152 ((p14.set p15.toNat y37).set p16.toNat y41)),(8,iV (wi (p15+1))),(9,iV p16)] [] (Bj 5 ?_)))))) Bg
   obtain rfl:=sj h1
   exact kn hK1 rfl rfl
  ·obtain rfl:=sj h1
   obtain rfl:=hx1 _ rfl
   refine In rfl ?_
   exact jn hE1 ⟨_,rfl,rfl⟩

/- slices.partialInsertionSortCmpFunc[loop.example/g00149/impl.Lease] -/
def SN:=[k_ 8 (.bool false)]
def SO:=[m_ 13 1,B_ .add 14 13 1,m_ 9 14]
def SP:=[i_ 10 0]
def SQ:=[m_ 15 10,B_ .lss 16 15 5]
def SR:=tk [m_ 19 9,m_ 20 2,b_ .lss 21 19 20,m_ 22 21,mT 22 23 3,mT 22 24 0,mT 22 25 9,xT 22 26 24 25 4,lT 22 27 26 4 true,mT 22 28 0,mT 22 29 9,pT 22 30 (.bin .sub (.t 29) (.c (iV 1))),xT 22 31 28 30 4,lT 22 32 31 4 true] (.alt [] ⟨some 33,.callv (.t 23) [.t 27,.t 32],some (22,true)⟩ (tk [pT 22 34 (.bin .lss (.t 33) (.c (iV 0))),pT 22 35 (.un .not (.t 34)),pa 36 22 35] .fin) .stop)
def SS:=[m_ 37 9,B_ .add 38 37 1,m_ 9 38]
def SJ:IR:=(.seq (sd SR (.ite (.t 36) .skip (.exit 2))) (.block 3 (.reg SS)))
def ST:=[m_ 39 9,m_ 40 2,b_ .eql 41 39 40]
def SU:=[k_ 8 (.bool true)]
def SV:=[m_ 42 2,m_ 43 1,b_ .sub 44 42 43,B_ .lss 45 44 50]
def SW:=[k_ 8 (.bool false)]
def xL:=tk [m_ 46 0,m_ 47 9,m_ 48 0,m_ 49 9,B_ .sub 50 49 1,m_ 51 0,m_ 52 9,B_ .sub 53 52 1,x_ 54 51 53 4,L_ 55 54 4,m_ 56 0,m_ 57 9,x_ 58 56 57 4,L_ 59 58 4,x_ 60 46 47 4] (.alt [B_ .sub 50 49 1,m_ 49 9,m_ 48 0] (s_ 60 55 4) (tk [x_ 61 48 50 4] (.alt [] (s_ 61 59 4) .fin .stop)) .stop)
def xM:=[m_ 62 9,m_ 63 1,b_ .sub 64 62 63,B_ .geq 65 64 2]
def xN:=[m_ 66 9,B_ .sub 67 66 1,m_ 11 67]
def xO:=[m_ 68 11,B_ .geq 69 68 1]
def xP:=tk [m_ 72 3,m_ 73 0,m_ 74 11,x_ 75 73 74 4,L_ 76 75 4,m_ 77 0,m_ 78 11,B_ .sub 79 78 1,x_ 80 77 79 4,L_ 81 80 4] (.alt [] ⟨some 82,.callv (.t 72) [.t 76,.t 81],none⟩ (tk [B_ .lss 83 82 0,N_ 84 83] .fin) .stop)
def xQ:=tk [m_ 85 0,m_ 86 11,m_ 87 0,m_ 88 11,B_ .sub 89 88 1,m_ 90 0,m_ 91 11,B_ .sub 92 91 1,x_ 93 90 92 4,L_ 94 93 4,m_ 95 0,m_ 96 11,x_ 97 95 96 4,L_ 98 97 4,x_ 99 85 86 4] (.alt [B_ .sub 89 88 1,m_ 88 11,m_ 87 0] (s_ 99 94 4) (tk [x_ 100 87 89 4] (.alt [] (s_ 100 98 4) .fin .stop)) .stop)
def xR:=[m_ 70 11,B_ .sub 71 70 1,m_ 11 71]
def SK:IR:=(.seq (sr xO (.ite (.t 69) .skip (.exit 4))) (.seq (.block 5 (.seq (sd xP (iz 84 (.exit 4))) (.draw xQ))) (.reg xR)))
def xS:=[m_ 101 2,m_ 102 9,b_ .sub 103 101 102,B_ .geq 104 103 2]
def xU:=[m_ 105 9,B_ .add 106 105 1,m_ 12 106]
def xV:=[m_ 107 12,m_ 108 2,b_ .lss 109 107 108]
def xW:=tk [m_ 112 3,m_ 113 0,m_ 114 12,x_ 115 113 114 4,L_ 116 115 4,m_ 117 0,m_ 118 12,B_ .sub 119 118 1,x_ 120 117 119 4,L_ 121 120 4] (.alt [] ⟨some 122,.callv (.t 112) [.t 116,.t 121],none⟩ (tk [B_ .lss 123 122 0,N_ 124 123] .fin) .stop)
def xX:=tk [m_ 125 0,m_ 126 12,m_ 127 0,m_ 128 12,B_ .sub 129 128 1,m_ 130 0,m_ 131 12,B_ .sub 132 131 1,x_ 133 130 132 4,L_ 134 133 4,m_ 135 0,m_ 136 12,x_ 137 135 136 4,L_ 138 137 4,x_ 139 125 126 4] (.alt [B_ .sub 129 128 1,m_ 128 12,m_ 127 0] (s_ 139 134 4) (tk [x_ 140 127 129 4] (.alt [] (s_ 140 138 4) .fin .stop)) .stop)
def xY:=[m_ 110 12,B_ .add 111 110 1,m_ 12 111]
def SL:IR:=(.seq (sr xV (.ite (.t 109) .skip (.exit 6))) (.seq (.block 7 (.seq (sd xW (iz 124 (.exit 6))) (.draw xX))) (.reg xY)))
def xZ:=[m_ 17 10,B_ .add 18 17 1,m_ 10 18]
def SM:IR:=(.seq (sr SQ (.ite (.t 16) .skip (.exit 0))) (.seq (.block 1 (.seq (Im 2 SJ) (.seq (sr ST (iz 41 (rr SU))) (.seq (sr SV (iz 45 (rr SW))) (sd xL (.seq (sr xM (iz 65 (sr xN (Im 4 SK)))) (sr xS (iz 104 (sr xU (Im 6 SL)))))))))) (.reg xZ)))
def yA:=[k_ 8 (.bool false)]
def c153:Dv:=⟨4,141,[.t 8],sr SN (sr SO (.seq (sr SP (Im 0 SM)) (rr yA)))⟩
def K153 (C:Bl) (D:Bl:=C):Prop:=∀(a0:List Aa) (a1:Int) (a2:Int) (f3:Nat) (k3:List V) (is3:Aa→Aa→Option Int) (hs3:Jh k3) (hf3:∀(x0:Aa) (x1:Aa) r,is3 x0 x1=some r→C f3 ⟨.agg (Ab x0) :: .agg (Ab x1)::k3,[]⟩ ⟨iV r,[],[]⟩) (r:Bool×(List Aa)),g153 a0 a1 a2 is3=some r→D 153 ⟨[Ae 2097152 a0,iV a1,iV a2,.clo f3 k3],[]⟩ ⟨.bool r.1,[],[(0,4,r.2.map Ab)]⟩
abbrev Fe:=fun x0 x1 x2 x3 x4 (r:List (Nat×V))=>(1,iV x0)::(2,iV x1)::(3,.clo x2 x3)::(10,iV x4)::r
theorem F153:K153 C (FO C c153):=by
 intro a0 a1 a2 f3 k3 is3 hs3 hf3 r h0
 refine f0 (Ba 14 [(0,Ae 2097152 a0),(1,iV a1),(2,iV a2),(3,.clo f3 k3),(9,iV (wi (a1+1))),(10,iV 0)] [] (Bu (bb h0 fun r738 e739 h0=>Cv (R:=(fun S=>∃p313:List Aa,.inl p313=r738∧S=⟨[(0,Ae 2097152 p313)],[],[]⟩)) (Yl a1 a2 is3) (fun s S=>match s with | (p154,p155,p156)=>S=⟨Fe a1 a2 f3 k3 p156 [(0,Ae 2097152 p154),(9,iV p155)],[],[]⟩) e739 _ (Cj (by kernel_rfl)) rfl 0 (fun _=>rfl) ?_ ?_)))
 ·rintro S _ hfg ⟨p313,rfl,rfl⟩
  refine Cb _ hfg (Ba 3 [(0,Ae 2097152 p313),(8,.bool false)] [] ?_)
  obtain rfl:=sj h0
  exact Hj (Dk rfl rfl rfl rfl rfl ⟨⟨rfl,Jc (fun _=>rfl)⟩,tv⟩)
 ·rintro ⟨p154,p155,p156⟩ o1 _ K1 rfl h1 hx1 hK1 hE1 hR1
  refine Ba 5 (Fe a1 a2 f3 k3 p156 [(0,Ae 2097152 p154),(9,iV p155),(16,.bool (decide (p156<5)))]) [] (Cs h1 (fun c314 h1=>?_) (fun c314 h1=>?_))
  ·refine Ot 3 (Lc (fun S=>∃p465:List Aa,∃p466:Int,S=⟨Fe a1 a2 f3 k3 p156 [(0,Ae 2097152 p465),(9,iV p466)],[],[]⟩∧Yk p156 p465 p466=some o1) ?_ (fun J467=>?_))
   ·rintro _ ⟨p465,p466,rfl,h1⟩
    refine Bj 5 ?_
    obtain rfl:=sj h1
    exact kn hK1 rfl rfl
   ·refine Aw ?_
    refine Bu (bb h1 fun r504 e505 h1=>Cv (R:=(fun S=>∃p492:Int,p492=r504∧S=⟨Fe a1 a2 f3 k3 p156 [(0,Ae 2097152 p154),(9,iV p492)],[],[]⟩)) (Ym a2 is3 p154) (fun s S=>match s with | p479=>S=⟨Fe a1 a2 f3 k3 p156 [(0,Ae 2097152 p154),(9,iV p479)],[],[]⟩) e505 _ (Cj (by kernel_rfl)) rfl 2 (fun _=>rfl) ?_ ?_)
    ·rintro S _ hfg ⟨p492,rfl,rfl⟩
     refine Cb ⟨Fe a1 a2 f3 k3 p156 [(0,Ae 2097152 p154),(9,iV p492)],[],[]⟩ (tG hfg ⟨rfl,rfl,rfl,rfl,rfl,rfl,tv⟩ tv) (Ba 6 (Fe a1 a2 f3 k3 p156 [(0,Ae 2097152 p154),(9,iV p492),(41,.bool (p492==a2))]) [] (Cs h1 (fun c506 h1=>?_) (fun c506 h1=>?_)))
     ·refine Ba 3 [(0,Ae 2097152 p154),(8,.bool true)] [] ?_
      obtain rfl:=sj h1
      obtain rfl:=hx1 _ rfl
      obtain rfl:=sj h0
      exact Hj (hR1 _ (Dk rfl rfl rfl rfl rfl ⟨⟨rfl,Jc (fun _=>rfl)⟩,tv⟩))
     ·refine Ba 9 (Fe a1 a2 f3 k3 p156 [(0,Ae 2097152 p154),(9,iV p492),(45,.bool (decide ((wi (a2-a1))<50)))]) [] (Cs h1 (fun c507 h1=>?_) (fun c507 h1=>?_))
      ·refine Ba 3 [(0,Ae 2097152 p154),(8,.bool false)] [] ?_
       obtain rfl:=sj h1
       obtain rfl:=hx1 _ rfl
       obtain rfl:=sj h0
       exact Hj (hR1 _ (Dk rfl rfl rfl rfl rfl ⟨⟨rfl,Jc (fun _=>rfl)⟩,tv⟩))
      ·refine Ot 3 (bb h1 fun y508 e509 h1=>bb h1 fun y510 e511 h1=>bb h1 fun y512 e513 h1=>bb h1 fun y514 e515 h1=>bb h1 fun y516 e517 h1=>bb h1 fun y518 e519 h1=>Bj 8 (Bq (d_ (Zc rfl rfl rfl e509 (Bq (Ci (c_ (Ol rfl rfl e511) (⟨⟨Df rfl rfl e511 rfl,tv⟩,Al tv (Bm rfl tv (⟨⟨Df rfl rfl e511 rfl,tv⟩,Al tv (Bm rfl tv (⟨⟨Df rfl rfl e511 rfl,tv⟩,Al tv (c_ (Kp rfl rfl e513) (⟨⟨Df rfl rfl e511 rfl,tv⟩,Ci (c_ (Ol rfl rfl e515) (⟨⟨Df rfl rfl e515 rfl,Df rfl rfl e511 rfl,tv⟩,Al tv (c_ (Kp rfl rfl e513) (⟨⟨Df rfl rfl e515 rfl,Df rfl rfl e511 rfl,tv⟩,?_⟩))⟩))⟩))⟩))⟩))⟩))))))))
       refine Ck (Hc (y':=y510) rfl rfl tv rfl rfl rfl rfl e515 (nl rfl) rfl rfl rfl rfl (fG ⟨[(0,Ae 2097152 (p154.set p492.toNat y510)),(1,iV a1),(2,iV a2),(3,.clo f3 k3),(9,iV p492),(10,iV p156),(48,Ae 2097152 (p154.set p492.toNat y510)),(49,iV p492),(50,iV (wi (p492-1))),(59,.agg (Ab y514))],[],[]⟩ (fg ⟨congrArg (fun z=>some ((.own 2097152 0 4 z:V))) Ay,rfl,rfl,rfl,rfl,rfl,congrArg (fun z=>some ((.own 2097152 0 4 z:V))) Ay,rfl,rfl,rfl,tv⟩ tv) ⟨[],⟨⟨.inl tv,Bf (Bn t3 rfl tv) rfl⟩,⟨.inl tv,Bf (Eb (v:=iV p492) rfl tv) rfl⟩,⟨.inl tv,Bf (Eb (v:=Ae 2097152 (p154.set p492.toNat y510)) rfl tv) rfl⟩,tv⟩,tv,d_ (Zc rfl rfl rfl e517 (Bq (Ck (Hc (y':=y514) rfl rfl tv rfl rfl rfl rfl e519 (nl rfl) rfl rfl rfl rfl (d0 tv (Gf (Cb ⟨[(0,Ae 2097152 ((p154.set p492.toNat y510).set ((wi (p492-1)).toNat) y514)),(1,iV a1),(2,iV a2),(3,.clo f3 k3),(9,iV p492),(10,iV p156)],[],[]⟩ (fg ⟨congrArg (fun z=>some ((.own 2097152 0 4 z:V))) Ay,rfl,rfl,rfl,rfl,rfl,tv⟩ tv) (Bj 7 (bv h1 fun v520 e521 h1=>Cb ⟨[(0,Ae 2097152 v520),(1,iV a1),(2,iV a2),(3,.clo f3 k3),(9,iV p492),(10,iV p156),(65,.bool (decide ((wi (p492-a1))≥2)))],[],[]⟩ (fg ⟨(by subst e521; rfl),(by subst e521; rfl),(by subst e521; rfl),(by subst e521; rfl),(by subst e521; rfl),(by subst e521; rfl),(by subst e521; rfl),tv⟩ tv) (Lw (cb:=(decide ((wi (p492-a1))≥2))) (fun S=>∃p576:List Aa,S=⟨Fe a1 a2 f3 k3 p156 [(0,Ae 2097152 p576),(9,iV p492)],[],[]⟩∧Uc a2 is3 p156 p492 p576=some o1) rfl ?_ (fun c658 J657=>?_) (fun c658 J657=>?_)))))))) Bg)))⟩)) Bg
       ·rintro _ ⟨p576,rfl,h1⟩
        refine Ba 7 (Fe a1 a2 f3 k3 p156 [(0,Ae 2097152 p576),(9,iV p492),(104,.bool (decide ((wi (a2-p492))≥2)))]) [] (Cs h1 (fun c577 h1=>?_) (fun c577 h1=>?_))
        ·refine Ba 5 (Fe a1 a2 f3 k3 p156 [(0,Ae 2097152 p576),(9,iV p492),(12,iV (wi (p492+1)))]) [] (Bu (bb h1 fun r655 e656 h1=>Cv (R:=(fun S=>∃p630:List Aa,p630=r655∧S=⟨Fe a1 a2 f3 k3 p156 [(0,Ae 2097152 p630),(9,iV p492)],[],[]⟩)) (Yn a2 is3) (fun s S=>match s with | (p602,p603)=>S=⟨Fe a1 a2 f3 k3 p156 [(0,Ae 2097152 p602),(9,iV p492),(12,iV p603)],[],[]⟩) e656 _ (Cj (by kernel_rfl)) rfl 6 (fun _=>rfl) ?_ ?_))
         ·rintro S _ hfg ⟨p630,rfl,rfl⟩
          refine Qq ?_
          exact J467 _ ⟨Fe a1 a2 f3 k3 p156 [(0,Ae 2097152 p630),(9,iV p492)],[],[]⟩ (tG hfg ⟨rfl,rfl,rfl,rfl,rfl,rfl,tv⟩ tv) ⟨_,_,rfl,h1⟩
         ·rintro ⟨p602,p603⟩ o2 _ K2 rfl h2 hx2 hK2 hE2 hR2
          refine Ba 6 (Fe a1 a2 f3 k3 p156 [(0,Ae 2097152 p602),(9,iV p492),(12,iV p603),(109,.bool (decide (p603<a2)))]) [] (Cs h2 (fun c631 h2=>?_) (fun c631 h2=>?_))
          ·refine Ot 6 (bb h2 fun y632 e633 h2=>bb h2 fun y634 e635 h2=>bb h2 fun y636 e637 h2=>bb h2 fun y638 e639 h2=>bb h2 fun r640 e641 h2=>Bj 3 (Bq (d_ (Zc rfl rfl rfl e633 (Bq (Ci (c_ (Ol rfl rfl e635) (⟨⟨Df rfl rfl e635 rfl,tv⟩,Al tv (Bm rfl tv (⟨⟨Df rfl rfl e635 rfl,tv⟩,Al tv (Bm rfl tv (⟨⟨Df rfl rfl e635 rfl,tv⟩,Al tv (c_ (Bn t3 rfl tv) (⟨⟨Df rfl rfl e635 rfl,tv⟩,Al tv (c_ (Kp rfl rfl e637) (⟨⟨Df rfl rfl e635 rfl,tv⟩,Ci (c_ (Ol rfl rfl e639) (⟨⟨Df rfl rfl e639 rfl,Df rfl rfl e635 rfl,tv⟩,Ck (He (r:=iV r640) rfl false (hf3 _ _ r640 e641) ⟨tv,tv,tv⟩ (ar (Az rfl hs3.2.2.1)) (Bb rfl (Bb rfl (hs3.2.1 _ _ _ _ _))) (fun _=>rfl) (dw [(0,Ae 2097152 p602),(1,iV a1),(2,iV a2),(3,.clo f3 k3),(9,iV p492),(10,iV p156),(12,iV p603),(122,iV r640)] [] tv (Al tv (c_ (Bn t3 rfl tv) (⟨tv,Al tv (c_ (Bn ⟨tv,tv⟩ rfl tv) (⟨tv,Gf (Cb ⟨Fe a1 a2 f3 k3 p156 [(0,Ae 2097152 p602),(9,iV p492),(12,iV p603),(124,.bool (!(decide (r640<0))))],[],[]⟩ (Cj (by kernel_rfl)) (Cs h2 (fun c642 h2=>?_) (fun c642 h2=>?_)))⟩))⟩))))) Bg⟩))⟩))⟩))⟩))⟩))⟩))))))))
           ·obtain rfl:=sj h2
            obtain rfl:=hx2 _ rfl
            refine In rfl ?_
            exact jn hE2 ⟨_,rfl,rfl⟩
           ·refine Ot 2 (bb h2 fun y643 e644 h2=>bb h2 fun y645 e646 h2=>bb h2 fun y647 e648 h2=>bb h2 fun y649 e650 h2=>bb h2 fun y651 e652 h2=>bb h2 fun y653 e654 h2=>Bj 8 (Bq (d_ (Zc rfl rfl rfl e644 (Bq (Ci (c_ (Ol rfl rfl e646) (⟨⟨Df rfl rfl e646 rfl,tv⟩,Al tv (Bm rfl tv (⟨⟨Df rfl rfl e646 rfl,tv⟩,Al tv (Bm rfl tv (⟨⟨Df rfl rfl e646 rfl,tv⟩,Al tv (c_ (Kp rfl rfl e648) (⟨⟨Df rfl rfl e646 rfl,tv⟩,Ci (c_ (Ol rfl rfl e650) (⟨⟨Df rfl rfl e650 rfl,Df rfl rfl e646 rfl,tv⟩,Al tv (c_ (Kp rfl rfl e648) (⟨⟨Df rfl rfl e650 rfl,Df rfl rfl e646 rfl,tv⟩,?_⟩))⟩))⟩))⟩))⟩))⟩))))))))
            refine Ck (Hc (y':=y645) rfl rfl tv rfl rfl rfl rfl e650 (nl rfl) rfl rfl rfl rfl (fG ⟨[(0,Ae 2097152 (p602.set p603.toNat y645)),(1,iV a1),(2,iV a2),(3,.clo f3 k3),(9,iV p492),(10,iV p156),(12,iV p603),(127,Ae 2097152 (p602.set p603.toNat y645)),(128,iV p603),(129,iV (wi (p603-1))),(138,.agg (Ab y649))],[],[]⟩ (fg ⟨congrArg (fun z=>some ((.own 2097152 0 4 z:V))) Ay,rfl,rfl,rfl,rfl,rfl,rfl,congrArg (fun z=>some ((.own 2097152 0 4 z:V))) Ay,rfl,rfl,rfl,tv⟩ tv) ⟨[],⟨⟨.inl tv,Bf (Bn t3 rfl tv) rfl⟩,⟨.inl tv,Bf (Eb (v:=iV p603) rfl tv) rfl⟩,⟨.inl tv,Bf (Eb (v:=Ae 2097152 (p602.set p603.toNat y645)) rfl tv) rfl⟩,tv⟩,tv,d_ (Zc rfl rfl rfl e652 (Bq (Ck (Hc (y':=y649) rfl rfl tv rfl rfl rfl rfl e654 (nl rfl) rfl rfl rfl rfl (d0 tv (Gf (Qq (Cb ⟨[(0,Ae 2097152 ((p602.set p603.toNat y645).set ((wi (p603-1)).toNat) y649)),(1,iV a1),(2,iV a2),(3,.clo f3 k3),(9,iV p492),(10,iV p156),(12,iV p603)],[],[]⟩ (fg ⟨congrArg (fun z=>some ((.own 2097152 0 4 z:V))) Ay,rfl,rfl,rfl,rfl,rfl,rfl,tv⟩ tv) (Bj 4 ?_)))))) Bg)))⟩)) Bg
            obtain rfl:=sj h2
            exact kn hK2 rfl rfl
          ·obtain rfl:=sj h2
           obtain rfl:=hx2 _ rfl
           refine In rfl ?_
           exact jn hE2 ⟨_,rfl,rfl⟩
        ·refine Hb (Qq ?_)
         exact jn J467 ⟨_,_,rfl,h1⟩
       ·replace h1:=ip c658 h1
        refine Ba 5 (Fe a1 a2 f3 k3 p156 [(0,Ae 2097152 v520),(9,iV p492),(11,iV (wi (p492-1)))]) [] (Bu (bb h1 fun r736 e737 h1=>Cv (R:=(fun S=>∃p711:List Aa,p711=r736∧S=⟨Fe a1 a2 f3 k3 p156 [(0,Ae 2097152 p711),(9,iV p492)],[],[]⟩)) (Yo is3) (fun s S=>match s with | (p683,p684)=>S=⟨Fe a1 a2 f3 k3 p156 [(0,Ae 2097152 p683),(9,iV p492),(11,iV p684)],[],[]⟩) e737 _ (Cj (by kernel_rfl)) rfl 4 (fun _=>rfl) ?_ ?_))
        ·rintro S _ hfg ⟨p711,rfl,rfl⟩
         exact J657 _ ⟨Fe a1 a2 f3 k3 p156 [(0,Ae 2097152 p711),(9,iV p492)],[],[]⟩ (tG hfg ⟨rfl,rfl,rfl,rfl,rfl,rfl,tv⟩ tv) ⟨_,rfl,h1⟩
        ·rintro ⟨p683,p684⟩ o2 _ K2 rfl h2 hx2 hK2 hE2 hR2
         refine Ba 5 (Fe a1 a2 f3 k3 p156 [(0,Ae 2097152 p683),(9,iV p492),(11,iV p684),(69,.bool (decide (p684≥1)))]) [] (Cs h2 (fun c712 h2=>?_) (fun c712 h2=>?_))
         ·refine Ot 6 (bb h2 fun y713 e714 h2=>bb h2 fun y715 e716 h2=>bb h2 fun y717 e718 h2=>bb h2 fun y719 e720 h2=>bb h2 fun r721 e722 h2=>Bj 3 (Bq (d_ (Zc rfl rfl rfl e714 (Bq (Ci (c_ (Ol rfl rfl e716) (⟨⟨Df rfl rfl e716 rfl,tv⟩,Al tv (Bm rfl tv (⟨⟨Df rfl rfl e716 rfl,tv⟩,Al tv (Bm rfl tv (⟨⟨Df rfl rfl e716 rfl,tv⟩,Al tv (c_ (Bn t3 rfl tv) (⟨⟨Df rfl rfl e716 rfl,tv⟩,Al tv (c_ (Kp rfl rfl e718) (⟨⟨Df rfl rfl e716 rfl,tv⟩,Ci (c_ (Ol rfl rfl e720) (⟨⟨Df rfl rfl e720 rfl,Df rfl rfl e716 rfl,tv⟩,Ck (He (r:=iV r721) rfl false (hf3 _ _ r721 e722) ⟨tv,tv,tv⟩ (ar (Az rfl hs3.2.2.1)) (Bb rfl (Bb rfl (hs3.2.1 _ _ _ _ _))) (fun _=>rfl) (dw [(0,Ae 2097152 p683),(1,iV a1),(2,iV a2),(3,.clo f3 k3),(9,iV p492),(10,iV p156),(11,iV p684),(82,iV r721)] [] tv (Al tv (c_ (Bn t3 rfl tv) (⟨tv,Al tv (c_ (Bn ⟨tv,tv⟩ rfl tv) (⟨tv,Gf (Cb ⟨Fe a1 a2 f3 k3 p156 [(0,Ae 2097152 p683),(9,iV p492),(11,iV p684),(84,.bool (!(decide (r721<0))))],[],[]⟩ (Cj (by kernel_rfl)) (Cs h2 (fun c723 h2=>?_) (fun c723 h2=>?_)))⟩))⟩))))) Bg⟩))⟩))⟩))⟩))⟩))⟩))))))))
          ·obtain rfl:=sj h2
           obtain rfl:=hx2 _ rfl
           refine In rfl ?_
           exact jn hE2 ⟨_,rfl,rfl⟩
          ·refine Ot 2 (bb h2 fun y724 e725 h2=>bb h2 fun y726 e727 h2=>bb h2 fun y728 e729 h2=>bb h2 fun y730 e731 h2=>bb h2 fun y732 e733 h2=>bb h2 fun y734 e735 h2=>Bj 8 (Bq (d_ (Zc rfl rfl rfl e725 (Bq (Ci (c_ (Ol rfl rfl e727) (⟨⟨Df rfl rfl e727 rfl,tv⟩,Al tv (Bm rfl tv (⟨⟨Df rfl rfl e727 rfl,tv⟩,Al tv (Bm rfl tv (⟨⟨Df rfl rfl e727 rfl,tv⟩,Al tv (c_ (Kp rfl rfl e729) (⟨⟨Df rfl rfl e727 rfl,tv⟩,Ci (c_ (Ol rfl rfl e731) (⟨⟨Df rfl rfl e731 rfl,Df rfl rfl e727 rfl,tv⟩,Al tv (c_ (Kp rfl rfl e729) (⟨⟨Df rfl rfl e731 rfl,Df rfl rfl e727 rfl,tv⟩,?_⟩))⟩))⟩))⟩))⟩))⟩))))))))
           refine Ck (Hc (y':=y726) rfl rfl tv rfl rfl rfl rfl e731 (nl rfl) rfl rfl rfl rfl (fG ⟨[(0,Ae 2097152 (p683.set p684.toNat y726)),(1,iV a1),(2,iV a2),(3,.clo f3 k3),(9,iV p492),(10,iV p156),(11,iV p684),(87,Ae 2097152 (p683.set p684.toNat y726)),(88,iV p684),(89,iV (wi (p684-1))),(98,.agg (Ab y730))],[],[]⟩ (fg ⟨congrArg (fun z=>some ((.own 2097152 0 4 z:V))) Ay,rfl,rfl,rfl,rfl,rfl,rfl,congrArg (fun z=>some ((.own 2097152 0 4 z:V))) Ay,rfl,rfl,rfl,tv⟩ tv) ⟨[],⟨⟨.inl tv,Bf (Bn t3 rfl tv) rfl⟩,⟨.inl tv,Bf (Eb (v:=iV p684) rfl tv) rfl⟩,⟨.inl tv,Bf (Eb (v:=Ae 2097152 (p683.set p684.toNat y726)) rfl tv) rfl⟩,tv⟩,tv,d_ (Zc rfl rfl rfl e733 (Bq (Ck (Hc (y':=y730) rfl rfl tv rfl rfl rfl rfl e735 (nl rfl) rfl rfl rfl rfl (d0 tv (Gf (Qq (Cb ⟨[(0,Ae 2097152 ((p683.set p684.toNat y726).set ((wi (p684-1)).toNat) y730)),(1,iV a1),(2,iV a2),(3,.clo f3 k3),(9,iV p492),(10,iV p156),(11,iV p684)],[],[]⟩ (fg ⟨congrArg (fun z=>some ((.own 2097152 0 4 z:V))) Ay,rfl,rfl,rfl,rfl,rfl,rfl,tv⟩ tv) (Bj 4 ?_)))))) Bg)))⟩)) Bg
           obtain rfl:=sj h2
           exact kn hK2 rfl rfl
         ·obtain rfl:=sj h2
          obtain rfl:=hx2 _ rfl
          refine In rfl ?_
          exact jn hE2 ⟨_,rfl,rfl⟩
       ·replace h1:=Kn c658 h1
        refine Hb ?_
        exact jn J657 ⟨_,rfl,h1⟩
    ·rintro p479 o2 _ K2 rfl h2 hx2 hK2 hE2 hR2
     refine Aw (Aw (bb h2 fun y493 e494 h2=>bb h2 fun y495 e496 h2=>bb h2 fun y497 e498 h2=>bb h2 fun y499 e500 h2=>bb h2 fun r501 e502 h2=>Bj 4 (Bq (Al tv (Cw (u:=.clo f3 k3) rfl (fun hg=>(Eb (v:=.clo f3 k3) rfl tv)) (⟨tv,Al tv (Cw (u:=Ae 2097152 p154) rfl (fun hg=>(Eb (v:=Ae 2097152 p154) rfl tv)) (⟨tv,Al tv (Cw (u:=iV p479) rfl (fun hg=>(Eb (v:=iV p479) rfl tv)) (⟨tv,Al tv (Cw (u:=.optr 2097152 4 (0+p479.toNat) 0) rfl (fun hg=>(Fb (e:=Ab) (y:=y493) rfl rfl (fun _=>hg) rfl rfl (fun _=>hg) (ip hg e494))) (⟨tv,Ci (Cw (u:=.agg (Ab y495)) rfl (fun hg=>(Bo (e:=Ab) (y:=y495) (v:=.agg (Ab y495)) rfl rfl (fun _=>hg) rfl rfl (ip hg e496) rfl (nl rfl) rfl)) (⟨⟨Bx (v:=.agg (Ab y495)) rfl (fun hg=>(Bo (e:=Ab) (y:=y495) (v:=.agg (Ab y495)) rfl rfl (fun _=>hg) rfl rfl (ip hg e496) rfl (nl rfl) rfl)) rfl,tv⟩,Al tv (Cw (u:=Ae 2097152 p154) rfl (fun hg=>(Eb (v:=Ae 2097152 p154) rfl tv)) (⟨⟨Bx (v:=.agg (Ab y495)) rfl (fun hg=>(Bo (e:=Ab) (y:=y495) (v:=.agg (Ab y495)) rfl rfl (fun _=>hg) rfl rfl (ip hg e496) rfl (nl rfl) rfl)) rfl,tv⟩,Al tv (Cw (u:=iV p479) rfl (fun hg=>(Eb (v:=iV p479) rfl tv)) (⟨⟨Bx (v:=.agg (Ab y495)) rfl (fun hg=>(Bo (e:=Ab) (y:=y495) (v:=.agg (Ab y495)) rfl rfl (fun _=>hg) rfl rfl (ip hg e496) rfl (nl rfl) rfl)) rfl,tv⟩,Al tv (Cw (u:=iV (wi (p479-1))) rfl (fun hg=>(Bn ⟨(fun _=>hg),tv,tv⟩ rfl tv)) (⟨⟨Bx (v:=.agg (Ab y495)) rfl (fun hg=>(Bo (e:=Ab) (y:=y495) (v:=.agg (Ab y495)) rfl rfl (fun _=>hg) rfl rfl (ip hg e496) rfl (nl rfl) rfl)) rfl,tv⟩,Al tv (Cw (u:=.optr 2097152 4 (0+((wi (p479-1)).toNat)) 0) rfl (fun hg=>(Fb (e:=Ab) (y:=y497) rfl rfl (fun _=>hg) rfl rfl (fun _=>hg) (ip hg e498))) (⟨⟨Bx (v:=.agg (Ab y495)) rfl (fun hg=>(Bo (e:=Ab) (y:=y495) (v:=.agg (Ab y495)) rfl rfl (fun _=>hg) rfl rfl (ip hg e496) rfl (nl rfl) rfl)) rfl,tv⟩,Ci (Cw (u:=.agg (Ab y499)) rfl (fun hg=>(Bo (e:=Ab) (y:=y499) (v:=.agg (Ab y499)) rfl rfl (fun _=>hg) rfl rfl (ip hg e500) rfl (nl rfl) rfl)) (⟨⟨Bx (v:=.agg (Ab y499)) rfl (fun hg=>(Bo (e:=Ab) (y:=y499) (v:=.agg (Ab y499)) rfl rfl (fun _=>hg) rfl rfl (ip hg e500) rfl (nl rfl) rfl)) rfl,Bx (v:=.agg (Ab y495)) rfl (fun hg=>(Bo (e:=Ab) (y:=y495) (v:=.agg (Ab y495)) rfl rfl (fun _=>hg) rfl rfl (ip hg e496) rfl (nl rfl) rfl)) rfl,tv⟩,Ck (Iu (r:=iV r501) rfl rfl rfl (fun hg=>hg) false (fun hg=>hf3 _ _ r501 (ip hg e502)) ⟨(fun hg=>hg),(fun hg=>hg),tv⟩ (fun _=>(ar (Az rfl hs3.2.2.1))) (fun _=>(Bb rfl (Bb rfl (hs3.2.1 _ _ _ _ _)))) (fun _=>rfl) (fun h=>nomatch h) (dw [(0,Ae 2097152 p154),(1,iV a1),(2,iV a2),(3,.clo f3 k3),(9,iV p479),(10,iV p156),(22,.bool (decide (p479<a2))),(33,.may ((decide (p479<a2))==true) (iV r501))] [] tv ?_)) Bg⟩))⟩))⟩))⟩))⟩))⟩))⟩))⟩))⟩))⟩))))))
     refine Al tv (Cw (u:=.bool (decide (r501<0))) rfl (fun hg=>(Bn ⟨(fun _=>hg),tv,tv⟩ rfl tv)) (⟨tv,Al tv (Cw (u:=.bool (!(decide (r501<0)))) rfl (fun hg=>(Bn ⟨(fun _=>hg),tv⟩ rfl tv)) (⟨tv,Al tv (Fw rfl rfl rfl (fun h=>fI h) tv rfl (⟨tv,d_ (Ba 1 (Fe a1 a2 f3 k3 p156 [(0,Ae 2097152 p154),(9,iV p479),(36,.bool (bif (decide (p479<a2)) then (!(decide (r501<0))) else false))]) [] (Cs h2 (fun c503 h2=>?_) (fun c503 h2=>?_)))⟩))⟩))⟩))
     ·refine Bj 8 ?_
      obtain rfl:=sj h2
      exact kn hK2 rfl rfl
     ·obtain rfl:=sj h2
      obtain rfl:=hx2 _ rfl
      refine In rfl ?_
      exact jn hE2 ⟨_,rfl,rfl⟩
  ·obtain rfl:=sj h1
   obtain rfl:=hx1 _ rfl
   refine In rfl ?_
   exact jn hE1 ⟨_,rfl,rfl⟩

/- slices.partitionEqualCmpFunc[loop.example/g00149/impl.Lease] -/
def TA:=[i_ 10 0]
def TB:=tk [m_ 13 0,m_ 14 1,m_ 15 0,m_ 16 3,m_ 17 0,m_ 18 3,x_ 19 17 18 4,L_ 20 19 4,m_ 21 0,m_ 22 1,x_ 23 21 22 4,L_ 24 23 4,x_ 25 13 14 4] (.alt [m_ 16 3,m_ 15 0] (s_ 25 20 4) (tk [x_ 26 15 16 4] (.alt [] (s_ 26 24 4) .fin .stop)) .stop)
def TC:=[m_ 27 1,B_ .add 28 27 1,m_ 29 2,B_ .sub 30 29 1,m_ 11 28,m_ 12 30]
def TD:=tk [m_ 31 11,m_ 32 12,b_ .leq 33 31 32,m_ 34 33,mT 34 35 4,mT 34 36 0,mT 34 37 1,xT 34 38 36 37 4,lT 34 39 38 4 true,mT 34 40 0,mT 34 41 11,xT 34 42 40 41 4,lT 34 43 42 4 true] (.alt [] ⟨some 44,.callv (.t 35) [.t 39,.t 43],some (34,true)⟩ (tk [pT 34 45 (.bin .lss (.t 44) (.c (iV 0))),pT 34 46 (.un .not (.t 45)),pa 47 34 46] .fin) .stop)
def TE:=[m_ 48 11,B_ .add 49 48 1,m_ 11 49]
def SX:IR:=(.seq (sd TD (.ite (.t 47) .skip (.exit 2))) (.block 3 (.reg TE)))
def TF:=tk [m_ 50 11,m_ 51 12,b_ .leq 52 50 51,m_ 53 52,mT 53 54 4,mT 53 55 0,mT 53 56 1,xT 53 57 55 56 4,lT 53 58 57 4 true,mT 53 59 0,mT 53 60 12,xT 53 61 59 60 4,lT 53 62 61 4 true] (.alt [] ⟨some 63,.callv (.t 54) [.t 58,.t 62],some (53,true)⟩ (tk [pT 53 64 (.bin .lss (.t 63) (.c (iV 0))),pa 65 53 64] .fin) .stop)
def TG:=[m_ 66 12,B_ .sub 67 66 1,m_ 12 67]
def SY:IR:=(.seq (sd TF (.ite (.t 65) .skip (.exit 4))) (.block 5 (.reg TG)))
def TH:=[m_ 68 11,m_ 69 12,b_ .gtr 70 68 69]
def TI:=tk [m_ 71 0,m_ 72 11,m_ 73 0,m_ 74 12,m_ 75 0,m_ 76 12,x_ 77 75 76 4,L_ 78 77 4,m_ 79 0,m_ 80 11,x_ 81 79 80 4,L_ 82 81 4,x_ 83 71 72 4] (.alt [m_ 74 12,m_ 73 0] (s_ 83 78 4) (tk [x_ 84 73 74 4] (.alt [] (s_ 84 82 4) .fin .stop)) .stop)
def TJ:=[m_ 85 11,B_ .add 86 85 1,m_ 11 86]
def yB:=[m_ 87 12,B_ .sub 88 87 1,m_ 12 88]
def SZ:IR:=(.block 1 (.seq (Im 2 SX) (.seq (Im 4 SY) (.seq (sr TH (iz 70 (.exit 0))) (sd TI (sr TJ (.reg yB)))))))
def yC:=[m_ 89 11,m_ 10 89]
def c154:Dv:=⟨5,90,[.t 10],sr TA (sd TB (sr TC (.seq (Im 0 SZ) (rr yC))))⟩
def K154 (C:Bl) (D:Bl:=C):Prop:=∀(a0:List Aa) (a1:Int) (a2:Int) (a3:Int) (f4:Nat) (k4:List V) (is4:Aa→Aa→Option Int) (hs4:Jh k4) (hf4:∀(x0:Aa) (x1:Aa) r,is4 x0 x1=some r→C f4 ⟨.agg (Ab x0) :: .agg (Ab x1)::k4,[]⟩ ⟨iV r,[],[]⟩) (r:Int×(List Aa)),g154 a0 a1 a2 a3 is4=some r→D 154 ⟨[Ae 2097152 a0,iV a1,iV a2,iV a3,.clo f4 k4],[]⟩ ⟨iV r.1,[],[(0,4,r.2.map Ab)]⟩
abbrev Mo:=fun x0 x1 x2 x3 (r:List (Nat×V))=>(0,Ae 2097152 x0)::(1,iV x1)::(4,.clo x2 x3)::r
theorem F154:K154 C (FO C c154):=by
 intro a0 a1 a2 a3 f4 k4 is4 hs4 hf4 r h0
 refine f0 (Ba 3 [(0,Ae 2097152 a0),(1,iV a1),(2,iV a2),(3,iV a3),(4,.clo f4 k4)] [] (Aw (bb h0 fun y1 e2 h0=>bb h0 fun y3 e4 h0=>bb h0 fun y5 e6 h0=>bb h0 fun y7 e8 h0=>bb h0 fun y9 e10 h0=>bb h0 fun y11 e12 h0=>Bj 6 (Bq (d_ (Zc rfl rfl rfl e2 (Bq (Ci (c_ (Ol rfl rfl e4) (⟨⟨Df rfl rfl e4 rfl,tv⟩,Al tv (Bm rfl tv (⟨⟨Df rfl rfl e4 rfl,tv⟩,Al tv (Bm rfl tv (⟨⟨Df rfl rfl e4 rfl,tv⟩,Al tv (c_ (Kp rfl rfl e6) (⟨⟨Df rfl rfl e4 rfl,tv⟩,Ci (c_ (Ol rfl rfl e8) (⟨⟨Df rfl rfl e8 rfl,Df rfl rfl e4 rfl,tv⟩,Al tv (c_ (Kp rfl rfl e6) (⟨⟨Df rfl rfl e8 rfl,Df rfl rfl e4 rfl,tv⟩,Ck (Hc (y':=y3) rfl rfl tv rfl rfl rfl rfl e8 (nl rfl) rfl rfl rfl rfl (fG ⟨[(0,Ae 2097152 (a0.set a1.toNat y3)),(1,iV a1),(2,iV a2),(3,iV a3),(4,.clo f4 k4),(15,Ae 2097152 (a0.set a1.toNat y3)),(16,iV a3),(24,.agg (Ab y7))],[],[]⟩ (fg ⟨congrArg (fun z=>some ((.own 2097152 0 4 z:V))) Ay,rfl,rfl,rfl,rfl,congrArg (fun z=>some ((.own 2097152 0 4 z:V))) Ay,rfl,rfl,tv⟩ tv) ⟨[],⟨⟨.inl tv,Bf (Eb (v:=iV a3) rfl tv) rfl⟩,⟨.inl tv,Bf (Eb (v:=Ae 2097152 (a0.set a1.toNat y3)) rfl tv) rfl⟩,tv⟩,tv,Al tv (c_ (Kp rfl rfl e10) (⟨tv,?_⟩))⟩)) Bg⟩))⟩))⟩))⟩))⟩))⟩))))))))))
 refine Ck (Hc (y':=y7) rfl rfl tv rfl rfl rfl rfl e12 (nl rfl) rfl rfl rfl rfl (d0 tv (Gf (Cb ⟨[(0,Ae 2097152 ((a0.set a1.toNat y3).set a3.toNat y7)),(1,iV a1),(2,iV a2),(4,.clo f4 k4)],[],[]⟩ (fg ⟨congrArg (fun z=>some ((.own 2097152 0 4 z:V))) Ay,rfl,rfl,rfl,tv⟩ tv) (Ba 8 [(0,Ae 2097152 ((a0.set a1.toNat y3).set a3.toNat y7)),(1,iV a1),(4,.clo f4 k4),(11,iV (wi (a1+1))),(12,iV (wi (a2-1)))] [] (Aw (Bu (bb h0 fun r244 e245 h0=>Cv (R:=(fun S=>∃p153:List Aa,∃p154:Int,(p153,p154)=r244∧S=⟨[(0,Ae 2097152 p153),(11,iV p154)],[],[]⟩)) (Yp a1 is4) (fun s S=>match s with | (p84,p85,p86)=>S=⟨Mo p84 a1 f4 k4 [(11,iV p85),(12,iV p86)],[],[]⟩) e245 _ (Cj (by kernel_rfl)) rfl 0 (fun _=>rfl) ?_ ?_)))))))) Bg
 ·rintro S _ hfg ⟨p153,p154,rfl,rfl⟩
  refine Cb _ hfg (Ba 4 [(0,Ae 2097152 p153),(10,iV p154)] [] ?_)
  obtain rfl:=sj h0
  exact Hj (Dk rfl rfl rfl rfl rfl ⟨⟨rfl,Jc (fun _=>rfl)⟩,tv⟩)
 ·rintro ⟨p84,p85,p86⟩ o1 _ K1 rfl h1 hx1 hK1 hE1 hR1
  refine Bu (Aw (Bu (bb h1 fun r191 e192 h1=>Cv (R:=(fun S=>∃p179:Int,p179=r191∧S=⟨Mo p84 a1 f4 k4 [(11,iV p179),(12,iV p86)],[],[]⟩)) (Yq a1 is4 p84 p86) (fun s S=>match s with | p166=>S=⟨Mo p84 a1 f4 k4 [(11,iV p166),(12,iV p86)],[],[]⟩) e192 _ (Cj (by kernel_rfl)) rfl 2 (fun _=>rfl) ?_ ?_)))
  ·rintro S _ hfg ⟨p179,rfl,rfl⟩
   refine Cb ⟨Mo p84 a1 f4 k4 [(11,iV p179),(12,iV p86)],[],[]⟩ (tG hfg ⟨rfl,rfl,rfl,rfl,rfl,tv⟩ tv) (Aw (Bu (bb h1 fun r229 e230 h1=>Cv (R:=(fun S=>∃p217:Int,p217=r229∧S=⟨Mo p84 a1 f4 k4 [(11,iV p179),(12,iV p217)],[],[]⟩)) (Yr a1 is4 p84 p179) (fun s S=>match s with | p204=>S=⟨Mo p84 a1 f4 k4 [(11,iV p179),(12,iV p204)],[],[]⟩) e230 _ (Cj (by kernel_rfl)) rfl 4 (fun _=>rfl) ?_ ?_)))
   ·rintro S _ hfg ⟨p217,rfl,rfl⟩
    refine Cb ⟨Mo p84 a1 f4 k4 [(11,iV p179),(12,iV p217)],[],[]⟩ (tG hfg ⟨rfl,rfl,rfl,rfl,rfl,tv⟩ tv) (Ba 6 (Mo p84 a1 f4 k4 [(11,iV p179),(12,iV p217),(70,.bool (decide (p179>p217)))]) [] (Cs h1 (fun c231 h1=>?_) (fun c231 h1=>?_)))
    ·obtain rfl:=sj h1
     obtain rfl:=hx1 _ rfl
     refine In rfl ?_
     exact jn hE1 ⟨_,_,rfl,rfl⟩
    ·refine Ot 3 (bb h1 fun y232 e233 h1=>bb h1 fun y234 e235 h1=>bb h1 fun y236 e237 h1=>bb h1 fun y238 e239 h1=>bb h1 fun y240 e241 h1=>bb h1 fun y242 e243 h1=>Bj 6 (Bq (d_ (Zc rfl rfl rfl e233 (Bq (Ci (c_ (Ol rfl rfl e235) (⟨⟨Df rfl rfl e235 rfl,tv⟩,Al tv (Bm rfl tv (⟨⟨Df rfl rfl e235 rfl,tv⟩,Al tv (Bm rfl tv (⟨⟨Df rfl rfl e235 rfl,tv⟩,Al tv (c_ (Kp rfl rfl e237) (⟨⟨Df rfl rfl e235 rfl,tv⟩,Ci (c_ (Ol rfl rfl e239) (⟨⟨Df rfl rfl e239 rfl,Df rfl rfl e235 rfl,tv⟩,Al tv (c_ (Kp rfl rfl e237) (⟨⟨Df rfl rfl e239 rfl,Df rfl rfl e235 rfl,tv⟩,Ck (Hc (y':=y234) rfl rfl tv rfl rfl rfl rfl e239 (nl rfl) rfl rfl rfl rfl (fG ⟨[(0,Ae 2097152 (p84.set p179.toNat y234)),(1,iV a1),(4,.clo f4 k4),(11,iV p179),(12,iV p217),(73,Ae 2097152 (p84.set p179.toNat y234)),(74,iV p217),(82,.agg (Ab y238))],[],[]⟩ (fg ⟨congrArg (fun z=>some ((.own 2097152 0 4 z:V))) Ay,rfl,rfl,rfl,rfl,congrArg (fun z=>some ((.own 2097152 0 4 z:V))) Ay,rfl,rfl,tv⟩ tv) ⟨[],⟨⟨.inl tv,Bf (Eb (v:=iV p217) rfl tv) rfl⟩,⟨.inl tv,Bf (Eb (v:=Ae 2097152 (p84.set p179.toNat y234)) rfl tv) rfl⟩,tv⟩,tv,Al tv (c_ (Kp rfl rfl e241) (⟨tv,?_⟩))⟩)) Bg⟩))⟩))⟩))⟩))⟩))⟩))))))))
     refine Ck (Hc (y':=y238) rfl rfl tv rfl rfl rfl rfl e243 (nl rfl) rfl rfl rfl rfl (d0 tv (Gf (Cb ⟨[(0,Ae 2097152 ((p84.set p179.toNat y234).set p217.toNat y238)),(1,iV a1),(4,.clo f4 k4),(11,iV p179),(12,iV p217)],[],[]⟩ (fg ⟨congrArg (fun z=>some ((.own 2097152 0 4 z:V))) Ay,rfl,rfl,rfl,rfl,tv⟩ tv) (Ba 5 [(0,Ae 2097152 ((p84.set p179.toNat y234).set p217.toNat y238)),(1,iV a1),(4,.clo f4 k4),(11,iV (wi (p179+1))),(12,iV p217)] [] (Bj 5 ?_)))))) Bg
     obtain rfl:=sj h1
     exact kn hK1 rfl rfl
   ·rintro p204 o2 _ K2 rfl h2 hx2 hK2 hE2 hR2
    refine Aw (Aw (bb h2 fun y218 e219 h2=>bb h2 fun y220 e221 h2=>bb h2 fun y222 e223 h2=>bb h2 fun y224 e225 h2=>bb h2 fun r226 e227 h2=>Bj 4 (Bq (Al tv (Cw (u:=.clo f4 k4) rfl (fun hg=>(Eb (v:=.clo f4 k4) rfl tv)) (⟨tv,Al tv (Cw (u:=Ae 2097152 p84) rfl (fun hg=>(Eb (v:=Ae 2097152 p84) rfl tv)) (⟨tv,Al tv (Cw (u:=iV a1) rfl (fun hg=>(Eb (v:=iV a1) rfl tv)) (⟨tv,Al tv (Cw (u:=.optr 2097152 4 (0+a1.toNat) 0) rfl (fun hg=>(Fb (e:=Ab) (y:=y218) rfl rfl (fun _=>hg) rfl rfl (fun _=>hg) (ip hg e219))) (⟨tv,Ci (Cw (u:=.agg (Ab y220)) rfl (fun hg=>(Bo (e:=Ab) (y:=y220) (v:=.agg (Ab y220)) rfl rfl (fun _=>hg) rfl rfl (ip hg e221) rfl (nl rfl) rfl)) (⟨⟨Bx (v:=.agg (Ab y220)) rfl (fun hg=>(Bo (e:=Ab) (y:=y220) (v:=.agg (Ab y220)) rfl rfl (fun _=>hg) rfl rfl (ip hg e221) rfl (nl rfl) rfl)) rfl,tv⟩,Al tv (Cw (u:=Ae 2097152 p84) rfl (fun hg=>(Eb (v:=Ae 2097152 p84) rfl tv)) (⟨⟨Bx (v:=.agg (Ab y220)) rfl (fun hg=>(Bo (e:=Ab) (y:=y220) (v:=.agg (Ab y220)) rfl rfl (fun _=>hg) rfl rfl (ip hg e221) rfl (nl rfl) rfl)) rfl,tv⟩,Al tv (Cw (u:=iV p204) rfl (fun hg=>(Eb (v:=iV p204) rfl tv)) (⟨⟨Bx (v:=.agg (Ab y220)) rfl (fun hg=>(Bo (e:=Ab) (y:=y220) (v:=.agg (Ab y220)) rfl rfl (fun _=>hg) rfl rfl (ip hg e221) rfl (nl rfl) rfl)) rfl,tv⟩,Al tv (Cw (u:=.optr 2097152 4 (0+p204.toNat) 0) rfl (fun hg=>(Fb (e:=Ab) (y:=y222) rfl rfl (fun _=>hg) rfl rfl (fun _=>hg) (ip hg e223))) (⟨⟨Bx (v:=.agg (Ab y220)) rfl (fun hg=>(Bo (e:=Ab) (y:=y220) (v:=.agg (Ab y220)) rfl rfl (fun _=>hg) rfl rfl (ip hg e221) rfl (nl rfl) rfl)) rfl,tv⟩,Ci (Cw (u:=.agg (Ab y224)) rfl (fun hg=>(Bo (e:=Ab) (y:=y224) (v:=.agg (Ab y224)) rfl rfl (fun _=>hg) rfl rfl (ip hg e225) rfl (nl rfl) rfl)) (⟨⟨Bx (v:=.agg (Ab y224)) rfl (fun hg=>(Bo (e:=Ab) (y:=y224) (v:=.agg (Ab y224)) rfl rfl (fun _=>hg) rfl rfl (ip hg e225) rfl (nl rfl) rfl)) rfl,Bx (v:=.agg (Ab y220)) rfl (fun hg=>(Bo (e:=Ab) (y:=y220) (v:=.agg (Ab y220)) rfl rfl (fun _=>hg) rfl rfl (ip hg e221) rfl (nl rfl) rfl)) rfl,tv⟩,Ck (Iu (r:=iV r226) rfl rfl rfl (fun hg=>hg) false (fun hg=>hf4 _ _ r226 (ip hg e227)) ⟨(fun hg=>hg),(fun hg=>hg),tv⟩ (fun _=>(ar (Az rfl hs4.2.2.1))) (fun _=>(Bb rfl (Bb rfl (hs4.2.1 _ _ _ _ _)))) (fun _=>rfl) (fun h=>nomatch h) (dw [(0,Ae 2097152 p84),(1,iV a1),(4,.clo f4 k4),(11,iV p179),(12,iV p204),(53,.bool (decide (p179≤p204))),(63,.may ((decide (p179≤p204))==true) (iV r226))] [] tv (Al tv (Cw (u:=.bool (decide (r226<0))) rfl (fun hg=>(Bn ⟨(fun _=>hg),tv,tv⟩ rfl tv)) (⟨tv,?_⟩))))) Bg⟩))⟩))⟩))⟩))⟩))⟩))⟩))⟩))⟩))))))
    refine Al tv (Fw rfl rfl rfl (fun h=>fI h) tv rfl (⟨tv,d_ (Ba 1 (Mo p84 a1 f4 k4 [(11,iV p179),(12,iV p204),(65,.bool (bif (decide (p179≤p204)) then (decide (r226<0)) else false))]) [] (Cs h2 (fun c228 h2=>?_) (fun c228 h2=>?_)))⟩))
    ·refine Bj 8 ?_
     obtain rfl:=sj h2
     exact kn hK2 rfl rfl
    ·obtain rfl:=sj h2
     obtain rfl:=hx2 _ rfl
     refine In rfl ?_
     exact jn hE2 ⟨_,rfl,rfl⟩
  ·rintro p166 o2 _ K2 rfl h2 hx2 hK2 hE2 hR2
   refine Aw (Aw (bb h2 fun y180 e181 h2=>bb h2 fun y182 e183 h2=>bb h2 fun y184 e185 h2=>bb h2 fun y186 e187 h2=>bb h2 fun r188 e189 h2=>Bj 4 (Bq (Al tv (Cw (u:=.clo f4 k4) rfl (fun hg=>(Eb (v:=.clo f4 k4) rfl tv)) (⟨tv,Al tv (Cw (u:=Ae 2097152 p84) rfl (fun hg=>(Eb (v:=Ae 2097152 p84) rfl tv)) (⟨tv,Al tv (Cw (u:=iV a1) rfl (fun hg=>(Eb (v:=iV a1) rfl tv)) (⟨tv,Al tv (Cw (u:=.optr 2097152 4 (0+a1.toNat) 0) rfl (fun hg=>(Fb (e:=Ab) (y:=y180) rfl rfl (fun _=>hg) rfl rfl (fun _=>hg) (ip hg e181))) (⟨tv,Ci (Cw (u:=.agg (Ab y182)) rfl (fun hg=>(Bo (e:=Ab) (y:=y182) (v:=.agg (Ab y182)) rfl rfl (fun _=>hg) rfl rfl (ip hg e183) rfl (nl rfl) rfl)) (⟨⟨Bx (v:=.agg (Ab y182)) rfl (fun hg=>(Bo (e:=Ab) (y:=y182) (v:=.agg (Ab y182)) rfl rfl (fun _=>hg) rfl rfl (ip hg e183) rfl (nl rfl) rfl)) rfl,tv⟩,Al tv (Cw (u:=Ae 2097152 p84) rfl (fun hg=>(Eb (v:=Ae 2097152 p84) rfl tv)) (⟨⟨Bx (v:=.agg (Ab y182)) rfl (fun hg=>(Bo (e:=Ab) (y:=y182) (v:=.agg (Ab y182)) rfl rfl (fun _=>hg) rfl rfl (ip hg e183) rfl (nl rfl) rfl)) rfl,tv⟩,Al tv (Cw (u:=iV p166) rfl (fun hg=>(Eb (v:=iV p166) rfl tv)) (⟨⟨Bx (v:=.agg (Ab y182)) rfl (fun hg=>(Bo (e:=Ab) (y:=y182) (v:=.agg (Ab y182)) rfl rfl (fun _=>hg) rfl rfl (ip hg e183) rfl (nl rfl) rfl)) rfl,tv⟩,Al tv (Cw (u:=.optr 2097152 4 (0+p166.toNat) 0) rfl (fun hg=>(Fb (e:=Ab) (y:=y184) rfl rfl (fun _=>hg) rfl rfl (fun _=>hg) (ip hg e185))) (⟨⟨Bx (v:=.agg (Ab y182)) rfl (fun hg=>(Bo (e:=Ab) (y:=y182) (v:=.agg (Ab y182)) rfl rfl (fun _=>hg) rfl rfl (ip hg e183) rfl (nl rfl) rfl)) rfl,tv⟩,Ci (Cw (u:=.agg (Ab y186)) rfl (fun hg=>(Bo (e:=Ab) (y:=y186) (v:=.agg (Ab y186)) rfl rfl (fun _=>hg) rfl rfl (ip hg e187) rfl (nl rfl) rfl)) (⟨⟨Bx (v:=.agg (Ab y186)) rfl (fun hg=>(Bo (e:=Ab) (y:=y186) (v:=.agg (Ab y186)) rfl rfl (fun _=>hg) rfl rfl (ip hg e187) rfl (nl rfl) rfl)) rfl,Bx (v:=.agg (Ab y182)) rfl (fun hg=>(Bo (e:=Ab) (y:=y182) (v:=.agg (Ab y182)) rfl rfl (fun _=>hg) rfl rfl (ip hg e183) rfl (nl rfl) rfl)) rfl,tv⟩,Ck (Iu (r:=iV r188) rfl rfl rfl (fun hg=>hg) false (fun hg=>hf4 _ _ r188 (ip hg e189)) ⟨(fun hg=>hg),(fun hg=>hg),tv⟩ (fun _=>(ar (Az rfl hs4.2.2.1))) (fun _=>(Bb rfl (Bb rfl (hs4.2.1 _ _ _ _ _)))) (fun _=>rfl) (fun h=>nomatch h) (dw [(0,Ae 2097152 p84),(1,iV a1),(4,.clo f4 k4),(11,iV p166),(12,iV p86),(34,.bool (decide (p166≤p86))),(44,.may ((decide (p166≤p86))==true) (iV r188))] [] tv (Al tv (Cw (u:=.bool (decide (r188<0))) rfl (fun hg=>(Bn ⟨(fun _=>hg),tv,tv⟩ rfl tv)) (⟨tv,?_⟩))))) Bg⟩))⟩))⟩))⟩))⟩))⟩))⟩))⟩))⟩))))))
   refine Al tv (Cw (u:=.bool (!(decide (r188<0)))) rfl (fun hg=>(Bn ⟨(fun _=>hg),tv⟩ rfl tv)) (⟨tv,Al tv (Fw rfl rfl rfl (fun h=>fI h) tv rfl (⟨tv,d_ (Ba 1 (Mo p84 a1 f4 k4 [(11,iV p166),(12,iV p86),(47,.bool (bif (decide (p166≤p86)) then (!(decide (r188<0))) else false))]) [] (Cs h2 (fun c190 h2=>?_) (fun c190 h2=>?_)))⟩))⟩))
   ·refine Bj 8 ?_
    obtain rfl:=sj h2
    exact kn hK2 rfl rfl
   ·obtain rfl:=sj h2
    obtain rfl:=hx2 _ rfl
    refine In rfl ?_
    exact jn hE2 ⟨_,rfl,rfl⟩

/- slices.partitionCmpFunc[loop.example/g00149/impl.Lease] -/
def TP:=[i_ 10 0,k_ 11 (.bool false)]
def TQ:=tk [m_ 14 0,m_ 15 1,m_ 16 0,m_ 17 3,m_ 18 0,m_ 19 3,x_ 20 18 19 4,L_ 21 20 4,m_ 22 0,m_ 23 1,x_ 24 22 23 4,L_ 25 24 4,x_ 26 14 15 4] (.alt [m_ 17 3,m_ 16 0] (s_ 26 21 4) (tk [x_ 27 16 17 4] (.alt [] (s_ 27 25 4) .fin .stop)) .stop)
def TR:=[m_ 28 1,B_ .add 29 28 1,m_ 30 2,B_ .sub 31 30 1,m_ 12 29,m_ 13 31]
def TT:=tk [m_ 32 12,m_ 33 13,b_ .leq 34 32 33,m_ 35 34,mT 35 36 4,mT 35 37 0,mT 35 38 12,xT 35 39 37 38 4,lT 35 40 39 4 true,mT 35 41 0,mT 35 42 1,xT 35 43 41 42 4,lT 35 44 43 4 true] (.alt [] ⟨some 45,.callv (.t 36) [.t 40,.t 44],some (35,true)⟩ (tk [pT 35 46 (.bin .lss (.t 45) (.c (iV 0))),pa 47 35 46] .fin) .stop)
def TU:=[m_ 48 12,B_ .add 49 48 1,m_ 12 49]
def TK:IR:=(.seq (sd TT (.ite (.t 47) .skip (.exit 0))) (.block 1 (.reg TU)))
def TV:=tk [m_ 50 12,m_ 51 13,b_ .leq 52 50 51,m_ 53 52,mT 53 54 4,mT 53 55 0,mT 53 56 13,xT 53 57 55 56 4,lT 53 58 57 4 true,mT 53 59 0,mT 53 60 1,xT 53 61 59 60 4,lT 53 62 61 4 true] (.alt [] ⟨some 63,.callv (.t 54) [.t 58,.t 62],some (53,true)⟩ (tk [pT 53 64 (.bin .lss (.t 63) (.c (iV 0))),pT 53 65 (.un .not (.t 64)),pa 66 53 65] .fin) .stop)
def TW:=[m_ 67 13,B_ .sub 68 67 1,m_ 13 68]
def TL:IR:=(.seq (sd TV (.ite (.t 66) .skip (.exit 2))) (.block 3 (.reg TW)))
def TX:=[m_ 69 12,m_ 70 13,b_ .gtr 71 69 70]
def TY:=tk [m_ 72 0,m_ 73 13,m_ 74 0,m_ 75 1,m_ 76 0,m_ 77 1,x_ 78 76 77 4,L_ 79 78 4,m_ 80 0,m_ 81 13,x_ 82 80 81 4,L_ 83 82 4,x_ 84 72 73 4] (.alt [m_ 75 1,m_ 74 0] (s_ 84 79 4) (tk [x_ 85 74 75 4] (.alt [] (s_ 85 83 4) .fin .stop)) .stop)
def TZ:=[m_ 86 13,m_ 10 86,k_ 11 (.bool true)]
def yD:=tk [m_ 87 0,m_ 88 12,m_ 89 0,m_ 90 13,m_ 91 0,m_ 92 13,x_ 93 91 92 4,L_ 94 93 4,m_ 95 0,m_ 96 12,x_ 97 95 96 4,L_ 98 97 4,x_ 99 87 88 4] (.alt [m_ 90 13,m_ 89 0] (s_ 99 94 4) (tk [x_ 100 89 90 4] (.alt [] (s_ 100 98 4) .fin .stop)) .stop)
def yE:=[m_ 101 12,B_ .add 102 101 1,m_ 12 102]
def yF:=[m_ 103 13,B_ .sub 104 103 1,m_ 13 104]
def yG:=tk [m_ 105 12,m_ 106 13,b_ .leq 107 105 106,m_ 108 107,mT 108 109 4,mT 108 110 0,mT 108 111 12,xT 108 112 110 111 4,lT 108 113 112 4 true,mT 108 114 0,mT 108 115 1,xT 108 116 114 115 4,lT 108 117 116 4 true] (.alt [] ⟨some 118,.callv (.t 109) [.t 113,.t 117],some (108,true)⟩ (tk [pT 108 119 (.bin .lss (.t 118) (.c (iV 0))),pa 120 108 119] .fin) .stop)
def yH:=[m_ 121 12,B_ .add 122 121 1,m_ 12 122]
def TM:IR:=(.seq (sd yG (.ite (.t 120) .skip (.exit 6))) (.block 7 (.reg yH)))
def yI:=tk [m_ 123 12,m_ 124 13,b_ .leq 125 123 124,m_ 126 125,mT 126 127 4,mT 126 128 0,mT 126 129 13,xT 126 130 128 129 4,lT 126 131 130 4 true,mT 126 132 0,mT 126 133 1,xT 126 134 132 133 4,lT 126 135 134 4 true] (.alt [] ⟨some 136,.callv (.t 127) [.t 131,.t 135],some (126,true)⟩ (tk [pT 126 137 (.bin .lss (.t 136) (.c (iV 0))),pT 126 138 (.un .not (.t 137)),pa 139 126 138] .fin) .stop)
def yJ:=[m_ 140 13,B_ .sub 141 140 1,m_ 13 141]
def TN:IR:=(.seq (sd yI (.ite (.t 139) .skip (.exit 8))) (.block 9 (.reg yJ)))
def yK:=[m_ 142 12,m_ 143 13,b_ .gtr 144 142 143]
def yL:=tk [m_ 145 0,m_ 146 12,m_ 147 0,m_ 148 13,m_ 149 0,m_ 150 13,x_ 151 149 150 4,L_ 152 151 4,m_ 153 0,m_ 154 12,x_ 155 153 154 4,L_ 156 155 4,x_ 157 145 146 4] (.alt [m_ 148 13,m_ 147 0] (s_ 157 152 4) (tk [x_ 158 147 148 4] (.alt [] (s_ 158 156 4) .fin .stop)) .stop)
def yM:=[m_ 159 12,B_ .add 160 159 1,m_ 12 160]
def yN:=[m_ 161 13,B_ .sub 162 161 1,m_ 13 162]
def TO:IR:=(.block 5 (.seq (Im 6 TM) (.seq (Im 8 TN) (.seq (sr yK (iz 144 (.exit 4))) (sd yL (sr yM (.reg yN)))))))
def yO:=tk [m_ 163 0,m_ 164 13,m_ 165 0,m_ 166 1,m_ 167 0,m_ 168 1,x_ 169 167 168 4,L_ 170 169 4,m_ 171 0,m_ 172 13,x_ 173 171 172 4,L_ 174 173 4,x_ 175 163 164 4] (.alt [m_ 166 1,m_ 165 0] (s_ 175 170 4) (tk [x_ 176 165 166 4] (.alt [] (s_ 176 174 4) .fin .stop)) .stop)
def yP:=[m_ 177 13,m_ 10 177,k_ 11 (.bool false)]
def c155:Dv:=⟨5,178,[.t 10,.t 11],sr TP (sd TQ (sr TR (.seq (Im 0 TK) (.seq (Im 2 TL) (.seq (sr TX (iz 71 (sd TY (rr TZ)))) (sd yD (sr yE (sr yF (.seq (Im 4 TO) (sd yO (rr yP)))))))))))⟩
def K155 (C:Bl) (D:Bl:=C):Prop:=∀(a0:List Aa) (a1:Int) (a2:Int) (a3:Int) (f4:Nat) (k4:List V) (is4:Aa→Aa→Option Int) (hs4:Jh k4) (hf4:∀(x0:Aa) (x1:Aa) r,is4 x0 x1=some r→C f4 ⟨.agg (Ab x0) :: .agg (Ab x1)::k4,[]⟩ ⟨iV r,[],[]⟩) (r:Int×Bool×(List Aa)),DJ a0 a1 a2 a3 is4=some r→D 155 ⟨[Ae 2097152 a0,iV a1,iV a2,iV a3,.clo f4 k4],[]⟩ ⟨.tup [iV r.1,.bool r.2.1],[],[(0,4,r.2.2.map Ab)]⟩
abbrev Mp:=fun x0 x1 x2 x3 (r:List (Nat×V))=>(0,Ae 2097152 x0)::(1,iV x1)::(4,.clo x2 x3)::r
abbrev Jz:=fun x0 x1 x2 (r:List (Nat×V))=>(1,iV x0)::(4,.clo x1 x2)::r
theorem F155:K155 C (FO C c155):=by
 intro a0 a1 a2 a3 f4 k4 is4 hs4 hf4 r h0
 refine f0 (Ba 4 (Jz a1 f4 k4 [(0,Ae 2097152 a0),(2,iV a2),(3,iV a3)]) [] (Aw (bb h0 fun y1 e2 h0=>bb h0 fun y3 e4 h0=>bb h0 fun y5 e6 h0=>bb h0 fun y7 e8 h0=>bb h0 fun y9 e10 h0=>bb h0 fun y11 e12 h0=>Bj 6 (Bq (d_ (Zc rfl rfl rfl e2 (Bq (Ci (c_ (Ol rfl rfl e4) (⟨⟨Df rfl rfl e4 rfl,tv⟩,Al tv (Bm rfl tv (⟨⟨Df rfl rfl e4 rfl,tv⟩,Al tv (Bm rfl tv (⟨⟨Df rfl rfl e4 rfl,tv⟩,Al tv (c_ (Kp rfl rfl e6) (⟨⟨Df rfl rfl e4 rfl,tv⟩,Ci (c_ (Ol rfl rfl e8) (⟨⟨Df rfl rfl e8 rfl,Df rfl rfl e4 rfl,tv⟩,Al tv (c_ (Kp rfl rfl e6) (⟨⟨Df rfl rfl e8 rfl,Df rfl rfl e4 rfl,tv⟩,Ck (Hc (y':=y3) rfl rfl tv rfl rfl rfl rfl e8 (nl rfl) rfl rfl rfl rfl (fG ⟨[(0,Ae 2097152 (a0.set a1.toNat y3)),(1,iV a1),(2,iV a2),(3,iV a3),(4,.clo f4 k4),(16,Ae 2097152 (a0.set a1.toNat y3)),(17,iV a3),(25,.agg (Ab y7))],[],[]⟩ (fg ⟨congrArg (fun z=>some ((.own 2097152 0 4 z:V))) Ay,rfl,rfl,rfl,rfl,congrArg (fun z=>some ((.own 2097152 0 4 z:V))) Ay,rfl,rfl,tv⟩ tv) ⟨[],⟨⟨.inl tv,Bf (Eb (v:=iV a3) rfl tv) rfl⟩,⟨.inl tv,Bf (Eb (v:=Ae 2097152 (a0.set a1.toNat y3)) rfl tv) rfl⟩,tv⟩,tv,Al tv (c_ (Kp rfl rfl e10) (⟨tv,?_⟩))⟩)) Bg⟩))⟩))⟩))⟩))⟩))⟩))))))))))
 refine Ck (Hc (y':=y7) rfl rfl tv rfl rfl rfl rfl e12 (nl rfl) rfl rfl rfl rfl (d0 tv (Gf (Cb ⟨[(0,Ae 2097152 ((a0.set a1.toNat y3).set a3.toNat y7)),(1,iV a1),(2,iV a2),(4,.clo f4 k4)],[],[]⟩ (fg ⟨congrArg (fun z=>some ((.own 2097152 0 4 z:V))) Ay,rfl,rfl,rfl,tv⟩ tv) (Ba 8 (Jz a1 f4 k4 [(0,Ae 2097152 ((a0.set a1.toNat y3).set a3.toNat y7)),(12,iV (wi (a1+1))),(13,iV (wi (a2-1)))]) [] (Aw (Bu (bb h0 fun r55 e56 h0=>Cv (R:=(fun S=>∃p41:Int,p41=r55∧S=⟨Jz a1 f4 k4 [(0,Ae 2097152 ((a0.set a1.toNat y3).set a3.toNat y7)),(12,iV p41),(13,iV (wi (a2-1)))],[],[]⟩)) (fN a0 a1 a2 a3 is4 y3 y7) (fun s S=>match s with | p26=>S=⟨Jz a1 f4 k4 [(0,Ae 2097152 ((a0.set a1.toNat y3).set a3.toNat y7)),(12,iV p26),(13,iV (wi (a2-1)))],[],[]⟩) e56 _ (Cj (by kernel_rfl)) rfl 0 (fun _=>rfl) ?_ ?_)))))))) Bg
 ·rintro S _ hfg ⟨p41,rfl,rfl⟩
  refine Cb ⟨Jz a1 f4 k4 [(0,Ae 2097152 ((a0.set a1.toNat y3).set a3.toNat y7)),(12,iV p41),(13,iV (wi (a2-1)))],[],[]⟩ (tG hfg ⟨rfl,rfl,rfl,rfl,rfl,tv⟩ tv) (Aw (Bu (bb h0 fun r95 e96 h0=>Cv (R:=(fun S=>∃p83:Int,p83=r95∧S=⟨Jz a1 f4 k4 [(0,Ae 2097152 ((a0.set a1.toNat y3).set a3.toNat y7)),(12,iV p41),(13,iV p83)],[],[]⟩)) (fO a0 a1 a3 is4 y3 y7 p41) (fun s S=>match s with | p70=>S=⟨Jz a1 f4 k4 [(0,Ae 2097152 ((a0.set a1.toNat y3).set a3.toNat y7)),(12,iV p41),(13,iV p70)],[],[]⟩) e96 _ (Cj (by kernel_rfl)) rfl 2 (fun _=>rfl) ?_ ?_)))
  ·rintro S _ hfg ⟨p83,rfl,rfl⟩
   refine Cb ⟨Jz a1 f4 k4 [(0,Ae 2097152 ((a0.set a1.toNat y3).set a3.toNat y7)),(12,iV p41),(13,iV p83)],[],[]⟩ (tG hfg ⟨rfl,rfl,rfl,rfl,rfl,tv⟩ tv) (Ba 6 (Jz a1 f4 k4 [(0,Ae 2097152 ((a0.set a1.toNat y3).set a3.toNat y7)),(12,iV p41),(13,iV p83),(71,.bool (decide (p41>p83)))]) [] (Cs h0 (fun c97 h0=>?_) (fun c97 h0=>?_)))
   ·refine Aw (bb h0 fun y98 e99 h0=>bb h0 fun y100 e101 h0=>bb h0 fun y102 e103 h0=>bb h0 fun y104 e105 h0=>bb h0 fun y106 e107 h0=>bb h0 fun y108 e109 h0=>Bj 6 (Bq (d_ (Zc rfl rfl rfl e99 (Bq (Ci (c_ (Ol rfl rfl e101) (⟨⟨Df rfl rfl e101 rfl,tv⟩,Al tv (Bm rfl tv (⟨⟨Df rfl rfl e101 rfl,tv⟩,Al tv (Bm rfl tv (⟨⟨Df rfl rfl e101 rfl,tv⟩,Al tv (c_ (Kp rfl rfl e103) (⟨⟨Df rfl rfl e101 rfl,tv⟩,Ci (c_ (Ol rfl rfl e105) (⟨⟨Df rfl rfl e105 rfl,Df rfl rfl e101 rfl,tv⟩,Al tv (c_ (Kp rfl rfl e103) (⟨⟨Df rfl rfl e105 rfl,Df rfl rfl e101 rfl,tv⟩,Ck (Hc (y':=y100) rfl rfl tv rfl rfl rfl rfl e105 (nl rfl) rfl rfl rfl rfl (fG ⟨[(0,Ae 2097152 (((a0.set a1.toNat y3).set a3.toNat y7).set p83.toNat y100)),(1,iV a1),(13,iV p83),(74,Ae 2097152 (((a0.set a1.toNat y3).set a3.toNat y7).set p83.toNat y100)),(75,iV a1),(83,.agg (Ab y104))],[],[]⟩ (fg ⟨congrArg (fun z=>some ((.own 2097152 0 4 z:V))) Ay,rfl,rfl,congrArg (fun z=>some ((.own 2097152 0 4 z:V))) Ay,rfl,rfl,tv⟩ tv) ⟨[],⟨⟨.inl tv,Bf (Eb (v:=iV a1) rfl tv) rfl⟩,⟨.inl tv,Bf (Eb (v:=Ae 2097152 (((a0.set a1.toNat y3).set a3.toNat y7).set p83.toNat y100)) rfl tv) rfl⟩,tv⟩,tv,Al tv (c_ (Kp rfl rfl e107) (⟨tv,?_⟩))⟩)) Bg⟩))⟩))⟩))⟩))⟩))⟩))))))))
    refine Ck (Hc (y':=y104) rfl rfl tv rfl rfl rfl rfl e109 (nl rfl) rfl rfl rfl rfl (d0 tv (Gf (Cb ⟨[(0,Ae 2097152 ((((a0.set a1.toNat y3).set a3.toNat y7).set p83.toNat y100).set a1.toNat y104)),(13,iV p83)],[],[]⟩ (fg ⟨congrArg (fun z=>some ((.own 2097152 0 4 z:V))) Ay,rfl,tv⟩ tv) (Bj 5 (bv h0 fun v110 e111 h0=>Cb ⟨[(0,Ae 2097152 v110),(10,iV p83),(11,.bool true)],[],[]⟩ (Cj (by subst e111; kernel_rfl)) ?_)))))) Bg
    obtain rfl:=sj h0
    exact Hj (Dk rfl rfl rfl rfl rfl ⟨⟨rfl,Jc (fun _=>rfl)⟩,tv⟩)
   ·refine Ot 3 (bb h0 fun y112 e113 h0=>bb h0 fun y114 e115 h0=>bb h0 fun y116 e117 h0=>bb h0 fun y118 e119 h0=>bb h0 fun y120 e121 h0=>bb h0 fun y122 e123 h0=>Bj 6 (Bq (d_ (Zc rfl rfl rfl e113 (Bq (Ci (c_ (Ol rfl rfl e115) (⟨⟨Df rfl rfl e115 rfl,tv⟩,Al tv (Bm rfl tv (⟨⟨Df rfl rfl e115 rfl,tv⟩,Al tv (Bm rfl tv (⟨⟨Df rfl rfl e115 rfl,tv⟩,Al tv (c_ (Kp rfl rfl e117) (⟨⟨Df rfl rfl e115 rfl,tv⟩,Ci (c_ (Ol rfl rfl e119) (⟨⟨Df rfl rfl e119 rfl,Df rfl rfl e115 rfl,tv⟩,Al tv (c_ (Kp rfl rfl e117) (⟨⟨Df rfl rfl e119 rfl,Df rfl rfl e115 rfl,tv⟩,Ck (Hc (y':=y114) rfl rfl tv rfl rfl rfl rfl e119 (nl rfl) rfl rfl rfl rfl (fG ⟨[(0,Ae 2097152 (((a0.set a1.toNat y3).set a3.toNat y7).set p41.toNat y114)),(1,iV a1),(4,.clo f4 k4),(12,iV p41),(13,iV p83),(89,Ae 2097152 (((a0.set a1.toNat y3).set a3.toNat y7).set p41.toNat y114)),(90,iV p83),(98,.agg (Ab y118))],[],[]⟩ (fg ⟨congrArg (fun z=>some ((.own 2097152 0 4 z:V))) Ay,rfl,rfl,rfl,rfl,congrArg (fun z=>some ((.own 2097152 0 4 z:V))) Ay,rfl,rfl,tv⟩ tv) ⟨[],⟨⟨.inl tv,Bf (Eb (v:=iV p83) rfl tv) rfl⟩,⟨.inl tv,Bf (Eb (v:=Ae 2097152 (((a0.set a1.toNat y3).set a3.toNat y7).set p41.toNat y114)) rfl tv) rfl⟩,tv⟩,tv,Al tv (c_ (Kp rfl rfl e121) (⟨tv,?_⟩))⟩)) Bg⟩))⟩))⟩))⟩))⟩))⟩))))))))
    refine Ck (Hc (y':=y118) rfl rfl tv rfl rfl rfl rfl e123 (nl rfl) rfl rfl rfl rfl (d0 tv (Gf (Cb ⟨[(0,Ae 2097152 ((((a0.set a1.toNat y3).set a3.toNat y7).set p41.toNat y114).set p83.toNat y118)),(1,iV a1),(4,.clo f4 k4),(12,iV p41),(13,iV p83)],[],[]⟩ (fg ⟨congrArg (fun z=>some ((.own 2097152 0 4 z:V))) Ay,rfl,rfl,rfl,rfl,tv⟩ tv) (Bj 5 (bv h0 fun v124 e125 h0=>Cb ⟨[(0,Ae 2097152 v124),(1,iV a1),(4,.clo f4 k4),(12,iV (wi (p41+1))),(13,iV p83)],[],[]⟩ (fg ⟨(by subst e125; rfl),(by subst e125; rfl),(by subst e125; rfl),(by subst e125; rfl),(by subst e125; rfl),tv⟩ tv) (Ba 5 (Jz a1 f4 k4 [(0,Ae 2097152 v124),(12,iV (wi (p41+1))),(13,iV (wi (p83-1)))]) [] (Aw (Bu (bb h0 fun r355 e356 h0=>Cv (R:=(fun S=>∃p264:List Aa,∃p265:Int,(p264,p265)=r355∧S=⟨[(0,Ae 2097152 p264),(1,iV a1),(13,iV p265)],[],[]⟩)) (Ys a1 is4) (fun s S=>match s with | (p195,p196,p197)=>S=⟨Mp p195 a1 f4 k4 [(12,iV p196),(13,iV p197)],[],[]⟩) e356 _ (Cj (by kernel_rfl)) rfl 4 (fun _=>rfl) ?_ ?_)))))))))) Bg
    ·rintro S _ hfg ⟨p264,p265,rfl,rfl⟩
     refine Cb _ hfg (Aw (bb h0 fun y357 e358 h0=>bb h0 fun y359 e360 h0=>bb h0 fun y361 e362 h0=>bb h0 fun y363 e364 h0=>bb h0 fun y365 e366 h0=>bb h0 fun y367 e368 h0=>Bj 6 (Bq (d_ (Zc rfl rfl rfl e358 (Bq (Ci (c_ (Ol rfl rfl e360) (⟨⟨Df rfl rfl e360 rfl,tv⟩,Al tv (Bm rfl tv (⟨⟨Df rfl rfl e360 rfl,tv⟩,Al tv (Bm rfl tv (⟨⟨Df rfl rfl e360 rfl,tv⟩,Al tv (c_ (Kp rfl rfl e362) (⟨⟨Df rfl rfl e360 rfl,tv⟩,Ci (c_ (Ol rfl rfl e364) (⟨⟨Df rfl rfl e364 rfl,Df rfl rfl e360 rfl,tv⟩,Al tv (c_ (Kp rfl rfl e362) (⟨⟨Df rfl rfl e364 rfl,Df rfl rfl e360 rfl,tv⟩,Ck (Hc (y':=y359) rfl rfl tv rfl rfl rfl rfl e364 (nl rfl) rfl rfl rfl rfl (fG ⟨[(0,Ae 2097152 (p264.set p265.toNat y359)),(1,iV a1),(13,iV p265),(165,Ae 2097152 (p264.set p265.toNat y359)),(166,iV a1),(174,.agg (Ab y363))],[],[]⟩ (fg ⟨congrArg (fun z=>some ((.own 2097152 0 4 z:V))) Ay,rfl,rfl,congrArg (fun z=>some ((.own 2097152 0 4 z:V))) Ay,rfl,rfl,tv⟩ tv) ⟨[],⟨⟨.inl tv,Bf (Eb (v:=iV a1) rfl tv) rfl⟩,⟨.inl tv,Bf (Eb (v:=Ae 2097152 (p264.set p265.toNat y359)) rfl tv) rfl⟩,tv⟩,tv,Al tv (c_ (Kp rfl rfl e366) (⟨tv,?_⟩))⟩)) Bg⟩))⟩))⟩))⟩))⟩))⟩)))))))))
     refine Ck (Hc (y':=y363) rfl rfl tv rfl rfl rfl rfl e368 (nl rfl) rfl rfl rfl rfl (d0 tv (Gf (Cb ⟨[(0,Ae 2097152 ((p264.set p265.toNat y359).set a1.toNat y363)),(13,iV p265)],[],[]⟩ (fg ⟨congrArg (fun z=>some ((.own 2097152 0 4 z:V))) Ay,rfl,tv⟩ tv) (Ba 5 [(0,Ae 2097152 ((p264.set p265.toNat y359).set a1.toNat y363)),(10,iV p265),(11,.bool false)] [] ?_))))) Bg
     obtain rfl:=sj h0
     exact Hj (Dk rfl rfl rfl rfl rfl ⟨⟨rfl,Jc (fun _=>rfl)⟩,tv⟩)
    ·rintro ⟨p195,p196,p197⟩ o1 _ K1 rfl h1 hx1 hK1 hE1 hR1
     refine Bu (Aw (Bu (bb h1 fun r302 e303 h1=>Cv (R:=(fun S=>∃p290:Int,p290=r302∧S=⟨Mp p195 a1 f4 k4 [(12,iV p290),(13,iV p197)],[],[]⟩)) (Ud a1 is4 p195 p197) (fun s S=>match s with | p277=>S=⟨Mp p195 a1 f4 k4 [(12,iV p277),(13,iV p197)],[],[]⟩) e303 _ (Cj (by kernel_rfl)) rfl 6 (fun _=>rfl) ?_ ?_)))
     ·rintro S _ hfg ⟨p290,rfl,rfl⟩
      refine Cb ⟨Mp p195 a1 f4 k4 [(12,iV p290),(13,iV p197)],[],[]⟩ (tG hfg ⟨rfl,rfl,rfl,rfl,rfl,tv⟩ tv) (Aw (Bu (bb h1 fun r340 e341 h1=>Cv (R:=(fun S=>∃p328:Int,p328=r340∧S=⟨Mp p195 a1 f4 k4 [(12,iV p290),(13,iV p328)],[],[]⟩)) (Ue a1 is4 p195 p290) (fun s S=>match s with | p315=>S=⟨Mp p195 a1 f4 k4 [(12,iV p290),(13,iV p315)],[],[]⟩) e341 _ (Cj (by kernel_rfl)) rfl 8 (fun _=>rfl) ?_ ?_)))
      ·rintro S _ hfg ⟨p328,rfl,rfl⟩
       refine Cb ⟨Mp p195 a1 f4 k4 [(12,iV p290),(13,iV p328)],[],[]⟩ (tG hfg ⟨rfl,rfl,rfl,rfl,rfl,tv⟩ tv) (Ba 6 (Mp p195 a1 f4 k4 [(12,iV p290),(13,iV p328),(144,.bool (decide (p290>p328)))]) [] (Cs h1 (fun c342 h1=>?_) (fun c342 h1=>?_)))
       ·obtain rfl:=sj h1
        obtain rfl:=hx1 _ rfl
        refine In rfl ?_
        exact jn hE1 ⟨_,_,rfl,rfl⟩
       ·refine Ot 3 (bb h1 fun y343 e344 h1=>bb h1 fun y345 e346 h1=>bb h1 fun y347 e348 h1=>bb h1 fun y349 e350 h1=>bb h1 fun y351 e352 h1=>bb h1 fun y353 e354 h1=>Bj 6 (Bq (d_ (Zc rfl rfl rfl e344 (Bq (Ci (c_ (Ol rfl rfl e346) (⟨⟨Df rfl rfl e346 rfl,tv⟩,Al tv (Bm rfl tv (⟨⟨Df rfl rfl e346 rfl,tv⟩,Al tv (Bm rfl tv (⟨⟨Df rfl rfl e346 rfl,tv⟩,Al tv (c_ (Kp rfl rfl e348) (⟨⟨Df rfl rfl e346 rfl,tv⟩,Ci (c_ (Ol rfl rfl e350) (⟨⟨Df rfl rfl e350 rfl,Df rfl rfl e346 rfl,tv⟩,Al tv (c_ (Kp rfl rfl e348) (⟨⟨Df rfl rfl e350 rfl,Df rfl rfl e346 rfl,tv⟩,Ck (Hc (y':=y345) rfl rfl tv rfl rfl rfl rfl e350 (nl rfl) rfl rfl rfl rfl (fG ⟨[(0,Ae 2097152 (p195.set p290.toNat y345)),(1,iV a1),(4,.clo f4 k4),(12,iV p290),(13,iV p328),(147,Ae 2097152 (p195.set p290.toNat y345)),(148,iV p328),(156,.agg (Ab y349))],[],[]⟩ (fg ⟨congrArg (fun z=>some ((.own 2097152 0 4 z:V))) Ay,rfl,rfl,rfl,rfl,congrArg (fun z=>some ((.own 2097152 0 4 z:V))) Ay,rfl,rfl,tv⟩ tv) ⟨[],⟨⟨.inl tv,Bf (Eb (v:=iV p328) rfl tv) rfl⟩,⟨.inl tv,Bf (Eb (v:=Ae 2097152 (p195.set p290.toNat y345)) rfl tv) rfl⟩,tv⟩,tv,Al tv (c_ (Kp rfl rfl e352) (⟨tv,?_⟩))⟩)) Bg⟩))⟩))⟩))⟩))⟩))⟩))))))))
        refine Ck (Hc (y':=y349) rfl rfl tv rfl rfl rfl rfl e354 (nl rfl) rfl rfl rfl rfl (d0 tv (Gf (Cb ⟨[(0,Ae 2097152 ((p195.set p290.toNat y345).set p328.toNat y349)),(1,iV a1),(4,.clo f4 k4),(12,iV p290),(13,iV p328)],[],[]⟩ (fg ⟨congrArg (fun z=>some ((.own 2097152 0 4 z:V))) Ay,rfl,rfl,rfl,rfl,tv⟩ tv) (Ba 5 (Jz a1 f4 k4 [(0,Ae 2097152 ((p195.set p290.toNat y345).set p328.toNat y349)),(12,iV (wi (p290+1))),(13,iV p328)]) [] (Bj 5 ?_)))))) Bg
        obtain rfl:=sj h1
        exact kn hK1 rfl rfl
      ·rintro p315 o2 _ K2 rfl h2 hx2 hK2 hE2 hR2
       refine Aw (Aw (bb h2 fun y329 e330 h2=>bb h2 fun y331 e332 h2=>bb h2 fun y333 e334 h2=>bb h2 fun y335 e336 h2=>bb h2 fun r337 e338 h2=>Bj 4 (Bq (Al tv (Cw (u:=.clo f4 k4) rfl (fun hg=>(Eb (v:=.clo f4 k4) rfl tv)) (⟨tv,Al tv (Cw (u:=Ae 2097152 p195) rfl (fun hg=>(Eb (v:=Ae 2097152 p195) rfl tv)) (⟨tv,Al tv (Cw (u:=iV p315) rfl (fun hg=>(Eb (v:=iV p315) rfl tv)) (⟨tv,Al tv (Cw (u:=.optr 2097152 4 (0+p315.toNat) 0) rfl (fun hg=>(Fb (e:=Ab) (y:=y329) rfl rfl (fun _=>hg) rfl rfl (fun _=>hg) (ip hg e330))) (⟨tv,Ci (Cw (u:=.agg (Ab y331)) rfl (fun hg=>(Bo (e:=Ab) (y:=y331) (v:=.agg (Ab y331)) rfl rfl (fun _=>hg) rfl rfl (ip hg e332) rfl (nl rfl) rfl)) (⟨⟨Bx (v:=.agg (Ab y331)) rfl (fun hg=>(Bo (e:=Ab) (y:=y331) (v:=.agg (Ab y331)) rfl rfl (fun _=>hg) rfl rfl (ip hg e332) rfl (nl rfl) rfl)) rfl,tv⟩,Al tv (Cw (u:=Ae 2097152 p195) rfl (fun hg=>(Eb (v:=Ae 2097152 p195) rfl tv)) (⟨⟨Bx (v:=.agg (Ab y331)) rfl (fun hg=>(Bo (e:=Ab) (y:=y331) (v:=.agg (Ab y331)) rfl rfl (fun _=>hg) rfl rfl (ip hg e332) rfl (nl rfl) rfl)) rfl,tv⟩,Al tv (Cw (u:=iV a1) rfl (fun hg=>(Eb (v:=iV a1) rfl tv)) (⟨⟨Bx (v:=.agg (Ab y331)) rfl (fun hg=>(Bo (e:=Ab) (y:=y331) (v:=.agg (Ab y331)) rfl rfl (fun _=>hg) rfl rfl (ip hg e332) rfl (nl rfl) rfl)) rfl,tv⟩,Al tv (Cw (u:=.optr 2097152 4 (0+a1.toNat) 0) rfl (fun hg=>(Fb (e:=Ab) (y:=y333) rfl rfl (fun _=>hg) rfl rfl (fun _=>hg) (ip hg e334))) (⟨⟨Bx (v:=.agg (Ab y331)) rfl (fun hg=>(Bo (e:=Ab) (y:=y331) (v:=.agg (Ab y331)) rfl rfl (fun _=>hg) rfl rfl (ip hg e332) rfl (nl rfl) rfl)) rfl,tv⟩,Ci (Cw (u:=.agg (Ab y335)) rfl (fun hg=>(Bo (e:=Ab) (y:=y335) (v:=.agg (Ab y335)) rfl rfl (fun _=>hg) rfl rfl (ip hg e336) rfl (nl rfl) rfl)) (⟨⟨Bx (v:=.agg (Ab y335)) rfl (fun hg=>(Bo (e:=Ab) (y:=y335) (v:=.agg (Ab y335)) rfl rfl (fun _=>hg) rfl rfl (ip hg e336) rfl (nl rfl) rfl)) rfl,Bx (v:=.agg (Ab y331)) rfl (fun hg=>(Bo (e:=Ab) (y:=y331) (v:=.agg (Ab y331)) rfl rfl (fun _=>hg) rfl rfl (ip hg e332) rfl (nl rfl) rfl)) rfl,tv⟩,Ck (Iu (r:=iV r337) rfl rfl rfl (fun hg=>hg) false (fun hg=>hf4 _ _ r337 (ip hg e338)) ⟨(fun hg=>hg),(fun hg=>hg),tv⟩ (fun _=>(ar (Az rfl hs4.2.2.1))) (fun _=>(Bb rfl (Bb rfl (hs4.2.1 _ _ _ _ _)))) (fun _=>rfl) (fun h=>nomatch h) (dw [(0,Ae 2097152 p195),(1,iV a1),(4,.clo f4 k4),(12,iV p290),(13,iV p315),(126,.bool (decide (p290≤p315))),(136,.may ((decide (p290≤p315))==true) (iV r337))] [] tv (Al tv (Cw (u:=.bool (decide (r337<0))) rfl (fun hg=>(Bn ⟨(fun _=>hg),tv,tv⟩ rfl tv)) (⟨tv,?_⟩))))) Bg⟩))⟩))⟩))⟩))⟩))⟩))⟩))⟩))⟩))))))
       refine Al tv (Cw (u:=.bool (!(decide (r337<0)))) rfl (fun hg=>(Bn ⟨(fun _=>hg),tv⟩ rfl tv)) (⟨tv,Al tv (Fw rfl rfl rfl (fun h=>fI h) tv rfl (⟨tv,d_ (Ba 1 (Mp p195 a1 f4 k4 [(12,iV p290),(13,iV p315),(139,.bool (bif (decide (p290≤p315)) then (!(decide (r337<0))) else false))]) [] (Cs h2 (fun c339 h2=>?_) (fun c339 h2=>?_)))⟩))⟩))
       ·refine Bj 8 ?_
        obtain rfl:=sj h2
        exact kn hK2 rfl rfl
       ·obtain rfl:=sj h2
        obtain rfl:=hx2 _ rfl
        refine In rfl ?_
        exact jn hE2 ⟨_,rfl,rfl⟩
     ·rintro p277 o2 _ K2 rfl h2 hx2 hK2 hE2 hR2
      refine Aw (Aw (bb h2 fun y291 e292 h2=>bb h2 fun y293 e294 h2=>bb h2 fun y295 e296 h2=>bb h2 fun y297 e298 h2=>bb h2 fun r299 e300 h2=>Bj 4 (Bq (Al tv (Cw (u:=.clo f4 k4) rfl (fun hg=>(Eb (v:=.clo f4 k4) rfl tv)) (⟨tv,Al tv (Cw (u:=Ae 2097152 p195) rfl (fun hg=>(Eb (v:=Ae 2097152 p195) rfl tv)) (⟨tv,Al tv (Cw (u:=iV p277) rfl (fun hg=>(Eb (v:=iV p277) rfl tv)) (⟨tv,Al tv (Cw (u:=.optr 2097152 4 (0+p277.toNat) 0) rfl (fun hg=>(Fb (e:=Ab) (y:=y291) rfl rfl (fun _=>hg) rfl rfl (fun _=>hg) (ip hg e292))) (⟨tv,Ci (Cw (u:=.agg (Ab y293)) rfl (fun hg=>(Bo (e:=Ab) (y:=y293) (v:=.agg (Ab y293)) rfl rfl (fun _=>hg) rfl rfl (ip hg e294) rfl (nl rfl) rfl)) (⟨⟨Bx (v:=.agg (Ab y293)) rfl (fun hg=>(Bo (e:=Ab) (y:=y293) (v:=.agg (Ab y293)) rfl rfl (fun _=>hg) rfl rfl (ip hg e294) rfl (nl rfl) rfl)) rfl,tv⟩,Al tv (Cw (u:=Ae 2097152 p195) rfl (fun hg=>(Eb (v:=Ae 2097152 p195) rfl tv)) (⟨⟨Bx (v:=.agg (Ab y293)) rfl (fun hg=>(Bo (e:=Ab) (y:=y293) (v:=.agg (Ab y293)) rfl rfl (fun _=>hg) rfl rfl (ip hg e294) rfl (nl rfl) rfl)) rfl,tv⟩,Al tv (Cw (u:=iV a1) rfl (fun hg=>(Eb (v:=iV a1) rfl tv)) (⟨⟨Bx (v:=.agg (Ab y293)) rfl (fun hg=>(Bo (e:=Ab) (y:=y293) (v:=.agg (Ab y293)) rfl rfl (fun _=>hg) rfl rfl (ip hg e294) rfl (nl rfl) rfl)) rfl,tv⟩,Al tv (Cw (u:=.optr 2097152 4 (0+a1.toNat) 0) rfl (fun hg=>(Fb (e:=Ab) (y:=y295) rfl rfl (fun _=>hg) rfl rfl (fun _=>hg) (ip hg e296))) (⟨⟨Bx (v:=.agg (Ab y293)) rfl (fun hg=>(Bo (e:=Ab) (y:=y293) (v:=.agg (Ab y293)) rfl rfl (fun _=>hg) rfl rfl (ip hg e294) rfl (nl rfl) rfl)) rfl,tv⟩,Ci (Cw (u:=.agg (Ab y297)) rfl (fun hg=>(Bo (e:=Ab) (y:=y297) (v:=.agg (Ab y297)) rfl rfl (fun _=>hg) rfl rfl (ip hg e298) rfl (nl rfl) rfl)) (⟨⟨Bx (v:=.agg (Ab y297)) rfl (fun hg=>(Bo (e:=Ab) (y:=y297) (v:=.agg (Ab y297)) rfl rfl (fun _=>hg) rfl rfl (ip hg e298) rfl (nl rfl) rfl)) rfl,Bx (v:=.agg (Ab y293)) rfl (fun hg=>(Bo (e:=Ab) (y:=y293) (v:=.agg (Ab y293)) rfl rfl (fun _=>hg) rfl rfl (ip hg e294) rfl (nl rfl) rfl)) rfl,tv⟩,Ck (Iu (r:=iV r299) rfl rfl rfl (fun hg=>hg) false (fun hg=>hf4 _ _ r299 (ip hg e300)) ⟨(fun hg=>hg),(fun hg=>hg),tv⟩ (fun _=>(ar (Az rfl hs4.2.2.1))) (fun _=>(Bb rfl (Bb rfl (hs4.2.1 _ _ _ _ _)))) (fun _=>rfl) (fun h=>nomatch h) (dw [(0,Ae 2097152 p195),(1,iV a1),(4,.clo f4 k4),(12,iV p277),(13,iV p197),(108,.bool (decide (p277≤p197))),(118,.may ((decide (p277≤p197))==true) (iV r299))] [] tv (Al tv (Cw (u:=.bool (decide (r299<0))) rfl (fun hg=>(Bn ⟨(fun _=>hg),tv,tv⟩ rfl tv)) (⟨tv,?_⟩))))) Bg⟩))⟩))⟩))⟩))⟩))⟩))⟩))⟩))⟩))))))
      refine Al tv (Fw rfl rfl rfl (fun h=>fI h) tv rfl (⟨tv,d_ (Ba 1 (Mp p195 a1 f4 k4 [(12,iV p277),(13,iV p197),(120,.bool (bif (decide (p277≤p197)) then (decide (r299<0)) else false))]) [] (Cs h2 (fun c301 h2=>?_) (fun c301 h2=>?_)))⟩))
      ·refine Bj 8 ?_
       obtain rfl:=sj h2
       exact kn hK2 rfl rfl
      ·obtain rfl:=sj h2
       obtain rfl:=hx2 _ rfl
       refine In rfl ?_
       exact jn hE2 ⟨_,rfl,rfl⟩
  ·rintro p70 o1 _ K1 rfl h1 hx1 hK1 hE1 hR1
   refine Aw (Aw (bb h1 fun y84 e85 h1=>bb h1 fun y86 e87 h1=>bb h1 fun y88 e89 h1=>bb h1 fun y90 e91 h1=>bb h1 fun r92 e93 h1=>Bj 4 (Bq (Al tv (Cw (u:=.clo f4 k4) rfl (fun hg=>(Eb (v:=.clo f4 k4) rfl tv)) (⟨tv,Al tv (Cw (u:=Ae 2097152 ((a0.set a1.toNat y3).set a3.toNat y7)) rfl (fun hg=>(Eb (v:=Ae 2097152 ((a0.set a1.toNat y3).set a3.toNat y7)) rfl tv)) (⟨tv,Al tv (Cw (u:=iV p70) rfl (fun hg=>(Eb (v:=iV p70) rfl tv)) (⟨tv,Al tv (Cw (u:=.optr 2097152 4 (0+p70.toNat) 0) rfl (fun hg=>(Fb (e:=Ab) (y:=y84) rfl rfl (fun _=>hg) rfl rfl (fun _=>hg) (ip hg e85))) (⟨tv,Ci (Cw (u:=.agg (Ab y86)) rfl (fun hg=>(Bo (e:=Ab) (y:=y86) (v:=.agg (Ab y86)) rfl rfl (fun _=>hg) rfl rfl (ip hg e87) rfl (nl rfl) rfl)) (⟨⟨Bx (v:=.agg (Ab y86)) rfl (fun hg=>(Bo (e:=Ab) (y:=y86) (v:=.agg (Ab y86)) rfl rfl (fun _=>hg) rfl rfl (ip hg e87) rfl (nl rfl) rfl)) rfl,tv⟩,Al tv (Cw (u:=Ae 2097152 ((a0.set a1.toNat y3).set a3.toNat y7)) rfl (fun hg=>(Eb (v:=Ae 2097152 ((a0.set a1.toNat y3).set a3.toNat y7)) rfl tv)) (⟨⟨Bx (v:=.agg (Ab y86)) rfl (fun hg=>(Bo (e:=Ab) (y:=y86) (v:=.agg (Ab y86)) rfl rfl (fun _=>hg) rfl rfl (ip hg e87) rfl (nl rfl) rfl)) rfl,tv⟩,Al tv (Cw (u:=iV a1) rfl (fun hg=>(Eb (v:=iV a1) rfl tv)) (⟨⟨Bx (v:=.agg (Ab y86)) rfl (fun hg=>(Bo (e:=Ab) (y:=y86) (v:=.agg (Ab y86)) rfl rfl (fun _=>hg) rfl rfl (ip hg e87) rfl (nl rfl) rfl)) rfl,tv⟩,Al tv (Cw (u:=.optr 2097152 4 (0+a1.toNat) 0) rfl (fun hg=>(Fb (e:=Ab) (y:=y88) rfl rfl (fun _=>hg) rfl rfl (fun _=>hg) (ip hg e89))) (⟨⟨Bx (v:=.agg (Ab y86)) rfl (fun hg=>(Bo (e:=Ab) (y:=y86) (v:=.agg (Ab y86)) rfl rfl (fun _=>hg) rfl rfl (ip hg e87) rfl (nl rfl) rfl)) rfl,tv⟩,Ci (Cw (u:=.agg (Ab y90)) rfl (fun hg=>(Bo (e:=Ab) (y:=y90) (v:=.agg (Ab y90)) rfl rfl (fun _=>hg) rfl rfl (ip hg e91) rfl (nl rfl) rfl)) (⟨⟨Bx (v:=.agg (Ab y90)) rfl (fun hg=>(Bo (e:=Ab) (y:=y90) (v:=.agg (Ab y90)) rfl rfl (fun _=>hg) rfl rfl (ip hg e91) rfl (nl rfl) rfl)) rfl,Bx (v:=.agg (Ab y86)) rfl (fun hg=>(Bo (e:=Ab) (y:=y86) (v:=.agg (Ab y86)) rfl rfl (fun _=>hg) rfl rfl (ip hg e87) rfl (nl rfl) rfl)) rfl,tv⟩,Ck (Iu (r:=iV r92) rfl rfl rfl (fun hg=>hg) false (fun hg=>hf4 _ _ r92 (ip hg e93)) ⟨(fun hg=>hg),(fun hg=>hg),tv⟩ (fun _=>(ar (Az rfl hs4.2.2.1))) (fun _=>(Bb rfl (Bb rfl (hs4.2.1 _ _ _ _ _)))) (fun _=>rfl) (fun h=>nomatch h) (dw [(0,Ae 2097152 ((a0.set a1.toNat y3).set a3.toNat y7)),(1,iV a1),(4,.clo f4 k4),(12,iV p41),(13,iV p70),(53,.bool (decide (p41≤p70))),(63,.may ((decide (p41≤p70))==true) (iV r92))] [] tv (Al tv (Cw (u:=.bool (decide (r92<0))) rfl (fun hg=>(Bn ⟨(fun _=>hg),tv,tv⟩ rfl tv)) (⟨tv,?_⟩))))) Bg⟩))⟩))⟩))⟩))⟩))⟩))⟩))⟩))⟩))))))
   refine Al tv (Cw (u:=.bool (!(decide (r92<0)))) rfl (fun hg=>(Bn ⟨(fun _=>hg),tv⟩ rfl tv)) (⟨tv,Al tv (Fw rfl rfl rfl (fun h=>fI h) tv rfl (⟨tv,d_ (Ba 1 (Jz a1 f4 k4 [(0,Ae 2097152 ((a0.set a1.toNat y3).set a3.toNat y7)),(12,iV p41),(13,iV p70),(66,.bool (bif (decide (p41≤p70)) then (!(decide (r92<0))) else false))]) [] (Cs h1 (fun c94 h1=>?_) (fun c94 h1=>?_)))⟩))⟩))
   ·refine Bj 8 ?_
    obtain rfl:=sj h1
    exact kn hK1 rfl rfl
   ·obtain rfl:=sj h1
    obtain rfl:=hx1 _ rfl
    refine In rfl ?_
    exact jn hE1 ⟨_,rfl,rfl⟩
 ·rintro p26 o1 _ K1 rfl h1 hx1 hK1 hE1 hR1
  refine Aw (Aw (bb h1 fun y42 e43 h1=>bb h1 fun y44 e45 h1=>bb h1 fun y46 e47 h1=>bb h1 fun y48 e49 h1=>bb h1 fun r50 e51 h1=>Bj 4 (Bq (Al tv (Cw (u:=.clo f4 k4) rfl (fun hg=>(Eb (v:=.clo f4 k4) rfl tv)) (⟨tv,Al tv (Cw (u:=Ae 2097152 ((a0.set a1.toNat y3).set a3.toNat y7)) rfl (fun hg=>(Eb (v:=Ae 2097152 ((a0.set a1.toNat y3).set a3.toNat y7)) rfl tv)) (⟨tv,Al tv (Cw (u:=iV p26) rfl (fun hg=>(Eb (v:=iV p26) rfl tv)) (⟨tv,Al tv (Cw (u:=.optr 2097152 4 (0+p26.toNat) 0) rfl (fun hg=>(Fb (e:=Ab) (y:=y42) rfl rfl (fun _=>hg) rfl rfl (fun _=>hg) (ip hg e43))) (⟨tv,Ci (Cw (u:=.agg (Ab y44)) rfl (fun hg=>(Bo (e:=Ab) (y:=y44) (v:=.agg (Ab y44)) rfl rfl (fun _=>hg) rfl rfl (ip hg e45) rfl (nl rfl) rfl)) (⟨⟨Bx (v:=.agg (Ab y44)) rfl (fun hg=>(Bo (e:=Ab) (y:=y44) (v:=.agg (Ab y44)) rfl rfl (fun _=>hg) rfl rfl (ip hg e45) rfl (nl rfl) rfl)) rfl,tv⟩,Al tv (Cw (u:=Ae 2097152 ((a0.set a1.toNat y3).set a3.toNat y7)) rfl (fun hg=>(Eb (v:=Ae 2097152 ((a0.set a1.toNat y3).set a3.toNat y7)) rfl tv)) (⟨⟨Bx (v:=.agg (Ab y44)) rfl (fun hg=>(Bo (e:=Ab) (y:=y44) (v:=.agg (Ab y44)) rfl rfl (fun _=>hg) rfl rfl (ip hg e45) rfl (nl rfl) rfl)) rfl,tv⟩,Al tv (Cw (u:=iV a1) rfl (fun hg=>(Eb (v:=iV a1) rfl tv)) (⟨⟨Bx (v:=.agg (Ab y44)) rfl (fun hg=>(Bo (e:=Ab) (y:=y44) (v:=.agg (Ab y44)) rfl rfl (fun _=>hg) rfl rfl (ip hg e45) rfl (nl rfl) rfl)) rfl,tv⟩,Al tv (Cw (u:=.optr 2097152 4 (0+a1.toNat) 0) rfl (fun hg=>(Fb (e:=Ab) (y:=y46) rfl rfl (fun _=>hg) rfl rfl (fun _=>hg) (ip hg e47))) (⟨⟨Bx (v:=.agg (Ab y44)) rfl (fun hg=>(Bo (e:=Ab) (y:=y44) (v:=.agg (Ab y44)) rfl rfl (fun _=>hg) rfl rfl (ip hg e45) rfl (nl rfl) rfl)) rfl,tv⟩,Ci (Cw (u:=.agg (Ab y48)) rfl (fun hg=>(Bo (e:=Ab) (y:=y48) (v:=.agg (Ab y48)) rfl rfl (fun _=>hg) rfl rfl (ip hg e49) rfl (nl rfl) rfl)) (⟨⟨Bx (v:=.agg (Ab y48)) rfl (fun hg=>(Bo (e:=Ab) (y:=y48) (v:=.agg (Ab y48)) rfl rfl (fun _=>hg) rfl rfl (ip hg e49) rfl (nl rfl) rfl)) rfl,Bx (v:=.agg (Ab y44)) rfl (fun hg=>(Bo (e:=Ab) (y:=y44) (v:=.agg (Ab y44)) rfl rfl (fun _=>hg) rfl rfl (ip hg e45) rfl (nl rfl) rfl)) rfl,tv⟩,Ck (Iu (r:=iV r50) rfl rfl rfl (fun hg=>hg) false (fun hg=>hf4 _ _ r50 (ip hg e51)) ⟨(fun hg=>hg),(fun hg=>hg),tv⟩ (fun _=>(ar (Az rfl hs4.2.2.1))) (fun _=>(Bb rfl (Bb rfl (hs4.2.1 _ _ _ _ _)))) (fun _=>rfl) (fun h=>nomatch h) (dw [(0,Ae 2097152 ((a0.set a1.toNat y3).set a3.toNat y7)),(1,iV a1),(4,.clo f4 k4),(12,iV p26),(13,iV (wi (a2-1))),(35,.bool (decide (p26≤(wi (a2-1))))),(45,.may ((decide (p26≤(wi (a2-1))))==true) (iV r50))] [] tv (Al tv (Cw (u:=.bool (decide (r50<0))) rfl (fun hg=>(Bn ⟨(fun _=>hg),tv,tv⟩ rfl tv)) (⟨tv,?_⟩))))) Bg⟩))⟩))⟩))⟩))⟩))⟩))⟩))⟩))⟩))))))
  refine Al tv (Fw rfl rfl rfl (fun h=>fI h) tv rfl (⟨tv,Gf (bv h1 fun v52 e53 h1=>Cb ⟨[(0,Ae 2097152 ((a0.set a1.toNat y3).set a3.toNat y7)),(1,iV a1),(4,.clo f4 k4),(12,iV p26),(13,iV (wi (a2-1))),(47,.bool v52)],[],[]⟩ (fg ⟨(by subst e53; rfl),(by subst e53; rfl),(by subst e53; rfl),(by subst e53; rfl),(by subst e53; rfl),(by subst e53; rfl),tv⟩ tv) (Cs h1 (fun c54 h1=>?_) (fun c54 h1=>?_)))⟩))
  ·refine Bj 8 ?_
   obtain rfl:=sj h1
   exact kn hK1 rfl rfl
  ·obtain rfl:=sj h1
   obtain rfl:=hx1 _ rfl
   refine In rfl ?_
   exact jn hE1 ⟨_,rfl,rfl⟩

/- slices.pdqsortCmpFunc[loop.example/g00149/impl.Lease] -/
def OV:=[k_ 10 (.bool true)]
def OW:=[k_ 11 (.bool true)]
def OX:=[m_ 21 2,m_ 22 1,b_ .sub 23 21 22,m_ 12 23]
def OY:=[m_ 24 12,B_ .leq 25 24 12]
def OZ:=[m_ 26 0,m_ 27 1,m_ 28 2,m_ 29 4,q_ 30 148 [.t 26,.t 27,.t 28,.t 29]]
def PA:=[m_ 31 3,B_ .eql 32 31 0]
def PB:=[m_ 33 0,m_ 34 1,m_ 35 2,m_ 36 4,q_ 37 149 [.t 33,.t 34,.t 35,.t 36]]
def PC:=[m_ 38 10,N_ 39 38]
def PD:=[m_ 40 0,m_ 41 1,m_ 42 2,m_ 43 4,q_ 44 150 [.t 40,.t 41,.t 42,.t 43]]
def PE:=[m_ 45 3,B_ .sub 46 45 1,m_ 3 46]
def wE:=[m_ 48 0,m_ 49 1,m_ 50 2,m_ 51 4,q_ 52 151 [.t 48,.t 49,.t 50,.t 51],m_ 47 52,e_ 53 47 0,e_ 54 47 1,m_ 13 53,m_ 14 54]
def wF:=[m_ 55 14,B_ .eql 56 55 2]
def wG:=[m_ 57 0,m_ 58 1,m_ 59 2,m_ 60 4,q_ 61 152 [.t 57,.t 58,.t 59,.t 60]]
def wH:=[m_ 62 2,B_ .sub 63 62 1,m_ 64 13,m_ 65 1,b_ .sub 66 64 65,b_ .sub 67 63 66,m_ 13 67]
def wI:=[i_ 14 1]
def wJ:=[m_ 68 10,m_ 69 68,mT 69 70 11,pa 71 69 70,m_ 72 71,mT 72 73 14,pT 72 74 (.bin .eql (.t 73) (.c (iV 1))),pa 75 72 74]
def wK:=[m_ 76 0,m_ 77 1,m_ 78 2,m_ 79 4,q_ 80 153 [.t 76,.t 77,.t 78,.t 79]]
def wL:=tk [m_ 81 1,B_ .gtr 82 81 0,m_ 83 82,mT 83 84 4,mT 83 85 0,mT 83 86 1,pT 83 87 (.bin .sub (.t 86) (.c (iV 1))),xT 83 88 85 87 4,lT 83 89 88 4 true,mT 83 90 0,mT 83 91 13,xT 83 92 90 91 4,lT 83 93 92 4 true] (.alt [] ⟨some 94,.callv (.t 84) [.t 89,.t 93],some (83,true)⟩ (tk [pT 83 95 (.bin .lss (.t 94) (.c (iV 0))),pT 83 96 (.un .not (.t 95)),pa 97 83 96] .fin) .stop)
def wM:=[m_ 98 0,m_ 99 1,m_ 100 2,m_ 101 13,m_ 102 4,q_ 103 154 [.t 98,.t 99,.t 100,.t 101,.t 102],m_ 15 103]
def wN:=[m_ 104 15,m_ 1 104]
def wO:=[m_ 106 0,m_ 107 1,m_ 108 2,m_ 109 13,m_ 110 4,q_ 111 155 [.t 106,.t 107,.t 108,.t 109,.t 110],m_ 105 111,e_ 112 105 0,e_ 113 105 1,m_ 16 112,m_ 17 113]
def wP:=[m_ 114 17,m_ 11 114]
def wQ:=[m_ 115 16,m_ 116 1,b_ .sub 117 115 116,m_ 118 2,m_ 119 16,b_ .sub 120 118 119,m_ 18 117,m_ 19 120]
def wR:=[m_ 121 12,B_ .quo 122 121 8,m_ 20 122]
def wS:=[m_ 123 18,m_ 124 19,b_ .lss 125 123 124]
def wT:=[m_ 126 18,m_ 127 20,b_ .geq 128 126 127,m_ 10 128]
def wU:=[m_ 129 0,m_ 130 1,m_ 131 16,m_ 132 3,m_ 133 4,q_ 134 137 [.t 129,.t 130,.t 131,.t 132,.t 133]]
def wV:=[m_ 135 16,B_ .add 136 135 1,m_ 1 136]
def wW:=[m_ 137 19,m_ 138 20,b_ .geq 139 137 138,m_ 10 139]
def wX:=[m_ 140 0,m_ 141 16,B_ .add 142 141 1,m_ 143 2,m_ 144 3,m_ 145 4,q_ 146 137 [.t 140,.t 142,.t 143,.t 144,.t 145]]
def wY:=[m_ 147 16,m_ 2 147]
def OU:IR:=(.block 1 (sr OX (.seq (sr OY (iz 25 (rr OZ))) (.seq (sr PA (iz 32 (rr PB))) (.seq (sr PC (iz 39 (sr PD (.reg PE)))) (sr wE (.seq (sr wF (iz 56 (sr wG (sr wH (.reg wI))))) (.seq (sr wJ (iz 75 (sr wK (iz 80 .ret)))) (.seq (sd wL (iz 97 (sr wM (sr wN (.exit 1))))) (sr wO (sr wP (sr wQ (sr wR (sr wS (.ite (.t 125) (sr wT (sr wU (.reg wV))) (sr wW (sr wX (.reg wY))))))))))))))))))
def c137:Dv:=⟨5,148,[],sr OV (sr OW (Im 0 OU))⟩
def tK (C:Bl) (rc:(List Aa)→Int→Int→Int→(Aa→Aa→Option Int)→Option (List Aa)):Prop:=∀(a0:List Aa) (a1:Int) (a2:Int) (a3:Int) (f4:Nat) (k4:List V) (is4:Aa→Aa→Option Int) (hs4:Jh k4) (hf4:∀(x0:Aa) (x1:Aa) r,is4 x0 x1=some r→C f4 ⟨.agg (Ab x0) :: .agg (Ab x1)::k4,[]⟩ ⟨iV r,[],[]⟩) (r:(List Aa)),rc a0 a1 a2 a3 is4=some r→C 137 ⟨[Ae 2097152 a0,iV a1,iV a2,iV a3,.clo f4 k4],[]⟩ ⟨.tup [],[],[(0,4,r.map Ab)]⟩
def K137 (C:Bl):Prop:=∀n,tK C (lY n)
abbrev Mn:=fun x0 x1 x2 x3 x4 x5 (r:List (Nat×V))=>(1,iV x0)::(2,iV x1)::(4,.clo x2 x3)::(10,.bool x4)::(11,.bool x5)::r
theorem F137 {C:Bl} (H148:K148 C) (H149:K149 C) (H150:K150 C) (H151:K151 C) (H152:K152 C) (H153:K153 C) (H154:K154 C) (H155:K155 C) (rc137:(List Aa)→Int→Int→Int→(Aa→Aa→Option Int)→Option (List Aa)) (R137:tK C rc137) (a0:List Aa) (a1:Int) (a2:Int) (a3:Int) (f4:Nat) (k4:List V) (is4:Aa→Aa→Option Int) (hs4:Jh k4) (hf4:∀(x0:Aa) (x1:Aa) r,is4 x0 x1=some r→C f4 ⟨.agg (Ab x0) :: .agg (Ab x1)::k4,[]⟩ ⟨iV r,[],[]⟩) (r:(List Aa)) (h0:Wb rc137 a0 a1 a2 a3 is4=some r):kZ C c137 ⟨[Ae 2097152 a0,iV a1,iV a2,iV a3,.clo f4 k4],[]⟩ ⟨.tup [],[],[(0,4,r.map Ab)]⟩:=by
 refine f0 (Ba 7 [(0,Ae 2097152 a0),(1,iV a1),(2,iV a2),(3,iV a3),(4,.clo f4 k4),(10,.bool true),(11,.bool true)] [] (Bu (bb h0 fun r214 e215 h0=>Cv (R:=(fun _=>False)) (Kk is4 rc137) (fun s S=>match s with | (p62,p63,p64,p65,p66,p67)=>S=⟨Mn p63 p64 f4 k4 p66 p67 [(0,Ae 2097152 p62),(3,iV p65)],[],[]⟩) e215 _ (Cj (by kernel_rfl)) rfl 0 (fun h=>h.elim fun _ h=>h.elim) ?_ ?_)))
 ·exact fun _ _ _ h=>h.elim
 ·rintro ⟨p62,p63,p64,p65,p66,p67⟩ o1 _ K1 rfl h1 hx1 hK1 hE1 hR1
  refine Ba 13 (Mn p63 p64 f4 k4 p66 p67 [(0,Ae 2097152 p62),(3,iV p65),(12,iV (wi (p64-p63))),(25,.bool (decide ((wi (p64-p63))≤12)))]) [] (Cs h1 (fun c135 h1=>?_) (fun c135 h1=>?_))
  ·refine Bj 5 (Ar (bb h1 fun r136 e137 h1=>gg h1 fun PF h1=>st (Ef [] [2097152] [] false (H148 p62 p63 p64 f4 k4 is4 hs4 hf4 r136 e137) ⟨tv,tv,tv,tv,tv⟩ (by kernel_rfl) (congrArg (fun z=>Gq.mk z []) (Bb rfl (Bb rfl (Bb rfl (Bb (Ey hs4) rfl))))) (by kernel_rfl) (by kernel_rfl) (fun _=>Az rfl (Az (cH (fun _=>rfl)) rfl)) (Cz (Cb ⟨[(0,Ae 2097152 r136)],[],[]⟩ (fg ⟨congrArg (fun z=>some ((z:V))) (Fa PF),tv⟩ tv) ?_)))))
   obtain rfl:=sj h1
   obtain rfl:=hx1 _ rfl
   obtain rfl:=sj h0
   exact Hj (hR1 _ (Dk rfl rfl rfl rfl rfl ⟨⟨rfl,Jc (fun _=>rfl)⟩,tv⟩))
  ·refine Ba 7 (Mn p63 p64 f4 k4 p66 p67 [(0,Ae 2097152 p62),(3,iV p65),(12,iV (wi (p64-p63))),(32,.bool (p65==0))]) [] (Cs h1 (fun c139 h1=>?_) (fun c139 h1=>?_))
   ·refine Bj 5 (Ar (bb h1 fun r140 e141 h1=>gg h1 fun c142 h1=>st (Ef [] [2097152] [] false (H149 p62 p63 p64 f4 k4 is4 hs4 hf4 r140 e141) ⟨tv,tv,tv,tv,tv⟩ (by kernel_rfl) (congrArg (fun z=>Gq.mk z []) (Bb rfl (Bb rfl (Bb rfl (Bb (Ey hs4) rfl))))) (by kernel_rfl) (by kernel_rfl) (fun _=>Az rfl (Az (cH (fun _=>rfl)) rfl)) (Cz (Cb ⟨[(0,Ae 2097152 r140)],[],[]⟩ (fg ⟨congrArg (fun z=>some ((z:V))) (Fa c142),tv⟩ tv) ?_)))))
    obtain rfl:=sj h1
    obtain rfl:=hx1 _ rfl
    obtain rfl:=sj h0
    exact Hj (hR1 _ (Dk rfl rfl rfl rfl rfl ⟨⟨rfl,Jc (fun _=>rfl)⟩,tv⟩))
   ·refine Ba 7 (Mn p63 p64 f4 k4 p66 p67 [(0,Ae 2097152 p62),(3,iV p65),(12,iV (wi (p64-p63))),(39,.bool (!p66))]) [] (Lw (cb:=(!p66)) (fun S=>∃p147:List Aa,∃p148:Int,S=⟨Mn p63 p64 f4 k4 p66 p67 [(0,Ae 2097152 p147),(3,iV p148),(12,iV (wi (p64-p63)))],[],[]⟩∧Md is4 rc137 p63 p64 p66 p67 p147 p148=some o1) rfl ?_ (fun c210 J209=>?_) (fun c210 J209=>?_))
    ·rintro _ ⟨p147,p148,rfl,h1⟩
     refine Bj 6 (Ar (bb h1 fun r149 e150 h1=>st (Cq (r:=.tup [iV r149.1,iV r149.2]) false (H151 p147 p63 p64 f4 k4 is4 hs4 hf4 r149 e150) ⟨tv,tv,tv,tv,tv⟩ rfl (Bb rfl (Bb rfl (Bb rfl (Bb (Ey hs4) rfl)))) (fun _=>rfl) (o_ (Ba 12 (Mn p63 p64 f4 k4 p66 p67 [(0,Ae 2097152 p147),(3,iV p148),(12,iV (wi (p64-p63))),(13,iV r149.1),(14,iV r149.2),(56,.bool (r149.2==2))]) [] (Lw (cb:=(r149.2==2)) (fun S=>∃p157:List Aa,∃p158:Int,∃p159:Int,S=⟨Mn p63 p64 f4 k4 p66 p67 [(0,Ae 2097152 p157),(3,iV p148),(12,iV (wi (p64-p63))),(13,iV p158),(14,iV p159)],[],[]⟩∧Rb is4 rc137 p63 p64 p66 p67 p148 p157 p158 p159=some o1) rfl ?_ (fun c203 J202=>?_) (fun c203 J202=>?_)))))))
     ·rintro _ ⟨p157,p158,p159,rfl,h1⟩
      refine Bj 5 (Ar (st (Cw (u:=.bool p67) rfl (fun hg=>(Eb (v:=.bool p67) rfl tv)) (st (Fw rfl rfl rfl (fun h=>fI h) tv rfl (st (Bm rfl tv (st (Cw (u:=iV p159) rfl (fun hg=>(Eb (v:=iV p159) rfl tv)) (st (Cw (u:=.bool (p159==1)) rfl (fun hg=>(Bn ⟨(fun _=>hg),tv,tv⟩ rfl tv)) (st (Fw rfl rfl rfl (fun h=>fI h) tv rfl (o_ (Ba 1 (Mn p63 p64 f4 k4 p66 p67 [(0,Ae 2097152 p157),(3,iV p148),(12,iV (wi (p64-p63))),(13,iV p158),(75,.bool (bif (bif p66 then p67 else false) then (p159==1) else false))]) [] (Lw (cb:=(bif (bif p66 then p67 else false) then (p159==1) else false)) (fun S=>∃p165:List Aa,S=⟨Mn p63 p64 f4 k4 p66 p67 [(0,Ae 2097152 p165),(3,iV p148),(12,iV (wi (p64-p63))),(13,iV p158)],[],[]⟩∧Tw is4 rc137 p63 p64 p66 p67 p148 p158 p165=some o1) rfl ?_ (fun c197 J196=>?_) (fun c197 J196=>?_)))))))))))))))))
      ·rintro _ ⟨p165,rfl,h1⟩
       refine Ot 3 (bb h1 fun y166 e167 h1=>bb h1 fun y168 e169 h1=>bb h1 fun y170 e171 h1=>bb h1 fun y172 e173 h1=>bb h1 fun r174 e175 h1=>Bj 3 (Bq (Al tv (Cw (u:=.clo f4 k4) rfl (fun hg=>(Eb (v:=.clo f4 k4) rfl tv)) (⟨tv,Al tv (Cw (u:=Ae 2097152 p165) rfl (fun hg=>(Eb (v:=Ae 2097152 p165) rfl tv)) (⟨tv,Al tv (Cw (u:=iV p63) rfl (fun hg=>(Eb (v:=iV p63) rfl tv)) (⟨tv,Al tv (Cw (u:=iV (wi (p63-1))) rfl (fun hg=>(Bn ⟨(fun _=>hg),tv,tv⟩ rfl tv)) (⟨tv,Al tv (Cw (u:=.optr 2097152 4 (0+((wi (p63-1)).toNat)) 0) rfl (fun hg=>(Fb (e:=Ab) (y:=y166) rfl rfl (fun _=>hg) rfl rfl (fun _=>hg) (ip hg e167))) (⟨tv,Ci (Cw (u:=.agg (Ab y168)) rfl (fun hg=>(Bo (e:=Ab) (y:=y168) (v:=.agg (Ab y168)) rfl rfl (fun _=>hg) rfl rfl (ip hg e169) rfl (nl rfl) rfl)) (⟨⟨Bx (v:=.agg (Ab y168)) rfl (fun hg=>(Bo (e:=Ab) (y:=y168) (v:=.agg (Ab y168)) rfl rfl (fun _=>hg) rfl rfl (ip hg e169) rfl (nl rfl) rfl)) rfl,tv⟩,Al tv (Cw (u:=Ae 2097152 p165) rfl (fun hg=>(Eb (v:=Ae 2097152 p165) rfl tv)) (⟨⟨Bx (v:=.agg (Ab y168)) rfl (fun hg=>(Bo (e:=Ab) (y:=y168) (v:=.agg (Ab y168)) rfl rfl (fun _=>hg) rfl rfl (ip hg e169) rfl (nl rfl) rfl)) rfl,tv⟩,Al tv (Cw (u:=iV p158) rfl (fun hg=>(Eb (v:=iV p158) rfl tv)) (⟨⟨Bx (v:=.agg (Ab y168)) rfl (fun hg=>(Bo (e:=Ab) (y:=y168) (v:=.agg (Ab y168)) rfl rfl (fun _=>hg) rfl rfl (ip hg e169) rfl (nl rfl) rfl)) rfl,tv⟩,Al tv (Cw (u:=.optr 2097152 4 (0+p158.toNat) 0) rfl (fun hg=>(Fb (e:=Ab) (y:=y170) rfl rfl (fun _=>hg) rfl rfl (fun _=>hg) (ip hg e171))) (⟨⟨Bx (v:=.agg (Ab y168)) rfl (fun hg=>(Bo (e:=Ab) (y:=y168) (v:=.agg (Ab y168)) rfl rfl (fun _=>hg) rfl rfl (ip hg e169) rfl (nl rfl) rfl)) rfl,tv⟩,Ci (Cw (u:=.agg (Ab y172)) rfl (fun hg=>(Bo (e:=Ab) (y:=y172) (v:=.agg (Ab y172)) rfl rfl (fun _=>hg) rfl rfl (ip hg e173) rfl (nl rfl) rfl)) (⟨⟨Bx (v:=.agg (Ab y172)) rfl (fun hg=>(Bo (e:=Ab) (y:=y172) (v:=.agg (Ab y172)) rfl rfl (fun _=>hg) rfl rfl (ip hg e173) rfl (nl rfl) rfl)) rfl,Bx (v:=.agg (Ab y168)) rfl (fun hg=>(Bo (e:=Ab) (y:=y168) (v:=.agg (Ab y168)) rfl rfl (fun _=>hg) rfl rfl (ip hg e169) rfl (nl rfl) rfl)) rfl,tv⟩,Ck (Iu (r:=iV r174) rfl rfl rfl (fun hg=>hg) false (fun hg=>hf4 _ _ r174 (ip hg e175)) ⟨(fun hg=>hg),(fun hg=>hg),tv⟩ (fun _=>(ar (Az rfl hs4.2.2.1))) (fun _=>(Bb rfl (Bb rfl (hs4.2.1 _ _ _ _ _)))) (fun _=>rfl) (fun h=>nomatch h) (dw [(0,Ae 2097152 p165),(1,iV p63),(2,iV p64),(3,iV p148),(4,.clo f4 k4),(10,.bool p66),(11,.bool p67),(12,iV (wi (p64-p63))),(13,iV p158),(83,.bool (decide (p63>0))),(94,.may ((decide (p63>0))==true) (iV r174))] [] tv (Al tv (Cw (u:=.bool (decide (r174<0))) rfl (fun hg=>(Bn ⟨(fun _=>hg),tv,tv⟩ rfl tv)) (⟨tv,?_⟩))))) Bg⟩))⟩))⟩))⟩))⟩))⟩))⟩))⟩))⟩))⟩)))))
       refine Al tv (Cw (u:=.bool (!(decide (r174<0)))) rfl (fun hg=>(Bn ⟨(fun _=>hg),tv⟩ rfl tv)) (⟨tv,Al tv (Fw rfl rfl rfl (fun h=>fI h) tv rfl (⟨tv,d_ (Ba 1 (Mn p63 p64 f4 k4 p66 p67 [(0,Ae 2097152 p165),(3,iV p148),(12,iV (wi (p64-p63))),(13,iV p158),(97,.bool (bif (decide (p63>0)) then (!(decide (r174<0))) else false))]) [] (Cs h1 (fun c176 h1=>?_) (fun c176 h1=>?_)))⟩))⟩))
       ·refine Bj 6 (Ar (bb h1 fun r177 e178 h1=>gg h1 fun c179 h1=>st (Ef [] [2097152] [] false (H154 p165 p63 p64 p158 f4 k4 is4 hs4 hf4 r177 e178) ⟨tv,tv,tv,tv,tv,tv⟩ (by kernel_rfl) (congrArg (fun z=>Gq.mk z []) (Bb rfl (Bb rfl (Bb rfl (Bb rfl (Bb (Ey hs4) rfl)))))) (by kernel_rfl) (by kernel_rfl) (fun _=>Az rfl (Az (cH (fun _=>rfl)) rfl)) (sw ⟨[(0,Ae 2097152 r177.2),(2,iV p64),(3,iV p148),(4,.clo f4 k4),(10,.bool p66),(11,.bool p67),(103,iV r177.1)],[],[]⟩ (fg ⟨congrArg (fun z=>some ((z:V))) (Fa c179),rfl,rfl,rfl,rfl,rfl,rfl,tv⟩ tv) (Bm rfl tv (o_ (Ba 6 [(0,Ae 2097152 r177.2),(1,iV r177.1),(2,iV p64),(3,iV p148),(4,.clo f4 k4),(10,.bool p66),(11,.bool p67)] [] (ex_ rfl ?_))))))))
        obtain rfl:=sj h1
        exact kn hK1 rfl rfl
       ·refine Bj 8 (Ar (bb h1 fun r180 e181 h1=>gg h1 fun c182 h1=>st (Ef [] [2097152] [] false (H155 p165 p63 p64 p158 f4 k4 is4 hs4 hf4 r180 e181) ⟨tv,tv,tv,tv,tv,tv⟩ (by kernel_rfl) (congrArg (fun z=>Gq.mk z []) (Bb rfl (Bb rfl (Bb rfl (Bb rfl (Bb (Ey hs4) rfl)))))) (by kernel_rfl) (by kernel_rfl) (fun _=>Az rfl (Az (cH (fun _=>rfl)) rfl)) (sw ⟨[(0,Ae 2097152 r180.2.2),(1,iV p63),(2,iV p64),(3,iV p148),(4,.clo f4 k4),(12,iV (wi (p64-p63))),(111,.tup [iV r180.1,.bool r180.2.1])],[],[]⟩ (fg ⟨congrArg (fun z=>some ((z:V))) (Fa c182),rfl,rfl,rfl,rfl,rfl,rfl,tv⟩ tv) (Bm rfl tv (o_ (Ba 21 [(0,Ae 2097152 r180.2.2),(1,iV p63),(2,iV p64),(3,iV p148),(4,.clo f4 k4),(11,.bool r180.2.1),(12,iV (wi (p64-p63))),(16,iV r180.1),(18,iV (wi (r180.1-p63))),(19,iV (wi (p64-r180.1)))] [] (Aw (Ar (st (Bm rfl tv (st (c_ (Bn ⟨tv,tv,tv⟩ rfl (by decide)) (st (Bm rfl tv ?_)))))))))))))))
        refine o_ (Ba 1 [(0,Ae 2097152 r180.2.2),(1,iV p63),(2,iV p64),(3,iV p148),(4,.clo f4 k4),(11,.bool r180.2.1),(16,iV r180.1),(18,iV (wi (r180.1-p63))),(19,iV (wi (p64-r180.1))),(20,iV (wi (((wi (p64-p63))).tdiv 8)))] [] (Bj 5 (bv h1 fun v183 e184 h1=>Cb ⟨[(0,Ae 2097152 r180.2.2),(1,iV p63),(2,iV p64),(3,iV p148),(4,.clo f4 k4),(11,.bool r180.2.1),(16,iV r180.1),(18,iV (wi (r180.1-p63))),(19,iV (wi (p64-r180.1))),(20,iV (wi (((wi (p64-p63))).tdiv 8))),(125,.bool v183)],[],[]⟩ (fg ⟨(by subst e184; rfl),(by subst e184; rfl),(by subst e184; rfl),(by subst e184; rfl),(by subst e184; rfl),(by subst e184; rfl),(by subst e184; rfl),(by subst e184; rfl),(by subst e184; rfl),(by subst e184; rfl),(by subst e184; rfl),tv⟩ tv) (Cs h1 (fun c185 h1=>?_) (fun c185 h1=>?_)))))
        ·refine Bj 6 (bv h1 fun v186 e187 h1=>Cb ⟨[(0,Ae 2097152 r180.2.2),(1,iV p63),(2,iV p64),(3,iV p148),(4,.clo f4 k4),(10,.bool v186),(11,.bool r180.2.1),(16,iV r180.1)],[],[]⟩ (fg ⟨(by subst e187; rfl),(by subst e187; rfl),(by subst e187; rfl),(by subst e187; rfl),(by subst e187; rfl),(by subst e187; rfl),(by subst e187; rfl),(by subst e187; rfl),tv⟩ tv) (Bj 6 (Ar (bb h1 fun r188 e189 h1=>gg h1 fun c190 h1=>st (Ef [] [2097152] [] false (R137 r180.2.2 p63 r180.1 p148 f4 k4 is4 hs4 hf4 r188 e189) ⟨tv,tv,tv,tv,tv,tv⟩ (by kernel_rfl) (congrArg (fun z=>Gq.mk z []) (Bb rfl (Bb rfl (Bb rfl (Bb rfl (Bb (Ey hs4) rfl)))))) (by kernel_rfl) (by kernel_rfl) (fun _=>Az rfl (Az (cH (fun _=>rfl)) rfl)) (Cz (Cb ⟨[(0,Ae 2097152 r188),(2,iV p64),(3,iV p148),(4,.clo f4 k4),(10,.bool v186),(11,.bool r180.2.1),(16,iV r180.1)],[],[]⟩ (fg ⟨congrArg (fun z=>some ((z:V))) (Fa c190),rfl,rfl,rfl,rfl,rfl,rfl,tv⟩ tv) (Bj 5 ?_))))))))
         obtain rfl:=sj h1
         exact kn hK1 rfl rfl
        ·refine Bj 6 (bv h1 fun v191 e192 h1=>Cb ⟨[(0,Ae 2097152 r180.2.2),(1,iV p63),(2,iV p64),(3,iV p148),(4,.clo f4 k4),(10,.bool v191),(11,.bool r180.2.1),(16,iV r180.1)],[],[]⟩ (fg ⟨(by subst e192; rfl),(by subst e192; rfl),(by subst e192; rfl),(by subst e192; rfl),(by subst e192; rfl),(by subst e192; rfl),(by subst e192; rfl),(by subst e192; rfl),tv⟩ tv) (Bj 7 (Ar (bb h1 fun r193 e194 h1=>gg h1 fun c195 h1=>st (Ef [] [2097152] [] false (R137 r180.2.2 (wi (r180.1+1)) p64 p148 f4 k4 is4 hs4 hf4 r193 e194) ⟨tv,tv,tv,tv,tv,tv⟩ (by kernel_rfl) (congrArg (fun z=>Gq.mk z []) (Bb rfl (Bb rfl (Bb rfl (Bb rfl (Bb (Ey hs4) rfl)))))) (by kernel_rfl) (by kernel_rfl) (fun _=>Az rfl (Az (cH (fun _=>rfl)) rfl)) (Cz (Cb ⟨[(0,Ae 2097152 r193),(1,iV p63),(3,iV p148),(4,.clo f4 k4),(10,.bool v191),(11,.bool r180.2.1),(16,iV r180.1)],[],[]⟩ (fg ⟨congrArg (fun z=>some ((z:V))) (Fa c195),rfl,rfl,rfl,rfl,rfl,rfl,tv⟩ tv) (Bj 4 ?_))))))))
         obtain rfl:=sj h1
         exact kn hK1 rfl rfl
      ·replace h1:=ip c197 h1
       refine Bj 5 (Ar (bb h1 fun r198 e199 h1=>gg h1 fun c200 h1=>st (Ef [] [2097152] [] false (H153 p157 p63 p64 f4 k4 is4 hs4 hf4 r198 e199) ⟨tv,tv,tv,tv,tv⟩ (by kernel_rfl) (congrArg (fun z=>Gq.mk z []) (Bb rfl (Bb rfl (Bb rfl (Bb (Ey hs4) rfl))))) (by kernel_rfl) (by kernel_rfl) (fun _=>Az rfl (Az (cH (fun _=>rfl)) rfl)) (Cz (Cb ⟨[(0,Ae 2097152 r198.2),(1,iV p63),(2,iV p64),(3,iV p148),(4,.clo f4 k4),(10,.bool p66),(11,.bool p67),(12,iV (wi (p64-p63))),(13,iV p158),(80,.bool r198.1)],[],[]⟩ (fg ⟨congrArg (fun z=>some ((z:V))) (Fa c200),rfl,rfl,rfl,rfl,rfl,rfl,rfl,rfl,rfl,tv⟩ tv) (Cs h1 (fun c201 h1=>?_) (fun c201 h1=>?_)))))))
       ·obtain rfl:=sj h1
        obtain rfl:=hx1 _ rfl
        obtain rfl:=sj h0
        exact Hj (hR1 _ (Dk rfl rfl rfl rfl rfl ⟨⟨rfl,Jc (fun _=>rfl)⟩,tv⟩))
       ·refine Hb ?_
        exact jn J196 ⟨_,rfl,h1⟩
      ·replace h1:=Kn c197 h1
       refine Hb ?_
       exact jn J196 ⟨_,rfl,h1⟩
     ·replace h1:=ip c203 h1
      refine Bj 5 (Ar (bb h1 fun r204 e205 h1=>gg h1 fun c206 h1=>st (Ef [] [2097152] [] false (H152 p147 p63 p64 f4 k4 is4 hs4 hf4 r204 e205) ⟨tv,tv,tv,tv,tv⟩ (by kernel_rfl) (congrArg (fun z=>Gq.mk z []) (Bb rfl (Bb rfl (Bb rfl (Bb (Ey hs4) rfl))))) (by kernel_rfl) (by kernel_rfl) (fun _=>Az rfl (Az (cH (fun _=>rfl)) rfl)) (Cz (Cb ⟨[(0,Ae 2097152 r204),(1,iV p63),(2,iV p64),(3,iV p148),(4,.clo f4 k4),(10,.bool p66),(11,.bool p67),(12,iV (wi (p64-p63))),(13,iV r149.1)],[],[]⟩ (fg ⟨congrArg (fun z=>some ((z:V))) (Fa c206),rfl,rfl,rfl,rfl,rfl,rfl,rfl,rfl,tv⟩ tv) (Bj 9 (bv h1 fun v207 e208 h1=>Cb ⟨[(0,Ae 2097152 r204),(1,iV p63),(2,iV p64),(3,iV p148),(4,.clo f4 k4),(10,.bool p66),(11,.bool p67),(12,iV (wi (p64-p63))),(13,iV v207)],[],[]⟩ (fg ⟨(by subst e208; rfl),(by subst e208; rfl),(by subst e208; rfl),(by subst e208; rfl),(by subst e208; rfl),(by subst e208; rfl),(by subst e208; rfl),(by subst e208; rfl),(by subst e208; rfl),tv⟩ tv) (Ar (st (Ff tv (Cz ?_)))))))))))
      exact jn J202 ⟨_,_,_,rfl,h1⟩
     ·replace h1:=Kn c203 h1
      refine Hb ?_
      exact jn J202 ⟨_,_,_,rfl,h1⟩
    ·replace h1:=ip c210 h1
     refine Bj 5 (Ar (bb h1 fun r211 e212 h1=>gg h1 fun c213 h1=>st (Ef [] [2097152] [] false (H150 p62 p63 p64 f4 k4 is4 hs4 hf4 r211 e212) ⟨tv,tv,tv,tv,tv⟩ (by kernel_rfl) (congrArg (fun z=>Gq.mk z []) (Bb rfl (Bb rfl (Bb rfl (Bb (Ey hs4) rfl))))) (by kernel_rfl) (by kernel_rfl) (fun _=>Az rfl (Az (cH (fun _=>rfl)) rfl)) (Cz (Cb ⟨[(0,Ae 2097152 r211),(1,iV p63),(2,iV p64),(3,iV p65),(4,.clo f4 k4),(10,.bool p66),(11,.bool p67),(12,iV (wi (p64-p63)))],[],[]⟩ (fg ⟨congrArg (fun z=>some ((z:V))) (Fa c213),rfl,rfl,rfl,rfl,rfl,rfl,rfl,tv⟩ tv) (Bj 4 ?_))))))
     exact jn J209 ⟨_,_,rfl,h1⟩
    ·replace h1:=Kn c210 h1
     refine Hb ?_
     exact jn J209 ⟨_,_,rfl,h1⟩

/- slices.SortFunc[[]loop.example/g00149/impl.Lease,loop.example/g00149/impl.Lease] -/
def LE:=[m_ 5 0,n_ 6 5,m_ 4 6]
def LF:=[m_ 7 0,m_ 8 4,m_ 9 4,iQ 10 (.conv .u64 (.t 9)),q_ 11 138 [.t 10],m_ 12 1,q_ 13 137 [.t 7,.c (iV 0),.t 8,.t 11,.t 12]]
def c116:Dv:=⟨2,14,[],sr LE (.reg LF)⟩
def K116 (C:Bl) (D:Bl:=C):Prop:=∀(a0:List Aa) (f1:Nat) (k1:List V) (is1:Aa→Aa→Option Int) (hs1:Jh k1) (hf1:∀(x0:Aa) (x1:Aa) r,is1 x0 x1=some r→C f1 ⟨.agg (Ab x0) :: .agg (Ab x1)::k1,[]⟩ ⟨iV r,[],[]⟩) (r:(List Aa)),DF a0 is1=some r→D 116 ⟨[Ae 2097152 a0,.clo f1 k1],[]⟩ ⟨.tup [],[],[(0,4,r.map Ab)]⟩
theorem F116 (H137:K137 C) (H138:HQ C):K116 C (FO C c116):=by
 intro a0 f1 k1 is1 hs1 hf1 r h0
 refine f0 (Aw (Ar (st (Bm rfl tv (bJ rfl (o_ (Ba 2 [(0,Ae 2097152 a0),(1,.clo f1 k1),(4,iV (a0.length:Int))] [] (Bj 4 (Ar (bb h0 fun r1 e2 h0=>Sn (H138 (IntKind.u64.wrap (a0.length:Int)) r1 e2) (st (Bm rfl tv (bb h0 fun r3 e4 h0=>gg h0 fun c5 h0=>st (Ef [] [2097152] [] false ((H137 Oy) a0 0 (a0.length:Int) r1 f1 k1 is1 hs1 hf1 r3 e4) ⟨tv,tv,tv,tv,tv,tv⟩ (by kernel_rfl) (congrArg (fun z=>Gq.mk z []) (Bb rfl (Bb rfl (Bb rfl (Bb rfl (Bb (Ey hs1) rfl)))))) (by kernel_rfl) (by kernel_rfl) (fun _=>Az rfl (Az (cH (fun _=>rfl)) rfl)) (Cz ?_)))))))))))))))
 obtain rfl:=sj h0
 exact bV (bU (S1:=⟨[(0,Ae 2097152 r3),(7,Ae 2097152 r3)],[],[]⟩) (fg ⟨congrArg (fun z=>some ((z:V))) (Fa c5),congrArg (fun z=>some ((z:V))) (Fa c5),tv⟩ tv) (Dk rfl rfl rfl rfl rfl ⟨⟨rfl,Jc (fun _=>rfl)⟩,tv⟩))

/- (loop.example/g00149/impl.Table).tick -/
def c82_r0:List Cf:=[X_ 2 0,a_ 4 (zT 259),⟨some 5,.nilS 1,none⟩]
def c82_r1:=[L_ 10 2 3,q_ 11 112 [.t 10],a_ 6 (zT 387),s_ 6 11 3]
def c82_r2:=[f_ 12 2 0,l_ 13 12 1,m_ 14 1,iQ 15 (.mx (.t 13) (.t 14)),f_ 16 6 0,s_ 16 15 1]
def c82_r3:List Cf:=[⟨some 7,.nilS 4,none⟩]
def c82_r4:=[f_ 17 6 2,l_ 18 17 1,n_ 19 18,i_ 20 0]
def c82_r5:=[b_ .lss 21 20 19]
def c82_r6:=[m_ 22 20,x_ 23 18 20 4,L_ 24 23 4,a_ 9 [iV 0,iV 0,iV 0,.bool false],m_ 8 22,s_ 9 24 4]
def c82_r7:=[f_ 25 9 3,l_ 26 25 1,N_ 27 26,m_ 28 27,fT 28 29 9 1,lT 28 30 29 1 false,fT 28 31 6 0,lT 28 32 31 1 false,pT 28 33 (.bin .leq (.t 30) (.t 32)),pa 34 28 33]
def c82_r8:List Cf:=[f_ 35 6 2,l_ 36 35 1,m_ 37 8,x_ 38 36 37 4,f_ 39 38 3,⟨none,.store (.t 39) (.c (.bool true)) 1,none⟩]
def c82_r9:List Cf:=[m_ 40 7,L_ 41 9 4,⟨some 42,.mkS 4 [iV 0,iV 0,iV 0,.bool false] 1 [(0,.t 41)],none⟩,⟨some 43,.app 4 32 (.t 40) (.t 42),none⟩,m_ 7 43]
def AdH:=[B_ .add 44 20 1,m_ 20 44]
def c82_l0:IR:=(sr c82_r5 (.seq (.ite (.t 21) .skip (.exit 0)) (.seq (.block 1 (sr c82_r6 (sr c82_r7 (iz 34 (sr c82_r8 (.reg c82_r9)))))) (.reg AdH))))
def AdI:=[m_ 45 7,q_ 46 116 [.t 45,.c (.clo 69 [])]]
def AdJ:=tk [L_ 47 6 3,m_ 48 7,⟨some 49,.p (.build (zT 3139) [(2,1,.t 48)]),none⟩] (.alt [L_ 47 6 3] (q_ 50 60 [.t 49]) (.alt [] (s_ 4 47 3) (tk [m_ 5 50] .fin) .stop) .stop)
def c82:Dv:=⟨2,51,[.cell 4 3 true,.t 5],sr c82_r0 (sr c82_r1 (sr c82_r2 (sr c82_r3 (.seq (sr c82_r4 (Im 0 c82_l0)) (sr AdI (sd AdJ .ret))))))⟩
def K82 (D:Bl):Prop:=∀a0 a1 r,g82 a0 a1=some r→D 82 ⟨[.agg (Bk a0),iV a1],[]⟩ ⟨.tup [.agg (Cp r.1 (Aq 0)),oI 1 r.2],[],[]⟩
abbrev Sd:=fun (r:List (Nat×List V))=>(256,Bt 0 0 (Aq 259) [])::r
abbrev Vd:=fun (r:List (Nat×V))=>(4,.ptr 256 0)::(6,.ptr 384 0)::r
theorem F82 (H60:K60 C) (H69:K69 C) (H112:iG C) (H116:K116 C):K82 (FO C c82):=by
 intro a0 a1 r h0
 refine f0 (Ba 5 [(1,iV a1),(2,.ptr 128 0),(4,.ptr 256 0)] (Sd [(128,Bk a0)]) (Bj 2 (Ar (bb h0 fun r1 e2 h0=>Vp (H112 a0 r1 e2) (ar (Az rfl (af rfl))) (o_ (Ba 16 (Vd [(7,.own 448 0 4 ([].map Ab))]) (Sd [(384,Bt (if a1>a0.clock then a1 else a0.clock) r1.next (Aq 704) r1.Af)]) (Bj 4 (Ar (bJ rfl (o_ (Ba 2 (Vd [(7,.own 448 0 4 ([].map Ab)),(18,Ae 704 r1.Af),(19,iV (r1.Af.length:Int)),(20,iV 0)]) (Sd [(384,Bt (if a1>a0.clock then a1 else a0.clock) r1.next (Aq 704) r1.Af)]) (Bu (bb h0 fun r74 e75 h0=>Cv (R:=(fun S=>∃p43:List Aa,∃p44:List Aa,(p43,p44)=r74∧S=⟨Vd [(7,Ae 448 p43)],Sd [(384,Bt (if a1>a0.clock then a1 else a0.clock) r1.next (Aq 704) p44)],[]⟩)) (Sq a0 a1 r1) (fun s S=>match s with | (p19,p20,p21)=>S=⟨Vd [(7,Ae 448 p19),(18,Ae 704 p20),(19,iV (r1.Af.length:Int)),(20,iV p21)],Sd [(384,Bt (if a1>a0.clock then a1 else a0.clock) r1.next (Aq 704) p20)],[]⟩) e75 _ (Cj (by kernel_rfl)) rfl 0 (fun _=>rfl) ?_ ?_)))))))))))))
 ·rintro S _ hfg ⟨p43,p44,rfl,rfl⟩
  refine Cb _ hfg (Aw (Ar (st (Bm rfl tv (bb h0 fun r76 e77 h0=>gg h0 fun c78 h0=>st (Ef [] [448] [] false (H116 p43 69 [] (fun z69_0 z69_1=>g69 z69_0 z69_1) (⟨fun _ _ _ _ _=>rfl,fun _ _ _ _ _=>rfl,rfl,fun _ _ _ n=>by cases n<;>rfl,fun _=>rfl⟩) (fun z69_0 z69_1 r h=>H69 z69_0 z69_1 r h) r76 e77) ⟨tv,tv,tv⟩ (by kernel_rfl) (by kernel_rfl) (by kernel_rfl) (by kernel_rfl) (fun _=>Az rfl (Az (cH (fun _=>rfl)) rfl)) (Cz (Cb ⟨[(4,.ptr 256 0),(6,.ptr 384 0),(7,Ae 448 r76)],[(256,Bt 0 0 (Aq 259) []),(384,Bt (if a1>a0.clock then a1 else a0.clock) r1.next (Aq 704) p44)],[]⟩ (fg ⟨rfl,rfl,congrArg (fun z=>some ((z:V))) (Fa c78),tv⟩ ⟨rfl,rfl,tv⟩) (Aw (bb h0 fun r79 e80 h0=>Bj 2 (Bq (Al tv (c_ (v:=.agg (Bt 0 0 (Aq 448) r76)) (Bn ⟨tv,tv⟩ rfl ⟨⟨rfl,rfl,nl rfl⟩,tv⟩) (⟨tv,cG (H60 (As.mk 0 0 r76) r79 e80) (af rfl) (dw [(4,.ptr 256 0),(6,.ptr 384 0),(47,.agg (Bt (if a1>a0.clock then a1 else a0.clock) r1.next (Aq 704) p44)),(50,oI 3200 r79)] [(256,Bt 0 0 (Aq 259) []),(384,Bt (if a1>a0.clock then a1 else a0.clock) r1.next (Aq 704) p44)] hB (Ck (Gm rfl rfl tv rfl rfl rfl (nl rfl) (d0 tv (d_ (Ba 2 [(4,.ptr 256 0),(5,oI 3200 r79)] [(256,Bt (if a1>a0.clock then a1 else a0.clock) r1.next (Aq 704) p44)] ?_)))) Bg)) Bg⟩))))))))))))))
  obtain rfl:=sj h0
  exact Hj (Dk rfl rfl rfl rfl rfl tv)
 ·rintro ⟨p19,p20,p21⟩ o1 _ K1 rfl h1 hx1 hK1 hE1 hR1
  refine Ba 3 (Vd [(7,Ae 448 p19),(18,Ae 704 p20),(19,iV (r1.Af.length:Int)),(20,iV p21),(21,.bool (decide (p21<(r1.Af.length:Int))))]) (Sd [(384,Bt (if a1>a0.clock then a1 else a0.clock) r1.next (Aq 704) p20)]) (Aw (Cs h1 (fun c45 h1=>?_) (fun c45 h1=>?_)))
  ·refine Ot 3 (Lc (fun S=>∃p58:List Aa,∃p59:List Aa,S=⟨Vd [(7,Ae 448 p58),(18,Ae 704 p59),(19,iV (r1.Af.length:Int)),(20,iV p21)],Sd [(384,Bt (if a1>a0.clock then a1 else a0.clock) r1.next (Aq 704) p59)],[]⟩∧aH p21 p58 p59=some o1) ?_ (fun J61=>?_))
   ·rintro _ ⟨p58,p59,rfl,h1⟩
    refine Bj 4 ?_
    obtain rfl:=sj h1
    exact kn hK1 rfl rfl
   ·refine Aw ?_
    refine Ar (st (Bm rfl tv (bb h1 fun y62 e63 h1=>Zb rfl rfl e63 (bb h1 fun y64 e65 h1=>lo_ rfl rfl e65 (o_ (Ba 4 (Vd [(7,Ae 448 p19),(8,iV p21),(9,.ptr 576 0),(18,Ae 704 p20),(19,iV (r1.Af.length:Int)),(20,iV p21)]) (Sd [(384,Bt (if a1>a0.clock then a1 else a0.clock) r1.next (Aq 704) p20),(576,Ab y64)]) (jE 12 (bv h1 fun v66 e67 h1=>Cb ⟨Vd [(7,Ae 448 p19),(8,iV p21),(9,.ptr 576 0),(18,Ae 704 p20),(19,iV (r1.Af.length:Int)),(20,iV p21),(34,.bool v66)],Sd [(384,Bt (if a1>a0.clock then a1 else a0.clock) r1.next (Aq 704) p20),(576,Ab y64)],[]⟩ (Cj (by subst e67; kernel_rfl)) (Cs h1 (fun c68 h1=>?_) (fun c68 h1=>?_))))))))))
    ·refine Bj 4 (Ar (bb h1 fun y69 e70 h1=>Zb rfl rfl e70 (st (c_ (Bn ⟨tv,tv⟩ rfl tv) (bb h1 fun y71 e72 h1=>kG (Aa.mk y71.id y71.Bp y71.cap true) rfl rfl e72 (o_ (Ba 1 (Vd [(7,Ae 448 p19),(9,.ptr 576 0),(18,Ae 704 (p20.set p21.toNat (Aa.mk y71.id y71.Bp y71.cap true))),(19,iV (r1.Af.length:Int)),(20,iV p21)]) (Sd [(384,Bt (if a1>a0.clock then a1 else a0.clock) r1.next (Aq 704) (p20.set p21.toNat (Aa.mk y71.id y71.Bp y71.cap true))),(576,Ab y64)]) (Bj 3 (Ar (gg h1 fun c73 h1=>st (Lb (e:=Ab) (l0:=p19) (l1:=([y64]:List Aa)) rfl rfl tv rfl (by decide) c73 (st (Bm rfl tv (Cz (Qq ?_)))))))))))))))
     exact jn J61 ⟨_,_,rfl,h1⟩
    ·refine Hb (Qq ?_)
     exact jn J61 ⟨_,_,rfl,h1⟩
  ·obtain rfl:=sj h1
   obtain rfl:=hx1 _ rfl
   refine In rfl ?_
   exact jn hE1 ⟨_,_,rfl,rfl⟩

/- (loop.example/g00149/impl.Vault).tick$1 -/
def AcJ:=[k_ 2 (.bool false)]
def AcK:=[f_ 3 0 6,l_ 4 3 1,B_ .eql 5 4 2,m_ 6 5,lT 6 7 1 1 false,pT 6 8 (.nilc (.t 7)),fT 6 9 8 13,lT 6 10 9 1 false,pT 6 11 (.bin .eql (.t 10) (.c (iV 1))),pa 12 6 11,m_ 2 12]
def c472:Dv:=⟨2,13,[.t 2],sr AcJ (rr AcK)⟩
def K472 (D:Bl):Prop:=∀a0 a1 r,mQ a0 a1=some r→D 472 ⟨[.iptr (Ao a0),.iptr [.iptr (iX a1)]],[]⟩ ⟨.bool r,[],[]⟩
theorem F472:K472 (FO C c472):=by
 intro a0 a1 r h0
 refine f0 (Ba 3 [(0,.iptr (Ao a0)),(1,.iptr [.iptr (iX a1)])] [] (jE 11 (Ar (o_ ?_))))
 obtain rfl:=sj h0
 exact Cy 3

/- slices.IndexFunc[[]loop.example/g00149/impl.Intent,loop.example/g00149/impl.Intent] -/
def AcZ:=[i_ 4 0]
def Ada:=[m_ 6 0,n_ 7 6,i_ 8 0]
def Adb:=[b_ .lss 9 8 7]
def Adc:=[m_ 10 8,m_ 5 10]
def Ade:List Cf:=[m_ 11 1,m_ 12 0,m_ 13 5,x_ 14 12 13 2,L_ 15 14 2,⟨some 16,.callv (.t 11) [.t 15],none⟩]
def Adf:=[m_ 17 5,m_ 4 17]
def Adg:=[B_ .add 18 8 1,m_ 8 18]
def AcY:IR:=(sr Adb (.seq (.ite (.t 9) .skip (.exit 0)) (.seq (.block 1 (sr Adc (sr Ade (iz 16 (rr Adf))))) (.reg Adg))))
def Adh:=[i_ 4 (-1)]
def c475:Dv:=⟨2,19,[.t 4],sr AcZ (.seq (sr Ada (Im 0 AcY)) (rr Adh))⟩
def K475 (C:Bl) (D:Bl:=C):Prop:=∀(a0:List Ag) (f1:Nat) (k1:List V) (is1:Ag→Option Bool) (hs1:Jh k1) (hf1:∀(x0:Ag) r,is1 x0=some r→C f1 ⟨.agg (Ca x0)::k1,[]⟩ ⟨.bool r,[],[]⟩) (r:Int),g475 a0 is1=some r→D 475 ⟨[Ce a0,.clo f1 k1],[]⟩ ⟨iV r,[],[]⟩
theorem F475:K475 C (FO C c475):=by
 intro a0 f1 k1 is1 hs1 hf1 r h0
 refine f0 (Ba 3 [(0,Ce a0),(1,.clo f1 k1)] [] (Bj 3 (Ar (Nh rfl (o_ (Ba 2 [(0,Ce a0),(1,.clo f1 k1),(7,iV (a0.length:Int)),(8,iV 0)] [] (Bu (bb h0 fun r21 e22 h0=>Cv (R:=(fun S=>.inl ()=r21∧S=⟨[],[],[]⟩)) (pH a0 is1) (fun s S=>match s with | p7=>S=⟨[(0,Ce a0),(1,.clo f1 k1),(7,iV (a0.length:Int)),(8,iV p7)],[],[]⟩) e22 _ (Cj (by kernel_rfl)) rfl 0 (fun _=>rfl) ?_ ?_))))))))
 ·rintro S _ hfg ⟨rfl,rfl⟩
  refine Cb _ hfg ?_
  obtain rfl:=sj h0
  exact Cy 4
 ·rintro p7 o1 _ K1 rfl h1 hx1 hK1 hE1 hR1
  refine Ba 3 [(0,Ce a0),(1,.clo f1 k1),(7,iV (a0.length:Int)),(8,iV p7),(9,.bool (decide (p7<(a0.length:Int))))] [] (Aw (Cs h1 (fun c15 h1=>?_) (fun c15 h1=>?_)))
  ·refine Ba 8 [(0,Ce a0),(1,.clo f1 k1),(5,iV p7),(7,iV (a0.length:Int)),(8,iV p7)] [] (Bj 4 (Ar (bb h1 fun y16 e17 h1=>Ti rfl rfl e17 (st (c_ (v:=.agg (Ca y16)) (Bn ⟨tv,tv⟩ rfl (nl rfl)) (bb h1 fun r18 e19 h1=>st (He (r:=.bool r18) rfl false (hf1 _ r18 e19) ⟨tv,tv⟩ (Az rfl hs1.2.2.1) (Bb rfl (hs1.2.1 _ _ _ _ _)) (fun _=>rfl) (o_ (Ba 1 [(0,Ce a0),(1,.clo f1 k1),(5,iV p7),(7,iV (a0.length:Int)),(8,iV p7),(16,.bool r18)] [] (Cs h1 (fun c20 h1=>?_) (fun c20 h1=>?_)))))))))))
   ·obtain rfl:=sj h1
    obtain rfl:=hx1 _ rfl
    obtain rfl:=sj h0
    exact cR 5 hR1
   ·refine Bj 6 ?_
    obtain rfl:=sj h1
    exact kn hK1 rfl rfl
  ·obtain rfl:=sj h1
   obtain rfl:=hx1 _ rfl
   refine In rfl ?_
   exact jn hE1 ⟨rfl,rfl⟩

/- slices.DeleteFunc[[]loop.example/g00149/impl.Intent,loop.example/g00149/impl.Intent] -/
def AcM:List Cf:=[⟨some 4,.nilS 2,none⟩]
def AcN:=[m_ 8 0,m_ 9 1,q_ 10 475 [.t 8,.t 9],m_ 5 10]
def AcO:=[m_ 11 5,B_ .eql 12 11 (-1)]
def AcP:=[m_ 13 0,m_ 4 13]
def AcQ:=[m_ 14 5,B_ .add 15 14 1,m_ 6 15]
def AcR:=[m_ 16 6,m_ 17 0,n_ 18 17,b_ .lss 19 16 18]
def AcS:=[m_ 22 0,m_ 23 6,x_ 24 22 23 2,L_ 25 24 2,a_ 7 [iV 0,.bool false],s_ 7 25 2]
def AcT:List Cf:=[m_ 26 1,L_ 27 7 2,⟨some 28,.callv (.t 26) [.t 27],none⟩,N_ 29 28]
def AcU:=[m_ 30 0,m_ 31 5,L_ 32 7 2,x_ 33 30 31 2,s_ 33 32 2]
def AcV:=[m_ 34 5,B_ .add 35 34 1,m_ 5 35]
def CH:=[m_ 20 6,B_ .add 21 20 1,m_ 6 21]
def AcL:IR:=(.seq (sr AcR (.ite (.t 19) .skip (.exit 0))) (.seq (.block 1 (sr AcS (sr AcT (iz 29 (sr AcU (.reg AcV)))))) (.reg CH)))
def CI:List Cf:=[m_ 36 0,m_ 37 5,⟨some 38,.p (.slice (.t 36) (some (.t 37)) none 2),none⟩,⟨none,.clear 2 [iV 0,.bool false] (.t 38),none⟩]
def CJ:List Cf:=[m_ 39 0,m_ 40 5,⟨some 41,.p (.slice (.t 39) none (some (.t 40)) 2),none⟩,m_ 4 41]
def c473:Dv:=⟨2,42,[.t 4],sr AcM (sr AcN (.seq (sr AcO (iz 12 (rr AcP))) (.seq (sr AcQ (Im 0 AcL)) (sr CI (rr CJ)))))⟩
def K473 (C:Bl) (D:Bl:=C):Prop:=∀(a0:List Ag) (f1:Nat) (k1:List V) (is1:Ag→Option Bool) (hs1:Jh k1) (hf1:∀(x0:Ag) r,is1 x0=some r→C f1 ⟨.agg (Ca x0)::k1,[]⟩ ⟨.bool r,[],[]⟩) (r:(List Ag)),DT a0 is1=some r→D 473 ⟨[Bs 1024000 a0,.clo f1 k1],[]⟩ ⟨Bs 0 r,[],[]⟩
theorem F473 (H475:K475 C):K473 C (FO C c473):=by
 intro a0 f1 k1 is1 hs1 hf1 r h0
 refine f0 (Aw (Ar (st (eA (Cz (Cb ⟨[(0,Bs 1024000 a0),(1,.clo f1 k1)],[],[]⟩ (fg ⟨rfl,congrArg (fun z=>some z) (iW hs1),tv⟩ tv) (Bj 3 (Ar (bb h0 fun r1 e2 h0=>st (Cq (r:=iV r1) false (H475 a0 f1 k1 is1 hs1 hf1 r1 e2) ⟨tv,tv,tv⟩ rfl (Bb rfl (Bb (Ey hs1) rfl)) (fun _=>rfl) (o_ (Ba 8 [(0,Bs 1024000 a0),(1,.clo f1 k1),(5,iV r1),(12,.bool (r1==(-1)))] [] (Cs h0 (fun c3 h0=>?_) (fun c3 h0=>?_))))))))))))))
 ·obtain rfl:=sj h0
  exact Cy 5
 ·refine Ba 8 [(0,Bs 1024000 a0),(1,.clo f1 k1),(5,iV r1),(6,iV (wi (r1+1)))] [] (Bu (bb h0 fun r66 e67 h0=>Cv (R:=(fun S=>∃p38:List Ag,∃p39:Int,(p38,p39)=r66∧S=⟨[(0,Bs 1024000 p38),(5,iV p39)],[],[]⟩)) (pG is1) (fun s S=>match s with | (p18,p19,p20)=>S=⟨[(0,Bs 1024000 p18),(1,.clo f1 k1),(5,iV p19),(6,iV p20)],[],[]⟩) e67 _ (Cj (by kernel_rfl)) rfl 0 (fun _=>rfl) ?_ ?_))
  ·rintro S _ hfg ⟨p38,p39,rfl,rfl⟩
   refine Cb _ hfg (Bj 3 (Ar (bb h0 fun s68 e69 h0=>st (c_ (Fk (e:=Ca) (y:=s68) rfl rfl tv ⟨tv,tv⟩ rfl rfl e69) (st (clear_ (e:=Ca) (z:=(Ag.mk 0 false)) rfl rfl (Cz (Cb ⟨[(0,Bs 1024000 (ovl p38 p39.toNat (List.replicate s68.length (Ag.mk 0 false)))),(5,iV p39)],[],[]⟩ (fg ⟨congrArg (fun z=>some ((.own 1024000 0 2 z:V))) Jv,rfl,tv⟩ tv) (Bj 3 (Ar (bb h0 fun s70 e71 h0=>st (c_ (Fk (e:=Ca) (y:=s70) rfl rfl tv ⟨tv,tv⟩ rfl rfl e71) (o_ ?_)))))))))))))
   obtain rfl:=sj h0
   exact Cy 3
  ·rintro ⟨p18,p19,p20⟩ o1 _ K1 rfl h1 hx1 hK1 hE1 hR1
   refine Bj 4 (Ar (bJ rfl (o_ (Ba 2 [(0,Bs 1024000 p18),(1,.clo f1 k1),(5,iV p19),(6,iV p20),(19,.bool (decide (p20<(p18.length:Int))))] [] (Cs h1 (fun c40 h1=>?_) (fun c40 h1=>?_))))))
   ·refine Ot 3 (Lc (fun S=>∃p52:List Ag,∃p53:Int,S=⟨[(0,Bs 1024000 p52),(1,.clo f1 k1),(5,iV p53),(6,iV p20)],[],[]⟩∧fX p20 p52 p53=some o1) ?_ (fun J54=>?_))
    ·rintro _ ⟨p52,p53,rfl,h1⟩
     refine Bj 5 ?_
     obtain rfl:=sj h1
     exact kn hK1 rfl rfl
    ·refine Aw ?_
     refine Bj 2 (Ar (bb h1 fun y55 e56 h1=>Zb rfl rfl e56 (bb h1 fun y57 e58 h1=>lo_ rfl rfl e58 (st (Hp (sw ⟨[(0,Bs 1024000 p18),(1,.clo f1 k1),(5,iV p19),(6,iV p20),(7,.ptr 448 0),(25,.agg (Ca y57))],[(448,[iV 0,.bool false])],[]⟩ (fg ⟨rfl,congrArg (fun z=>some z) (iW hs1),rfl,rfl,rfl,rfl,tv⟩ ⟨rfl,tv⟩) (Gm rfl rfl tv rfl rfl rfl (nl rfl) (o_ (Ba 1 [(0,Bs 1024000 p18),(1,.clo f1 k1),(5,iV p19),(6,iV p20),(7,.ptr 448 0)] [(448,Ca y57)] (Bj 3 (Ar (bb h1 fun r59 e60 h1=>st (He (r:=.bool r59) rfl false (hf1 _ r59 e60) ⟨tv,tv⟩ (Az rfl hs1.2.2.1) (Bb rfl (hs1.2.1 _ _ _ _ _)) (fun _=>rfl) (o_ (Ba 2 [(0,Bs 1024000 p18),(1,.clo f1 k1),(5,iV p19),(6,iV p20),(7,.ptr 448 0),(29,.bool (!r59))] [(448,Ca y57)] (Cs h1 (fun c61 h1=>?_) (fun c61 h1=>?_)))))))))))))))))
     ·refine Bj 4 (Ar (bb h1 fun y62 e63 h1=>Zb rfl rfl e63 (bb h1 fun y64 e65 h1=>kG y57 rfl rfl e65 (o_ (Ba 1 [(0,Bs 1024000 (p18.set p19.toNat y57)),(1,.clo f1 k1),(5,iV p19),(6,iV p20)] [] (Bj 5 ?_))))))
      exact jn J54 ⟨_,_,rfl,h1⟩
     ·refine Hb (Qq ?_)
      exact jn J54 ⟨_,_,rfl,h1⟩
   ·obtain rfl:=sj h1
    obtain rfl:=hx1 _ rfl
    refine In rfl ?_
    exact jn hE1 ⟨_,_,rfl,rfl⟩

/- (loop.example/g00149/impl.Vault).tick$2 -/
def AcW:=[X_ 2 0,k_ 3 (.bool false)]
def AcX:=[f_ 4 2 0,l_ 5 4 1,f_ 6 1 0,l_ 7 6 1,b_ .eql 8 5 7,m_ 3 8]
def c474:Dv:=⟨2,9,[.t 3],sr AcW (rr AcX)⟩
def K474 (D:Bl):Prop:=∀a0 a1 r,DU a0 a1=some r→D 474 ⟨[.agg (Ca a0),.iptr (Ca a1)],[]⟩ ⟨.bool r,[],[]⟩
theorem F474:K474 (FO C c474):=by
 intro a0 a1 r h0
 refine f0 (?_)
 obtain rfl:=sj h0
 exact Cy 14
end Go.Ev
