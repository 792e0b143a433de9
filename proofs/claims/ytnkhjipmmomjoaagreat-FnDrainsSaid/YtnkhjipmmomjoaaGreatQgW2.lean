/- The walks of functions: the code comes to the answers that QgD tells. Written by a program of ours. -/
import Derived.Test.YtnkhjipmmomjoaaGreatQgW1
set_option linter.all false
set_option maxHeartbeats 4000000
set_option linter.unusedVariables false
set_option maxRecDepth 100000
namespace Go.Ev
variable {C:Bh}

/- slices.siftDownCmpFunc[loop.example/g00149/impl.Lease] -/
def UL:=[m_ 12 1,m_ 10 12]
def UM:List Bt:=[m_ 13 10,⟨some 14,.p (.bin .mul (.c (iV 2)) (.t 13)),none⟩,B_ .add 15 14 1,m_ 11 15]
def UN:=[m_ 16 11,m_ 17 2,b_ .geq 18 16 17]
def UO:=tk [m_ 19 11,B_ .add 20 19 1,m_ 21 2,b_ .lss 22 20 21,m_ 23 22,mT 23 24 4,mT 23 25 0,mT 23 26 3,mT 23 27 11,pT 23 28 (.bin .add (.t 26) (.t 27)),xT 23 29 25 28 4,lT 23 30 29 4 true,mT 23 31 0,mT 23 32 3,mT 23 33 11,pT 23 34 (.bin .add (.t 32) (.t 33)),pT 23 35 (.bin .add (.t 34) (.c (iV 1))),xT 23 36 31 35 4,lT 23 37 36 4 true] (.alt [] ⟨some 38,.callv (.t 24) [.t 30,.t 37],some (23,true)⟩ (tk [pT 23 39 (.bin .lss (.t 38) (.c (iV 0))),pa 40 23 39] .fin) .stop)
def UP:=[m_ 41 11,B_ .add 42 41 1,m_ 11 42]
def UQ:=tk [m_ 43 4,m_ 44 0,m_ 45 3,m_ 46 10,b_ .add 47 45 46,x_ 48 44 47 4,L_ 49 48 4,m_ 50 0,m_ 51 3,m_ 52 11,b_ .add 53 51 52,x_ 54 50 53 4,L_ 55 54 4] (.alt [] ⟨some 56,.callv (.t 43) [.t 49,.t 55],none⟩ (tk [B_ .lss 57 56 0,N_ 58 57] .fin) .stop)
def UR:=tk [m_ 59 0,m_ 60 3,m_ 61 10,b_ .add 62 60 61,m_ 63 0,m_ 64 3,m_ 65 11,b_ .add 66 64 65,m_ 67 0,m_ 68 3,m_ 69 11,b_ .add 70 68 69,x_ 71 67 70 4,L_ 72 71 4,m_ 73 0,m_ 74 3,m_ 75 10,b_ .add 76 74 75,x_ 77 73 76 4,L_ 78 77 4,x_ 79 59 62 4] (.alt [b_ .add 66 64 65,m_ 65 11,m_ 64 3,m_ 63 0] (s_ 79 72 4) (tk [x_ 80 63 66 4] (.alt [] (s_ 80 78 4) .fin .stop)) .stop)
def US:=[m_ 81 11,m_ 10 81]
def UK:IR:=(.block 1 (sr UM (.seq (sr UN (iz 18 (.exit 0))) (.seq (sd UO (iz 40 (.reg UP))) (.seq (sd UQ (iz 58 .ret)) (sd UR (.reg US)))))))
def c159:Dp:=⟨5,82,[],sr UL (Ju 0 UK)⟩
def K159 (C:Bh) (D:Bh:=C):Prop:=∀(a0:List Aa) (a1:Int) (a2:Int) (a3:Int) (f4:Nat) (k4:List V) (is4:Aa→Aa→Option Int) (hs4:Iu k4) (hf4:∀(x0:Aa) (x1:Aa) r,is4 x0 x1=some r→C f4 ⟨.agg (Ac x0) :: .agg (Ac x1)::k4,[]⟩ ⟨iV r,[],[]⟩) (r:(List Aa)),AI a0 a1 a2 a3 is4=some r→D 159 ⟨[Af 2097152 a0,iV a1,iV a2,iV a3,.clo f4 k4],[]⟩ ⟨.tup [],[],[(0,4,r.map Ac)]⟩
abbrev fR:=fun x0 x1 x2 x3 x4 x5 (r:List (Nat×V))=>(0,Af 2097152 x0)::(2,iV x1)::(3,iV x2)::(4,.clo x3 x4)::(10,iV x5)::r
theorem F159:K159 C (FO C c159):=by
 intro a0 a1 a2 a3 f4 k4 is4 hs4 hf4 r h0
 refine f0 (Ay 4 [(0,Af 2097152 a0),(2,iV a2),(3,iV a3),(4,.clo f4 k4),(10,iV a1)] [] (Cg (bb h0 fun r122 e123 h0=>Cz (R:=(fun S=>∃p81:List Aa,.inl p81=r122∧S=⟨[(0,Af 2097152 p81)],[],[]⟩)) (Yh a2 a3 is4) (fun s S=>match s with | (p39,p40)=>S=⟨fR p39 a2 a3 f4 k4 p40 [],[],[]⟩) e123 _ (Ez (by kernel_rfl)) rfl 0 (fun _=>rfl) ?_ ?_)))
 ·rintro S _ hfg ⟨p81,rfl,rfl⟩
  obtain rfl:=sj h0
  exact bF (bE hfg (Eg rfl rfl rfl rfl rfl ⟨⟨rfl,Mp (fun _=>rfl)⟩,tv⟩))
 ·rintro ⟨p39,p40⟩ o1 _ K1 rfl h1 hx1 hK1 hE1 hR1
  refine Ay 14 (fR p39 a2 a3 f4 k4 p40 [(11,iV (wi ((wi (2*p40))+1))),(18,.bool (decide ((wi ((wi (2*p40))+1))≥a2)))]) [] (Ct h1 (fun c82 h1=>?_) (fun c82 h1=>?_))
  ·obtain rfl:=sj h1
   obtain rfl:=hx1 _ rfl
   refine Jv rfl ?_
   exact jn hE1 ⟨_,rfl,rfl⟩
  ·refine Mx 4 (bb h1 fun y83 e84 h1=>bb h1 fun y85 e86 h1=>bb h1 fun y87 e88 h1=>bb h1 fun y89 e90 h1=>bb h1 fun r91 e92 h1=>Bc 5 (Bl (Ag tv (Ce (u:=.clo f4 k4) rfl (fun hg=>(Dt (v:=.clo f4 k4) rfl tv)) (⟨tv,Ag tv (Ce (u:=Af 2097152 p39) rfl (fun hg=>(Dt (v:=Af 2097152 p39) rfl tv)) (⟨tv,Ag tv (Ce (u:=iV a3) rfl (fun hg=>(Dt (v:=iV a3) rfl tv)) (⟨tv,Ag tv (Ce (u:=iV (wi ((wi (2*p40))+1))) rfl (fun hg=>(Dt (v:=iV (wi ((wi (2*p40))+1))) rfl tv)) (⟨tv,Ag tv (Ce (u:=iV (wi (a3+(wi ((wi (2*p40))+1))))) rfl (fun hg=>(Bb ⟨(fun _=>hg),(fun _=>hg),tv⟩ rfl tv)) (⟨tv,Ag tv (Ce (u:=.optr 2097152 4 (0+((wi (a3+(wi ((wi (2*p40))+1)))).toNat)) 0) rfl (fun hg=>(Hd (e:=Ac) (y:=y83) rfl rfl (fun _=>hg) rfl rfl (fun _=>hg) (ip hg e84))) (⟨tv,Ca (Ce (u:=.agg (Ac y85)) rfl (fun hg=>(Bf (e:=Ac) (y:=y85) (v:=.agg (Ac y85)) rfl rfl (fun _=>hg) rfl rfl (ip hg e86) rfl (nl rfl) rfl)) (⟨⟨Bn (v:=.agg (Ac y85)) rfl (fun hg=>(Bf (e:=Ac) (y:=y85) (v:=.agg (Ac y85)) rfl rfl (fun _=>hg) rfl rfl (ip hg e86) rfl (nl rfl) rfl)) rfl,tv⟩,Ag tv (Ce (u:=Af 2097152 p39) rfl (fun hg=>(Dt (v:=Af 2097152 p39) rfl tv)) (⟨⟨Bn (v:=.agg (Ac y85)) rfl (fun hg=>(Bf (e:=Ac) (y:=y85) (v:=.agg (Ac y85)) rfl rfl (fun _=>hg) rfl rfl (ip hg e86) rfl (nl rfl) rfl)) rfl,tv⟩,Ag tv (Ce (u:=iV a3) rfl (fun hg=>(Dt (v:=iV a3) rfl tv)) (⟨⟨Bn (v:=.agg (Ac y85)) rfl (fun hg=>(Bf (e:=Ac) (y:=y85) (v:=.agg (Ac y85)) rfl rfl (fun _=>hg) rfl rfl (ip hg e86) rfl (nl rfl) rfl)) rfl,tv⟩,Ag tv (Ce (u:=iV (wi ((wi (2*p40))+1))) rfl (fun hg=>(Dt (v:=iV (wi ((wi (2*p40))+1))) rfl tv)) (⟨⟨Bn (v:=.agg (Ac y85)) rfl (fun hg=>(Bf (e:=Ac) (y:=y85) (v:=.agg (Ac y85)) rfl rfl (fun _=>hg) rfl rfl (ip hg e86) rfl (nl rfl) rfl)) rfl,tv⟩,?_⟩))⟩))⟩))⟩))⟩))⟩))⟩))⟩))⟩))⟩)))))
   refine Ag tv (Ce (u:=iV (wi (a3+(wi ((wi (2*p40))+1))))) rfl (fun hg=>(Bb ⟨(fun _=>hg),(fun _=>hg),tv⟩ rfl tv)) (⟨⟨Bn (v:=.agg (Ac y85)) rfl (fun hg=>(Bf (e:=Ac) (y:=y85) (v:=.agg (Ac y85)) rfl rfl (fun _=>hg) rfl rfl (ip hg e86) rfl (nl rfl) rfl)) rfl,tv⟩,Ag tv (Ce (u:=iV (wi ((wi (a3+(wi ((wi (2*p40))+1))))+1))) rfl (fun hg=>(Bb ⟨(fun _=>hg),tv,tv⟩ rfl tv)) (⟨⟨Bn (v:=.agg (Ac y85)) rfl (fun hg=>(Bf (e:=Ac) (y:=y85) (v:=.agg (Ac y85)) rfl rfl (fun _=>hg) rfl rfl (ip hg e86) rfl (nl rfl) rfl)) rfl,tv⟩,Ag tv (Ce (u:=.optr 2097152 4 (0+((wi ((wi (a3+(wi ((wi (2*p40))+1))))+1)).toNat)) 0) rfl (fun hg=>(Hd (e:=Ac) (y:=y87) rfl rfl (fun _=>hg) rfl rfl (fun _=>hg) (ip hg e88))) (⟨⟨Bn (v:=.agg (Ac y85)) rfl (fun hg=>(Bf (e:=Ac) (y:=y85) (v:=.agg (Ac y85)) rfl rfl (fun _=>hg) rfl rfl (ip hg e86) rfl (nl rfl) rfl)) rfl,tv⟩,Ca (Ce (u:=.agg (Ac y89)) rfl (fun hg=>(Bf (e:=Ac) (y:=y89) (v:=.agg (Ac y89)) rfl rfl (fun _=>hg) rfl rfl (ip hg e90) rfl (nl rfl) rfl)) (⟨⟨Bn (v:=.agg (Ac y89)) rfl (fun hg=>(Bf (e:=Ac) (y:=y89) (v:=.agg (Ac y89)) rfl rfl (fun _=>hg) rfl rfl (ip hg e90) rfl (nl rfl) rfl)) rfl,Bn (v:=.agg (Ac y85)) rfl (fun hg=>(Bf (e:=Ac) (y:=y85) (v:=.agg (Ac y85)) rfl rfl (fun _=>hg) rfl rfl (ip hg e86) rfl (nl rfl) rfl)) rfl,tv⟩,Bu (Ii (r:=iV r91) rfl rfl rfl (fun hg=>hg) false (fun hg=>hf4 _ _ r91 (ip hg e92)) ⟨(fun hg=>hg),(fun hg=>hg),tv⟩ (fun _=>(ar (Bi rfl hs4.2.2.1))) (fun _=>(Av rfl (Av rfl (hs4.2.1 _ _ _ _ _)))) (fun _=>rfl) (fun h=>nomatch h) (dw [(0,Af 2097152 p39),(2,iV a2),(3,iV a3),(4,.clo f4 k4),(10,iV p40),(11,iV (wi ((wi (2*p40))+1))),(23,.bool (decide ((wi ((wi ((wi (2*p40))+1))+1))<a2))),(38,.may ((decide ((wi ((wi ((wi (2*p40))+1))+1))<a2))==true) (iV r91))] [] tv (Ag tv (Ce (u:=.bool (decide (r91<0))) rfl (fun hg=>(Bb ⟨(fun _=>hg),tv,tv⟩ rfl tv)) (⟨tv,Ag tv (Eh rfl rfl rfl (fun h=>Sr h) tv rfl (⟨tv,Gf (bv h1 fun v93 e94 h1=>Dn ⟨[(0,Af 2097152 p39),(2,iV a2),(3,iV a3),(4,.clo f4 k4),(10,iV p40),(11,iV (wi ((wi (2*p40))+1))),(40,.bool v93)],[],[]⟩ (fg ⟨(by subst e94; rfl),(by subst e94; rfl),(by subst e94; rfl),(by subst e94; rfl),(by subst e94; rfl),(by subst e94; rfl),(by subst e94; rfl),tv⟩ tv) (Kg (cb:=v93) (fun S=>∃p96:Int,S=⟨fR p39 a2 a3 f4 k4 p40 [(11,iV p96)],[],[]⟩∧Nd a3 is4 p39 p40 p96=some o1) rfl ?_ (fun pR J120=>?_) (fun pR J120=>?_)))⟩))⟩))))) Au⟩))⟩))⟩))⟩))
   ·rintro _ ⟨p96,rfl,h1⟩
    refine Mx 3 (bb h1 fun y97 e98 h1=>bb h1 fun y99 e100 h1=>bb h1 fun y101 e102 h1=>bb h1 fun y103 e104 h1=>bb h1 fun r105 e106 h1=>Bc 5 (Bl (d_ (Yp rfl rfl rfl e98 (Bl (Ca (c_ (Oa rfl rfl e100) (⟨⟨Cv rfl rfl e100 rfl,tv⟩,Ag tv (Bw rfl tv (⟨⟨Cv rfl rfl e100 rfl,tv⟩,Ag tv (Bw rfl tv (⟨⟨Cv rfl rfl e100 rfl,tv⟩,Ag tv (Bw rfl tv (⟨⟨Cv rfl rfl e100 rfl,tv⟩,Ag tv (c_ (Bb t3 rfl tv) (⟨⟨Cv rfl rfl e100 rfl,tv⟩,Ag tv (c_ (Ka rfl rfl e102) (⟨⟨Cv rfl rfl e100 rfl,tv⟩,Ca (c_ (Oa rfl rfl e104) (⟨⟨Cv rfl rfl e104 rfl,Cv rfl rfl e100 rfl,tv⟩,Bu (Gy (r:=iV r105) rfl false (hf4 _ _ r105 e106) ⟨tv,tv,tv⟩ (ar (Bi rfl hs4.2.2.1)) (Av rfl (Av rfl (hs4.2.1 _ _ _ _ _))) (fun _=>rfl) (dw [(0,Af 2097152 p39),(2,iV a2),(3,iV a3),(4,.clo f4 k4),(10,iV p40),(11,iV p96),(56,iV r105)] [] tv (Ag tv (c_ (Bb t3 rfl tv) (⟨tv,?_⟩))))) Au⟩))⟩))⟩))⟩))⟩))⟩))⟩))))))))
    refine d_ (Ay 2 (fR p39 a2 a3 f4 k4 p40 [(11,iV p96),(58,.bool (!(decide (r105<0))))]) [] (Ct h1 (fun c107 h1=>?_) (fun c107 h1=>?_)))
    ·obtain rfl:=sj h1
     obtain rfl:=hx1 _ rfl
     obtain rfl:=sj h0
     exact Lf (hR1 _ (Eg rfl rfl rfl rfl rfl ⟨⟨rfl,Mp (fun _=>rfl)⟩,tv⟩))
    ·refine Mx 3 (bb h1 fun y108 e109 h1=>bb h1 fun y110 e111 h1=>bb h1 fun y112 e113 h1=>bb h1 fun y114 e115 h1=>bb h1 fun y116 e117 h1=>bb h1 fun y118 e119 h1=>Bc 12 (Bl (d_ (Yp rfl rfl rfl e109 (Bl (Ca (c_ (Oa rfl rfl e111) (⟨⟨Cv rfl rfl e111 rfl,tv⟩,Ag tv (Bw rfl tv (⟨⟨Cv rfl rfl e111 rfl,tv⟩,?_⟩))⟩))))))))
     refine Ag tv (Bw rfl tv (⟨⟨Cv rfl rfl e111 rfl,tv⟩,Ag tv (Bw rfl tv (⟨⟨Cv rfl rfl e111 rfl,tv⟩,Ag tv (c_ (Bb t3 rfl tv) (⟨⟨Cv rfl rfl e111 rfl,tv⟩,Ag tv (c_ (Ka rfl rfl e113) (⟨⟨Cv rfl rfl e111 rfl,tv⟩,Ca (c_ (Oa rfl rfl e115) (⟨⟨Cv rfl rfl e115 rfl,Cv rfl rfl e111 rfl,tv⟩,Ag tv (c_ (Ka rfl rfl e113) (⟨⟨Cv rfl rfl e115 rfl,Cv rfl rfl e111 rfl,tv⟩,Bu (Hh (y':=y110) rfl rfl tv rfl rfl rfl rfl e115 (nl rfl) rfl rfl rfl rfl (iC ⟨[(0,Af 2097152 (p39.set ((wi (a3+p40)).toNat) y110)),(2,iV a2),(3,iV a3),(4,.clo f4 k4),(11,iV p96),(63,Af 2097152 (p39.set ((wi (a3+p40)).toNat) y110)),(64,iV a3),(65,iV p96),(66,iV (wi (a3+p96))),(78,.agg (Ac y114))],[],[]⟩ (fg ⟨congrArg (fun z=>some ((.own 2097152 0 4 z:V))) Aw,rfl,rfl,rfl,rfl,congrArg (fun z=>some ((.own 2097152 0 4 z:V))) Aw,rfl,rfl,rfl,rfl,tv⟩ tv) ⟨[],⟨⟨.inl tv,Ba (Bb t3 rfl tv) rfl⟩,⟨.inl tv,Ba (Dt (v:=iV p96) rfl tv) rfl⟩,⟨.inl tv,Ba (Dt (v:=iV a3) rfl tv) rfl⟩,⟨.inl tv,Ba (Dt (v:=Af 2097152 (p39.set ((wi (a3+p40)).toNat) y110)) rfl tv) rfl⟩,tv⟩,tv,Ag tv (c_ (Ka rfl rfl e117) (⟨tv,Bu (Hh (y':=y114) rfl rfl tv rfl rfl rfl rfl e119 (nl rfl) rfl rfl rfl rfl (d0 tv (Gf (Dn ⟨[(0,.own 2097152 0 4 (((p39.set ((wi (a3+p40)).toNat) y110).set ((wi (a3+p96)).toNat) y114).map Ac)),(2,iV a2),(3,iV a3),(4,.clo f4 k4),(11,iV p96)],[],[]⟩ (fg ⟨congrArg (fun z=>some ((.own 2097152 0 4 z:V))) Aw,rfl,rfl,rfl,rfl,tv⟩ tv) (An (st (Bw rfl tv (st (Bw rfl tv (Hj (Rd ?_))))))))))) Au⟩))⟩)) Au⟩))⟩))⟩))⟩))⟩))⟩))
     obtain rfl:=sj h1
     exact kn hK1 rfl rfl
   ·replace h1:=ip pR h1
    refine Bc 4 ?_
    exact jn J120 ⟨_,rfl,h1⟩
   ·replace h1:=Wx pR h1
    refine Jf ?_
    exact jn J120 ⟨_,rfl,h1⟩

/- slices.heapSortCmpFunc[loop.example/g00149/impl.Lease] -/
def QF:=[m_ 13 1,m_ 8 13]
def QG:=[i_ 9 0]
def QH:=[m_ 14 2,m_ 15 1,b_ .sub 16 14 15,m_ 10 16]
def QI:=[m_ 17 10,B_ .sub 18 17 1,B_ .quo 19 18 2,m_ 11 19]
def QJ:=[m_ 20 11,B_ .geq 21 20 0]
def QK:=[m_ 24 0,m_ 25 11,m_ 26 10,m_ 27 8,m_ 28 3,q_ 29 159 [.t 24,.t 25,.t 26,.t 27,.t 28]]
def QL:=[m_ 22 11,B_ .sub 23 22 1,m_ 11 23]
def QD:IR:=(.seq (sr QJ (.ite (.t 21) .skip (.exit 0))) (.seq (.block 1 (.reg QK)) (.reg QL)))
def QM:=[m_ 30 10,B_ .sub 31 30 1,m_ 12 31]
def QN:=[m_ 32 12,B_ .geq 33 32 0]
def QO:=tk [m_ 36 0,m_ 37 8,m_ 38 0,m_ 39 8,m_ 40 12,b_ .add 41 39 40,m_ 42 0,m_ 43 8,m_ 44 12,b_ .add 45 43 44,x_ 46 42 45 4,L_ 47 46 4,m_ 48 0,m_ 49 8,x_ 50 48 49 4,L_ 51 50 4,x_ 52 36 37 4] (.alt [b_ .add 41 39 40,m_ 40 12,m_ 39 8,m_ 38 0] (s_ 52 47 4) (tk [x_ 53 38 41 4] (.alt [] (s_ 53 51 4) .fin .stop)) .stop)
def wF:=[m_ 54 0,m_ 55 9,m_ 56 12,m_ 57 8,m_ 58 3,q_ 59 159 [.t 54,.t 55,.t 56,.t 57,.t 58]]
def wG:=[m_ 34 12,B_ .sub 35 34 1,m_ 12 35]
def QE:IR:=(.seq (sr QN (.ite (.t 33) .skip (.exit 2))) (.seq (.block 3 (sd QO (.reg wF))) (.reg wG)))
def c149:Dp:=⟨4,60,[],sr QF (sr QG (sr QH (.seq (sr QI (Ju 0 QD)) (sr QM (Ju 2 QE)))))⟩
def K149 (C:Bh) (D:Bh:=C):Prop:=∀(a0:List Aa) (a1:Int) (a2:Int) (f3:Nat) (k3:List V) (is3:Aa→Aa→Option Int) (hs3:Iu k3) (hf3:∀(x0:Aa) (x1:Aa) r,is3 x0 x1=some r→C f3 ⟨.agg (Ac x0) :: .agg (Ac x1)::k3,[]⟩ ⟨iV r,[],[]⟩) (r:(List Aa)),g149 a0 a1 a2 is3=some r→D 149 ⟨[Af 2097152 a0,iV a1,iV a2,.clo f3 k3],[]⟩ ⟨.tup [],[],[(0,4,r.map Ac)]⟩
abbrev Pn:=fun x0 x1 x2 (r:List (Nat×V))=>(3,.clo x0 x1)::(8,iV x2)::(9,iV 0)::r
theorem F149 (H159:K159 C):K149 C (FO C c149):=by
 intro a0 a1 a2 f3 k3 is3 hs3 hf3 r h0
 refine f0 (Ay 15 (Pn f3 k3 a1 [(0,Af 2097152 a0),(10,iV (wi (a2-a1)))]) [] (Bj (Bj (An (st (Bw rfl tv (st (c_ (Bb t3 rfl tv) (st (c_ (Bb ⟨tv,tv,tv⟩ rfl (by decide)) (st (Bw rfl tv (Hj (bv h0 fun v1 e2 h0=>Dn ⟨[(0,Af 2097152 a0),(3,.clo f3 k3),(8,iV a1),(9,iV 0),(10,iV (wi (a2-a1))),(11,iV v1)],[],[]⟩ (fg ⟨(by subst e2; rfl),(by subst e2; rfl),(by subst e2; rfl),(by subst e2; rfl),(by subst e2; rfl),(by subst e2; rfl),tv⟩ tv) (Cg (bb h0 fun r20 e21 h0=>Cz (R:=(fun S=>∃p15:List Aa,p15=r20∧S=⟨Pn f3 k3 a1 [(0,Af 2097152 p15),(10,iV (wi (a2-a1)))],[],[]⟩)) (Xu a1 a2 is3) (fun s S=>match s with | (p7,p8)=>S=⟨Pn f3 k3 a1 [(0,Af 2097152 p7),(10,iV (wi (a2-a1))),(11,iV p8)],[],[]⟩) e21 _ (Ez (by kernel_rfl)) rfl 0 (fun _=>rfl) ?_ ?_))))))))))))))))
 ·rintro S _ hfg ⟨p15,rfl,rfl⟩
  refine Dn ⟨Pn f3 k3 a1 [(0,Af 2097152 p15),(10,iV (wi (a2-a1)))],[],[]⟩ (rW hfg ⟨rfl,rfl,rfl,rfl,rfl,tv⟩ tv) (Ay 5 (Pn f3 k3 a1 [(0,Af 2097152 p15),(12,iV (wi ((wi (a2-a1))-1)))]) [] (Cg (bb h0 fun r75 e76 h0=>Cz (R:=(fun S=>∃p58:List Aa,p58=r75∧S=⟨[(0,Af 2097152 p58)],[],[]⟩)) (Xv a1 is3) (fun s S=>match s with | (p38,p39)=>S=⟨Pn f3 k3 a1 [(0,Af 2097152 p38),(12,iV p39)],[],[]⟩) e76 _ (Ez (by kernel_rfl)) rfl 2 (fun _=>rfl) ?_ ?_)))
  ·rintro S _ hfg ⟨p58,rfl,rfl⟩
   obtain rfl:=sj h0
   exact bF (bE hfg (Eg rfl rfl rfl rfl rfl ⟨⟨rfl,Mp (fun _=>rfl)⟩,tv⟩))
  ·rintro ⟨p38,p39⟩ o1 _ K1 rfl h1 hx1 hK1 hE1 hR1
   refine Ay 5 (Pn f3 k3 a1 [(0,Af 2097152 p38),(12,iV p39),(33,.bool (decide (p39≥0)))]) [] (Ct h1 (fun c59 h1=>?_) (fun c59 h1=>?_))
   ·refine Mx 5 (bb h1 fun y60 e61 h1=>bb h1 fun y62 e63 h1=>bb h1 fun y64 e65 h1=>bb h1 fun y66 e67 h1=>bb h1 fun y68 e69 h1=>bb h1 fun y70 e71 h1=>Bl (Ag tv (Bw rfl tv (⟨tv,Ag tv (Bw rfl tv (⟨tv,Ag tv (Bw rfl tv (⟨tv,Ag tv (Bw rfl tv (⟨tv,Ag tv (Bw rfl tv (⟨tv,Ag tv (c_ (Bb t3 rfl tv) (⟨tv,Ag tv (Bw rfl tv (⟨tv,Ag tv (Bw rfl tv (⟨tv,Ag tv (Bw rfl tv (⟨tv,Ag tv (c_ (Bb t3 rfl tv) (⟨tv,d_ (Yp rfl rfl rfl e61 (Bl (Ca (c_ (Oa rfl rfl e63) (⟨⟨Cv rfl rfl e63 rfl,tv⟩,Ag tv (Bw rfl tv (⟨⟨Cv rfl rfl e63 rfl,tv⟩,Ag tv (Bw rfl tv (⟨⟨Cv rfl rfl e63 rfl,tv⟩,Ag tv (c_ (Ka rfl rfl e65) (⟨⟨Cv rfl rfl e63 rfl,tv⟩,?_⟩))⟩))⟩))⟩)))))⟩))⟩))⟩))⟩))⟩))⟩))⟩))⟩))⟩))⟩))))
    refine Ca (c_ (Oa rfl rfl e67) (⟨⟨Cv rfl rfl e67 rfl,Cv rfl rfl e63 rfl,tv⟩,Ag tv (c_ (Ka rfl rfl e65) (⟨⟨Cv rfl rfl e67 rfl,Cv rfl rfl e63 rfl,tv⟩,Bu (Hh (y':=y62) rfl rfl tv rfl rfl rfl rfl e67 (nl rfl) rfl rfl rfl rfl (iC ⟨[(0,Af 2097152 (p38.set a1.toNat y62)),(3,.clo f3 k3),(8,iV a1),(9,iV 0),(12,iV p39),(38,Af 2097152 (p38.set a1.toNat y62)),(39,iV a1),(40,iV p39),(41,iV (wi (a1+p39))),(51,.agg (Ac y66))],[],[]⟩ (fg ⟨congrArg (fun z=>some ((.own 2097152 0 4 z:V))) Aw,rfl,rfl,rfl,rfl,congrArg (fun z=>some ((.own 2097152 0 4 z:V))) Aw,rfl,rfl,rfl,rfl,tv⟩ tv) ⟨[],⟨⟨.inl tv,Ba (Bb t3 rfl tv) rfl⟩,⟨.inl tv,Ba (Dt (v:=iV p39) rfl tv) rfl⟩,⟨.inl tv,Ba (Dt (v:=iV a1) rfl tv) rfl⟩,⟨.inl tv,Ba (Dt (v:=Af 2097152 (p38.set a1.toNat y62)) rfl tv) rfl⟩,tv⟩,tv,Ag tv (c_ (Ka rfl rfl e69) (⟨tv,Bu (Hh (y':=y66) rfl rfl tv rfl rfl rfl rfl e71 (nl rfl) rfl rfl rfl rfl (d0 tv (Gf (Dn ⟨[(0,Af 2097152 ((p38.set a1.toNat y62).set ((wi (a1+p39)).toNat) y66)),(3,.clo f3 k3),(8,iV a1),(9,iV 0),(12,iV p39)],[],[]⟩ (fg ⟨congrArg (fun z=>some ((.own 2097152 0 4 z:V))) Aw,rfl,rfl,rfl,rfl,tv⟩ tv) (An (st (Bw rfl tv (st (Bw rfl tv (st (Bw rfl tv (st (Bw rfl tv (st (Bw rfl tv (bb h1 fun r72 e73 h1=>gg h1 fun c74 h1=>st (Eb [] [2097152] [] false (H159 ((p38.set a1.toNat y62).set ((wi (a1+p39)).toNat) y66) 0 p39 a1 f3 k3 is3 hs3 hf3 r72 e73) ⟨tv,tv,tv,tv,tv,tv⟩ (by kernel_rfl) (congrArg (fun z=>Gn.mk z []) (Av rfl (Av rfl (Av rfl (Av rfl (Av (Eo hs3) rfl)))))) (by kernel_rfl) (by kernel_rfl) (fun _=>Bi rfl (Bi (nT (fun _=>rfl)) rfl)) (Hj (Rd (Dn ⟨[(0,Af 2097152 r72),(3,.clo f3 k3),(8,iV a1),(9,iV 0),(12,iV p39)],[],[]⟩ (fg ⟨congrArg (fun z=>some ((z:V))) (Ir c74),rfl,rfl,rfl,rfl,tv⟩ tv) (An (st (Bw rfl tv (st (c_ (Bb t3 rfl tv) (st (Bw rfl tv (Hj ?_)))))))))))))))))))))))))))) Au⟩))⟩)) Au⟩))⟩))
    obtain rfl:=sj h1
    exact kn hK1 rfl rfl
   ·obtain rfl:=sj h1
    obtain rfl:=hx1 _ rfl
    refine Jv rfl ?_
    exact jn hE1 ⟨_,rfl,rfl⟩
 ·rintro ⟨p7,p8⟩ o1 _ K1 rfl h1 hx1 hK1 hE1 hR1
  refine Ay 5 (Pn f3 k3 a1 [(0,Af 2097152 p7),(10,iV (wi (a2-a1))),(11,iV p8),(21,.bool (decide (p8≥0)))]) [] (Ct h1 (fun c16 h1=>?_) (fun c16 h1=>?_))
  ·refine Jf (bM (Bj (Cg (An (st (Bw rfl tv (st (Bw rfl tv (st (Bw rfl tv (st (Bw rfl tv (st (Bw rfl tv (bb h1 fun r17 e18 h1=>gg h1 fun c19 h1=>st (Eb [] [2097152] [] false (H159 p7 p8 (wi (a2-a1)) a1 f3 k3 is3 hs3 hf3 r17 e18) ⟨tv,tv,tv,tv,tv,tv⟩ (by kernel_rfl) (congrArg (fun z=>Gn.mk z []) (Av rfl (Av rfl (Av rfl (Av rfl (Av (Eo hs3) rfl)))))) (by kernel_rfl) (by kernel_rfl) (fun _=>Bi rfl (Bi (nT (fun _=>rfl)) rfl)) (Hj (Rd (Dn ⟨[(0,Af 2097152 r17),(3,.clo f3 k3),(8,iV a1),(9,iV 0),(10,iV (wi (a2-a1))),(11,iV p8)],[],[]⟩ (fg ⟨congrArg (fun z=>some ((z:V))) (Ir c19),rfl,rfl,rfl,rfl,rfl,tv⟩ tv) (An (st (Bw rfl tv (st (c_ (Bb t3 rfl tv) (st (Bw rfl tv (Hj ?_)))))))))))))))))))))))))))
   obtain rfl:=sj h1
   exact kn hK1 rfl rfl
  ·obtain rfl:=sj h1
   obtain rfl:=hx1 _ rfl
   refine Jv rfl ?_
   exact jn hE1 ⟨_,rfl,rfl⟩

/- math/bits.Len32 -/
def TR:=[i_ 2 0]
def TT:List Bt:=[m_ 3 0,⟨some 4,.p (.bin .geq (.t 3) (.c (.int .u32 65536))),none⟩]
def TU:List Bt:=[m_ 5 0,⟨some 6,.p (.bin .shr (.t 5) (.c (.int .u64 16))),none⟩,m_ 0 6]
def TV:=[i_ 2 16]
def TW:List Bt:=[m_ 7 0,⟨some 8,.p (.bin .geq (.t 7) (.c (.int .u32 256))),none⟩]
def TX:List Bt:=[m_ 9 0,⟨some 10,.p (.bin .shr (.t 9) (.c (.int .u64 8))),none⟩,m_ 0 10]
def TY:=[m_ 11 2,B_ .add 12 11 8,m_ 2 12]
def TZ:List Bt:=[m_ 13 2,m_ 14 0,iQ 15 (.conv .u8 (.t 14)),⟨some 16,.p (.idxStr (.c (.str [0,1,2,2,3,3,3,3,4,4,4,4,4,4,4,4,5,5,5,5,5,5,5,5,5,5,5,5,5,5,5,5,6,6,6,6,6,6,6,6,6,6,6,6,6,6,6,6,6,6,6,6,6,6,6,6,6,6,6,6,6,6,6,6,7,7,7,7,7,7,7,7,7,7,7,7,7,7,7,7,7,7,7,7,7,7,7,7,7,7,7,7,7,7,7,7,7,7,7,7,7,7,7,7,7,7,7,7,7,7,7,7,7,7,7,7,7,7,7,7,7,7,7,7,7,7,7,7,8,8,8,8,8,8,8,8,8,8,8,8,8,8,8,8,8,8,8,8,8,8,8,8,8,8,8,8,8,8,8,8,8,8,8,8,8,8,8,8,8,8,8,8,8,8,8,8,8,8,8,8,8,8,8,8,8,8,8,8,8,8,8,8,8,8,8,8,8,8,8,8,8,8,8,8,8,8,8,8,8,8,8,8,8,8,8,8,8,8,8,8,8,8,8,8,8,8,8,8,8,8,8,8,8,8,8,8,8,8,8,8,8,8,8,8,8,8,8,8,8,8,8,8,8,8,8,8])) (.t 15)),none⟩,iQ 17 (.conv .i64 (.t 16)),b_ .add 18 13 17,m_ 2 18]
def TQ:Dp:=⟨1,19,[.t 2],sr TR (.seq (sr TT (iz 4 (sr TU (.reg TV)))) (.seq (sr TW (iz 8 (sr TX (.reg TY)))) (rr TZ)))⟩
def K156 (D:Bh):Prop:=∀a0 r,g156 a0=some r→D 156 ⟨[.int .u32 a0],[]⟩ ⟨iV r,[],[]⟩
theorem F156:K156 (FO C TQ):=by
 intro a0 r h0
 refine f0 (Ay 9 [(0,.int .u32 a0),(2,iV 0),(4,.bool (decide (a0≥65536)))] [] (Kg (cb:=(decide (a0≥65536))) (fun S=>∃p2:Int,∃p3:Int,S=⟨[(0,.int .u32 p2),(2,iV p3)],[],[]⟩∧eM p2 p3=some r) rfl ?_ (fun c12 J11=>?_) (fun c12 J11=>?_)))
 ·rintro _ ⟨p2,p3,rfl,h0⟩
  refine Ay 6 [(0,.int .u32 p2),(2,iV p3),(8,.bool (decide (p2≥256)))] [] (Kg (cb:=(decide (p2≥256))) (fun S=>∃p5:Int,∃p6:Int,S=⟨[(0,.int .u32 p5),(2,iV p6)],[],[]⟩∧eN p5 p6=some r) rfl ?_ (fun c10 J9=>?_) (fun c10 J9=>?_))
  ·rintro _ ⟨p5,p6,rfl,h0⟩
   refine Bc 4 (An (st (c_ (cb8 (Bb ⟨tv,tv⟩ rfl tv)) (bb h0 fun y7 e8 h0=>st (c_ (cidxS (y:=y7) rfl rfl tv rfl rfl tv e8) (o_ ?_))))))
   obtain rfl:=sj h0
   exact Dd 5
  ·replace h0:=ip c10 h0
   refine Bj (An (st (Bw rfl tv (st (c_ (Bb ⟨tv,tv,tv⟩ rfl (by decide)) (o_ (Ay 2 [(0,.int .u32 (Nj .u32 p2 8)),(2,iV p3)] [] (Bc 4 ?_))))))))
   exact jn J9 ⟨_,_,rfl,h0⟩
  ·replace h0:=Wx c10 h0
   refine Jf ?_
   exact jn J9 ⟨_,_,rfl,h0⟩
 ·replace h0:=ip c12 h0
  refine Bj (An (st (Bw rfl tv (st (c_ (Bb ⟨tv,tv,tv⟩ rfl (by decide)) (o_ (Ay 2 [(0,.int .u32 (Nj .u32 a0 16))] [] (An (st (BS tv (Hj ?_)))))))))))
  exact jn J11 ⟨_,_,rfl,h0⟩
 ·replace h0:=Wx c12 h0
  refine Jf ?_
  exact jn J11 ⟨_,_,rfl,h0⟩

/- math/bits.Len64 -/
def UA:=[i_ 2 0]
def UB:List Bt:=[m_ 3 0,⟨some 4,.p (.bin .geq (.t 3) (.c (.int .u64 4294967296))),none⟩]
def UC:List Bt:=[m_ 5 0,⟨some 6,.p (.bin .shr (.t 5) (.c (.int .u64 32))),none⟩,m_ 0 6]
def UD:=[i_ 2 32]
def UE:List Bt:=[m_ 7 0,⟨some 8,.p (.bin .geq (.t 7) (.c (.int .u64 65536))),none⟩]
def UF:List Bt:=[m_ 9 0,⟨some 10,.p (.bin .shr (.t 9) (.c (.int .u64 16))),none⟩,m_ 0 10]
def UG:=[m_ 11 2,B_ .add 12 11 16,m_ 2 12]
def UH:List Bt:=[m_ 13 0,⟨some 14,.p (.bin .geq (.t 13) (.c (.int .u64 256))),none⟩]
def UI:List Bt:=[m_ 15 0,⟨some 16,.p (.bin .shr (.t 15) (.c (.int .u64 8))),none⟩,m_ 0 16]
def UJ:=[m_ 17 2,B_ .add 18 17 8,m_ 2 18]
def xW:List Bt:=[m_ 19 2,m_ 20 0,iQ 21 (.conv .u8 (.t 20)),⟨some 22,.p (.idxStr (.c (.str [0,1,2,2,3,3,3,3,4,4,4,4,4,4,4,4,5,5,5,5,5,5,5,5,5,5,5,5,5,5,5,5,6,6,6,6,6,6,6,6,6,6,6,6,6,6,6,6,6,6,6,6,6,6,6,6,6,6,6,6,6,6,6,6,7,7,7,7,7,7,7,7,7,7,7,7,7,7,7,7,7,7,7,7,7,7,7,7,7,7,7,7,7,7,7,7,7,7,7,7,7,7,7,7,7,7,7,7,7,7,7,7,7,7,7,7,7,7,7,7,7,7,7,7,7,7,7,7,8,8,8,8,8,8,8,8,8,8,8,8,8,8,8,8,8,8,8,8,8,8,8,8,8,8,8,8,8,8,8,8,8,8,8,8,8,8,8,8,8,8,8,8,8,8,8,8,8,8,8,8,8,8,8,8,8,8,8,8,8,8,8,8,8,8,8,8,8,8,8,8,8,8,8,8,8,8,8,8,8,8,8,8,8,8,8,8,8,8,8,8,8,8,8,8,8,8,8,8,8,8,8,8,8,8,8,8,8,8,8,8,8,8,8,8,8,8,8,8,8,8,8,8,8,8,8,8])) (.t 21)),none⟩,iQ 23 (.conv .i64 (.t 22)),b_ .add 24 19 23,m_ 2 24]
def c157:Dp:=⟨1,25,[.t 2],sr UA (.seq (sr UB (iz 4 (sr UC (.reg UD)))) (.seq (sr UE (iz 8 (sr UF (.reg UG)))) (.seq (sr UH (iz 14 (sr UI (.reg UJ)))) (rr xW))))⟩
def K157 (D:Bh):Prop:=∀a0 r,g157 a0=some r→D 157 ⟨[.int .u64 a0],[]⟩ ⟨iV r,[],[]⟩
theorem F157:K157 (FO C c157):=by
 intro a0 r h0
 refine f0 (Ay 9 [(0,.int .u64 a0),(2,iV 0),(4,.bool (decide (a0≥4294967296)))] [] (Kg (cb:=(decide (a0≥4294967296))) (fun S=>∃p2:Int,∃p3:Int,S=⟨[(0,.int .u64 p2),(2,iV p3)],[],[]⟩∧Yg p2 p3=some r) rfl ?_ (fun c17 J16=>?_) (fun c17 J16=>?_)))
 ·rintro _ ⟨p2,p3,rfl,h0⟩
  refine Ay 6 [(0,.int .u64 p2),(2,iV p3),(8,.bool (decide (p2≥65536)))] [] (Kg (cb:=(decide (p2≥65536))) (fun S=>∃p5:Int,∃p6:Int,S=⟨[(0,.int .u64 p5),(2,iV p6)],[],[]⟩∧Tn p5 p6=some r) rfl ?_ (fun c15 J14=>?_) (fun c15 J14=>?_))
  ·rintro _ ⟨p5,p6,rfl,h0⟩
   refine Ay 6 [(0,.int .u64 p5),(2,iV p6),(14,.bool (decide (p5≥256)))] [] (Kg (cb:=(decide (p5≥256))) (fun S=>∃p8:Int,∃p9:Int,S=⟨[(0,.int .u64 p8),(2,iV p9)],[],[]⟩∧To p8 p9=some r) rfl ?_ (fun c13 J12=>?_) (fun c13 J12=>?_))
   ·rintro _ ⟨p8,p9,rfl,h0⟩
    refine Bc 4 (An (st (c_ (cb8 (Bb ⟨tv,tv⟩ rfl tv)) (bb h0 fun y10 e11 h0=>st (c_ (cidxS (y:=y10) rfl rfl tv rfl rfl tv e11) (o_ ?_))))))
    obtain rfl:=sj h0
    exact Dd 5
   ·replace h0:=ip c13 h0
    refine Bj (An (st (Bw rfl tv (st (c_ (Bb ⟨tv,tv,tv⟩ rfl (by decide)) (o_ (Ay 2 [(0,.int .u64 (Nj .u64 p5 8)),(2,iV p6)] [] (Bc 4 ?_))))))))
    exact jn J12 ⟨_,_,rfl,h0⟩
   ·replace h0:=Wx c13 h0
    refine Jf ?_
    exact jn J12 ⟨_,_,rfl,h0⟩
  ·replace h0:=ip c15 h0
   refine Bj (An (st (Bw rfl tv (st (c_ (Bb ⟨tv,tv,tv⟩ rfl (by decide)) (o_ (Ay 2 [(0,.int .u64 (Nj .u64 p2 16)),(2,iV p3)] [] (Bc 4 ?_))))))))
   exact jn J14 ⟨_,_,rfl,h0⟩
  ·replace h0:=Wx c15 h0
   refine Jf ?_
   exact jn J14 ⟨_,_,rfl,h0⟩
 ·replace h0:=ip c17 h0
  refine Bj (An (st (Bw rfl tv (st (c_ (Bb ⟨tv,tv,tv⟩ rfl (by decide)) (o_ (Ay 2 [(0,.int .u64 (Nj .u64 a0 32))] [] (An (st (BS tv (Hj ?_)))))))))))
  exact jn J16 ⟨_,_,rfl,h0⟩
 ·replace h0:=Wx c17 h0
  refine Jf ?_
  exact jn J16 ⟨_,_,rfl,h0⟩

/- math/bits.Len -/
def NX:=[i_ 2 0]
def NY:=[m_ 3 0,iQ 4 (.conv .u32 (.t 3)),q_ 5 156 [.t 4],m_ 2 5]
def NZ:=[m_ 6 0,q_ 7 157 [.t 6],m_ 2 7]
def NW:Dp:=⟨1,8,[.t 2],sr NX (.seq (.ite (.c (.bool false)) (rr NY) .skip) (rr NZ))⟩
def EL (D:Bh):Prop:=∀a0 r,AE a0=some r→D 138 ⟨[.int .u64 a0],[]⟩ ⟨iV r,[],[]⟩
theorem F138 (H156:K156 C) (H157:K157 C):EL (FO C NW):=by
 intro a0 r h0
 refine f0 (Ay 3 [(0,.int .u64 a0)] [] (Bj (Ct h0 (fun c1 h0=>?_) (fun c1 h0=>?_))))
 ·refine Bc 3 (An (bb h0 fun r2 e3 h0=>Vf (H156 (IntKind.u32.wrap a0) r2 e3) (o_ ?_)))
  obtain rfl:=sj h0
  exact Dd 3
 ·refine Bc 4 (An (bb h0 fun r4 e5 h0=>Vf (H157 a0 r4 e5) (o_ ?_)))
  obtain rfl:=sj h0
  exact Dd 3

/- slices.nextPowerOfTwo -/
def UT:=[k_ 2 (.int .u64 0)]
def UU:List Bt:=[m_ 3 0,iQ 4 (.conv .u64 (.t 3)),q_ 5 138 [.t 4],⟨some 6,.p (.bin .shl (.c (.int .u64 1)) (.t 5)),none⟩,m_ 2 6]
def c160:Dp:=⟨1,7,[.t 2],sr UT (rr UU)⟩
def K160 (D:Bh):Prop:=∀a0 r,g160 a0=some r→D 160 ⟨[iV a0],[]⟩ ⟨.int .u64 r,[],[]⟩
theorem F160 (H138:EL C):K160 (FO C c160):=by
 intro a0 r h0
 refine f0 (Ay 3 [(0,iV a0)] [] (Bc 3 (An (bb h0 fun r1 e2 h0=>Vf (H138 (IntKind.u64.wrap a0) r1 e2) (gg h0 fun c3 h0=>st (c_ (Bb ⟨tv,tv,tv⟩ rfl c3) (o_ ?_)))))))
 obtain rfl:=sj h0
 exact Dd 3

/- (*slices.xorshift).Next -/
def UV:=[k_ 2 (.int .u64 0)]
def UW:=tk [m_ 3 0,iQ 4 (.nilc (.t 3)),l_ 5 4 1,m_ 6 0,iQ 7 (.nilc (.t 6)),l_ 8 7 1,⟨some 9,.p (.bin .shl (.t 8) (.c (.int .u64 13))),none⟩,b_ .xor 10 5 9,iQ 11 (.nilc (.t 3))] (.alt [] (s_ 11 10 1) .fin .stop)
def UX:=tk [m_ 12 0,iQ 13 (.nilc (.t 12)),l_ 14 13 1,m_ 15 0,iQ 16 (.nilc (.t 15)),l_ 17 16 1,⟨some 18,.p (.bin .shr (.t 17) (.c (.int .u64 7))),none⟩,b_ .xor 19 14 18,iQ 20 (.nilc (.t 12))] (.alt [] (s_ 20 19 1) .fin .stop)
def UY:=tk [m_ 21 0,iQ 22 (.nilc (.t 21)),l_ 23 22 1,m_ 24 0,iQ 25 (.nilc (.t 24)),l_ 26 25 1,⟨some 27,.p (.bin .shl (.t 26) (.c (.int .u64 17))),none⟩,b_ .xor 28 23 27,iQ 29 (.nilc (.t 21))] (.alt [] (s_ 29 28 1) .fin .stop)
def UZ:=[m_ 30 0,iQ 31 (.nilc (.t 30)),l_ 32 31 1,m_ 2 32]
def c161:Dp:=⟨1,33,[.t 2],sr UV (sd UW (sd UX (sd UY (rr UZ))))⟩
def K161 (D:Bh):Prop:=∀a0 r,g161 a0=some r→D 161 ⟨[.ptr 1048576 0],[[.int .u64 a0]]⟩ ⟨.int .u64 r.1,[[.int .u64 r.2]],[]⟩
theorem F161:K161 (FO C c161):=by
 intro a0 r h0
 refine f0 (Ay 3 [(0,.ptr 1048576 0)] [(1048576,[.int .u64 a0])] (Bj (Bl (Ag tv (Bw rfl tv (⟨tv,Ag tv (c_ (Bb ⟨tv,tv⟩ rfl tv) (⟨tv,Ag tv (c_ (Bb ⟨tv,tv⟩ rfl (nl rfl)) (⟨tv,Ag tv (Bw rfl tv (⟨tv,Ag tv (c_ (Bb ⟨tv,tv⟩ rfl tv) (⟨tv,Ag tv (c_ (Bb ⟨tv,tv⟩ rfl (nl rfl)) (⟨tv,Ag tv (c_ (Bb ⟨tv,tv,tv⟩ rfl (by decide)) (⟨tv,Ag tv (c_ (Bb t3 rfl tv) (⟨tv,Ag tv (c_ (Bb ⟨tv,tv⟩ rfl tv) (⟨tv,Bu (Gd rfl rfl tv rfl rfl rfl (nl rfl) (d0 tv (d_ (Ay 1 [(0,.ptr 1048576 0)] [(1048576,[.int .u64 (bV .u64 a0 (fM .u64 a0 13))])] (Bj ?_))))) Au⟩))⟩))⟩))⟩))⟩))⟩))⟩))⟩))⟩))))))
 refine Bl (Ag tv (Bw rfl tv (⟨tv,Ag tv (c_ (Bb ⟨tv,tv⟩ rfl tv) (⟨tv,Ag tv (c_ (Bb ⟨tv,tv⟩ rfl (nl rfl)) (⟨tv,Ag tv (Bw rfl tv (⟨tv,Ag tv (c_ (Bb ⟨tv,tv⟩ rfl tv) (⟨tv,Ag tv (c_ (Bb ⟨tv,tv⟩ rfl (nl rfl)) (⟨tv,Ag tv (c_ (Bb ⟨tv,tv,tv⟩ rfl (by decide)) (⟨tv,Ag tv (c_ (Bb t3 rfl tv) (⟨tv,Ag tv (c_ (Bb ⟨tv,tv⟩ rfl tv) (⟨tv,Bu (Gd rfl rfl tv rfl rfl rfl (nl rfl) (d0 tv (Gf (bv h0 fun v1 e2 h0=>Dn ⟨[(0,.ptr 1048576 0)],[(1048576,[.int .u64 v1])],[]⟩ (Ez (by subst e2; kernel_rfl)) (Bj (Bl (Ag tv (Bw rfl tv (⟨tv,Ag tv (c_ (Bb ⟨tv,tv⟩ rfl tv) (⟨tv,Ag tv (c_ (Bb ⟨tv,tv⟩ rfl (nl rfl)) (⟨tv,Ag tv (Bw rfl tv (⟨tv,Ag tv (c_ (Bb ⟨tv,tv⟩ rfl tv) (⟨tv,Ag tv (c_ (Bb ⟨tv,tv⟩ rfl (nl rfl)) (⟨tv,Ag tv (c_ (Bb ⟨tv,tv,tv⟩ rfl (by decide)) (⟨tv,Ag tv (c_ (Bb t3 rfl tv) (⟨tv,Ag tv (c_ (Bb ⟨tv,tv⟩ rfl tv) (⟨tv,Bu (Gd rfl rfl tv rfl rfl rfl (nl rfl) (d0 tv (d_ (Ay 1 [(0,.ptr 1048576 0)] [(1048576,[.int .u64 (bV .u64 v1 (fM .u64 v1 17))])] (Bj (An (st (Bw rfl tv (st (c_ (Bb ⟨tv,tv⟩ rfl tv) (st (c_ (Bb ⟨tv,tv⟩ rfl (nl rfl)) (st (Bw rfl tv ?_)))))))))))))) Au⟩))⟩))⟩))⟩))⟩))⟩))⟩))⟩))⟩))))))))) Au⟩))⟩))⟩))⟩))⟩))⟩))⟩))⟩))⟩)))
 refine o_ ?_
 obtain rfl:=sj h0
 exact Dd 2

/- slices.breakPatternsCmpFunc[loop.example/g00149/impl.Lease] -/
def QQ:=[m_ 13 2,m_ 14 1,b_ .sub 15 13 14,m_ 8 15]
def QR:=[m_ 16 8,B_ .geq 17 16 8]
def QS:=[m_ 18 8,iQ 19 (.conv .u64 (.t 18)),a_ 9 [.int .u64 0],s_ 9 19 1]
def QT:=[m_ 20 8,q_ 21 160 [.t 20],m_ 10 21]
def QU:=[m_ 22 1,m_ 23 8,B_ .quo 24 23 4,B_ .mul 25 24 2,b_ .add 26 22 25,B_ .sub 27 26 1,m_ 11 27]
def QV:=[m_ 28 11,m_ 29 1,m_ 30 8,B_ .quo 31 30 4,B_ .mul 32 31 2,b_ .add 33 29 32,B_ .add 34 33 1,b_ .leq 35 28 34]
def QW:List Bt:=[q_ 38 161 [.t 9],m_ 39 10,⟨some 40,.p (.bin .sub (.t 39) (.c (.int .u64 1))),none⟩,b_ .and 41 38 40,iQ 42 (.conv .i64 (.t 41)),m_ 12 42]
def QX:=[m_ 43 12,m_ 44 8,b_ .geq 45 43 44]
def QY:=[m_ 46 12,m_ 47 8,b_ .sub 48 46 47,m_ 12 48]
def QZ:=tk [m_ 49 0,m_ 50 11,m_ 51 0,m_ 52 1,m_ 53 12,b_ .add 54 52 53,m_ 55 0,m_ 56 1,m_ 57 12,b_ .add 58 56 57,x_ 59 55 58 4,L_ 60 59 4,m_ 61 0,m_ 62 11,x_ 63 61 62 4,L_ 64 63 4,x_ 65 49 50 4] (.alt [b_ .add 54 52 53,m_ 53 12,m_ 52 1,m_ 51 0] (s_ 65 60 4) (tk [x_ 66 51 54 4] (.alt [] (s_ 66 64 4) .fin .stop)) .stop)
def wH:=[m_ 36 11,B_ .add 37 36 1,m_ 11 37]
def QP:IR:=(.seq (sr QV (.ite (.t 35) .skip (.exit 0))) (.seq (.block 1 (sr QW (.seq (sr QX (iz 45 (.reg QY))) (.draw QZ)))) (.reg wH)))
def c150:Dp:=⟨4,67,[],sr QQ (sr QR (iz 17 (sr QS (sr QT (sr QU (Ju 0 QP))))))⟩
def K150 (C:Bh) (D:Bh:=C):Prop:=∀(a0:List Aa) (a1:Int) (a2:Int) (f3:Nat) (k3:List V) (is3:Aa→Aa→Option Int) (hs3:Iu k3) (hf3:∀(x0:Aa) (x1:Aa) r,is3 x0 x1=some r→C f3 ⟨.agg (Ac x0) :: .agg (Ac x1)::k3,[]⟩ ⟨iV r,[],[]⟩) (r:(List Aa)),qJ a0 a1 a2 is3=some r→D 150 ⟨[Af 2097152 a0,iV a1,iV a2,.clo f3 k3],[]⟩ ⟨.tup [],[],[(0,4,r.map Ac)]⟩
abbrev Vr:=fun x0 x1 x2 (r:List (Nat×V))=>(0,Af 2097152 x0)::(1,iV x1)::(9,.ptr 576 0)::(11,iV x2)::r
theorem F150 (H160:K160 C) (H161:K161 C):K150 C (FO C c150):=by
 intro a0 a1 a2 f3 k3 is3 hs3 hf3 r h0
 refine f0 (Ay 11 [(0,Af 2097152 a0),(1,iV a1),(8,iV (wi (a2-a1))),(17,.bool (decide ((wi (a2-a1))≥8)))] [] (Ct h0 (fun c1 h0=>?_) (fun c1 h0=>?_)))
 ·refine Ay 6 [(0,Af 2097152 a0),(1,iV a1),(8,iV (wi (a2-a1))),(9,.ptr 576 0)] [(576,[.int .u64 (IntKind.u64.wrap (wi (a2-a1)))])] (Bj (An (st (Bw rfl tv (bb h0 fun r2 e3 h0=>Vf (H160 (wi (a2-a1)) r2 e3) (o_ (Ay 2 [(0,Af 2097152 a0),(1,iV a1),(8,iV (wi (a2-a1))),(9,.ptr 576 0),(10,.int .u64 r2)] [(576,[.int .u64 (IntKind.u64.wrap (wi (a2-a1)))])] (Bc 3 (An (st (c_ (Bb ⟨tv,tv,tv⟩ rfl (by decide)) (o_ (Bc 5 (bv h0 fun v4 e5 h0=>Dn ⟨[(0,Af 2097152 a0),(1,iV a1),(8,iV (wi (a2-a1))),(9,.ptr 576 0),(10,.int .u64 r2),(11,iV v4)],[(576,[.int .u64 (IntKind.u64.wrap (wi (a2-a1)))])],[]⟩ (Ez (by subst e5; kernel_rfl)) (Cg (bb h0 fun r78 e79 h0=>Cz (R:=(fun S=>∃p54:List Aa,p54=r78∧S=⟨[(0,Af 2097152 p54)],[],[]⟩)) (Tg a1 a2 r2) (fun s S=>match s with | (p27,p28,p29)=>S=⟨Vr p27 a1 p28 [(8,iV (wi (a2-a1))),(10,.int .u64 r2)],[(576,[.int .u64 p29])],[]⟩) e79 _ (Ez (by kernel_rfl)) rfl 0 (fun _=>rfl) ?_ ?_))))))))))))))))
  ·rintro S _ hfg ⟨p54,rfl,rfl⟩
   obtain rfl:=sj h0
   exact bF (bE hfg (Eg rfl rfl rfl rfl rfl ⟨⟨rfl,Mp (fun _=>rfl)⟩,tv⟩))
  ·rintro ⟨p27,p28,p29⟩ o1 _ K1 rfl h1 hx1 hK1 hE1 hR1
   unfold Tg at h1
   refine Bc 5 (An (st (c_ (Bb ⟨tv,tv,tv⟩ rfl (by decide)) (o_ (Bc 5 (bv h1 fun v55 e56 h1=>Dn ⟨Vr p27 a1 p28 [(8,iV (wi (a2-a1))),(10,.int .u64 r2),(35,.bool v55)],[(576,[.int .u64 p29])],[]⟩ (Ez (by subst e56; kernel_rfl)) (Ct h1 (fun c57 h1=>?_) (fun c57 h1=>?_))))))))
   ·refine Mx 5 (An (bb h1 fun r58 e59 h1=>gW [576] [] [] (H161 p29 r58 e59) (Bi rfl rfl) (sw ⟨Vr p27 a1 p28 [(8,iV (wi (a2-a1))),(10,.int .u64 r2),(38,.int .u64 r58.1)],[(576,[.int .u64 r58.2])],[]⟩ (Ez (by kernel_rfl)) (Bw rfl tv (o_ (Ay 5 (Vr p27 a1 p28 [(8,iV (wi (a2-a1))),(10,.int .u64 r2),(12,iV (wi (fJ .u64 r58.1 (IntKind.u64.wrap (r2-1)))))]) [(576,[.int .u64 r58.2])] (Bc 6 (bv h1 fun v60 e61 h1=>Dn ⟨Vr p27 a1 p28 [(8,iV (wi (a2-a1))),(10,.int .u64 r2),(12,iV (wi (fJ .u64 r58.1 (IntKind.u64.wrap (r2-1))))),(45,.bool v60)],[(576,[.int .u64 r58.2])],[]⟩ (Ez (by subst e61; kernel_rfl)) (Kg (cb:=v60) (fun S=>∃p63:Int,S=⟨Vr p27 a1 p28 [(8,iV (wi (a2-a1))),(10,.int .u64 r2),(12,iV p63)],[(576,[.int .u64 r58.2])],[]⟩∧Tf a1 p27 p28 r58 p63=some o1) rfl ?_ (fun c77 J76=>?_) (fun c77 J76=>?_))))))))))
    ·rintro _ ⟨p63,rfl,h1⟩
     refine Mx 1 (bb h1 fun y64 e65 h1=>bb h1 fun y66 e67 h1=>bb h1 fun y68 e69 h1=>bb h1 fun y70 e71 h1=>bb h1 fun y72 e73 h1=>bb h1 fun y74 e75 h1=>Bc 10 (Bl (d_ (Yp rfl rfl rfl e65 (Bl (Ca (c_ (Oa rfl rfl e67) (⟨⟨Cv rfl rfl e67 rfl,tv⟩,Ag tv (Bw rfl tv (⟨⟨Cv rfl rfl e67 rfl,tv⟩,Ag tv (Bw rfl tv (⟨⟨Cv rfl rfl e67 rfl,tv⟩,Ag tv (c_ (Ka rfl rfl e69) (⟨⟨Cv rfl rfl e67 rfl,tv⟩,?_⟩))⟩))⟩))⟩))))))))
     refine Ca (c_ (Oa rfl rfl e71) (⟨⟨Cv rfl rfl e71 rfl,Cv rfl rfl e67 rfl,tv⟩,Ag tv (c_ (Ka rfl rfl e69) (⟨⟨Cv rfl rfl e71 rfl,Cv rfl rfl e67 rfl,tv⟩,Bu (Hh (y':=y66) rfl rfl tv rfl rfl rfl rfl e71 (nl rfl) rfl rfl rfl rfl (iC ⟨[(0,Af 2097152 (p27.set p28.toNat y66)),(1,iV a1),(8,iV (wi (a2-a1))),(9,.ptr 576 0),(10,.int .u64 r2),(11,iV p28),(12,iV p63),(51,Af 2097152 (p27.set p28.toNat y66)),(52,iV a1),(53,iV p63),(54,iV (wi (a1+p63))),(64,.agg (Ac y70))],[(576,[.int .u64 r58.2])],[]⟩ (fg ⟨congrArg (fun z=>some ((.own 2097152 0 4 z:V))) Aw,rfl,rfl,rfl,rfl,rfl,rfl,congrArg (fun z=>some ((.own 2097152 0 4 z:V))) Aw,rfl,rfl,rfl,rfl,tv⟩ ⟨rfl,tv⟩) ⟨[],⟨⟨.inl tv,Ba (Bb t3 rfl tv) rfl⟩,⟨.inl tv,Ba (Dt (v:=iV p63) rfl tv) rfl⟩,⟨.inl tv,Ba (Dt (v:=iV a1) rfl tv) rfl⟩,⟨.inl tv,Ba (Dt (v:=Af 2097152 (p27.set p28.toNat y66)) rfl tv) rfl⟩,tv⟩,tv,Ag tv (c_ (Ka rfl rfl e73) (⟨tv,Bu (Hh (y':=y70) rfl rfl tv rfl rfl rfl rfl e75 (nl rfl) rfl rfl rfl rfl (d0 tv (Gf (Rd (Dn ⟨[(0,Af 2097152 ((p27.set p28.toNat y66).set ((wi (a1+p63)).toNat) y70)),(1,iV a1),(8,iV (wi (a2-a1))),(9,.ptr 576 0),(10,.int .u64 r2),(11,iV p28)],[(576,[.int .u64 r58.2])],[]⟩ (fg ⟨congrArg (fun z=>some ((.own 2097152 0 4 z:V))) Aw,rfl,rfl,rfl,rfl,rfl,tv⟩ ⟨rfl,tv⟩) (An (st (Bw rfl tv (st (c_ (Bb t3 rfl tv) (st (Bw rfl tv (Hj ?_))))))))))))) Au⟩))⟩)) Au⟩))⟩))
     obtain rfl:=sj h1
     exact kn hK1 rfl rfl
    ·replace h1:=ip c77 h1
     refine Bc 5 ?_
     exact jn J76 ⟨_,rfl,h1⟩
    ·replace h1:=Wx c77 h1
     refine Jf ?_
     exact jn J76 ⟨_,rfl,h1⟩
   ·obtain rfl:=sj h1
    obtain rfl:=hx1 _ rfl
    refine Jv rfl ?_
    exact jn hE1 ⟨_,rfl,rfl⟩
 ·refine Jf ?_
  obtain rfl:=sj h0
  exact bF (Eg rfl rfl rfl rfl rfl ⟨⟨rfl,Mp (fun _=>rfl)⟩,tv⟩)

/- slices.order2CmpFunc[loop.example/g00149/impl.Lease] -/
def VJ:=[i_ 10 0,i_ 11 0]
def VK:=tk [m_ 12 4,m_ 13 0,m_ 14 2,x_ 15 13 14 4,L_ 16 15 4,m_ 17 0,m_ 18 1,x_ 19 17 18 4,L_ 20 19 4] (.alt [] ⟨some 21,.callv (.t 12) [.t 16,.t 20],none⟩ (tk [B_ .lss 22 21 0] .fin) .stop)
def VL:=[m_ 23 3,iQ 24 (.nilc (.t 23)),l_ 25 24 1,B_ .add 26 25 1,iQ 27 (.nilc (.t 23)),s_ 27 26 1]
def VM:=[m_ 28 2,m_ 29 1,m_ 10 28,m_ 11 29]
def VN:=[m_ 30 1,m_ 31 2,m_ 10 30,m_ 11 31]
def c165:Dp:=⟨5,32,[.t 10,.t 11],sr VJ (.seq (sd VK (iz 22 (sr VL (rr VM)))) (rr VN))⟩
def K165 (C:Bh) (D:Bh:=C):Prop:=∀(a0:List Aa) (a1:Int) (a2:Int) (a3:Int) (f4:Nat) (k4:List V) (is4:Aa→Aa→Option Int) (hs4:Iu k4) (hf4:∀(x0:Aa) (x1:Aa) r,is4 x0 x1=some r→C f4 ⟨.agg (Ac x0) :: .agg (Ac x1)::k4,[]⟩ ⟨iV r,[],[]⟩) (r:Int×Int×Int),qL a0 a1 a2 a3 is4=some r→D 165 ⟨[Ck a0,iV a1,iV a2,.ptr 1048576 0,.clo f4 k4],[[iV a3]]⟩ ⟨.tup [iV r.1,iV r.2.1],[[iV r.2.2]],[]⟩
theorem F165:K165 C (FO C c165):=by
 intro a0 a1 a2 a3 f4 k4 is4 hs4 hf4 r h0
 refine f0 (Ay 4 [(0,Ck a0),(1,iV a1),(2,iV a2),(3,.ptr 1048576 0),(4,.clo f4 k4)] [(1048576,[iV a3])] (Bj (Bj (bb h0 fun y1 e2 h0=>bb h0 fun y3 e4 h0=>bb h0 fun r5 e6 h0=>Bc 3 (Bl (d_ (xv_ rfl rfl rfl e2 (Bc 3 (Bl (d_ (xv_ rfl rfl rfl e4 (Bl (Ag tv (c_ (v:=.agg (Ac y3)) (Bb ⟨tv,tv⟩ rfl (nl rfl)) (⟨tv,Bu (Gy (r:=iV r5) rfl false (hf4 _ _ r5 e6) ⟨tv,tv,tv⟩ (ar (Bi rfl hs4.2.2.1)) (Av rfl (Av rfl (hs4.2.1 _ _ _ _ _))) (fun _=>rfl) (dw [(1,iV a1),(2,iV a2),(3,.ptr 1048576 0),(21,iV r5)] [(1048576,[iV a3])] tv (d_ (Ay 2 [(1,iV a1),(2,iV a2),(3,.ptr 1048576 0),(22,.bool (decide (r5<0)))] [(1048576,[iV a3])] (Ct h0 (fun c7 h0=>?_) (fun c7 h0=>?_)))))) Au⟩)))))))))))))))
 ·obtain rfl:=sj h0
  exact Dd 16
 ·obtain rfl:=sj h0
  exact Dd 9

/- slices.medianCmpFunc[loop.example/g00149/impl.Lease] -/
def VD:=[i_ 12 0]
def VE:=[m_ 14 0,m_ 15 1,m_ 16 2,m_ 17 4,m_ 18 5,q_ 19 165 [.t 14,.t 15,.t 16,.t 17,.t 18],m_ 13 19,e_ 20 13 0,e_ 21 13 1,m_ 1 20,m_ 2 21]
def VF:=[m_ 23 0,m_ 24 2,m_ 25 3,m_ 26 4,m_ 27 5,q_ 28 165 [.t 23,.t 24,.t 25,.t 26,.t 27],m_ 22 28,e_ 29 22 0,e_ 30 22 1,m_ 2 29,m_ 3 30]
def VG:=[m_ 32 0,m_ 33 1,m_ 34 2,m_ 35 4,m_ 36 5,q_ 37 165 [.t 32,.t 33,.t 34,.t 35,.t 36],m_ 31 37,e_ 38 31 0,e_ 39 31 1,m_ 1 38,m_ 2 39]
def VH:=[m_ 40 2,m_ 12 40]
def c163:Dp:=⟨6,41,[.t 12],sr VD (sr VE (sr VF (sr VG (rr VH))))⟩
def EN (C:Bh) (D:Bh:=C):Prop:=∀(a0:List Aa) (a1:Int) (a2:Int) (a3:Int) (a4:Int) (f5:Nat) (k5:List V) (is5:Aa→Aa→Option Int) (hs5:Iu k5) (hf5:∀(x0:Aa) (x1:Aa) r,is5 x0 x1=some r→C f5 ⟨.agg (Ac x0) :: .agg (Ac x1)::k5,[]⟩ ⟨iV r,[],[]⟩) (r:Int×Int),AJ a0 a1 a2 a3 a4 is5=some r→D 163 ⟨[Ck a0,iV a1,iV a2,iV a3,.ptr 1048576 0,.clo f5 k5],[[iV a4]]⟩ ⟨iV r.1,[[iV r.2]],[]⟩
theorem F163 (H165:K165 C):EN C (FO C c163):=by
 intro a0 a1 a2 a3 a4 f5 k5 is5 hs5 hf5 r h0
 refine f0 (Ay 3 [(0,Ck a0),(1,iV a1),(2,iV a2),(3,iV a3),(4,.ptr 1048576 0),(5,.clo f5 k5)] [(1048576,[iV a4])] (Bc 6 (An (bb h0 fun r1 e2 h0=>st (Eb [1048576] [] [] false (H165 a0 a1 a2 a4 f5 k5 is5 hs5 hf5 r1 e2) ⟨tv,tv,tv,tv,tv,tv⟩ (by kernel_rfl) (congrArg (fun z=>Gn.mk z [[iV a4]]) (Av rfl (Av rfl (Av rfl (Av rfl (Av (Eo hs5) rfl)))))) (by kernel_rfl) (by kernel_rfl) (fun _=>Bi rfl rfl) (o_ (Ay 6 [(0,Ck a0),(1,iV r1.1),(2,iV r1.2.1),(3,iV a3),(4,.ptr 1048576 0),(5,.clo f5 k5)] [(1048576,[iV r1.2.2])] (Bc 6 (An (bb h0 fun r3 e4 h0=>st (Eb [1048576] [] [] false (H165 a0 r1.2.1 a3 r1.2.2 f5 k5 is5 hs5 hf5 r3 e4) ⟨tv,tv,tv,tv,tv,tv⟩ (by kernel_rfl) (congrArg (fun z=>Gn.mk z [[iV r1.2.2]]) (Av rfl (Av rfl (Av rfl (Av rfl (Av (Eo hs5) rfl)))))) (by kernel_rfl) (by kernel_rfl) (fun _=>Bi rfl rfl) (o_ (Ay 6 [(0,Ck a0),(1,iV r1.1),(2,iV r3.1),(4,.ptr 1048576 0),(5,.clo f5 k5)] [(1048576,[iV r3.2.2])] (Bc 6 (An (bb h0 fun r5 e6 h0=>st (Eb [1048576] [] [] false (H165 a0 r1.1 r3.1 r3.2.2 f5 k5 is5 hs5 hf5 r5 e6) ⟨tv,tv,tv,tv,tv,tv⟩ (by kernel_rfl) (congrArg (fun z=>Gn.mk z [[iV r3.2.2]]) (Av rfl (Av rfl (Av rfl (Av rfl (Av (Eo hs5) rfl)))))) (by kernel_rfl) (by kernel_rfl) (fun _=>Bi rfl rfl) (o_ ?_))))))))))))))))))
 obtain rfl:=sj h0
 exact Dd 12

/- slices.medianAdjacentCmpFunc[loop.example/g00149/impl.Lease] -/
def VB:=[i_ 8 0]
def VC:=[m_ 9 0,m_ 10 1,B_ .sub 11 10 1,m_ 12 1,m_ 13 1,B_ .add 14 13 1,m_ 15 2,m_ 16 3,q_ 17 163 [.t 9,.t 11,.t 12,.t 14,.t 15,.t 16],m_ 8 17]
def VA:Dp:=⟨4,18,[.t 8],sr VB (rr VC)⟩
def K162 (C:Bh) (D:Bh:=C):Prop:=∀(a0:List Aa) (a1:Int) (a2:Int) (f3:Nat) (k3:List V) (is3:Aa→Aa→Option Int) (hs3:Iu k3) (hf3:∀(x0:Aa) (x1:Aa) r,is3 x0 x1=some r→C f3 ⟨.agg (Ac x0) :: .agg (Ac x1)::k3,[]⟩ ⟨iV r,[],[]⟩) (r:Int×Int),qK a0 a1 a2 is3=some r→D 162 ⟨[Ck a0,iV a1,.ptr 1048576 0,.clo f3 k3],[[iV a2]]⟩ ⟨iV r.1,[[iV r.2]],[]⟩
theorem F162 (H163:EN C):K162 C (FO C VA):=by
 intro a0 a1 a2 f3 k3 is3 hs3 hf3 r h0
 refine f0 (Ay 3 [(0,Ck a0),(1,iV a1),(2,.ptr 1048576 0),(3,.clo f3 k3)] [(1048576,[iV a2])] (Bc 9 (An (bb h0 fun r1 e2 h0=>st (Eb [1048576] [] [] false (H163 a0 (wi (a1-1)) a1 (wi (a1+1)) a2 f3 k3 is3 hs3 hf3 r1 e2) ⟨tv,tv,tv,tv,tv,tv,tv⟩ (by kernel_rfl) (congrArg (fun z=>Gn.mk z [[iV a2]]) (Av rfl (Av rfl (Av rfl (Av rfl (Av rfl (Av (Eo hs3) rfl))))))) (by kernel_rfl) (by kernel_rfl) (fun _=>Bi rfl rfl) (o_ ?_))))))
 obtain rfl:=sj h0
 exact Dd 3

/- slices.choosePivotCmpFunc[loop.example/g00149/impl.Lease] -/
def RA:=[i_ 8 0,i_ 9 0]
def RE:=[m_ 15 2,m_ 16 1,b_ .sub 17 15 16,m_ 10 17]
def RF:=[a_ 11 [iV 0]]
def RG:=[m_ 18 1,m_ 19 10,B_ .quo 20 19 4,B_ .mul 21 20 1,b_ .add 22 18 21,m_ 12 22]
def RH:=[m_ 23 1,m_ 24 10,B_ .quo 25 24 4,B_ .mul 26 25 2,b_ .add 27 23 26,m_ 13 27]
def RI:=[m_ 28 1,m_ 29 10,B_ .quo 30 29 4,B_ .mul 31 30 3,b_ .add 32 28 31,m_ 14 32]
def RJ:=[m_ 33 10,B_ .geq 34 33 8]
def RK:=[m_ 35 10,B_ .geq 36 35 50]
def RL:=[m_ 37 0,m_ 38 12,m_ 39 3,q_ 40 162 [.t 37,.t 38,.t 11,.t 39],m_ 12 40]
def RM:=[m_ 41 0,m_ 42 13,m_ 43 3,q_ 44 162 [.t 41,.t 42,.t 11,.t 43],m_ 13 44]
def wI:=[m_ 45 0,m_ 46 14,m_ 47 3,q_ 48 162 [.t 45,.t 46,.t 11,.t 47],m_ 14 48]
def wJ:=[m_ 49 0,m_ 50 12,m_ 51 13,m_ 52 14,m_ 53 3,q_ 54 163 [.t 49,.t 50,.t 51,.t 52,.t 11,.t 53],m_ 13 54]
def wK:=[l_ 55 11 1]
def wL:=[B_ .eql 58 55 0,m_ 57 58]
def wM:=[m_ 59 13,m_ 8 59,i_ 9 1]
def wN:=[B_ .eql 61 55 12,m_ 60 61]
def wO:=[m_ 62 13,m_ 8 62,i_ 9 2]
def wP:=[m_ 56 13,m_ 8 56,i_ 9 0]
def c151:Dp:=⟨4,63,[.t 8,.t 9],sr RA (sr RE (sr RF (sr RG (sr RH (sr RI (.seq (sr RJ (iz 34 (.seq (sr RK (iz 36 (sr RL (sr RM (.reg wI))))) (.reg wJ)))) (sr wK (.block 0 (sr wL (.ite (.t 57) (rr wM) (sr wN (.ite (.t 60) (rr wO) (rr wP)))))))))))))⟩
def K151 (C:Bh) (D:Bh:=C):Prop:=∀(a0:List Aa) (a1:Int) (a2:Int) (f3:Nat) (k3:List V) (is3:Aa→Aa→Option Int) (hs3:Iu k3) (hf3:∀(x0:Aa) (x1:Aa) r,is3 x0 x1=some r→C f3 ⟨.agg (Ac x0) :: .agg (Ac x1)::k3,[]⟩ ⟨iV r,[],[]⟩) (r:Int×Int),g151 a0 a1 a2 is3=some r→D 151 ⟨[Ck a0,iV a1,iV a2,.clo f3 k3],[]⟩ ⟨.tup [iV r.1,iV r.2],[],[]⟩
abbrev aQ:=fun x0 x1 x2 (r:List (Nat×V))=>(0,Ck x0)::(3,.clo x1 x2)::(11,.ptr 704 0)::r
theorem F151 (H162:K162 C) (H163:EN C):K151 C (FO C c151):=by
 intro a0 a1 a2 f3 k3 is3 hs3 hf3 r h0
 refine f0 (Ay 11 [(0,Ck a0),(1,iV a1),(3,.clo f3 k3),(10,iV (wi (a2-a1)))] [] (Bj (An (st (Iz (Hj (Dn ⟨[(0,Ck a0),(1,iV a1),(3,.clo f3 k3),(10,iV (wi (a2-a1))),(11,.ptr 704 0)],[(704,[iV 0])],[]⟩ (fg ⟨rfl,rfl,congrArg (fun z=>some z) (iD hs3),rfl,rfl,tv⟩ ⟨rfl,tv⟩) (Bc 3 (An (st (c_ (Bb ⟨tv,tv,tv⟩ rfl (by decide)) (o_ (Bc 4 (bv h0 fun v1 e2 h0=>Dn ⟨[(0,Ck a0),(1,iV a1),(3,.clo f3 k3),(10,iV (wi (a2-a1))),(11,.ptr 704 0),(12,iV v1)],[(704,[iV 0])],[]⟩ (fg ⟨(by subst e2; rfl),(by subst e2; rfl),(by subst e2; rfl),(by subst e2; rfl),(by subst e2; rfl),(by subst e2; rfl),tv⟩ ⟨(by subst e2; rfl),tv⟩) (Bc 3 (An (st (c_ (Bb ⟨tv,tv,tv⟩ rfl (by decide)) (o_ (Bc 4 (bv h0 fun v3 e4 h0=>Dn ⟨[(0,Ck a0),(1,iV a1),(3,.clo f3 k3),(10,iV (wi (a2-a1))),(11,.ptr 704 0),(12,iV v1),(13,iV v3)],[(704,[iV 0])],[]⟩ (fg ⟨(by subst e4; rfl),(by subst e4; rfl),(by subst e4; rfl),(by subst e4; rfl),(by subst e4; rfl),(by subst e4; rfl),(by subst e4; rfl),tv⟩ ⟨(by subst e4; rfl),tv⟩) (Bc 3 (An (st (c_ (Bb ⟨tv,tv,tv⟩ rfl (by decide)) (o_ (Bc 4 (bv h0 fun v5 e6 h0=>Dn ⟨[(0,Ck a0),(3,.clo f3 k3),(10,iV (wi (a2-a1))),(11,.ptr 704 0),(12,iV v1),(13,iV v3),(14,iV v5)],[(704,[iV 0])],[]⟩ (fg ⟨(by subst e6; rfl),(by subst e6; rfl),(by subst e6; rfl),(by subst e6; rfl),(by subst e6; rfl),(by subst e6; rfl),(by subst e6; rfl),tv⟩ ⟨(by subst e6; rfl),tv⟩) (Ay 5 (aQ a0 f3 k3 [(10,iV (wi (a2-a1))),(12,iV v1),(13,iV v3),(14,iV v5),(34,.bool (decide ((wi (a2-a1))≥8)))]) [(704,[iV 0])] (Kg (cb:=(decide ((wi (a2-a1))≥8))) (fun S=>∃p21:Int,∃p22:Int,S=⟨[(11,.ptr 704 0),(13,iV p21)],[(704,[iV p22])],[]⟩∧Th p21 p22=some r) rfl ?_ (fun c26 J25=>?_) (fun c26 J25=>?_)))))))))))))))))))))))))))))))
 ·rintro _ ⟨p21,p22,rfl,h0⟩
  refine Ay 10 [(13,iV p21),(55,iV p22),(57,.bool (p22==0))] [] (Ct h0 (fun c23 h0=>?_) (fun c23 h0=>?_))
  ·obtain rfl:=sj h0
   exact Dd 6
  ·refine Ay 4 [(13,iV p21),(60,.bool (p22==12))] [] (Ct h0 (fun c24 h0=>?_) (fun c24 h0=>?_))
   ·obtain rfl:=sj h0
    exact Dd 6
   ·obtain rfl:=sj h0
    exact Dd 6
 ·replace h0:=ip c26 h0
  refine Ay 5 (aQ a0 f3 k3 [(12,iV v1),(13,iV v3),(14,iV v5),(36,.bool (decide ((wi (a2-a1))≥50)))]) [(704,[iV 0])] (Kg (cb:=(decide ((wi (a2-a1))≥50))) (fun S=>∃p34:Int,∃p35:Int,∃p36:Int,∃p37:Int,S=⟨aQ a0 f3 k3 [(12,iV p34),(13,iV p35),(14,iV p36)],[(704,[iV p37])],[]⟩∧Ti a0 is3 p34 p35 p36 p37=some r) rfl ?_ (fun c41 J40=>?_) (fun c41 J40=>?_))
  ·rintro _ ⟨p34,p35,p36,p37,rfl,h0⟩
   refine Bc 6 (An (bb h0 fun r38 e39 h0=>st (Eb [704] [] [] false (H163 a0 p34 p35 p36 p37 f3 k3 is3 hs3 hf3 r38 e39) ⟨tv,tv,tv,tv,tv,tv,tv⟩ (by kernel_rfl) (congrArg (fun z=>Gn.mk z [[iV p37]]) (Av rfl (Av rfl (Av rfl (Av rfl (Av rfl (Av (Eo hs3) rfl))))))) (by kernel_rfl) (by kernel_rfl) (fun _=>Bi rfl rfl) (st (Bw rfl tv (Hj ?_))))))
   exact jn J25 ⟨_,_,rfl,h0⟩
  ·replace h0:=ip c41 h0
   refine Bc 4 (An (bb h0 fun r42 e43 h0=>st (Eb [704] [] [] false (H162 a0 v1 0 f3 k3 is3 hs3 hf3 r42 e43) ⟨tv,tv,tv,tv,tv⟩ (by kernel_rfl) (congrArg (fun z=>Gn.mk z [[iV 0]]) (Av rfl (Av rfl (Av rfl (Av (Eo hs3) rfl))))) (by kernel_rfl) (by kernel_rfl) (fun _=>Bi rfl rfl) (o_ (Ay 2 (aQ a0 f3 k3 [(12,iV r42.1),(13,iV v3),(14,iV v5)]) [(704,[iV r42.2])] (Bc 4 (An (bb h0 fun r44 e45 h0=>st (Eb [704] [] [] false (H162 a0 v3 r42.2 f3 k3 is3 hs3 hf3 r44 e45) ⟨tv,tv,tv,tv,tv⟩ (by kernel_rfl) (congrArg (fun z=>Gn.mk z [[iV r42.2]]) (Av rfl (Av rfl (Av rfl (Av (Eo hs3) rfl))))) (by kernel_rfl) (by kernel_rfl) (fun _=>Bi rfl rfl) (o_ (Ay 2 (aQ a0 f3 k3 [(12,iV r42.1),(13,iV r44.1),(14,iV v5)]) [(704,[iV r44.2])] (Bc 3 (An (bb h0 fun r46 e47 h0=>st (Eb [704] [] [] false (H162 a0 v5 r44.2 f3 k3 is3 hs3 hf3 r46 e47) ⟨tv,tv,tv,tv,tv⟩ (by kernel_rfl) (congrArg (fun z=>Gn.mk z [[iV r44.2]]) (Av rfl (Av rfl (Av rfl (Av (Eo hs3) rfl))))) (by kernel_rfl) (by kernel_rfl) (fun _=>Bi rfl rfl) (st (Bw rfl tv (Hj ?_))))))))))))))))))
   exact jn J40 ⟨_,_,_,_,rfl,h0⟩
  ·replace h0:=Wx c41 h0
   refine Jf ?_
   exact jn J40 ⟨_,_,_,_,rfl,h0⟩
 ·replace h0:=Wx c26 h0
  refine Jf ?_
  exact jn J25 ⟨_,_,rfl,h0⟩

/- slices.reverseRangeCmpFunc[loop.example/g00149/impl.Lease] -/
def RR:=[m_ 10 1,m_ 8 10]
def RS:=[m_ 11 2,B_ .sub 12 11 1,m_ 9 12]
def RU:=[m_ 13 8,m_ 14 9,b_ .lss 15 13 14]
def RX:=tk [m_ 16 0,m_ 17 8,m_ 18 0,m_ 19 9,m_ 20 0,m_ 21 9,x_ 22 20 21 4,L_ 23 22 4,m_ 24 0,m_ 25 8,x_ 26 24 25 4,L_ 27 26 4,x_ 28 16 17 4] (.alt [m_ 19 9,m_ 18 0] (s_ 28 23 4) (tk [x_ 29 18 19 4] (.alt [] (s_ 29 27 4) .fin .stop)) .stop)
def RY:=[m_ 30 8,B_ .add 31 30 1,m_ 8 31]
def RZ:=[m_ 32 9,B_ .sub 33 32 1,m_ 9 33]
def RN:IR:=(.seq (sr RU (.ite (.t 15) .skip (.exit 0))) (.block 1 (sd RX (sr RY (.reg RZ)))))
def c152:Dp:=⟨4,34,[],sr RR (sr RS (Ju 0 RN))⟩
def K152 (C:Bh) (D:Bh:=C):Prop:=∀(a0:List Aa) (a1:Int) (a2:Int) (f3:Nat) (k3:List V) (is3:Aa→Aa→Option Int) (hs3:Iu k3) (hf3:∀(x0:Aa) (x1:Aa) r,is3 x0 x1=some r→C f3 ⟨.agg (Ac x0) :: .agg (Ac x1)::k3,[]⟩ ⟨iV r,[],[]⟩) (r:(List Aa)),g152 a0 a1 a2 is3=some r→D 152 ⟨[Af 2097152 a0,iV a1,iV a2,.clo f3 k3],[]⟩ ⟨.tup [],[],[(0,4,r.map Ac)]⟩
theorem F152:K152 C (FO C c152):=by
 intro a0 a1 a2 f3 k3 is3 hs3 hf3 r h0
 refine f0 (Ay 10 [(0,Af 2097152 a0),(8,iV a1),(9,iV (wi (a2-1)))] [] (Cg (bb h0 fun r47 e48 h0=>Cz (R:=(fun S=>∃p33:List Aa,p33=r47∧S=⟨[(0,Af 2097152 p33)],[],[]⟩)) (Xw) (fun s S=>match s with | (p14,p15,p16)=>S=⟨[(0,Af 2097152 p14),(8,iV p15),(9,iV p16)],[],[]⟩) e48 _ (Ez (by kernel_rfl)) rfl 0 (fun _=>rfl) ?_ ?_)))
 ·rintro S _ hfg ⟨p33,rfl,rfl⟩
  obtain rfl:=sj h0
  exact bF (bE hfg (Eg rfl rfl rfl rfl rfl ⟨⟨rfl,Mp (fun _=>rfl)⟩,tv⟩))
 ·rintro ⟨p14,p15,p16⟩ o1 _ K1 rfl h1 hx1 hK1 hE1 hR1
  refine Ay 6 [(0,Af 2097152 p14),(8,iV p15),(9,iV p16),(15,.bool (decide (p15<p16)))] [] (Ct h1 (fun c34 h1=>?_) (fun c34 h1=>?_))
  ·refine Mx 4 (bb h1 fun y35 e36 h1=>bb h1 fun y37 e38 h1=>bb h1 fun y39 e40 h1=>bb h1 fun y41 e42 h1=>bb h1 fun y43 e44 h1=>bb h1 fun y45 e46 h1=>Bc 6 (Bl (d_ (Yp rfl rfl rfl e36 (Bl (Ca (c_ (Oa rfl rfl e38) (⟨⟨Cv rfl rfl e38 rfl,tv⟩,Ag tv (Bw rfl tv (⟨⟨Cv rfl rfl e38 rfl,tv⟩,Ag tv (Bw rfl tv (⟨⟨Cv rfl rfl e38 rfl,tv⟩,Ag tv (c_ (Ka rfl rfl e40) (⟨⟨Cv rfl rfl e38 rfl,tv⟩,Ca (c_ (Oa rfl rfl e42) (⟨⟨Cv rfl rfl e42 rfl,Cv rfl rfl e38 rfl,tv⟩,Ag tv (c_ (Ka rfl rfl e40) (⟨⟨Cv rfl rfl e42 rfl,Cv rfl rfl e38 rfl,tv⟩,Bu (Hh (y':=y37) rfl rfl tv rfl rfl rfl rfl e42 (nl rfl) rfl rfl rfl rfl (iC ⟨[(0,Af 2097152 (p14.set p15.toNat y37)),(8,iV p15),(9,iV p16),(18,Af 2097152 (p14.set p15.toNat y37)),(19,iV p16),(27,.agg (Ac y41))],[],[]⟩ (fg ⟨congrArg (fun z=>some ((.own 2097152 0 4 z:V))) Aw,rfl,rfl,congrArg (fun z=>some ((.own 2097152 0 4 z:V))) Aw,rfl,rfl,tv⟩ tv) ⟨[],⟨⟨.inl tv,Ba (Dt (v:=iV p16) rfl tv) rfl⟩,⟨.inl tv,Ba (Dt (v:=Af 2097152 (p14.set p15.toNat y37)) rfl tv) rfl⟩,tv⟩,tv,Ag tv (c_ (Ka rfl rfl e44) (⟨tv,?_⟩))⟩)) Au⟩))⟩))⟩))⟩))⟩))⟩))))))))
   refine Bu (Hh (y':=y41) rfl rfl tv rfl rfl rfl rfl e46 (nl rfl) rfl rfl rfl rfl (d0 tv (Gf (Dn ⟨[(0,Af 2097152 ((p14.set p15.toNat y37).set p16.toNat y41)),(8,iV p15),(9,iV p16)],[],[]⟩ (fg ⟨congrArg (fun z=>some ((.own 2097152 0 4 z:V))) Aw,rfl,rfl,tv⟩ tv) (Ay 5 [(0,Af 2097152 ((p14.set p15.toNat y37).set p16.toNat y41)),(8,iV (wi (p15+1))),(9,iV p16)] [] (Bc 5 ?_)))))) Au
   obtain rfl:=sj h1
   exact kn hK1 rfl rfl
  ·obtain rfl:=sj h1
   obtain rfl:=hx1 _ rfl
   refine Jv rfl ?_
   exact jn hE1 ⟨_,rfl,rfl⟩

/- slices.partialInsertionSortCmpFunc[loop.example/g00149/impl.Lease] -/
def SE:=[k_ 8 (.bool false)]
def SF:=[m_ 13 1,B_ .add 14 13 1,m_ 9 14]
def SG:=[i_ 10 0]
def SH:=[m_ 15 10,B_ .lss 16 15 5]
def SI:=tk [m_ 19 9,m_ 20 2,b_ .lss 21 19 20,m_ 22 21,mT 22 23 3,mT 22 24 0,mT 22 25 9,xT 22 26 24 25 4,lT 22 27 26 4 true,mT 22 28 0,mT 22 29 9,pT 22 30 (.bin .sub (.t 29) (.c (iV 1))),xT 22 31 28 30 4,lT 22 32 31 4 true] (.alt [] ⟨some 33,.callv (.t 23) [.t 27,.t 32],some (22,true)⟩ (tk [pT 22 34 (.bin .lss (.t 33) (.c (iV 0))),pT 22 35 (.un .not (.t 34)),pa 36 22 35] .fin) .stop)
def SJ:=[m_ 37 9,B_ .add 38 37 1,m_ 9 38]
def SA:IR:=(.seq (sd SI (.ite (.t 36) .skip (.exit 2))) (.block 3 (.reg SJ)))
def SK:=[m_ 39 9,m_ 40 2,b_ .eql 41 39 40]
def SL:=[k_ 8 (.bool true)]
def SM:=[m_ 42 2,m_ 43 1,b_ .sub 44 42 43,B_ .lss 45 44 50]
def SN:=[k_ 8 (.bool false)]
def wQ:=tk [m_ 46 0,m_ 47 9,m_ 48 0,m_ 49 9,B_ .sub 50 49 1,m_ 51 0,m_ 52 9,B_ .sub 53 52 1,x_ 54 51 53 4,L_ 55 54 4,m_ 56 0,m_ 57 9,x_ 58 56 57 4,L_ 59 58 4,x_ 60 46 47 4] (.alt [B_ .sub 50 49 1,m_ 49 9,m_ 48 0] (s_ 60 55 4) (tk [x_ 61 48 50 4] (.alt [] (s_ 61 59 4) .fin .stop)) .stop)
def wR:=[m_ 62 9,m_ 63 1,b_ .sub 64 62 63,B_ .geq 65 64 2]
def wS:=[m_ 66 9,B_ .sub 67 66 1,m_ 11 67]
def wT:=[m_ 68 11,B_ .geq 69 68 1]
def wU:=tk [m_ 72 3,m_ 73 0,m_ 74 11,x_ 75 73 74 4,L_ 76 75 4,m_ 77 0,m_ 78 11,B_ .sub 79 78 1,x_ 80 77 79 4,L_ 81 80 4] (.alt [] ⟨some 82,.callv (.t 72) [.t 76,.t 81],none⟩ (tk [B_ .lss 83 82 0,N_ 84 83] .fin) .stop)
def wV:=tk [m_ 85 0,m_ 86 11,m_ 87 0,m_ 88 11,B_ .sub 89 88 1,m_ 90 0,m_ 91 11,B_ .sub 92 91 1,x_ 93 90 92 4,L_ 94 93 4,m_ 95 0,m_ 96 11,x_ 97 95 96 4,L_ 98 97 4,x_ 99 85 86 4] (.alt [B_ .sub 89 88 1,m_ 88 11,m_ 87 0] (s_ 99 94 4) (tk [x_ 100 87 89 4] (.alt [] (s_ 100 98 4) .fin .stop)) .stop)
def wW:=[m_ 70 11,B_ .sub 71 70 1,m_ 11 71]
def SB:IR:=(.seq (sr wT (.ite (.t 69) .skip (.exit 4))) (.seq (.block 5 (.seq (sd wU (iz 84 (.exit 4))) (.draw wV))) (.reg wW)))
def wX:=[m_ 101 2,m_ 102 9,b_ .sub 103 101 102,B_ .geq 104 103 2]
def wY:=[m_ 105 9,B_ .add 106 105 1,m_ 12 106]
def wZ:=[m_ 107 12,m_ 108 2,b_ .lss 109 107 108]
def xA:=tk [m_ 112 3,m_ 113 0,m_ 114 12,x_ 115 113 114 4,L_ 116 115 4,m_ 117 0,m_ 118 12,B_ .sub 119 118 1,x_ 120 117 119 4,L_ 121 120 4] (.alt [] ⟨some 122,.callv (.t 112) [.t 116,.t 121],none⟩ (tk [B_ .lss 123 122 0,N_ 124 123] .fin) .stop)
def xB:=tk [m_ 125 0,m_ 126 12,m_ 127 0,m_ 128 12,B_ .sub 129 128 1,m_ 130 0,m_ 131 12,B_ .sub 132 131 1,x_ 133 130 132 4,L_ 134 133 4,m_ 135 0,m_ 136 12,x_ 137 135 136 4,L_ 138 137 4,x_ 139 125 126 4] (.alt [B_ .sub 129 128 1,m_ 128 12,m_ 127 0] (s_ 139 134 4) (tk [x_ 140 127 129 4] (.alt [] (s_ 140 138 4) .fin .stop)) .stop)
def xC:=[m_ 110 12,B_ .add 111 110 1,m_ 12 111]
def SC:IR:=(.seq (sr wZ (.ite (.t 109) .skip (.exit 6))) (.seq (.block 7 (.seq (sd xA (iz 124 (.exit 6))) (.draw xB))) (.reg xC)))
def xD:=[m_ 17 10,B_ .add 18 17 1,m_ 10 18]
def SD:IR:=(.seq (sr SH (.ite (.t 16) .skip (.exit 0))) (.seq (.block 1 (.seq (Ju 2 SA) (.seq (sr SK (iz 41 (rr SL))) (.seq (sr SM (iz 45 (rr SN))) (sd wQ (.seq (sr wR (iz 65 (sr wS (Ju 4 SB)))) (sr wX (iz 104 (sr wY (Ju 6 SC)))))))))) (.reg xD)))
def xE:=[k_ 8 (.bool false)]
def c153:Dp:=⟨4,141,[.t 8],sr SE (sr SF (.seq (sr SG (Ju 0 SD)) (rr xE)))⟩
def K153 (C:Bh) (D:Bh:=C):Prop:=∀(a0:List Aa) (a1:Int) (a2:Int) (f3:Nat) (k3:List V) (is3:Aa→Aa→Option Int) (hs3:Iu k3) (hf3:∀(x0:Aa) (x1:Aa) r,is3 x0 x1=some r→C f3 ⟨.agg (Ac x0) :: .agg (Ac x1)::k3,[]⟩ ⟨iV r,[],[]⟩) (r:Bool×(List Aa)),g153 a0 a1 a2 is3=some r→D 153 ⟨[Af 2097152 a0,iV a1,iV a2,.clo f3 k3],[]⟩ ⟨.bool r.1,[],[(0,4,r.2.map Ac)]⟩
abbrev Ew:=fun x0 x1 x2 x3 x4 (r:List (Nat×V))=>(1,iV x0)::(2,iV x1)::(3,.clo x2 x3)::(10,iV x4)::r
theorem F153:K153 C (FO C c153):=by
 intro a0 a1 a2 f3 k3 is3 hs3 hf3 r h0
 refine f0 (Ay 14 [(0,Af 2097152 a0),(1,iV a1),(2,iV a2),(3,.clo f3 k3),(9,iV (wi (a1+1))),(10,iV 0)] [] (Cg (bb h0 fun r738 e739 h0=>Cz (R:=(fun S=>∃p313:List Aa,.inl p313=r738∧S=⟨[(0,Af 2097152 p313)],[],[]⟩)) (Xy a1 a2 is3) (fun s S=>match s with | (p154,p155,p156)=>S=⟨Ew a1 a2 f3 k3 p156 [(0,Af 2097152 p154),(9,iV p155)],[],[]⟩) e739 _ (Ez (by kernel_rfl)) rfl 0 (fun _=>rfl) ?_ ?_)))
 ·rintro S _ hfg ⟨p313,rfl,rfl⟩
  refine Dn _ hfg (Ay 3 [(0,Af 2097152 p313),(8,.bool false)] [] ?_)
  obtain rfl:=sj h0
  exact Lf (Eg rfl rfl rfl rfl rfl ⟨⟨rfl,Mp (fun _=>rfl)⟩,tv⟩)
 ·rintro ⟨p154,p155,p156⟩ o1 _ K1 rfl h1 hx1 hK1 hE1 hR1
  refine Ay 5 (Ew a1 a2 f3 k3 p156 [(0,Af 2097152 p154),(9,iV p155),(16,.bool (decide (p156<5)))]) [] (Ct h1 (fun c314 h1=>?_) (fun c314 h1=>?_))
  ·refine Mx 3 (Hs (fun S=>∃p465:List Aa,∃p466:Int,S=⟨Ew a1 a2 f3 k3 p156 [(0,Af 2097152 p465),(9,iV p466)],[],[]⟩∧Xx p156 p465 p466=some o1) ?_ (fun J467=>?_))
   ·rintro _ ⟨p465,p466,rfl,h1⟩
    refine Bc 5 ?_
    obtain rfl:=sj h1
    exact kn hK1 rfl rfl
   ·refine Bj ?_
    refine Cg (bb h1 fun r504 e505 h1=>Cz (R:=(fun S=>∃p492:Int,p492=r504∧S=⟨Ew a1 a2 f3 k3 p156 [(0,Af 2097152 p154),(9,iV p492)],[],[]⟩)) (Xz a2 is3 p154) (fun s S=>match s with | p479=>S=⟨Ew a1 a2 f3 k3 p156 [(0,Af 2097152 p154),(9,iV p479)],[],[]⟩) e505 _ (Ez (by kernel_rfl)) rfl 2 (fun _=>rfl) ?_ ?_)
    ·rintro S _ hfg ⟨p492,rfl,rfl⟩
     refine Dn ⟨Ew a1 a2 f3 k3 p156 [(0,Af 2097152 p154),(9,iV p492)],[],[]⟩ (rW hfg ⟨rfl,rfl,rfl,rfl,rfl,rfl,tv⟩ tv) (Ay 6 (Ew a1 a2 f3 k3 p156 [(0,Af 2097152 p154),(9,iV p492),(41,.bool (p492==a2))]) [] (Ct h1 (fun c506 h1=>?_) (fun c506 h1=>?_)))
     ·refine Ay 3 [(0,Af 2097152 p154),(8,.bool true)] [] ?_
      obtain rfl:=sj h1
      obtain rfl:=hx1 _ rfl
      obtain rfl:=sj h0
      exact Lf (hR1 _ (Eg rfl rfl rfl rfl rfl ⟨⟨rfl,Mp (fun _=>rfl)⟩,tv⟩))
     ·refine Ay 9 (Ew a1 a2 f3 k3 p156 [(0,Af 2097152 p154),(9,iV p492),(45,.bool (decide ((wi (a2-a1))<50)))]) [] (Ct h1 (fun c507 h1=>?_) (fun c507 h1=>?_))
      ·refine Ay 3 [(0,Af 2097152 p154),(8,.bool false)] [] ?_
       obtain rfl:=sj h1
       obtain rfl:=hx1 _ rfl
       obtain rfl:=sj h0
       exact Lf (hR1 _ (Eg rfl rfl rfl rfl rfl ⟨⟨rfl,Mp (fun _=>rfl)⟩,tv⟩))
      ·refine Mx 3 (bb h1 fun y508 e509 h1=>bb h1 fun y510 e511 h1=>bb h1 fun y512 e513 h1=>bb h1 fun y514 e515 h1=>bb h1 fun y516 e517 h1=>bb h1 fun y518 e519 h1=>Bc 8 (Bl (d_ (Yp rfl rfl rfl e509 (Bl (Ca (c_ (Oa rfl rfl e511) (⟨⟨Cv rfl rfl e511 rfl,tv⟩,Ag tv (Bw rfl tv (⟨⟨Cv rfl rfl e511 rfl,tv⟩,Ag tv (Bw rfl tv (⟨⟨Cv rfl rfl e511 rfl,tv⟩,Ag tv (c_ (Ka rfl rfl e513) (⟨⟨Cv rfl rfl e511 rfl,tv⟩,Ca (c_ (Oa rfl rfl e515) (⟨⟨Cv rfl rfl e515 rfl,Cv rfl rfl e511 rfl,tv⟩,Ag tv (c_ (Ka rfl rfl e513) (⟨⟨Cv rfl rfl e515 rfl,Cv rfl rfl e511 rfl,tv⟩,?_⟩))⟩))⟩))⟩))⟩))⟩))))))))
       refine Bu (Hh (y':=y510) rfl rfl tv rfl rfl rfl rfl e515 (nl rfl) rfl rfl rfl rfl (iC ⟨[(0,Af 2097152 (p154.set p492.toNat y510)),(1,iV a1),(2,iV a2),(3,.clo f3 k3),(9,iV p492),(10,iV p156),(48,Af 2097152 (p154.set p492.toNat y510)),(49,iV p492),(50,iV (wi (p492-1))),(59,.agg (Ac y514))],[],[]⟩ (fg ⟨congrArg (fun z=>some ((.own 2097152 0 4 z:V))) Aw,rfl,rfl,rfl,rfl,rfl,congrArg (fun z=>some ((.own 2097152 0 4 z:V))) Aw,rfl,rfl,rfl,tv⟩ tv) ⟨[],⟨⟨.inl tv,Ba (Bb t3 rfl tv) rfl⟩,⟨.inl tv,Ba (Dt (v:=iV p492) rfl tv) rfl⟩,⟨.inl tv,Ba (Dt (v:=Af 2097152 (p154.set p492.toNat y510)) rfl tv) rfl⟩,tv⟩,tv,d_ (Yp rfl rfl rfl e517 (Bl (Bu (Hh (y':=y514) rfl rfl tv rfl rfl rfl rfl e519 (nl rfl) rfl rfl rfl rfl (d0 tv (Gf (Dn ⟨[(0,Af 2097152 ((p154.set p492.toNat y510).set ((wi (p492-1)).toNat) y514)),(1,iV a1),(2,iV a2),(3,.clo f3 k3),(9,iV p492),(10,iV p156)],[],[]⟩ (fg ⟨congrArg (fun z=>some ((.own 2097152 0 4 z:V))) Aw,rfl,rfl,rfl,rfl,rfl,tv⟩ tv) (Bc 7 (bv h1 fun v520 e521 h1=>Dn ⟨[(0,Af 2097152 v520),(1,iV a1),(2,iV a2),(3,.clo f3 k3),(9,iV p492),(10,iV p156),(65,.bool (decide ((wi (p492-a1))≥2)))],[],[]⟩ (fg ⟨(by subst e521; rfl),(by subst e521; rfl),(by subst e521; rfl),(by subst e521; rfl),(by subst e521; rfl),(by subst e521; rfl),(by subst e521; rfl),tv⟩ tv) (Kg (cb:=(decide ((wi (p492-a1))≥2))) (fun S=>∃p576:List Aa,S=⟨Ew a1 a2 f3 k3 p156 [(0,Af 2097152 p576),(9,iV p492)],[],[]⟩∧Tj a2 is3 p156 p492 p576=some o1) rfl ?_ (fun c658 J657=>?_) (fun c658 J657=>?_)))))))) Au)))⟩)) Au
       ·rintro _ ⟨p576,rfl,h1⟩
        refine Ay 7 (Ew a1 a2 f3 k3 p156 [(0,Af 2097152 p576),(9,iV p492),(104,.bool (decide ((wi (a2-p492))≥2)))]) [] (Ct h1 (fun c577 h1=>?_) (fun c577 h1=>?_))
        ·refine Ay 5 (Ew a1 a2 f3 k3 p156 [(0,Af 2097152 p576),(9,iV p492),(12,iV (wi (p492+1)))]) [] (Cg (bb h1 fun r655 e656 h1=>Cz (R:=(fun S=>∃p630:List Aa,p630=r655∧S=⟨Ew a1 a2 f3 k3 p156 [(0,Af 2097152 p630),(9,iV p492)],[],[]⟩)) (Ya a2 is3) (fun s S=>match s with | (p602,p603)=>S=⟨Ew a1 a2 f3 k3 p156 [(0,Af 2097152 p602),(9,iV p492),(12,iV p603)],[],[]⟩) e656 _ (Ez (by kernel_rfl)) rfl 6 (fun _=>rfl) ?_ ?_))
         ·rintro S _ hfg ⟨p630,rfl,rfl⟩
          refine Rd ?_
          exact J467 _ ⟨Ew a1 a2 f3 k3 p156 [(0,Af 2097152 p630),(9,iV p492)],[],[]⟩ (rW hfg ⟨rfl,rfl,rfl,rfl,rfl,rfl,tv⟩ tv) ⟨_,_,rfl,h1⟩
         ·rintro ⟨p602,p603⟩ o2 _ K2 rfl h2 hx2 hK2 hE2 hR2
          refine Ay 6 (Ew a1 a2 f3 k3 p156 [(0,Af 2097152 p602),(9,iV p492),(12,iV p603),(109,.bool (decide (p603<a2)))]) [] (Ct h2 (fun c631 h2=>?_) (fun c631 h2=>?_))
          ·refine Mx 6 (bb h2 fun y632 e633 h2=>bb h2 fun y634 e635 h2=>bb h2 fun y636 e637 h2=>bb h2 fun y638 e639 h2=>bb h2 fun r640 e641 h2=>Bc 3 (Bl (d_ (Yp rfl rfl rfl e633 (Bl (Ca (c_ (Oa rfl rfl e635) (⟨⟨Cv rfl rfl e635 rfl,tv⟩,Ag tv (Bw rfl tv (⟨⟨Cv rfl rfl e635 rfl,tv⟩,Ag tv (Bw rfl tv (⟨⟨Cv rfl rfl e635 rfl,tv⟩,Ag tv (c_ (Bb t3 rfl tv) (⟨⟨Cv rfl rfl e635 rfl,tv⟩,Ag tv (c_ (Ka rfl rfl e637) (⟨⟨Cv rfl rfl e635 rfl,tv⟩,Ca (c_ (Oa rfl rfl e639) (⟨⟨Cv rfl rfl e639 rfl,Cv rfl rfl e635 rfl,tv⟩,Bu (Gy (r:=iV r640) rfl false (hf3 _ _ r640 e641) ⟨tv,tv,tv⟩ (ar (Bi rfl hs3.2.2.1)) (Av rfl (Av rfl (hs3.2.1 _ _ _ _ _))) (fun _=>rfl) (dw [(0,Af 2097152 p602),(1,iV a1),(2,iV a2),(3,.clo f3 k3),(9,iV p492),(10,iV p156),(12,iV p603),(122,iV r640)] [] tv (Ag tv (c_ (Bb t3 rfl tv) (⟨tv,Ag tv (c_ (Bb ⟨tv,tv⟩ rfl tv) (⟨tv,Gf (Dn ⟨Ew a1 a2 f3 k3 p156 [(0,Af 2097152 p602),(9,iV p492),(12,iV p603),(124,.bool (!(decide (r640<0))))],[],[]⟩ (Ez (by kernel_rfl)) (Ct h2 (fun c642 h2=>?_) (fun c642 h2=>?_)))⟩))⟩))))) Au⟩))⟩))⟩))⟩))⟩))⟩))))))))
           ·obtain rfl:=sj h2
            obtain rfl:=hx2 _ rfl
            refine Jv rfl ?_
            exact jn hE2 ⟨_,rfl,rfl⟩
           ·refine Mx 2 (bb h2 fun y643 e644 h2=>bb h2 fun y645 e646 h2=>bb h2 fun y647 e648 h2=>bb h2 fun y649 e650 h2=>bb h2 fun y651 e652 h2=>bb h2 fun y653 e654 h2=>Bc 8 (Bl (d_ (Yp rfl rfl rfl e644 (Bl (Ca (c_ (Oa rfl rfl e646) (⟨⟨Cv rfl rfl e646 rfl,tv⟩,Ag tv (Bw rfl tv (⟨⟨Cv rfl rfl e646 rfl,tv⟩,Ag tv (Bw rfl tv (⟨⟨Cv rfl rfl e646 rfl,tv⟩,Ag tv (c_ (Ka rfl rfl e648) (⟨⟨Cv rfl rfl e646 rfl,tv⟩,Ca (c_ (Oa rfl rfl e650) (⟨⟨Cv rfl rfl e650 rfl,Cv rfl rfl e646 rfl,tv⟩,Ag tv (c_ (Ka rfl rfl e648) (⟨⟨Cv rfl rfl e650 rfl,Cv rfl rfl e646 rfl,tv⟩,?_⟩))⟩))⟩))⟩))⟩))⟩))))))))
            refine Bu (Hh (y':=y645) rfl rfl tv rfl rfl rfl rfl e650 (nl rfl) rfl rfl rfl rfl (iC ⟨[(0,Af 2097152 (p602.set p603.toNat y645)),(1,iV a1),(2,iV a2),(3,.clo f3 k3),(9,iV p492),(10,iV p156),(12,iV p603),(127,Af 2097152 (p602.set p603.toNat y645)),(128,iV p603),(129,iV (wi (p603-1))),(138,.agg (Ac y649))],[],[]⟩ (fg ⟨congrArg (fun z=>some ((.own 2097152 0 4 z:V))) Aw,rfl,rfl,rfl,rfl,rfl,rfl,congrArg (fun z=>some ((.own 2097152 0 4 z:V))) Aw,rfl,rfl,rfl,tv⟩ tv) ⟨[],⟨⟨.inl tv,Ba (Bb t3 rfl tv) rfl⟩,⟨.inl tv,Ba (Dt (v:=iV p603) rfl tv) rfl⟩,⟨.inl tv,Ba (Dt (v:=Af 2097152 (p602.set p603.toNat y645)) rfl tv) rfl⟩,tv⟩,tv,d_ (Yp rfl rfl rfl e652 (Bl (Bu (Hh (y':=y649) rfl rfl tv rfl rfl rfl rfl e654 (nl rfl) rfl rfl rfl rfl (d0 tv (Gf (Rd (Dn ⟨[(0,Af 2097152 ((p602.set p603.toNat y645).set ((wi (p603-1)).toNat) y649)),(1,iV a1),(2,iV a2),(3,.clo f3 k3),(9,iV p492),(10,iV p156),(12,iV p603)],[],[]⟩ (fg ⟨congrArg (fun z=>some ((.own 2097152 0 4 z:V))) Aw,rfl,rfl,rfl,rfl,rfl,rfl,tv⟩ tv) (Bc 4 ?_)))))) Au)))⟩)) Au
            obtain rfl:=sj h2
            exact kn hK2 rfl rfl
          ·obtain rfl:=sj h2
           obtain rfl:=hx2 _ rfl
           refine Jv rfl ?_
           exact jn hE2 ⟨_,rfl,rfl⟩
        ·refine Jf (Rd ?_)
         exact jn J467 ⟨_,_,rfl,h1⟩
       ·replace h1:=ip c658 h1
        refine Ay 5 (Ew a1 a2 f3 k3 p156 [(0,Af 2097152 v520),(9,iV p492),(11,iV (wi (p492-1)))]) [] (Cg (bb h1 fun r736 e737 h1=>Cz (R:=(fun S=>∃p711:List Aa,p711=r736∧S=⟨Ew a1 a2 f3 k3 p156 [(0,Af 2097152 p711),(9,iV p492)],[],[]⟩)) (Yb is3) (fun s S=>match s with | (p683,p684)=>S=⟨Ew a1 a2 f3 k3 p156 [(0,Af 2097152 p683),(9,iV p492),(11,iV p684)],[],[]⟩) e737 _ (Ez (by kernel_rfl)) rfl 4 (fun _=>rfl) ?_ ?_))
        ·rintro S _ hfg ⟨p711,rfl,rfl⟩
         exact J657 _ ⟨Ew a1 a2 f3 k3 p156 [(0,Af 2097152 p711),(9,iV p492)],[],[]⟩ (rW hfg ⟨rfl,rfl,rfl,rfl,rfl,rfl,tv⟩ tv) ⟨_,rfl,h1⟩
        ·rintro ⟨p683,p684⟩ o2 _ K2 rfl h2 hx2 hK2 hE2 hR2
         refine Ay 5 (Ew a1 a2 f3 k3 p156 [(0,Af 2097152 p683),(9,iV p492),(11,iV p684),(69,.bool (decide (p684≥1)))]) [] (Ct h2 (fun c712 h2=>?_) (fun c712 h2=>?_))
         ·refine Mx 6 (bb h2 fun y713 e714 h2=>bb h2 fun y715 e716 h2=>bb h2 fun y717 e718 h2=>bb h2 fun y719 e720 h2=>bb h2 fun r721 e722 h2=>Bc 3 (Bl (d_ (Yp rfl rfl rfl e714 (Bl (Ca (c_ (Oa rfl rfl e716) (⟨⟨Cv rfl rfl e716 rfl,tv⟩,Ag tv (Bw rfl tv (⟨⟨Cv rfl rfl e716 rfl,tv⟩,Ag tv (Bw rfl tv (⟨⟨Cv rfl rfl e716 rfl,tv⟩,Ag tv (c_ (Bb t3 rfl tv) (⟨⟨Cv rfl rfl e716 rfl,tv⟩,Ag tv (c_ (Ka rfl rfl e718) (⟨⟨Cv rfl rfl e716 rfl,tv⟩,Ca (c_ (Oa rfl rfl e720) (⟨⟨Cv rfl rfl e720 rfl,Cv rfl rfl e716 rfl,tv⟩,Bu (Gy (r:=iV r721) rfl false (hf3 _ _ r721 e722) ⟨tv,tv,tv⟩ (ar (Bi rfl hs3.2.2.1)) (Av rfl (Av rfl (hs3.2.1 _ _ _ _ _))) (fun _=>rfl) (dw [(0,Af 2097152 p683),(1,iV a1),(2,iV a2),(3,.clo f3 k3),(9,iV p492),(10,iV p156),(11,iV p684),(82,iV r721)] [] tv (Ag tv (c_ (Bb t3 rfl tv) (⟨tv,Ag tv (c_ (Bb ⟨tv,tv⟩ rfl tv) (⟨tv,Gf (Dn ⟨Ew a1 a2 f3 k3 p156 [(0,Af 2097152 p683),(9,iV p492),(11,iV p684),(84,.bool (!(decide (r721<0))))],[],[]⟩ (Ez (by kernel_rfl)) (Ct h2 (fun c723 h2=>?_) (fun c723 h2=>?_)))⟩))⟩))))) Au⟩))⟩))⟩))⟩))⟩))⟩))))))))
          ·obtain rfl:=sj h2
           obtain rfl:=hx2 _ rfl
           refine Jv rfl ?_
           exact jn hE2 ⟨_,rfl,rfl⟩
          ·refine Mx 2 (bb h2 fun y724 e725 h2=>bb h2 fun y726 e727 h2=>bb h2 fun y728 e729 h2=>bb h2 fun y730 e731 h2=>bb h2 fun y732 e733 h2=>bb h2 fun y734 e735 h2=>Bc 8 (Bl (d_ (Yp rfl rfl rfl e725 (Bl (Ca (c_ (Oa rfl rfl e727) (⟨⟨Cv rfl rfl e727 rfl,tv⟩,Ag tv (Bw rfl tv (⟨⟨Cv rfl rfl e727 rfl,tv⟩,Ag tv (Bw rfl tv (⟨⟨Cv rfl rfl e727 rfl,tv⟩,Ag tv (c_ (Ka rfl rfl e729) (⟨⟨Cv rfl rfl e727 rfl,tv⟩,Ca (c_ (Oa rfl rfl e731) (⟨⟨Cv rfl rfl e731 rfl,Cv rfl rfl e727 rfl,tv⟩,Ag tv (c_ (Ka rfl rfl e729) (⟨⟨Cv rfl rfl e731 rfl,Cv rfl rfl e727 rfl,tv⟩,?_⟩))⟩))⟩))⟩))⟩))⟩))))))))
           refine Bu (Hh (y':=y726) rfl rfl tv rfl rfl rfl rfl e731 (nl rfl) rfl rfl rfl rfl (iC ⟨[(0,Af 2097152 (p683.set p684.toNat y726)),(1,iV a1),(2,iV a2),(3,.clo f3 k3),(9,iV p492),(10,iV p156),(11,iV p684),(87,Af 2097152 (p683.set p684.toNat y726)),(88,iV p684),(89,iV (wi (p684-1))),(98,.agg (Ac y730))],[],[]⟩ (fg ⟨congrArg (fun z=>some ((.own 2097152 0 4 z:V))) Aw,rfl,rfl,rfl,rfl,rfl,rfl,congrArg (fun z=>some ((.own 2097152 0 4 z:V))) Aw,rfl,rfl,rfl,tv⟩ tv) ⟨[],⟨⟨.inl tv,Ba (Bb t3 rfl tv) rfl⟩,⟨.inl tv,Ba (Dt (v:=iV p684) rfl tv) rfl⟩,⟨.inl tv,Ba (Dt (v:=Af 2097152 (p683.set p684.toNat y726)) rfl tv) rfl⟩,tv⟩,tv,d_ (Yp rfl rfl rfl e733 (Bl (Bu (Hh (y':=y730) rfl rfl tv rfl rfl rfl rfl e735 (nl rfl) rfl rfl rfl rfl (d0 tv (Gf (Rd (Dn ⟨[(0,Af 2097152 ((p683.set p684.toNat y726).set ((wi (p684-1)).toNat) y730)),(1,iV a1),(2,iV a2),(3,.clo f3 k3),(9,iV p492),(10,iV p156),(11,iV p684)],[],[]⟩ (fg ⟨congrArg (fun z=>some ((.own 2097152 0 4 z:V))) Aw,rfl,rfl,rfl,rfl,rfl,rfl,tv⟩ tv) (Bc 4 ?_)))))) Au)))⟩)) Au
           obtain rfl:=sj h2
           exact kn hK2 rfl rfl
         ·obtain rfl:=sj h2
          obtain rfl:=hx2 _ rfl
          refine Jv rfl ?_
          exact jn hE2 ⟨_,rfl,rfl⟩
       ·replace h1:=Wx c658 h1
        refine Jf ?_
        exact jn J657 ⟨_,rfl,h1⟩
    ·rintro p479 o2 _ K2 rfl h2 hx2 hK2 hE2 hR2
     refine Bj (Bj (bb h2 fun y493 e494 h2=>bb h2 fun y495 e496 h2=>bb h2 fun y497 e498 h2=>bb h2 fun y499 e500 h2=>bb h2 fun r501 e502 h2=>Bc 4 (Bl (Ag tv (Ce (u:=.clo f3 k3) rfl (fun hg=>(Dt (v:=.clo f3 k3) rfl tv)) (⟨tv,Ag tv (Ce (u:=Af 2097152 p154) rfl (fun hg=>(Dt (v:=Af 2097152 p154) rfl tv)) (⟨tv,Ag tv (Ce (u:=iV p479) rfl (fun hg=>(Dt (v:=iV p479) rfl tv)) (⟨tv,Ag tv (Ce (u:=.optr 2097152 4 (0+p479.toNat) 0) rfl (fun hg=>(Hd (e:=Ac) (y:=y493) rfl rfl (fun _=>hg) rfl rfl (fun _=>hg) (ip hg e494))) (⟨tv,Ca (Ce (u:=.agg (Ac y495)) rfl (fun hg=>(Bf (e:=Ac) (y:=y495) (v:=.agg (Ac y495)) rfl rfl (fun _=>hg) rfl rfl (ip hg e496) rfl (nl rfl) rfl)) (⟨⟨Bn (v:=.agg (Ac y495)) rfl (fun hg=>(Bf (e:=Ac) (y:=y495) (v:=.agg (Ac y495)) rfl rfl (fun _=>hg) rfl rfl (ip hg e496) rfl (nl rfl) rfl)) rfl,tv⟩,Ag tv (Ce (u:=Af 2097152 p154) rfl (fun hg=>(Dt (v:=Af 2097152 p154) rfl tv)) (⟨⟨Bn (v:=.agg (Ac y495)) rfl (fun hg=>(Bf (e:=Ac) (y:=y495) (v:=.agg (Ac y495)) rfl rfl (fun _=>hg) rfl rfl (ip hg e496) rfl (nl rfl) rfl)) rfl,tv⟩,Ag tv (Ce (u:=iV p479) rfl (fun hg=>(Dt (v:=iV p479) rfl tv)) (⟨⟨Bn (v:=.agg (Ac y495)) rfl (fun hg=>(Bf (e:=Ac) (y:=y495) (v:=.agg (Ac y495)) rfl rfl (fun _=>hg) rfl rfl (ip hg e496) rfl (nl rfl) rfl)) rfl,tv⟩,Ag tv (Ce (u:=iV (wi (p479-1))) rfl (fun hg=>(Bb ⟨(fun _=>hg),tv,tv⟩ rfl tv)) (⟨⟨Bn (v:=.agg (Ac y495)) rfl (fun hg=>(Bf (e:=Ac) (y:=y495) (v:=.agg (Ac y495)) rfl rfl (fun _=>hg) rfl rfl (ip hg e496) rfl (nl rfl) rfl)) rfl,tv⟩,Ag tv (Ce (u:=.optr 2097152 4 (0+((wi (p479-1)).toNat)) 0) rfl (fun hg=>(Hd (e:=Ac) (y:=y497) rfl rfl (fun _=>hg) rfl rfl (fun _=>hg) (ip hg e498))) (⟨⟨Bn (v:=.agg (Ac y495)) rfl (fun hg=>(Bf (e:=Ac) (y:=y495) (v:=.agg (Ac y495)) rfl rfl (fun _=>hg) rfl rfl (ip hg e496) rfl (nl rfl) rfl)) rfl,tv⟩,Ca (Ce (u:=.agg (Ac y499)) rfl (fun hg=>(Bf (e:=Ac) (y:=y499) (v:=.agg (Ac y499)) rfl rfl (fun _=>hg) rfl rfl (ip hg e500) rfl (nl rfl) rfl)) (⟨⟨Bn (v:=.agg (Ac y499)) rfl (fun hg=>(Bf (e:=Ac) (y:=y499) (v:=.agg (Ac y499)) rfl rfl (fun _=>hg) rfl rfl (ip hg e500) rfl (nl rfl) rfl)) rfl,Bn (v:=.agg (Ac y495)) rfl (fun hg=>(Bf (e:=Ac) (y:=y495) (v:=.agg (Ac y495)) rfl rfl (fun _=>hg) rfl rfl (ip hg e496) rfl (nl rfl) rfl)) rfl,tv⟩,Bu (Ii (r:=iV r501) rfl rfl rfl (fun hg=>hg) false (fun hg=>hf3 _ _ r501 (ip hg e502)) ⟨(fun hg=>hg),(fun hg=>hg),tv⟩ (fun _=>(ar (Bi rfl hs3.2.2.1))) (fun _=>(Av rfl (Av rfl (hs3.2.1 _ _ _ _ _)))) (fun _=>rfl) (fun h=>nomatch h) (dw [(0,Af 2097152 p154),(1,iV a1),(2,iV a2),(3,.clo f3 k3),(9,iV p479),(10,iV p156),(22,.bool (decide (p479<a2))),(33,.may ((decide (p479<a2))==true) (iV r501))] [] tv ?_)) Au⟩))⟩))⟩))⟩))⟩))⟩))⟩))⟩))⟩))⟩))))))
     refine Ag tv (Ce (u:=.bool (decide (r501<0))) rfl (fun hg=>(Bb ⟨(fun _=>hg),tv,tv⟩ rfl tv)) (⟨tv,Ag tv (Ce (u:=.bool (!(decide (r501<0)))) rfl (fun hg=>(Bb ⟨(fun _=>hg),tv⟩ rfl tv)) (⟨tv,Ag tv (Eh rfl rfl rfl (fun h=>Sr h) tv rfl (⟨tv,d_ (Ay 1 (Ew a1 a2 f3 k3 p156 [(0,Af 2097152 p154),(9,iV p479),(36,.bool (bif (decide (p479<a2)) then (!(decide (r501<0))) else false))]) [] (Ct h2 (fun c503 h2=>?_) (fun c503 h2=>?_)))⟩))⟩))⟩))
     ·refine Bc 8 ?_
      obtain rfl:=sj h2
      exact kn hK2 rfl rfl
     ·obtain rfl:=sj h2
      obtain rfl:=hx2 _ rfl
      refine Jv rfl ?_
      exact jn hE2 ⟨_,rfl,rfl⟩
  ·obtain rfl:=sj h1
   obtain rfl:=hx1 _ rfl
   refine Jv rfl ?_
   exact jn hE1 ⟨_,rfl,rfl⟩

/- slices.partitionEqualCmpFunc[loop.example/g00149/impl.Lease] -/
def SR:=[i_ 10 0]
def SS:=tk [m_ 13 0,m_ 14 1,m_ 15 0,m_ 16 3,m_ 17 0,m_ 18 3,x_ 19 17 18 4,L_ 20 19 4,m_ 21 0,m_ 22 1,x_ 23 21 22 4,L_ 24 23 4,x_ 25 13 14 4] (.alt [m_ 16 3,m_ 15 0] (s_ 25 20 4) (tk [x_ 26 15 16 4] (.alt [] (s_ 26 24 4) .fin .stop)) .stop)
def ST:=[m_ 27 1,B_ .add 28 27 1,m_ 29 2,B_ .sub 30 29 1,m_ 11 28,m_ 12 30]
def SU:=tk [m_ 31 11,m_ 32 12,b_ .leq 33 31 32,m_ 34 33,mT 34 35 4,mT 34 36 0,mT 34 37 1,xT 34 38 36 37 4,lT 34 39 38 4 true,mT 34 40 0,mT 34 41 11,xT 34 42 40 41 4,lT 34 43 42 4 true] (.alt [] ⟨some 44,.callv (.t 35) [.t 39,.t 43],some (34,true)⟩ (tk [pT 34 45 (.bin .lss (.t 44) (.c (iV 0))),pT 34 46 (.un .not (.t 45)),pa 47 34 46] .fin) .stop)
def SV:=[m_ 48 11,B_ .add 49 48 1,m_ 11 49]
def SO:IR:=(.seq (sd SU (.ite (.t 47) .skip (.exit 2))) (.block 3 (.reg SV)))
def SW:=tk [m_ 50 11,m_ 51 12,b_ .leq 52 50 51,m_ 53 52,mT 53 54 4,mT 53 55 0,mT 53 56 1,xT 53 57 55 56 4,lT 53 58 57 4 true,mT 53 59 0,mT 53 60 12,xT 53 61 59 60 4,lT 53 62 61 4 true] (.alt [] ⟨some 63,.callv (.t 54) [.t 58,.t 62],some (53,true)⟩ (tk [pT 53 64 (.bin .lss (.t 63) (.c (iV 0))),pa 65 53 64] .fin) .stop)
def SX:=[m_ 66 12,B_ .sub 67 66 1,m_ 12 67]
def SP:IR:=(.seq (sd SW (.ite (.t 65) .skip (.exit 4))) (.block 5 (.reg SX)))
def SY:=[m_ 68 11,m_ 69 12,b_ .gtr 70 68 69]
def SZ:=tk [m_ 71 0,m_ 72 11,m_ 73 0,m_ 74 12,m_ 75 0,m_ 76 12,x_ 77 75 76 4,L_ 78 77 4,m_ 79 0,m_ 80 11,x_ 81 79 80 4,L_ 82 81 4,x_ 83 71 72 4] (.alt [m_ 74 12,m_ 73 0] (s_ 83 78 4) (tk [x_ 84 73 74 4] (.alt [] (s_ 84 82 4) .fin .stop)) .stop)
def TA:=[m_ 85 11,B_ .add 86 85 1,m_ 11 86]
def xG:=[m_ 87 12,B_ .sub 88 87 1,m_ 12 88]
def SQ:IR:=(.block 1 (.seq (Ju 2 SO) (.seq (Ju 4 SP) (.seq (sr SY (iz 70 (.exit 0))) (sd SZ (sr TA (.reg xG)))))))
def xH:=[m_ 89 11,m_ 10 89]
def c154:Dp:=⟨5,90,[.t 10],sr SR (sd SS (sr ST (.seq (Ju 0 SQ) (rr xH))))⟩
def K154 (C:Bh) (D:Bh:=C):Prop:=∀(a0:List Aa) (a1:Int) (a2:Int) (a3:Int) (f4:Nat) (k4:List V) (is4:Aa→Aa→Option Int) (hs4:Iu k4) (hf4:∀(x0:Aa) (x1:Aa) r,is4 x0 x1=some r→C f4 ⟨.agg (Ac x0) :: .agg (Ac x1)::k4,[]⟩ ⟨iV r,[],[]⟩) (r:Int×(List Aa)),g154 a0 a1 a2 a3 is4=some r→D 154 ⟨[Af 2097152 a0,iV a1,iV a2,iV a3,.clo f4 k4],[]⟩ ⟨iV r.1,[],[(0,4,r.2.map Ac)]⟩
abbrev Lz:=fun x0 x1 x2 x3 (r:List (Nat×V))=>(0,Af 2097152 x0)::(1,iV x1)::(4,.clo x2 x3)::r
theorem F154:K154 C (FO C c154):=by
 intro a0 a1 a2 a3 f4 k4 is4 hs4 hf4 r h0
 refine f0 (Ay 3 [(0,Af 2097152 a0),(1,iV a1),(2,iV a2),(3,iV a3),(4,.clo f4 k4)] [] (Bj (bb h0 fun y1 e2 h0=>bb h0 fun y3 e4 h0=>bb h0 fun y5 e6 h0=>bb h0 fun y7 e8 h0=>bb h0 fun y9 e10 h0=>bb h0 fun y11 e12 h0=>Bc 6 (Bl (d_ (Yp rfl rfl rfl e2 (Bl (Ca (c_ (Oa rfl rfl e4) (⟨⟨Cv rfl rfl e4 rfl,tv⟩,Ag tv (Bw rfl tv (⟨⟨Cv rfl rfl e4 rfl,tv⟩,Ag tv (Bw rfl tv (⟨⟨Cv rfl rfl e4 rfl,tv⟩,Ag tv (c_ (Ka rfl rfl e6) (⟨⟨Cv rfl rfl e4 rfl,tv⟩,Ca (c_ (Oa rfl rfl e8) (⟨⟨Cv rfl rfl e8 rfl,Cv rfl rfl e4 rfl,tv⟩,Ag tv (c_ (Ka rfl rfl e6) (⟨⟨Cv rfl rfl e8 rfl,Cv rfl rfl e4 rfl,tv⟩,Bu (Hh (y':=y3) rfl rfl tv rfl rfl rfl rfl e8 (nl rfl) rfl rfl rfl rfl (iC ⟨[(0,Af 2097152 (a0.set a1.toNat y3)),(1,iV a1),(2,iV a2),(3,iV a3),(4,.clo f4 k4),(15,Af 2097152 (a0.set a1.toNat y3)),(16,iV a3),(24,.agg (Ac y7))],[],[]⟩ (fg ⟨congrArg (fun z=>some ((.own 2097152 0 4 z:V))) Aw,rfl,rfl,rfl,rfl,congrArg (fun z=>some ((.own 2097152 0 4 z:V))) Aw,rfl,rfl,tv⟩ tv) ⟨[],⟨⟨.inl tv,Ba (Dt (v:=iV a3) rfl tv) rfl⟩,⟨.inl tv,Ba (Dt (v:=Af 2097152 (a0.set a1.toNat y3)) rfl tv) rfl⟩,tv⟩,tv,Ag tv (c_ (Ka rfl rfl e10) (⟨tv,?_⟩))⟩)) Au⟩))⟩))⟩))⟩))⟩))⟩))))))))))
 refine Bu (Hh (y':=y7) rfl rfl tv rfl rfl rfl rfl e12 (nl rfl) rfl rfl rfl rfl (d0 tv (Gf (Dn ⟨[(0,Af 2097152 ((a0.set a1.toNat y3).set a3.toNat y7)),(1,iV a1),(2,iV a2),(4,.clo f4 k4)],[],[]⟩ (fg ⟨congrArg (fun z=>some ((.own 2097152 0 4 z:V))) Aw,rfl,rfl,rfl,tv⟩ tv) (Ay 8 [(0,Af 2097152 ((a0.set a1.toNat y3).set a3.toNat y7)),(1,iV a1),(4,.clo f4 k4),(11,iV (wi (a1+1))),(12,iV (wi (a2-1)))] [] (Bj (Cg (bb h0 fun r244 e245 h0=>Cz (R:=(fun S=>∃p153:List Aa,∃p154:Int,(p153,p154)=r244∧S=⟨[(0,Af 2097152 p153),(11,iV p154)],[],[]⟩)) (Yc a1 is4) (fun s S=>match s with | (p84,p85,p86)=>S=⟨Lz p84 a1 f4 k4 [(11,iV p85),(12,iV p86)],[],[]⟩) e245 _ (Ez (by kernel_rfl)) rfl 0 (fun _=>rfl) ?_ ?_)))))))) Au
 ·rintro S _ hfg ⟨p153,p154,rfl,rfl⟩
  refine Dn _ hfg (Ay 4 [(0,Af 2097152 p153),(10,iV p154)] [] ?_)
  obtain rfl:=sj h0
  exact Lf (Eg rfl rfl rfl rfl rfl ⟨⟨rfl,Mp (fun _=>rfl)⟩,tv⟩)
 ·rintro ⟨p84,p85,p86⟩ o1 _ K1 rfl h1 hx1 hK1 hE1 hR1
  refine Cg (Bj (Cg (bb h1 fun r191 e192 h1=>Cz (R:=(fun S=>∃p179:Int,p179=r191∧S=⟨Lz p84 a1 f4 k4 [(11,iV p179),(12,iV p86)],[],[]⟩)) (Yd a1 is4 p84 p86) (fun s S=>match s with | p166=>S=⟨Lz p84 a1 f4 k4 [(11,iV p166),(12,iV p86)],[],[]⟩) e192 _ (Ez (by kernel_rfl)) rfl 2 (fun _=>rfl) ?_ ?_)))
  ·rintro S _ hfg ⟨p179,rfl,rfl⟩
   refine Dn ⟨Lz p84 a1 f4 k4 [(11,iV p179),(12,iV p86)],[],[]⟩ (rW hfg ⟨rfl,rfl,rfl,rfl,rfl,tv⟩ tv) (Bj (Cg (bb h1 fun r229 e230 h1=>Cz (R:=(fun S=>∃p217:Int,p217=r229∧S=⟨Lz p84 a1 f4 k4 [(11,iV p179),(12,iV p217)],[],[]⟩)) (Ye a1 is4 p84 p179) (fun s S=>match s with | p204=>S=⟨Lz p84 a1 f4 k4 [(11,iV p179),(12,iV p204)],[],[]⟩) e230 _ (Ez (by kernel_rfl)) rfl 4 (fun _=>rfl) ?_ ?_)))
   ·rintro S _ hfg ⟨p217,rfl,rfl⟩
    refine Dn ⟨Lz p84 a1 f4 k4 [(11,iV p179),(12,iV p217)],[],[]⟩ (rW hfg ⟨rfl,rfl,rfl,rfl,rfl,tv⟩ tv) (Ay 6 (Lz p84 a1 f4 k4 [(11,iV p179),(12,iV p217),(70,.bool (decide (p179>p217)))]) [] (Ct h1 (fun c231 h1=>?_) (fun c231 h1=>?_)))
    ·obtain rfl:=sj h1
     obtain rfl:=hx1 _ rfl
     refine Jv rfl ?_
     exact jn hE1 ⟨_,_,rfl,rfl⟩
    ·refine Mx 3 (bb h1 fun y232 e233 h1=>bb h1 fun y234 e235 h1=>bb h1 fun y236 e237 h1=>bb h1 fun y238 e239 h1=>bb h1 fun y240 e241 h1=>bb h1 fun y242 e243 h1=>Bc 6 (Bl (d_ (Yp rfl rfl rfl e233 (Bl (Ca (c_ (Oa rfl rfl e235) (⟨⟨Cv rfl rfl e235 rfl,tv⟩,Ag tv (Bw rfl tv (⟨⟨Cv rfl rfl e235 rfl,tv⟩,Ag tv (Bw rfl tv (⟨⟨Cv rfl rfl e235 rfl,tv⟩,Ag tv (c_ (Ka rfl rfl e237) (⟨⟨Cv rfl rfl e235 rfl,tv⟩,Ca (c_ (Oa rfl rfl e239) (⟨⟨Cv rfl rfl e239 rfl,Cv rfl rfl e235 rfl,tv⟩,Ag tv (c_ (Ka rfl rfl e237) (⟨⟨Cv rfl rfl e239 rfl,Cv rfl rfl e235 rfl,tv⟩,Bu (Hh (y':=y234) rfl rfl tv rfl rfl rfl rfl e239 (nl rfl) rfl rfl rfl rfl (iC ⟨[(0,Af 2097152 (p84.set p179.toNat y234)),(1,iV a1),(4,.clo f4 k4),(11,iV p179),(12,iV p217),(73,Af 2097152 (p84.set p179.toNat y234)),(74,iV p217),(82,.agg (Ac y238))],[],[]⟩ (fg ⟨congrArg (fun z=>some ((.own 2097152 0 4 z:V))) Aw,rfl,rfl,rfl,rfl,congrArg (fun z=>some ((.own 2097152 0 4 z:V))) Aw,rfl,rfl,tv⟩ tv) ⟨[],⟨⟨.inl tv,Ba (Dt (v:=iV p217) rfl tv) rfl⟩,⟨.inl tv,Ba (Dt (v:=Af 2097152 (p84.set p179.toNat y234)) rfl tv) rfl⟩,tv⟩,tv,Ag tv (c_ (Ka rfl rfl e241) (⟨tv,?_⟩))⟩)) Au⟩))⟩))⟩))⟩))⟩))⟩))))))))
     refine Bu (Hh (y':=y238) rfl rfl tv rfl rfl rfl rfl e243 (nl rfl) rfl rfl rfl rfl (d0 tv (Gf (Dn ⟨[(0,Af 2097152 ((p84.set p179.toNat y234).set p217.toNat y238)),(1,iV a1),(4,.clo f4 k4),(11,iV p179),(12,iV p217)],[],[]⟩ (fg ⟨congrArg (fun z=>some ((.own 2097152 0 4 z:V))) Aw,rfl,rfl,rfl,rfl,tv⟩ tv) (Ay 5 [(0,Af 2097152 ((p84.set p179.toNat y234).set p217.toNat y238)),(1,iV a1),(4,.clo f4 k4),(11,iV (wi (p179+1))),(12,iV p217)] [] (Bc 5 ?_)))))) Au
     obtain rfl:=sj h1
     exact kn hK1 rfl rfl
   ·rintro p204 o2 _ K2 rfl h2 hx2 hK2 hE2 hR2
    refine Bj (Bj (bb h2 fun y218 e219 h2=>bb h2 fun y220 e221 h2=>bb h2 fun y222 e223 h2=>bb h2 fun y224 e225 h2=>bb h2 fun r226 e227 h2=>Bc 4 (Bl (Ag tv (Ce (u:=.clo f4 k4) rfl (fun hg=>(Dt (v:=.clo f4 k4) rfl tv)) (⟨tv,Ag tv (Ce (u:=Af 2097152 p84) rfl (fun hg=>(Dt (v:=Af 2097152 p84) rfl tv)) (⟨tv,Ag tv (Ce (u:=iV a1) rfl (fun hg=>(Dt (v:=iV a1) rfl tv)) (⟨tv,Ag tv (Ce (u:=.optr 2097152 4 (0+a1.toNat) 0) rfl (fun hg=>(Hd (e:=Ac) (y:=y218) rfl rfl (fun _=>hg) rfl rfl (fun _=>hg) (ip hg e219))) (⟨tv,Ca (Ce (u:=.agg (Ac y220)) rfl (fun hg=>(Bf (e:=Ac) (y:=y220) (v:=.agg (Ac y220)) rfl rfl (fun _=>hg) rfl rfl (ip hg e221) rfl (nl rfl) rfl)) (⟨⟨Bn (v:=.agg (Ac y220)) rfl (fun hg=>(Bf (e:=Ac) (y:=y220) (v:=.agg (Ac y220)) rfl rfl (fun _=>hg) rfl rfl (ip hg e221) rfl (nl rfl) rfl)) rfl,tv⟩,Ag tv (Ce (u:=Af 2097152 p84) rfl (fun hg=>(Dt (v:=Af 2097152 p84) rfl tv)) (⟨⟨Bn (v:=.agg (Ac y220)) rfl (fun hg=>(Bf (e:=Ac) (y:=y220) (v:=.agg (Ac y220)) rfl rfl (fun _=>hg) rfl rfl (ip hg e221) rfl (nl rfl) rfl)) rfl,tv⟩,Ag tv (Ce (u:=iV p204) rfl (fun hg=>(Dt (v:=iV p204) rfl tv)) (⟨⟨Bn (v:=.agg (Ac y220)) rfl (fun hg=>(Bf (e:=Ac) (y:=y220) (v:=.agg (Ac y220)) rfl rfl (fun _=>hg) rfl rfl (ip hg e221) rfl (nl rfl) rfl)) rfl,tv⟩,Ag tv (Ce (u:=.optr 2097152 4 (0+p204.toNat) 0) rfl (fun hg=>(Hd (e:=Ac) (y:=y222) rfl rfl (fun _=>hg) rfl rfl (fun _=>hg) (ip hg e223))) (⟨⟨Bn (v:=.agg (Ac y220)) rfl (fun hg=>(Bf (e:=Ac) (y:=y220) (v:=.agg (Ac y220)) rfl rfl (fun _=>hg) rfl rfl (ip hg e221) rfl (nl rfl) rfl)) rfl,tv⟩,Ca (Ce (u:=.agg (Ac y224)) rfl (fun hg=>(Bf (e:=Ac) (y:=y224) (v:=.agg (Ac y224)) rfl rfl (fun _=>hg) rfl rfl (ip hg e225) rfl (nl rfl) rfl)) (⟨⟨Bn (v:=.agg (Ac y224)) rfl (fun hg=>(Bf (e:=Ac) (y:=y224) (v:=.agg (Ac y224)) rfl rfl (fun _=>hg) rfl rfl (ip hg e225) rfl (nl rfl) rfl)) rfl,Bn (v:=.agg (Ac y220)) rfl (fun hg=>(Bf (e:=Ac) (y:=y220) (v:=.agg (Ac y220)) rfl rfl (fun _=>hg) rfl rfl (ip hg e221) rfl (nl rfl) rfl)) rfl,tv⟩,Bu (Ii (r:=iV r226) rfl rfl rfl (fun hg=>hg) false (fun hg=>hf4 _ _ r226 (ip hg e227)) ⟨(fun hg=>hg),(fun hg=>hg),tv⟩ (fun _=>(ar (Bi rfl hs4.2.2.1))) (fun _=>(Av rfl (Av rfl (hs4.2.1 _ _ _ _ _)))) (fun _=>rfl) (fun h=>nomatch h) (dw [(0,Af 2097152 p84),(1,iV a1),(4,.clo f4 k4),(11,iV p179),(12,iV p204),(53,.bool (decide (p179≤p204))),(63,.may ((decide (p179≤p204))==true) (iV r226))] [] tv (Ag tv (Ce (u:=.bool (decide (r226<0))) rfl (fun hg=>(Bb ⟨(fun _=>hg),tv,tv⟩ rfl tv)) (⟨tv,?_⟩))))) Au⟩))⟩))⟩))⟩))⟩))⟩))⟩))⟩))⟩))))))
    refine Ag tv (Eh rfl rfl rfl (fun h=>Sr h) tv rfl (⟨tv,d_ (Ay 1 (Lz p84 a1 f4 k4 [(11,iV p179),(12,iV p204),(65,.bool (bif (decide (p179≤p204)) then (decide (r226<0)) else false))]) [] (Ct h2 (fun c228 h2=>?_) (fun c228 h2=>?_)))⟩))
    ·refine Bc 8 ?_
     obtain rfl:=sj h2
     exact kn hK2 rfl rfl
    ·obtain rfl:=sj h2
     obtain rfl:=hx2 _ rfl
     refine Jv rfl ?_
     exact jn hE2 ⟨_,rfl,rfl⟩
  ·rintro p166 o2 _ K2 rfl h2 hx2 hK2 hE2 hR2
   refine Bj (Bj (bb h2 fun y180 e181 h2=>bb h2 fun y182 e183 h2=>bb h2 fun y184 e185 h2=>bb h2 fun y186 e187 h2=>bb h2 fun r188 e189 h2=>Bc 4 (Bl (Ag tv (Ce (u:=.clo f4 k4) rfl (fun hg=>(Dt (v:=.clo f4 k4) rfl tv)) (⟨tv,Ag tv (Ce (u:=Af 2097152 p84) rfl (fun hg=>(Dt (v:=Af 2097152 p84) rfl tv)) (⟨tv,Ag tv (Ce (u:=iV a1) rfl (fun hg=>(Dt (v:=iV a1) rfl tv)) (⟨tv,Ag tv (Ce (u:=.optr 2097152 4 (0+a1.toNat) 0) rfl (fun hg=>(Hd (e:=Ac) (y:=y180) rfl rfl (fun _=>hg) rfl rfl (fun _=>hg) (ip hg e181))) (⟨tv,Ca (Ce (u:=.agg (Ac y182)) rfl (fun hg=>(Bf (e:=Ac) (y:=y182) (v:=.agg (Ac y182)) rfl rfl (fun _=>hg) rfl rfl (ip hg e183) rfl (nl rfl) rfl)) (⟨⟨Bn (v:=.agg (Ac y182)) rfl (fun hg=>(Bf (e:=Ac) (y:=y182) (v:=.agg (Ac y182)) rfl rfl (fun _=>hg) rfl rfl (ip hg e183) rfl (nl rfl) rfl)) rfl,tv⟩,Ag tv (Ce (u:=Af 2097152 p84) rfl (fun hg=>(Dt (v:=Af 2097152 p84) rfl tv)) (⟨⟨Bn (v:=.agg (Ac y182)) rfl (fun hg=>(Bf (e:=Ac) (y:=y182) (v:=.agg (Ac y182)) rfl rfl (fun _=>hg) rfl rfl (ip hg e183) rfl (nl rfl) rfl)) rfl,tv⟩,Ag tv (Ce (u:=iV p166) rfl (fun hg=>(Dt (v:=iV p166) rfl tv)) (⟨⟨Bn (v:=.agg (Ac y182)) rfl (fun hg=>(Bf (e:=Ac) (y:=y182) (v:=.agg (Ac y182)) rfl rfl (fun _=>hg) rfl rfl (ip hg e183) rfl (nl rfl) rfl)) rfl,tv⟩,Ag tv (Ce (u:=.optr 2097152 4 (0+p166.toNat) 0) rfl (fun hg=>(Hd (e:=Ac) (y:=y184) rfl rfl (fun _=>hg) rfl rfl (fun _=>hg) (ip hg e185))) (⟨⟨Bn (v:=.agg (Ac y182)) rfl (fun hg=>(Bf (e:=Ac) (y:=y182) (v:=.agg (Ac y182)) rfl rfl (fun _=>hg) rfl rfl (ip hg e183) rfl (nl rfl) rfl)) rfl,tv⟩,Ca (Ce (u:=.agg (Ac y186)) rfl (fun hg=>(Bf (e:=Ac) (y:=y186) (v:=.agg (Ac y186)) rfl rfl (fun _=>hg) rfl rfl (ip hg e187) rfl (nl rfl) rfl)) (⟨⟨Bn (v:=.agg (Ac y186)) rfl (fun hg=>(Bf (e:=Ac) (y:=y186) (v:=.agg (Ac y186)) rfl rfl (fun _=>hg) rfl rfl (ip hg e187) rfl (nl rfl) rfl)) rfl,Bn (v:=.agg (Ac y182)) rfl (fun hg=>(Bf (e:=Ac) (y:=y182) (v:=.agg (Ac y182)) rfl rfl (fun _=>hg) rfl rfl (ip hg e183) rfl (nl rfl) rfl)) rfl,tv⟩,Bu (Ii (r:=iV r188) rfl rfl rfl (fun hg=>hg) false (fun hg=>hf4 _ _ r188 (ip hg e189)) ⟨(fun hg=>hg),(fun hg=>hg),tv⟩ (fun _=>(ar (Bi rfl hs4.2.2.1))) (fun _=>(Av rfl (Av rfl (hs4.2.1 _ _ _ _ _)))) (fun _=>rfl) (fun h=>nomatch h) (dw [(0,Af 2097152 p84),(1,iV a1),(4,.clo f4 k4),(11,iV p166),(12,iV p86),(34,.bool (decide (p166≤p86))),(44,.may ((decide (p166≤p86))==true) (iV r188))] [] tv (Ag tv (Ce (u:=.bool (decide (r188<0))) rfl (fun hg=>(Bb ⟨(fun _=>hg),tv,tv⟩ rfl tv)) (⟨tv,?_⟩))))) Au⟩))⟩))⟩))⟩))⟩))⟩))⟩))⟩))⟩))))))
   refine Ag tv (Ce (u:=.bool (!(decide (r188<0)))) rfl (fun hg=>(Bb ⟨(fun _=>hg),tv⟩ rfl tv)) (⟨tv,Ag tv (Eh rfl rfl rfl (fun h=>Sr h) tv rfl (⟨tv,d_ (Ay 1 (Lz p84 a1 f4 k4 [(11,iV p166),(12,iV p86),(47,.bool (bif (decide (p166≤p86)) then (!(decide (r188<0))) else false))]) [] (Ct h2 (fun c190 h2=>?_) (fun c190 h2=>?_)))⟩))⟩))
   ·refine Bc 8 ?_
    obtain rfl:=sj h2
    exact kn hK2 rfl rfl
   ·obtain rfl:=sj h2
    obtain rfl:=hx2 _ rfl
    refine Jv rfl ?_
    exact jn hE2 ⟨_,rfl,rfl⟩

/- slices.partitionCmpFunc[loop.example/g00149/impl.Lease] -/
def TG:=[i_ 10 0,k_ 11 (.bool false)]
def TH:=tk [m_ 14 0,m_ 15 1,m_ 16 0,m_ 17 3,m_ 18 0,m_ 19 3,x_ 20 18 19 4,L_ 21 20 4,m_ 22 0,m_ 23 1,x_ 24 22 23 4,L_ 25 24 4,x_ 26 14 15 4] (.alt [m_ 17 3,m_ 16 0] (s_ 26 21 4) (tk [x_ 27 16 17 4] (.alt [] (s_ 27 25 4) .fin .stop)) .stop)
def TI:=[m_ 28 1,B_ .add 29 28 1,m_ 30 2,B_ .sub 31 30 1,m_ 12 29,m_ 13 31]
def TJ:=tk [m_ 32 12,m_ 33 13,b_ .leq 34 32 33,m_ 35 34,mT 35 36 4,mT 35 37 0,mT 35 38 12,xT 35 39 37 38 4,lT 35 40 39 4 true,mT 35 41 0,mT 35 42 1,xT 35 43 41 42 4,lT 35 44 43 4 true] (.alt [] ⟨some 45,.callv (.t 36) [.t 40,.t 44],some (35,true)⟩ (tk [pT 35 46 (.bin .lss (.t 45) (.c (iV 0))),pa 47 35 46] .fin) .stop)
def TK:=[m_ 48 12,B_ .add 49 48 1,m_ 12 49]
def TB:IR:=(.seq (sd TJ (.ite (.t 47) .skip (.exit 0))) (.block 1 (.reg TK)))
def TL:=tk [m_ 50 12,m_ 51 13,b_ .leq 52 50 51,m_ 53 52,mT 53 54 4,mT 53 55 0,mT 53 56 13,xT 53 57 55 56 4,lT 53 58 57 4 true,mT 53 59 0,mT 53 60 1,xT 53 61 59 60 4,lT 53 62 61 4 true] (.alt [] ⟨some 63,.callv (.t 54) [.t 58,.t 62],some (53,true)⟩ (tk [pT 53 64 (.bin .lss (.t 63) (.c (iV 0))),pT 53 65 (.un .not (.t 64)),pa 66 53 65] .fin) .stop)
def TM:=[m_ 67 13,B_ .sub 68 67 1,m_ 13 68]
def TC:IR:=(.seq (sd TL (.ite (.t 66) .skip (.exit 2))) (.block 3 (.reg TM)))
def TN:=[m_ 69 12,m_ 70 13,b_ .gtr 71 69 70]
def TO:=tk [m_ 72 0,m_ 73 13,m_ 74 0,m_ 75 1,m_ 76 0,m_ 77 1,x_ 78 76 77 4,L_ 79 78 4,m_ 80 0,m_ 81 13,x_ 82 80 81 4,L_ 83 82 4,x_ 84 72 73 4] (.alt [m_ 75 1,m_ 74 0] (s_ 84 79 4) (tk [x_ 85 74 75 4] (.alt [] (s_ 85 83 4) .fin .stop)) .stop)
def TP:=[m_ 86 13,m_ 10 86,k_ 11 (.bool true)]
def xI:=tk [m_ 87 0,m_ 88 12,m_ 89 0,m_ 90 13,m_ 91 0,m_ 92 13,x_ 93 91 92 4,L_ 94 93 4,m_ 95 0,m_ 96 12,x_ 97 95 96 4,L_ 98 97 4,x_ 99 87 88 4] (.alt [m_ 90 13,m_ 89 0] (s_ 99 94 4) (tk [x_ 100 89 90 4] (.alt [] (s_ 100 98 4) .fin .stop)) .stop)
def xJ:=[m_ 101 12,B_ .add 102 101 1,m_ 12 102]
def xK:=[m_ 103 13,B_ .sub 104 103 1,m_ 13 104]
def xL:=tk [m_ 105 12,m_ 106 13,b_ .leq 107 105 106,m_ 108 107,mT 108 109 4,mT 108 110 0,mT 108 111 12,xT 108 112 110 111 4,lT 108 113 112 4 true,mT 108 114 0,mT 108 115 1,xT 108 116 114 115 4,lT 108 117 116 4 true] (.alt [] ⟨some 118,.callv (.t 109) [.t 113,.t 117],some (108,true)⟩ (tk [pT 108 119 (.bin .lss (.t 118) (.c (iV 0))),pa 120 108 119] .fin) .stop)
def xM:=[m_ 121 12,B_ .add 122 121 1,m_ 12 122]
def TD:IR:=(.seq (sd xL (.ite (.t 120) .skip (.exit 6))) (.block 7 (.reg xM)))
def xN:=tk [m_ 123 12,m_ 124 13,b_ .leq 125 123 124,m_ 126 125,mT 126 127 4,mT 126 128 0,mT 126 129 13,xT 126 130 128 129 4,lT 126 131 130 4 true,mT 126 132 0,mT 126 133 1,xT 126 134 132 133 4,lT 126 135 134 4 true] (.alt [] ⟨some 136,.callv (.t 127) [.t 131,.t 135],some (126,true)⟩ (tk [pT 126 137 (.bin .lss (.t 136) (.c (iV 0))),pT 126 138 (.un .not (.t 137)),pa 139 126 138] .fin) .stop)
def xO:=[m_ 140 13,B_ .sub 141 140 1,m_ 13 141]
def TE:IR:=(.seq (sd xN (.ite (.t 139) .skip (.exit 8))) (.block 9 (.reg xO)))
def xP:=[m_ 142 12,m_ 143 13,b_ .gtr 144 142 143]
def xQ:=tk [m_ 145 0,m_ 146 12,m_ 147 0,m_ 148 13,m_ 149 0,m_ 150 13,x_ 151 149 150 4,L_ 152 151 4,m_ 153 0,m_ 154 12,x_ 155 153 154 4,L_ 156 155 4,x_ 157 145 146 4] (.alt [m_ 148 13,m_ 147 0] (s_ 157 152 4) (tk [x_ 158 147 148 4] (.alt [] (s_ 158 156 4) .fin .stop)) .stop)
def xR:=[m_ 159 12,B_ .add 160 159 1,m_ 12 160]
def xS:=[m_ 161 13,B_ .sub 162 161 1,m_ 13 162]
def TF:IR:=(.block 5 (.seq (Ju 6 TD) (.seq (Ju 8 TE) (.seq (sr xP (iz 144 (.exit 4))) (sd xQ (sr xR (.reg xS)))))))
def xU:=tk [m_ 163 0,m_ 164 13,m_ 165 0,m_ 166 1,m_ 167 0,m_ 168 1,x_ 169 167 168 4,L_ 170 169 4,m_ 171 0,m_ 172 13,x_ 173 171 172 4,L_ 174 173 4,x_ 175 163 164 4] (.alt [m_ 166 1,m_ 165 0] (s_ 175 170 4) (tk [x_ 176 165 166 4] (.alt [] (s_ 176 174 4) .fin .stop)) .stop)
def xV:=[m_ 177 13,m_ 10 177,k_ 11 (.bool false)]
def c155:Dp:=⟨5,178,[.t 10,.t 11],sr TG (sd TH (sr TI (.seq (Ju 0 TB) (.seq (Ju 2 TC) (.seq (sr TN (iz 71 (sd TO (rr TP)))) (sd xI (sr xJ (sr xK (.seq (Ju 4 TF) (sd xU (rr xV)))))))))))⟩
def K155 (C:Bh) (D:Bh:=C):Prop:=∀(a0:List Aa) (a1:Int) (a2:Int) (a3:Int) (f4:Nat) (k4:List V) (is4:Aa→Aa→Option Int) (hs4:Iu k4) (hf4:∀(x0:Aa) (x1:Aa) r,is4 x0 x1=some r→C f4 ⟨.agg (Ac x0) :: .agg (Ac x1)::k4,[]⟩ ⟨iV r,[],[]⟩) (r:Int×Bool×(List Aa)),AH a0 a1 a2 a3 is4=some r→D 155 ⟨[Af 2097152 a0,iV a1,iV a2,iV a3,.clo f4 k4],[]⟩ ⟨.tup [iV r.1,.bool r.2.1],[],[(0,4,r.2.2.map Ac)]⟩
abbrev Ma:=fun x0 x1 x2 x3 (r:List (Nat×V))=>(0,Af 2097152 x0)::(1,iV x1)::(4,.clo x2 x3)::r
abbrev Jr:=fun x0 x1 x2 (r:List (Nat×V))=>(1,iV x0)::(4,.clo x1 x2)::r
theorem F155:K155 C (FO C c155):=by
 intro a0 a1 a2 a3 f4 k4 is4 hs4 hf4 r h0
 refine f0 (Ay 4 (Jr a1 f4 k4 [(0,Af 2097152 a0),(2,iV a2),(3,iV a3)]) [] (Bj (bb h0 fun y1 e2 h0=>bb h0 fun y3 e4 h0=>bb h0 fun y5 e6 h0=>bb h0 fun y7 e8 h0=>bb h0 fun y9 e10 h0=>bb h0 fun y11 e12 h0=>Bc 6 (Bl (d_ (Yp rfl rfl rfl e2 (Bl (Ca (c_ (Oa rfl rfl e4) (⟨⟨Cv rfl rfl e4 rfl,tv⟩,Ag tv (Bw rfl tv (⟨⟨Cv rfl rfl e4 rfl,tv⟩,Ag tv (Bw rfl tv (⟨⟨Cv rfl rfl e4 rfl,tv⟩,Ag tv (c_ (Ka rfl rfl e6) (⟨⟨Cv rfl rfl e4 rfl,tv⟩,Ca (c_ (Oa rfl rfl e8) (⟨⟨Cv rfl rfl e8 rfl,Cv rfl rfl e4 rfl,tv⟩,Ag tv (c_ (Ka rfl rfl e6) (⟨⟨Cv rfl rfl e8 rfl,Cv rfl rfl e4 rfl,tv⟩,Bu (Hh (y':=y3) rfl rfl tv rfl rfl rfl rfl e8 (nl rfl) rfl rfl rfl rfl (iC ⟨[(0,Af 2097152 (a0.set a1.toNat y3)),(1,iV a1),(2,iV a2),(3,iV a3),(4,.clo f4 k4),(16,Af 2097152 (a0.set a1.toNat y3)),(17,iV a3),(25,.agg (Ac y7))],[],[]⟩ (fg ⟨congrArg (fun z=>some ((.own 2097152 0 4 z:V))) Aw,rfl,rfl,rfl,rfl,congrArg (fun z=>some ((.own 2097152 0 4 z:V))) Aw,rfl,rfl,tv⟩ tv) ⟨[],⟨⟨.inl tv,Ba (Dt (v:=iV a3) rfl tv) rfl⟩,⟨.inl tv,Ba (Dt (v:=Af 2097152 (a0.set a1.toNat y3)) rfl tv) rfl⟩,tv⟩,tv,Ag tv (c_ (Ka rfl rfl e10) (⟨tv,?_⟩))⟩)) Au⟩))⟩))⟩))⟩))⟩))⟩))))))))))
 refine Bu (Hh (y':=y7) rfl rfl tv rfl rfl rfl rfl e12 (nl rfl) rfl rfl rfl rfl (d0 tv (Gf (Dn ⟨[(0,Af 2097152 ((a0.set a1.toNat y3).set a3.toNat y7)),(1,iV a1),(2,iV a2),(4,.clo f4 k4)],[],[]⟩ (fg ⟨congrArg (fun z=>some ((.own 2097152 0 4 z:V))) Aw,rfl,rfl,rfl,tv⟩ tv) (Ay 8 (Jr a1 f4 k4 [(0,Af 2097152 ((a0.set a1.toNat y3).set a3.toNat y7)),(12,iV (wi (a1+1))),(13,iV (wi (a2-1)))]) [] (Bj (Cg (bb h0 fun r55 e56 h0=>Cz (R:=(fun S=>∃p41:Int,p41=r55∧S=⟨Jr a1 f4 k4 [(0,Af 2097152 ((a0.set a1.toNat y3).set a3.toNat y7)),(12,iV p41),(13,iV (wi (a2-1)))],[],[]⟩)) (eJ a0 a1 a2 a3 is4 y3 y7) (fun s S=>match s with | p26=>S=⟨Jr a1 f4 k4 [(0,Af 2097152 ((a0.set a1.toNat y3).set a3.toNat y7)),(12,iV p26),(13,iV (wi (a2-1)))],[],[]⟩) e56 _ (Ez (by kernel_rfl)) rfl 0 (fun _=>rfl) ?_ ?_)))))))) Au
 ·rintro S _ hfg ⟨p41,rfl,rfl⟩
  refine Dn ⟨Jr a1 f4 k4 [(0,Af 2097152 ((a0.set a1.toNat y3).set a3.toNat y7)),(12,iV p41),(13,iV (wi (a2-1)))],[],[]⟩ (rW hfg ⟨rfl,rfl,rfl,rfl,rfl,tv⟩ tv) (Bj (Cg (bb h0 fun r95 e96 h0=>Cz (R:=(fun S=>∃p83:Int,p83=r95∧S=⟨Jr a1 f4 k4 [(0,Af 2097152 ((a0.set a1.toNat y3).set a3.toNat y7)),(12,iV p41),(13,iV p83)],[],[]⟩)) (eK a0 a1 a3 is4 y3 y7 p41) (fun s S=>match s with | p70=>S=⟨Jr a1 f4 k4 [(0,Af 2097152 ((a0.set a1.toNat y3).set a3.toNat y7)),(12,iV p41),(13,iV p70)],[],[]⟩) e96 _ (Ez (by kernel_rfl)) rfl 2 (fun _=>rfl) ?_ ?_)))
  ·rintro S _ hfg ⟨p83,rfl,rfl⟩
   refine Dn ⟨Jr a1 f4 k4 [(0,Af 2097152 ((a0.set a1.toNat y3).set a3.toNat y7)),(12,iV p41),(13,iV p83)],[],[]⟩ (rW hfg ⟨rfl,rfl,rfl,rfl,rfl,tv⟩ tv) (Ay 6 (Jr a1 f4 k4 [(0,Af 2097152 ((a0.set a1.toNat y3).set a3.toNat y7)),(12,iV p41),(13,iV p83),(71,.bool (decide (p41>p83)))]) [] (Ct h0 (fun c97 h0=>?_) (fun c97 h0=>?_)))
   ·refine Bj (bb h0 fun y98 e99 h0=>bb h0 fun y100 e101 h0=>bb h0 fun y102 e103 h0=>bb h0 fun y104 e105 h0=>bb h0 fun y106 e107 h0=>bb h0 fun y108 e109 h0=>Bc 6 (Bl (d_ (Yp rfl rfl rfl e99 (Bl (Ca (c_ (Oa rfl rfl e101) (⟨⟨Cv rfl rfl e101 rfl,tv⟩,Ag tv (Bw rfl tv (⟨⟨Cv rfl rfl e101 rfl,tv⟩,Ag tv (Bw rfl tv (⟨⟨Cv rfl rfl e101 rfl,tv⟩,Ag tv (c_ (Ka rfl rfl e103) (⟨⟨Cv rfl rfl e101 rfl,tv⟩,Ca (c_ (Oa rfl rfl e105) (⟨⟨Cv rfl rfl e105 rfl,Cv rfl rfl e101 rfl,tv⟩,Ag tv (c_ (Ka rfl rfl e103) (⟨⟨Cv rfl rfl e105 rfl,Cv rfl rfl e101 rfl,tv⟩,Bu (Hh (y':=y100) rfl rfl tv rfl rfl rfl rfl e105 (nl rfl) rfl rfl rfl rfl (iC ⟨[(0,Af 2097152 (((a0.set a1.toNat y3).set a3.toNat y7).set p83.toNat y100)),(1,iV a1),(13,iV p83),(74,Af 2097152 (((a0.set a1.toNat y3).set a3.toNat y7).set p83.toNat y100)),(75,iV a1),(83,.agg (Ac y104))],[],[]⟩ (fg ⟨congrArg (fun z=>some ((.own 2097152 0 4 z:V))) Aw,rfl,rfl,congrArg (fun z=>some ((.own 2097152 0 4 z:V))) Aw,rfl,rfl,tv⟩ tv) ⟨[],⟨⟨.inl tv,Ba (Dt (v:=iV a1) rfl tv) rfl⟩,⟨.inl tv,Ba (Dt (v:=Af 2097152 (((a0.set a1.toNat y3).set a3.toNat y7).set p83.toNat y100)) rfl tv) rfl⟩,tv⟩,tv,Ag tv (c_ (Ka rfl rfl e107) (⟨tv,?_⟩))⟩)) Au⟩))⟩))⟩))⟩))⟩))⟩))))))))
    refine Bu (Hh (y':=y104) rfl rfl tv rfl rfl rfl rfl e109 (nl rfl) rfl rfl rfl rfl (d0 tv (Gf (Dn ⟨[(0,Af 2097152 ((((a0.set a1.toNat y3).set a3.toNat y7).set p83.toNat y100).set a1.toNat y104)),(13,iV p83)],[],[]⟩ (fg ⟨congrArg (fun z=>some ((.own 2097152 0 4 z:V))) Aw,rfl,tv⟩ tv) (Bc 5 (bv h0 fun v110 e111 h0=>Dn ⟨[(0,Af 2097152 v110),(10,iV p83),(11,.bool true)],[],[]⟩ (Ez (by subst e111; kernel_rfl)) ?_)))))) Au
    obtain rfl:=sj h0
    exact Lf (Eg rfl rfl rfl rfl rfl ⟨⟨rfl,Mp (fun _=>rfl)⟩,tv⟩)
   ·refine Mx 3 (bb h0 fun y112 e113 h0=>bb h0 fun y114 e115 h0=>bb h0 fun y116 e117 h0=>bb h0 fun y118 e119 h0=>bb h0 fun y120 e121 h0=>bb h0 fun y122 e123 h0=>Bc 6 (Bl (d_ (Yp rfl rfl rfl e113 (Bl (Ca (c_ (Oa rfl rfl e115) (⟨⟨Cv rfl rfl e115 rfl,tv⟩,Ag tv (Bw rfl tv (⟨⟨Cv rfl rfl e115 rfl,tv⟩,Ag tv (Bw rfl tv (⟨⟨Cv rfl rfl e115 rfl,tv⟩,Ag tv (c_ (Ka rfl rfl e117) (⟨⟨Cv rfl rfl e115 rfl,tv⟩,Ca (c_ (Oa rfl rfl e119) (⟨⟨Cv rfl rfl e119 rfl,Cv rfl rfl e115 rfl,tv⟩,Ag tv (c_ (Ka rfl rfl e117) (⟨⟨Cv rfl rfl e119 rfl,Cv rfl rfl e115 rfl,tv⟩,Bu (Hh (y':=y114) rfl rfl tv rfl rfl rfl rfl e119 (nl rfl) rfl rfl rfl rfl (iC ⟨[(0,Af 2097152 (((a0.set a1.toNat y3).set a3.toNat y7).set p41.toNat y114)),(1,iV a1),(4,.clo f4 k4),(12,iV p41),(13,iV p83),(89,Af 2097152 (((a0.set a1.toNat y3).set a3.toNat y7).set p41.toNat y114)),(90,iV p83),(98,.agg (Ac y118))],[],[]⟩ (fg ⟨congrArg (fun z=>some ((.own 2097152 0 4 z:V))) Aw,rfl,rfl,rfl,rfl,congrArg (fun z=>some ((.own 2097152 0 4 z:V))) Aw,rfl,rfl,tv⟩ tv) ⟨[],⟨⟨.inl tv,Ba (Dt (v:=iV p83) rfl tv) rfl⟩,⟨.inl tv,Ba (Dt (v:=Af 2097152 (((a0.set a1.toNat y3).set a3.toNat y7).set p41.toNat y114)) rfl tv) rfl⟩,tv⟩,tv,Ag tv (c_ (Ka rfl rfl e121) (⟨tv,?_⟩))⟩)) Au⟩))⟩))⟩))⟩))⟩))⟩))))))))
    refine Bu (Hh (y':=y118) rfl rfl tv rfl rfl rfl rfl e123 (nl rfl) rfl rfl rfl rfl (d0 tv (Gf (Dn ⟨[(0,Af 2097152 ((((a0.set a1.toNat y3).set a3.toNat y7).set p41.toNat y114).set p83.toNat y118)),(1,iV a1),(4,.clo f4 k4),(12,iV p41),(13,iV p83)],[],[]⟩ (fg ⟨congrArg (fun z=>some ((.own 2097152 0 4 z:V))) Aw,rfl,rfl,rfl,rfl,tv⟩ tv) (Bc 5 (bv h0 fun v124 e125 h0=>Dn ⟨[(0,Af 2097152 v124),(1,iV a1),(4,.clo f4 k4),(12,iV (wi (p41+1))),(13,iV p83)],[],[]⟩ (fg ⟨(by subst e125; rfl),(by subst e125; rfl),(by subst e125; rfl),(by subst e125; rfl),(by subst e125; rfl),tv⟩ tv) (Ay 5 (Jr a1 f4 k4 [(0,Af 2097152 v124),(12,iV (wi (p41+1))),(13,iV (wi (p83-1)))]) [] (Bj (Cg (bb h0 fun r355 e356 h0=>Cz (R:=(fun S=>∃p264:List Aa,∃p265:Int,(p264,p265)=r355∧S=⟨[(0,Af 2097152 p264),(1,iV a1),(13,iV p265)],[],[]⟩)) (Yf a1 is4) (fun s S=>match s with | (p195,p196,p197)=>S=⟨Ma p195 a1 f4 k4 [(12,iV p196),(13,iV p197)],[],[]⟩) e356 _ (Ez (by kernel_rfl)) rfl 4 (fun _=>rfl) ?_ ?_)))))))))) Au
    ·rintro S _ hfg ⟨p264,p265,rfl,rfl⟩
     refine Dn _ hfg (Bj (bb h0 fun y357 e358 h0=>bb h0 fun y359 e360 h0=>bb h0 fun y361 e362 h0=>bb h0 fun y363 e364 h0=>bb h0 fun y365 e366 h0=>bb h0 fun y367 e368 h0=>Bc 6 (Bl (d_ (Yp rfl rfl rfl e358 (Bl (Ca (c_ (Oa rfl rfl e360) (⟨⟨Cv rfl rfl e360 rfl,tv⟩,Ag tv (Bw rfl tv (⟨⟨Cv rfl rfl e360 rfl,tv⟩,Ag tv (Bw rfl tv (⟨⟨Cv rfl rfl e360 rfl,tv⟩,Ag tv (c_ (Ka rfl rfl e362) (⟨⟨Cv rfl rfl e360 rfl,tv⟩,Ca (c_ (Oa rfl rfl e364) (⟨⟨Cv rfl rfl e364 rfl,Cv rfl rfl e360 rfl,tv⟩,Ag tv (c_ (Ka rfl rfl e362) (⟨⟨Cv rfl rfl e364 rfl,Cv rfl rfl e360 rfl,tv⟩,Bu (Hh (y':=y359) rfl rfl tv rfl rfl rfl rfl e364 (nl rfl) rfl rfl rfl rfl (iC ⟨[(0,Af 2097152 (p264.set p265.toNat y359)),(1,iV a1),(13,iV p265),(165,Af 2097152 (p264.set p265.toNat y359)),(166,iV a1),(174,.agg (Ac y363))],[],[]⟩ (fg ⟨congrArg (fun z=>some ((.own 2097152 0 4 z:V))) Aw,rfl,rfl,congrArg (fun z=>some ((.own 2097152 0 4 z:V))) Aw,rfl,rfl,tv⟩ tv) ⟨[],⟨⟨.inl tv,Ba (Dt (v:=iV a1) rfl tv) rfl⟩,⟨.inl tv,Ba (Dt (v:=Af 2097152 (p264.set p265.toNat y359)) rfl tv) rfl⟩,tv⟩,tv,Ag tv (c_ (Ka rfl rfl e366) (⟨tv,?_⟩))⟩)) Au⟩))⟩))⟩))⟩))⟩))⟩)))))))))
     refine Bu (Hh (y':=y363) rfl rfl tv rfl rfl rfl rfl e368 (nl rfl) rfl rfl rfl rfl (d0 tv (Gf (Dn ⟨[(0,Af 2097152 ((p264.set p265.toNat y359).set a1.toNat y363)),(13,iV p265)],[],[]⟩ (fg ⟨congrArg (fun z=>some ((.own 2097152 0 4 z:V))) Aw,rfl,tv⟩ tv) (Ay 5 [(0,Af 2097152 ((p264.set p265.toNat y359).set a1.toNat y363)),(10,iV p265),(11,.bool false)] [] ?_))))) Au
     obtain rfl:=sj h0
     exact Lf (Eg rfl rfl rfl rfl rfl ⟨⟨rfl,Mp (fun _=>rfl)⟩,tv⟩)
    ·rintro ⟨p195,p196,p197⟩ o1 _ K1 rfl h1 hx1 hK1 hE1 hR1
     refine Cg (Bj (Cg (bb h1 fun r302 e303 h1=>Cz (R:=(fun S=>∃p290:Int,p290=r302∧S=⟨Ma p195 a1 f4 k4 [(12,iV p290),(13,iV p197)],[],[]⟩)) (Tl a1 is4 p195 p197) (fun s S=>match s with | p277=>S=⟨Ma p195 a1 f4 k4 [(12,iV p277),(13,iV p197)],[],[]⟩) e303 _ (Ez (by kernel_rfl)) rfl 6 (fun _=>rfl) ?_ ?_)))
     ·rintro S _ hfg ⟨p290,rfl,rfl⟩
      refine Dn ⟨Ma p195 a1 f4 k4 [(12,iV p290),(13,iV p197)],[],[]⟩ (rW hfg ⟨rfl,rfl,rfl,rfl,rfl,tv⟩ tv) (Bj (Cg (bb h1 fun r340 e341 h1=>Cz (R:=(fun S=>∃p328:Int,p328=r340∧S=⟨Ma p195 a1 f4 k4 [(12,iV p290),(13,iV p328)],[],[]⟩)) (Tm a1 is4 p195 p290) (fun s S=>match s with | p315=>S=⟨Ma p195 a1 f4 k4 [(12,iV p290),(13,iV p315)],[],[]⟩) e341 _ (Ez (by kernel_rfl)) rfl 8 (fun _=>rfl) ?_ ?_)))
      ·rintro S _ hfg ⟨p328,rfl,rfl⟩
       refine Dn ⟨Ma p195 a1 f4 k4 [(12,iV p290),(13,iV p328)],[],[]⟩ (rW hfg ⟨rfl,rfl,rfl,rfl,rfl,tv⟩ tv) (Ay 6 (Ma p195 a1 f4 k4 [(12,iV p290),(13,iV p328),(144,.bool (decide (p290>p328)))]) [] (Ct h1 (fun c342 h1=>?_) (fun c342 h1=>?_)))
       ·obtain rfl:=sj h1
        obtain rfl:=hx1 _ rfl
        refine Jv rfl ?_
        exact jn hE1 ⟨_,_,rfl,rfl⟩
       ·refine Mx 3 (bb h1 fun y343 e344 h1=>bb h1 fun y345 e346 h1=>bb h1 fun y347 e348 h1=>bb h1 fun y349 e350 h1=>bb h1 fun y351 e352 h1=>bb h1 fun y353 e354 h1=>Bc 6 (Bl (d_ (Yp rfl rfl rfl e344 (Bl (Ca (c_ (Oa rfl rfl e346) (⟨⟨Cv rfl rfl e346 rfl,tv⟩,Ag tv (Bw rfl tv (⟨⟨Cv rfl rfl e346 rfl,tv⟩,Ag tv (Bw rfl tv (⟨⟨Cv rfl rfl e346 rfl,tv⟩,Ag tv (c_ (Ka rfl rfl e348) (⟨⟨Cv rfl rfl e346 rfl,tv⟩,Ca (c_ (Oa rfl rfl e350) (⟨⟨Cv rfl rfl e350 rfl,Cv rfl rfl e346 rfl,tv⟩,Ag tv (c_ (Ka rfl rfl e348) (⟨⟨Cv rfl rfl e350 rfl,Cv rfl rfl e346 rfl,tv⟩,Bu (Hh (y':=y345) rfl rfl tv rfl rfl rfl rfl e350 (nl rfl) rfl rfl rfl rfl (iC ⟨[(0,Af 2097152 (p195.set p290.toNat y345)),(1,iV a1),(4,.clo f4 k4),(12,iV p290),(13,iV p328),(147,Af 2097152 (p195.set p290.toNat y345)),(148,iV p328),(156,.agg (Ac y349))],[],[]⟩ (fg ⟨congrArg (fun z=>some ((.own 2097152 0 4 z:V))) Aw,rfl,rfl,rfl,rfl,congrArg (fun z=>some ((.own 2097152 0 4 z:V))) Aw,rfl,rfl,tv⟩ tv) ⟨[],⟨⟨.inl tv,Ba (Dt (v:=iV p328) rfl tv) rfl⟩,⟨.inl tv,Ba (Dt (v:=Af 2097152 (p195.set p290.toNat y345)) rfl tv) rfl⟩,tv⟩,tv,Ag tv (c_ (Ka rfl rfl e352) (⟨tv,?_⟩))⟩)) Au⟩))⟩))⟩))⟩))⟩))⟩))))))))
        refine Bu (Hh (y':=y349) rfl rfl tv rfl rfl rfl rfl e354 (nl rfl) rfl rfl rfl rfl (d0 tv (Gf (Dn ⟨[(0,Af 2097152 ((p195.set p290.toNat y345).set p328.toNat y349)),(1,iV a1),(4,.clo f4 k4),(12,iV p290),(13,iV p328)],[],[]⟩ (fg ⟨congrArg (fun z=>some ((.own 2097152 0 4 z:V))) Aw,rfl,rfl,rfl,rfl,tv⟩ tv) (Ay 5 (Jr a1 f4 k4 [(0,Af 2097152 ((p195.set p290.toNat y345).set p328.toNat y349)),(12,iV (wi (p290+1))),(13,iV p328)]) [] (Bc 5 ?_)))))) Au
        obtain rfl:=sj h1
        exact kn hK1 rfl rfl
      ·rintro p315 o2 _ K2 rfl h2 hx2 hK2 hE2 hR2
       refine Bj (Bj (bb h2 fun y329 e330 h2=>bb h2 fun y331 e332 h2=>bb h2 fun y333 e334 h2=>bb h2 fun y335 e336 h2=>bb h2 fun r337 e338 h2=>Bc 4 (Bl (Ag tv (Ce (u:=.clo f4 k4) rfl (fun hg=>(Dt (v:=.clo f4 k4) rfl tv)) (⟨tv,Ag tv (Ce (u:=Af 2097152 p195) rfl (fun hg=>(Dt (v:=Af 2097152 p195) rfl tv)) (⟨tv,Ag tv (Ce (u:=iV p315) rfl (fun hg=>(Dt (v:=iV p315) rfl tv)) (⟨tv,Ag tv (Ce (u:=.optr 2097152 4 (0+p315.toNat) 0) rfl (fun hg=>(Hd (e:=Ac) (y:=y329) rfl rfl (fun _=>hg) rfl rfl (fun _=>hg) (ip hg e330))) (⟨tv,Ca (Ce (u:=.agg (Ac y331)) rfl (fun hg=>(Bf (e:=Ac) (y:=y331) (v:=.agg (Ac y331)) rfl rfl (fun _=>hg) rfl rfl (ip hg e332) rfl (nl rfl) rfl)) (⟨⟨Bn (v:=.agg (Ac y331)) rfl (fun hg=>(Bf (e:=Ac) (y:=y331) (v:=.agg (Ac y331)) rfl rfl (fun _=>hg) rfl rfl (ip hg e332) rfl (nl rfl) rfl)) rfl,tv⟩,Ag tv (Ce (u:=Af 2097152 p195) rfl (fun hg=>(Dt (v:=Af 2097152 p195) rfl tv)) (⟨⟨Bn (v:=.agg (Ac y331)) rfl (fun hg=>(Bf (e:=Ac) (y:=y331) (v:=.agg (Ac y331)) rfl rfl (fun _=>hg) rfl rfl (ip hg e332) rfl (nl rfl) rfl)) rfl,tv⟩,Ag tv (Ce (u:=iV a1) rfl (fun hg=>(Dt (v:=iV a1) rfl tv)) (⟨⟨Bn (v:=.agg (Ac y331)) rfl (fun hg=>(Bf (e:=Ac) (y:=y331) (v:=.agg (Ac y331)) rfl rfl (fun _=>hg) rfl rfl (ip hg e332) rfl (nl rfl) rfl)) rfl,tv⟩,Ag tv (Ce (u:=.optr 2097152 4 (0+a1.toNat) 0) rfl (fun hg=>(Hd (e:=Ac) (y:=y333) rfl rfl (fun _=>hg) rfl rfl (fun _=>hg) (ip hg e334))) (⟨⟨Bn (v:=.agg (Ac y331)) rfl (fun hg=>(Bf (e:=Ac) (y:=y331) (v:=.agg (Ac y331)) rfl rfl (fun _=>hg) rfl rfl (ip hg e332) rfl (nl rfl) rfl)) rfl,tv⟩,Ca (Ce (u:=.agg (Ac y335)) rfl (fun hg=>(Bf (e:=Ac) (y:=y335) (v:=.agg (Ac y335)) rfl rfl (fun _=>hg) rfl rfl (ip hg e336) rfl (nl rfl) rfl)) (⟨⟨Bn (v:=.agg (Ac y335)) rfl (fun hg=>(Bf (e:=Ac) (y:=y335) (v:=.agg (Ac y335)) rfl rfl (fun _=>hg) rfl rfl (ip hg e336) rfl (nl rfl) rfl)) rfl,Bn (v:=.agg (Ac y331)) rfl (fun hg=>(Bf (e:=Ac) (y:=y331) (v:=.agg (Ac y331)) rfl rfl (fun _=>hg) rfl rfl (ip hg e332) rfl (nl rfl) rfl)) rfl,tv⟩,Bu (Ii (r:=iV r337) rfl rfl rfl (fun hg=>hg) false (fun hg=>hf4 _ _ r337 (ip hg e338)) ⟨(fun hg=>hg),(fun hg=>hg),tv⟩ (fun _=>(ar (Bi rfl hs4.2.2.1))) (fun _=>(Av rfl (Av rfl (hs4.2.1 _ _ _ _ _)))) (fun _=>rfl) (fun h=>nomatch h) (dw [(0,Af 2097152 p195),(1,iV a1),(4,.clo f4 k4),(12,iV p290),(13,iV p315),(126,.bool (decide (p290≤p315))),(136,.may ((decide (p290≤p315))==true) (iV r337))] [] tv (Ag tv (Ce (u:=.bool (decide (r337<0))) rfl (fun hg=>(Bb ⟨(fun _=>hg),tv,tv⟩ rfl tv)) (⟨tv,?_⟩))))) Au⟩))⟩))⟩))⟩))⟩))⟩))⟩))⟩))⟩))))))
       refine Ag tv (Ce (u:=.bool (!(decide (r337<0)))) rfl (fun hg=>(Bb ⟨(fun _=>hg),tv⟩ rfl tv)) (⟨tv,Ag tv (Eh rfl rfl rfl (fun h=>Sr h) tv rfl (⟨tv,d_ (Ay 1 (Ma p195 a1 f4 k4 [(12,iV p290),(13,iV p315),(139,.bool (bif (decide (p290≤p315)) then (!(decide (r337<0))) else false))]) [] (Ct h2 (fun c339 h2=>?_) (fun c339 h2=>?_)))⟩))⟩))
       ·refine Bc 8 ?_
        obtain rfl:=sj h2
        exact kn hK2 rfl rfl
       ·obtain rfl:=sj h2
        obtain rfl:=hx2 _ rfl
        refine Jv rfl ?_
        exact jn hE2 ⟨_,rfl,rfl⟩
     ·rintro p277 o2 _ K2 rfl h2 hx2 hK2 hE2 hR2
      refine Bj (Bj (bb h2 fun y291 e292 h2=>bb h2 fun y293 e294 h2=>bb h2 fun y295 e296 h2=>bb h2 fun y297 e298 h2=>bb h2 fun r299 e300 h2=>Bc 4 (Bl (Ag tv (Ce (u:=.clo f4 k4) rfl (fun hg=>(Dt (v:=.clo f4 k4) rfl tv)) (⟨tv,Ag tv (Ce (u:=Af 2097152 p195) rfl (fun hg=>(Dt (v:=Af 2097152 p195) rfl tv)) (⟨tv,Ag tv (Ce (u:=iV p277) rfl (fun hg=>(Dt (v:=iV p277) rfl tv)) (⟨tv,Ag tv (Ce (u:=.optr 2097152 4 (0+p277.toNat) 0) rfl (fun hg=>(Hd (e:=Ac) (y:=y291) rfl rfl (fun _=>hg) rfl rfl (fun _=>hg) (ip hg e292))) (⟨tv,Ca (Ce (u:=.agg (Ac y293)) rfl (fun hg=>(Bf (e:=Ac) (y:=y293) (v:=.agg (Ac y293)) rfl rfl (fun _=>hg) rfl rfl (ip hg e294) rfl (nl rfl) rfl)) (⟨⟨Bn (v:=.agg (Ac y293)) rfl (fun hg=>(Bf (e:=Ac) (y:=y293) (v:=.agg (Ac y293)) rfl rfl (fun _=>hg) rfl rfl (ip hg e294) rfl (nl rfl) rfl)) rfl,tv⟩,Ag tv (Ce (u:=Af 2097152 p195) rfl (fun hg=>(Dt (v:=Af 2097152 p195) rfl tv)) (⟨⟨Bn (v:=.agg (Ac y293)) rfl (fun hg=>(Bf (e:=Ac) (y:=y293) (v:=.agg (Ac y293)) rfl rfl (fun _=>hg) rfl rfl (ip hg e294) rfl (nl rfl) rfl)) rfl,tv⟩,Ag tv (Ce (u:=iV a1) rfl (fun hg=>(Dt (v:=iV a1) rfl tv)) (⟨⟨Bn (v:=.agg (Ac y293)) rfl (fun hg=>(Bf (e:=Ac) (y:=y293) (v:=.agg (Ac y293)) rfl rfl (fun _=>hg) rfl rfl (ip hg e294) rfl (nl rfl) rfl)) rfl,tv⟩,Ag tv (Ce (u:=.optr 2097152 4 (0+a1.toNat) 0) rfl (fun hg=>(Hd (e:=Ac) (y:=y295) rfl rfl (fun _=>hg) rfl rfl (fun _=>hg) (ip hg e296))) (⟨⟨Bn (v:=.agg (Ac y293)) rfl (fun hg=>(Bf (e:=Ac) (y:=y293) (v:=.agg (Ac y293)) rfl rfl (fun _=>hg) rfl rfl (ip hg e294) rfl (nl rfl) rfl)) rfl,tv⟩,Ca (Ce (u:=.agg (Ac y297)) rfl (fun hg=>(Bf (e:=Ac) (y:=y297) (v:=.agg (Ac y297)) rfl rfl (fun _=>hg) rfl rfl (ip hg e298) rfl (nl rfl) rfl)) (⟨⟨Bn (v:=.agg (Ac y297)) rfl (fun hg=>(Bf (e:=Ac) (y:=y297) (v:=.agg (Ac y297)) rfl rfl (fun _=>hg) rfl rfl (ip hg e298) rfl (nl rfl) rfl)) rfl,Bn (v:=.agg (Ac y293)) rfl (fun hg=>(Bf (e:=Ac) (y:=y293) (v:=.agg (Ac y293)) rfl rfl (fun _=>hg) rfl rfl (ip hg e294) rfl (nl rfl) rfl)) rfl,tv⟩,Bu (Ii (r:=iV r299) rfl rfl rfl (fun hg=>hg) false (fun hg=>hf4 _ _ r299 (ip hg e300)) ⟨(fun hg=>hg),(fun hg=>hg),tv⟩ (fun _=>(ar (Bi rfl hs4.2.2.1))) (fun _=>(Av rfl (Av rfl (hs4.2.1 _ _ _ _ _)))) (fun _=>rfl) (fun h=>nomatch h) (dw [(0,Af 2097152 p195),(1,iV a1),(4,.clo f4 k4),(12,iV p277),(13,iV p197),(108,.bool (decide (p277≤p197))),(118,.may ((decide (p277≤p197))==true) (iV r299))] [] tv (Ag tv (Ce (u:=.bool (decide (r299<0))) rfl (fun hg=>(Bb ⟨(fun _=>hg),tv,tv⟩ rfl tv)) (⟨tv,?_⟩))))) Au⟩))⟩))⟩))⟩))⟩))⟩))⟩))⟩))⟩))))))
      refine Ag tv (Eh rfl rfl rfl (fun h=>Sr h) tv rfl (⟨tv,d_ (Ay 1 (Ma p195 a1 f4 k4 [(12,iV p277),(13,iV p197),(120,.bool (bif (decide (p277≤p197)) then (decide (r299<0)) else false))]) [] (Ct h2 (fun c301 h2=>?_) (fun c301 h2=>?_)))⟩))
      ·refine Bc 8 ?_
       obtain rfl:=sj h2
       exact kn hK2 rfl rfl
      ·obtain rfl:=sj h2
       obtain rfl:=hx2 _ rfl
       refine Jv rfl ?_
       exact jn hE2 ⟨_,rfl,rfl⟩
  ·rintro p70 o1 _ K1 rfl h1 hx1 hK1 hE1 hR1
   refine Bj (Bj (bb h1 fun y84 e85 h1=>bb h1 fun y86 e87 h1=>bb h1 fun y88 e89 h1=>bb h1 fun y90 e91 h1=>bb h1 fun r92 e93 h1=>Bc 4 (Bl (Ag tv (Ce (u:=.clo f4 k4) rfl (fun hg=>(Dt (v:=.clo f4 k4) rfl tv)) (⟨tv,Ag tv (Ce (u:=Af 2097152 ((a0.set a1.toNat y3).set a3.toNat y7)) rfl (fun hg=>(Dt (v:=Af 2097152 ((a0.set a1.toNat y3).set a3.toNat y7)) rfl tv)) (⟨tv,Ag tv (Ce (u:=iV p70) rfl (fun hg=>(Dt (v:=iV p70) rfl tv)) (⟨tv,Ag tv (Ce (u:=.optr 2097152 4 (0+p70.toNat) 0) rfl (fun hg=>(Hd (e:=Ac) (y:=y84) rfl rfl (fun _=>hg) rfl rfl (fun _=>hg) (ip hg e85))) (⟨tv,Ca (Ce (u:=.agg (Ac y86)) rfl (fun hg=>(Bf (e:=Ac) (y:=y86) (v:=.agg (Ac y86)) rfl rfl (fun _=>hg) rfl rfl (ip hg e87) rfl (nl rfl) rfl)) (⟨⟨Bn (v:=.agg (Ac y86)) rfl (fun hg=>(Bf (e:=Ac) (y:=y86) (v:=.agg (Ac y86)) rfl rfl (fun _=>hg) rfl rfl (ip hg e87) rfl (nl rfl) rfl)) rfl,tv⟩,Ag tv (Ce (u:=Af 2097152 ((a0.set a1.toNat y3).set a3.toNat y7)) rfl (fun hg=>(Dt (v:=Af 2097152 ((a0.set a1.toNat y3).set a3.toNat y7)) rfl tv)) (⟨⟨Bn (v:=.agg (Ac y86)) rfl (fun hg=>(Bf (e:=Ac) (y:=y86) (v:=.agg (Ac y86)) rfl rfl (fun _=>hg) rfl rfl (ip hg e87) rfl (nl rfl) rfl)) rfl,tv⟩,Ag tv (Ce (u:=iV a1) rfl (fun hg=>(Dt (v:=iV a1) rfl tv)) (⟨⟨Bn (v:=.agg (Ac y86)) rfl (fun hg=>(Bf (e:=Ac) (y:=y86) (v:=.agg (Ac y86)) rfl rfl (fun _=>hg) rfl rfl (ip hg e87) rfl (nl rfl) rfl)) rfl,tv⟩,Ag tv (Ce (u:=.optr 2097152 4 (0+a1.toNat) 0) rfl (fun hg=>(Hd (e:=Ac) (y:=y88) rfl rfl (fun _=>hg) rfl rfl (fun _=>hg) (ip hg e89))) (⟨⟨Bn (v:=.agg (Ac y86)) rfl (fun hg=>(Bf (e:=Ac) (y:=y86) (v:=.agg (Ac y86)) rfl rfl (fun _=>hg) rfl rfl (ip hg e87) rfl (nl rfl) rfl)) rfl,tv⟩,Ca (Ce (u:=.agg (Ac y90)) rfl (fun hg=>(Bf (e:=Ac) (y:=y90) (v:=.agg (Ac y90)) rfl rfl (fun _=>hg) rfl rfl (ip hg e91) rfl (nl rfl) rfl)) (⟨⟨Bn (v:=.agg (Ac y90)) rfl (fun hg=>(Bf (e:=Ac) (y:=y90) (v:=.agg (Ac y90)) rfl rfl (fun _=>hg) rfl rfl (ip hg e91) rfl (nl rfl) rfl)) rfl,Bn (v:=.agg (Ac y86)) rfl (fun hg=>(Bf (e:=Ac) (y:=y86) (v:=.agg (Ac y86)) rfl rfl (fun _=>hg) rfl rfl (ip hg e87) rfl (nl rfl) rfl)) rfl,tv⟩,Bu (Ii (r:=iV r92) rfl rfl rfl (fun hg=>hg) false (fun hg=>hf4 _ _ r92 (ip hg e93)) ⟨(fun hg=>hg),(fun hg=>hg),tv⟩ (fun _=>(ar (Bi rfl hs4.2.2.1))) (fun _=>(Av rfl (Av rfl (hs4.2.1 _ _ _ _ _)))) (fun _=>rfl) (fun h=>nomatch h) (dw [(0,Af 2097152 ((a0.set a1.toNat y3).set a3.toNat y7)),(1,iV a1),(4,.clo f4 k4),(12,iV p41),(13,iV p70),(53,.bool (decide (p41≤p70))),(63,.may ((decide (p41≤p70))==true) (iV r92))] [] tv (Ag tv (Ce (u:=.bool (decide (r92<0))) rfl (fun hg=>(Bb ⟨(fun _=>hg),tv,tv⟩ rfl tv)) (⟨tv,?_⟩))))) Au⟩))⟩))⟩))⟩))⟩))⟩))⟩))⟩))⟩))))))
   refine Ag tv (Ce (u:=.bool (!(decide (r92<0)))) rfl (fun hg=>(Bb ⟨(fun _=>hg),tv⟩ rfl tv)) (⟨tv,Ag tv (Eh rfl rfl rfl (fun h=>Sr h) tv rfl (⟨tv,d_ (Ay 1 (Jr a1 f4 k4 [(0,Af 2097152 ((a0.set a1.toNat y3).set a3.toNat y7)),(12,iV p41),(13,iV p70),(66,.bool (bif (decide (p41≤p70)) then (!(decide (r92<0))) else false))]) [] (Ct h1 (fun c94 h1=>?_) (fun c94 h1=>?_)))⟩))⟩))
   ·refine Bc 8 ?_
    obtain rfl:=sj h1
    exact kn hK1 rfl rfl
   ·obtain rfl:=sj h1
    obtain rfl:=hx1 _ rfl
    refine Jv rfl ?_
    exact jn hE1 ⟨_,rfl,rfl⟩
 ·rintro p26 o1 _ K1 rfl h1 hx1 hK1 hE1 hR1
  refine Bj (Bj (bb h1 fun y42 e43 h1=>bb h1 fun y44 e45 h1=>bb h1 fun y46 e47 h1=>bb h1 fun y48 e49 h1=>bb h1 fun r50 e51 h1=>Bc 4 (Bl (Ag tv (Ce (u:=.clo f4 k4) rfl (fun hg=>(Dt (v:=.clo f4 k4) rfl tv)) (⟨tv,Ag tv (Ce (u:=Af 2097152 ((a0.set a1.toNat y3).set a3.toNat y7)) rfl (fun hg=>(Dt (v:=Af 2097152 ((a0.set a1.toNat y3).set a3.toNat y7)) rfl tv)) (⟨tv,Ag tv (Ce (u:=iV p26) rfl (fun hg=>(Dt (v:=iV p26) rfl tv)) (⟨tv,Ag tv (Ce (u:=.optr 2097152 4 (0+p26.toNat) 0) rfl (fun hg=>(Hd (e:=Ac) (y:=y42) rfl rfl (fun _=>hg) rfl rfl (fun _=>hg) (ip hg e43))) (⟨tv,Ca (Ce (u:=.agg (Ac y44)) rfl (fun hg=>(Bf (e:=Ac) (y:=y44) (v:=.agg (Ac y44)) rfl rfl (fun _=>hg) rfl rfl (ip hg e45) rfl (nl rfl) rfl)) (⟨⟨Bn (v:=.agg (Ac y44)) rfl (fun hg=>(Bf (e:=Ac) (y:=y44) (v:=.agg (Ac y44)) rfl rfl (fun _=>hg) rfl rfl (ip hg e45) rfl (nl rfl) rfl)) rfl,tv⟩,Ag tv (Ce (u:=Af 2097152 ((a0.set a1.toNat y3).set a3.toNat y7)) rfl (fun hg=>(Dt (v:=Af 2097152 ((a0.set a1.toNat y3).set a3.toNat y7)) rfl tv)) (⟨⟨Bn (v:=.agg (Ac y44)) rfl (fun hg=>(Bf (e:=Ac) (y:=y44) (v:=.agg (Ac y44)) rfl rfl (fun _=>hg) rfl rfl (ip hg e45) rfl (nl rfl) rfl)) rfl,tv⟩,Ag tv (Ce (u:=iV a1) rfl (fun hg=>(Dt (v:=iV a1) rfl tv)) (⟨⟨Bn (v:=.agg (Ac y44)) rfl (fun hg=>(Bf (e:=Ac) (y:=y44) (v:=.agg (Ac y44)) rfl rfl (fun _=>hg) rfl rfl (ip hg e45) rfl (nl rfl) rfl)) rfl,tv⟩,Ag tv (Ce (u:=.optr 2097152 4 (0+a1.toNat) 0) rfl (fun hg=>(Hd (e:=Ac) (y:=y46) rfl rfl (fun _=>hg) rfl rfl (fun _=>hg) (ip hg e47))) (⟨⟨Bn (v:=.agg (Ac y44)) rfl (fun hg=>(Bf (e:=Ac) (y:=y44) (v:=.agg (Ac y44)) rfl rfl (fun _=>hg) rfl rfl (ip hg e45) rfl (nl rfl) rfl)) rfl,tv⟩,Ca (Ce (u:=.agg (Ac y48)) rfl (fun hg=>(Bf (e:=Ac) (y:=y48) (v:=.agg (Ac y48)) rfl rfl (fun _=>hg) rfl rfl (ip hg e49) rfl (nl rfl) rfl)) (⟨⟨Bn (v:=.agg (Ac y48)) rfl (fun hg=>(Bf (e:=Ac) (y:=y48) (v:=.agg (Ac y48)) rfl rfl (fun _=>hg) rfl rfl (ip hg e49) rfl (nl rfl) rfl)) rfl,Bn (v:=.agg (Ac y44)) rfl (fun hg=>(Bf (e:=Ac) (y:=y44) (v:=.agg (Ac y44)) rfl rfl (fun _=>hg) rfl rfl (ip hg e45) rfl (nl rfl) rfl)) rfl,tv⟩,Bu (Ii (r:=iV r50) rfl rfl rfl (fun hg=>hg) false (fun hg=>hf4 _ _ r50 (ip hg e51)) ⟨(fun hg=>hg),(fun hg=>hg),tv⟩ (fun _=>(ar (Bi rfl hs4.2.2.1))) (fun _=>(Av rfl (Av rfl (hs4.2.1 _ _ _ _ _)))) (fun _=>rfl) (fun h=>nomatch h) (dw [(0,Af 2097152 ((a0.set a1.toNat y3).set a3.toNat y7)),(1,iV a1),(4,.clo f4 k4),(12,iV p26),(13,iV (wi (a2-1))),(35,.bool (decide (p26≤(wi (a2-1))))),(45,.may ((decide (p26≤(wi (a2-1))))==true) (iV r50))] [] tv (Ag tv (Ce (u:=.bool (decide (r50<0))) rfl (fun hg=>(Bb ⟨(fun _=>hg),tv,tv⟩ rfl tv)) (⟨tv,?_⟩))))) Au⟩))⟩))⟩))⟩))⟩))⟩))⟩))⟩))⟩))))))
  refine Ag tv (Eh rfl rfl rfl (fun h=>Sr h) tv rfl (⟨tv,Gf (bv h1 fun v52 e53 h1=>Dn ⟨[(0,Af 2097152 ((a0.set a1.toNat y3).set a3.toNat y7)),(1,iV a1),(4,.clo f4 k4),(12,iV p26),(13,iV (wi (a2-1))),(47,.bool v52)],[],[]⟩ (fg ⟨(by subst e53; rfl),(by subst e53; rfl),(by subst e53; rfl),(by subst e53; rfl),(by subst e53; rfl),(by subst e53; rfl),tv⟩ tv) (Ct h1 (fun c54 h1=>?_) (fun c54 h1=>?_)))⟩))
  ·refine Bc 8 ?_
   obtain rfl:=sj h1
   exact kn hK1 rfl rfl
  ·obtain rfl:=sj h1
   obtain rfl:=hx1 _ rfl
   refine Jv rfl ?_
   exact jn hE1 ⟨_,rfl,rfl⟩
end Go.Ev
