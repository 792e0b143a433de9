/- The walks of functions: the code comes to the answers that QgD tells. Written by a program of ours. -/
import Derived.Test.YtnkhjipmmomjoaaGreatQgW1
set_option linter.all false
set_option maxHeartbeats 4000000
set_option linter.unusedVariables false
set_option maxRecDepth 100000
namespace Go.Ev
variable {C:Bj}

/- slices.partitionEqualCmpFunc[loop.example/g00149/impl.Lease] -/
def UA:=[i_ 10 0]
def UB:=tk [m_ 13 0,m_ 14 1,m_ 15 0,m_ 16 3,m_ 17 0,m_ 18 3,x_ 19 17 18 4,L_ 20 19 4,m_ 21 0,m_ 22 1,x_ 23 21 22 4,L_ 24 23 4,x_ 25 13 14 4] (.alt [m_ 16 3,m_ 15 0] (s_ 25 20 4) (tk [x_ 26 15 16 4] (.alt [] (s_ 26 24 4) .fin .stop)) .stop)
def UC:=[m_ 27 1,B_ .add 28 27 1,m_ 29 2,B_ .sub 30 29 1,m_ 11 28,m_ 12 30]
def UD:=tk [m_ 31 11,m_ 32 12,b_ .leq 33 31 32,m_ 34 33,mT 34 35 4,mT 34 36 0,mT 34 37 1,xT 34 38 36 37 4,lT 34 39 38 4 true,mT 34 40 0,mT 34 41 11,xT 34 42 40 41 4,lT 34 43 42 4 true] (.alt [] ⟨some 44,.callv (.t 35) [.t 39,.t 43],some (34,true)⟩ (tk [pT 34 45 (.bin .lss (.t 44) (.c (iV 0))),pT 34 46 (.un .not (.t 45)),pa 47 34 46] .fin) .stop)
def UE:=[m_ 48 11,B_ .add 49 48 1,m_ 11 49]
def TX:IR:=(.seq (sd UD (.ite (.t 47) .skip (.exit 2))) (.block 3 (.reg UE)))
def UF:=tk [m_ 50 11,m_ 51 12,b_ .leq 52 50 51,m_ 53 52,mT 53 54 4,mT 53 55 0,mT 53 56 1,xT 53 57 55 56 4,lT 53 58 57 4 true,mT 53 59 0,mT 53 60 12,xT 53 61 59 60 4,lT 53 62 61 4 true] (.alt [] ⟨some 63,.callv (.t 54) [.t 58,.t 62],some (53,true)⟩ (tk [pT 53 64 (.bin .lss (.t 63) (.c (iV 0))),pa 65 53 64] .fin) .stop)
def UG:=[m_ 66 12,B_ .sub 67 66 1,m_ 12 67]
def TY:IR:=(.seq (sd UF (.ite (.t 65) .skip (.exit 4))) (.block 5 (.reg UG)))
def UH:=[m_ 68 11,m_ 69 12,b_ .gtr 70 68 69]
def UI:=tk [m_ 71 0,m_ 72 11,m_ 73 0,m_ 74 12,m_ 75 0,m_ 76 12,x_ 77 75 76 4,L_ 78 77 4,m_ 79 0,m_ 80 11,x_ 81 79 80 4,L_ 82 81 4,x_ 83 71 72 4] (.alt [m_ 74 12,m_ 73 0] (s_ 83 78 4) (tk [x_ 84 73 74 4] (.alt [] (s_ 84 82 4) .fin .stop)) .stop)
def UJ:=[m_ 85 11,B_ .add 86 85 1,m_ 11 86]
def xS:=[m_ 87 12,B_ .sub 88 87 1,m_ 12 88]
def TZ:IR:=(.block 1 (.seq (Ho 2 TX) (.seq (Ho 4 TY) (.seq (sr UH (iz 70 (.exit 0))) (sd UI (sr UJ (.reg xS)))))))
def xU:=[m_ 89 11,m_ 10 89]
def c154:Cz:=⟨5,90,[.t 10],sr UA (sd UB (sr UC (.seq (Ho 0 TZ) (rr xU))))⟩
def K154 (C:Bj) (D:Bj:=C):Prop:=∀(a0:List Aa) (a1:Int) (a2:Int) (a3:Int) (f4:Nat) (k4:List V) (is4:Aa→Aa→Option Int) (hs4:Io k4) (hf4:∀(x0:Aa) (x1:Aa) r,is4 x0 x1=some r→C f4 ⟨.agg (Ad x0) :: .agg (Ad x1)::k4,[]⟩ ⟨iV r,[],[]⟩) (r:Int×(List Aa)),Adl a0 a1 a2 a3 is4=some r→D 154 ⟨[Ag 2097152 a0,iV a1,iV a2,iV a3,.clo f4 k4],[]⟩ ⟨iV r.1,[],[(0,4,r.2.map Ad)]⟩
abbrev Lz:=fun x0 x1 x2 x3 (r:List (Nat×V))=>(0,Ag 2097152 x0)::(1,iV x1)::(4,.clo x2 x3)::r
theorem F154:K154 C (FO C c154):=by
 intro a0 a1 a2 a3 f4 k4 is4 hs4 hf4 r h0
 refine f0 (Ba 3 [(0,Ag 2097152 a0),(1,iV a1),(2,iV a2),(3,iV a3),(4,.clo f4 k4)] [] (Bt (bb h0 fun y1 e2 h0=>bb h0 fun y3 e4 h0=>bb h0 fun y5 e6 h0=>bb h0 fun y7 e8 h0=>bb h0 fun y9 e10 h0=>bb h0 fun y11 e12 h0=>Ax 6 (Bd (d_ (Yq rfl rfl rfl e2 (Bd (Cf (c_ (Ny rfl rfl e4) (⟨⟨Cy rfl rfl e4 rfl,tv⟩,Ak tv (Cj rfl tv (⟨⟨Cy rfl rfl e4 rfl,tv⟩,Ak tv (Cj rfl tv (⟨⟨Cy rfl rfl e4 rfl,tv⟩,Ak tv (c_ (Kc rfl rfl e6) (⟨⟨Cy rfl rfl e4 rfl,tv⟩,Cf (c_ (Ny rfl rfl e8) (⟨⟨Cy rfl rfl e8 rfl,Cy rfl rfl e4 rfl,tv⟩,Ak tv (c_ (Kc rfl rfl e6) (⟨⟨Cy rfl rfl e8 rfl,Cy rfl rfl e4 rfl,tv⟩,Az (He (y':=y3) rfl rfl tv rfl rfl rfl rfl e8 (nl rfl) rfl rfl rfl rfl (iP ⟨[(0,Ag 2097152 (a0.set a1.toNat y3)),(1,iV a1),(2,iV a2),(3,iV a3),(4,.clo f4 k4),(15,Ag 2097152 (a0.set a1.toNat y3)),(16,iV a3),(24,.agg (Ad y7))],[],[]⟩ (fg ⟨congrArg (fun z=>some ((.own 2097152 0 4 z:V))) Bf,rfl,rfl,rfl,rfl,congrArg (fun z=>some ((.own 2097152 0 4 z:V))) Bf,rfl,rfl,tv⟩ tv) ⟨[],⟨⟨.inl tv,Bs (Dm (v:=iV a3) rfl tv) rfl⟩,⟨.inl tv,Bs (Dm (v:=Ag 2097152 (a0.set a1.toNat y3)) rfl tv) rfl⟩,tv⟩,tv,Ak tv (c_ (Kc rfl rfl e10) (⟨tv,?_⟩))⟩)) Aq⟩))⟩))⟩))⟩))⟩))⟩))))))))))
 refine Az (He (y':=y7) rfl rfl tv rfl rfl rfl rfl e12 (nl rfl) rfl rfl rfl rfl (d0 tv (Hc (Dc ⟨[(0,Ag 2097152 ((a0.set a1.toNat y3).set a3.toNat y7)),(1,iV a1),(2,iV a2),(4,.clo f4 k4)],[],[]⟩ (fg ⟨congrArg (fun z=>some ((.own 2097152 0 4 z:V))) Bf,rfl,rfl,rfl,tv⟩ tv) (Ba 8 [(0,Ag 2097152 ((a0.set a1.toNat y3).set a3.toNat y7)),(1,iV a1),(4,.clo f4 k4),(11,iV (wi (a1+1))),(12,iV (wi (a2-1)))] [] (Bt (Cc (bb h0 fun r244 e245 h0=>Cr (R:=(fun S=>∃p153:List Aa,∃p154:Int,(p153,p154)=r244∧S=⟨[(0,Ag 2097152 p153),(11,iV p154)],[],[]⟩)) (Yf a1 is4) (fun s S=>match s with | (p84,p85,p86)=>S=⟨Lz p84 a1 f4 k4 [(11,iV p85),(12,iV p86)],[],[]⟩) e245 _ (Dw (by kernel_rfl)) rfl 0 (fun _=>rfl) ?_ ?_)))))))) Aq
 ·rintro S _ hfg ⟨p153,p154,rfl,rfl⟩
  refine Dc _ hfg (Ba 4 [(0,Ag 2097152 p153),(10,iV p154)] [] ?_)
  obtain rfl:=sj h0
  exact Ka (Dx rfl rfl rfl rfl rfl ⟨⟨rfl,Ip (fun _=>rfl)⟩,tv⟩)
 ·rintro ⟨p84,p85,p86⟩ o1 _ K1 rfl h1 hx1 hK1 hE1 hR1
  refine Cc (Bt (Cc (bb h1 fun r191 e192 h1=>Cr (R:=(fun S=>∃p179:Int,p179=r191∧S=⟨Lz p84 a1 f4 k4 [(11,iV p179),(12,iV p86)],[],[]⟩)) (Yg a1 is4 p84 p86) (fun s S=>match s with | p166=>S=⟨Lz p84 a1 f4 k4 [(11,iV p166),(12,iV p86)],[],[]⟩) e192 _ (Dw (by kernel_rfl)) rfl 2 (fun _=>rfl) ?_ ?_)))
  ·rintro S _ hfg ⟨p179,rfl,rfl⟩
   refine Dc ⟨Lz p84 a1 f4 k4 [(11,iV p179),(12,iV p86)],[],[]⟩ (sQ hfg ⟨rfl,rfl,rfl,rfl,rfl,tv⟩ tv) (Bt (Cc (bb h1 fun r229 e230 h1=>Cr (R:=(fun S=>∃p217:Int,p217=r229∧S=⟨Lz p84 a1 f4 k4 [(11,iV p179),(12,iV p217)],[],[]⟩)) (Yh a1 is4 p84 p179) (fun s S=>match s with | p204=>S=⟨Lz p84 a1 f4 k4 [(11,iV p179),(12,iV p204)],[],[]⟩) e230 _ (Dw (by kernel_rfl)) rfl 4 (fun _=>rfl) ?_ ?_)))
   ·rintro S _ hfg ⟨p217,rfl,rfl⟩
    refine Dc ⟨Lz p84 a1 f4 k4 [(11,iV p179),(12,iV p217)],[],[]⟩ (sQ hfg ⟨rfl,rfl,rfl,rfl,rfl,tv⟩ tv) (Ba 6 (Lz p84 a1 f4 k4 [(11,iV p179),(12,iV p217),(70,.bool (decide (p179>p217)))]) [] (Ch h1 (fun c231 h1=>?_) (fun c231 h1=>?_)))
    ·obtain rfl:=sj h1
     obtain rfl:=hx1 _ rfl
     refine Hq rfl ?_
     exact jn hE1 ⟨_,_,rfl,rfl⟩
    ·refine Lr 3 (bb h1 fun y232 e233 h1=>bb h1 fun y234 e235 h1=>bb h1 fun y236 e237 h1=>bb h1 fun y238 e239 h1=>bb h1 fun y240 e241 h1=>bb h1 fun y242 e243 h1=>Ax 6 (Bd (d_ (Yq rfl rfl rfl e233 (Bd (Cf (c_ (Ny rfl rfl e235) (⟨⟨Cy rfl rfl e235 rfl,tv⟩,Ak tv (Cj rfl tv (⟨⟨Cy rfl rfl e235 rfl,tv⟩,Ak tv (Cj rfl tv (⟨⟨Cy rfl rfl e235 rfl,tv⟩,Ak tv (c_ (Kc rfl rfl e237) (⟨⟨Cy rfl rfl e235 rfl,tv⟩,Cf (c_ (Ny rfl rfl e239) (⟨⟨Cy rfl rfl e239 rfl,Cy rfl rfl e235 rfl,tv⟩,Ak tv (c_ (Kc rfl rfl e237) (⟨⟨Cy rfl rfl e239 rfl,Cy rfl rfl e235 rfl,tv⟩,Az (He (y':=y234) rfl rfl tv rfl rfl rfl rfl e239 (nl rfl) rfl rfl rfl rfl (iP ⟨[(0,Ag 2097152 (p84.set p179.toNat y234)),(1,iV a1),(4,.clo f4 k4),(11,iV p179),(12,iV p217),(73,Ag 2097152 (p84.set p179.toNat y234)),(74,iV p217),(82,.agg (Ad y238))],[],[]⟩ (fg ⟨congrArg (fun z=>some ((.own 2097152 0 4 z:V))) Bf,rfl,rfl,rfl,rfl,congrArg (fun z=>some ((.own 2097152 0 4 z:V))) Bf,rfl,rfl,tv⟩ tv) ⟨[],⟨⟨.inl tv,Bs (Dm (v:=iV p217) rfl tv) rfl⟩,⟨.inl tv,Bs (Dm (v:=Ag 2097152 (p84.set p179.toNat y234)) rfl tv) rfl⟩,tv⟩,tv,Ak tv (c_ (Kc rfl rfl e241) (⟨tv,?_⟩))⟩)) Aq⟩))⟩))⟩))⟩))⟩))⟩))))))))
     refine Az (He (y':=y238) rfl rfl tv rfl rfl rfl rfl e243 (nl rfl) rfl rfl rfl rfl (d0 tv (Hc (Dc ⟨[(0,Ag 2097152 ((p84.set p179.toNat y234).set p217.toNat y238)),(1,iV a1),(4,.clo f4 k4),(11,iV p179),(12,iV p217)],[],[]⟩ (fg ⟨congrArg (fun z=>some ((.own 2097152 0 4 z:V))) Bf,rfl,rfl,rfl,rfl,tv⟩ tv) (Ba 5 [(0,Ag 2097152 ((p84.set p179.toNat y234).set p217.toNat y238)),(1,iV a1),(4,.clo f4 k4),(11,iV (wi (p179+1))),(12,iV p217)] [] (Ax 5 ?_)))))) Aq
     obtain rfl:=sj h1
     exact kn hK1 rfl rfl
   ·rintro p204 o2 _ K2 rfl h2 hx2 hK2 hE2 hR2
    refine Bt (Bt (bb h2 fun y218 e219 h2=>bb h2 fun y220 e221 h2=>bb h2 fun y222 e223 h2=>bb h2 fun y224 e225 h2=>bb h2 fun r226 e227 h2=>Ax 4 (Bd (Ak tv (Bv (u:=.clo f4 k4) rfl (fun hg=>(Dm (v:=.clo f4 k4) rfl tv)) (⟨tv,Ak tv (Bv (u:=Ag 2097152 p84) rfl (fun hg=>(Dm (v:=Ag 2097152 p84) rfl tv)) (⟨tv,Ak tv (Bv (u:=iV a1) rfl (fun hg=>(Dm (v:=iV a1) rfl tv)) (⟨tv,Ak tv (Bv (u:=.optr 2097152 4 (0+a1.toNat) 0) rfl (fun hg=>(Gx (e:=Ad) (y:=y218) rfl rfl (fun _=>hg) rfl rfl (fun _=>hg) (ip hg e219))) (⟨tv,Cf (Bv (u:=.agg (Ad y220)) rfl (fun hg=>(Bn (e:=Ad) (y:=y220) (v:=.agg (Ad y220)) rfl rfl (fun _=>hg) rfl rfl (ip hg e221) rfl (nl rfl) rfl)) (⟨⟨Bw (v:=.agg (Ad y220)) rfl (fun hg=>(Bn (e:=Ad) (y:=y220) (v:=.agg (Ad y220)) rfl rfl (fun _=>hg) rfl rfl (ip hg e221) rfl (nl rfl) rfl)) rfl,tv⟩,Ak tv (Bv (u:=Ag 2097152 p84) rfl (fun hg=>(Dm (v:=Ag 2097152 p84) rfl tv)) (⟨⟨Bw (v:=.agg (Ad y220)) rfl (fun hg=>(Bn (e:=Ad) (y:=y220) (v:=.agg (Ad y220)) rfl rfl (fun _=>hg) rfl rfl (ip hg e221) rfl (nl rfl) rfl)) rfl,tv⟩,Ak tv (Bv (u:=iV p204) rfl (fun hg=>(Dm (v:=iV p204) rfl tv)) (⟨⟨Bw (v:=.agg (Ad y220)) rfl (fun hg=>(Bn (e:=Ad) (y:=y220) (v:=.agg (Ad y220)) rfl rfl (fun _=>hg) rfl rfl (ip hg e221) rfl (nl rfl) rfl)) rfl,tv⟩,Ak tv (Bv (u:=.optr 2097152 4 (0+p204.toNat) 0) rfl (fun hg=>(Gx (e:=Ad) (y:=y222) rfl rfl (fun _=>hg) rfl rfl (fun _=>hg) (ip hg e223))) (⟨⟨Bw (v:=.agg (Ad y220)) rfl (fun hg=>(Bn (e:=Ad) (y:=y220) (v:=.agg (Ad y220)) rfl rfl (fun _=>hg) rfl rfl (ip hg e221) rfl (nl rfl) rfl)) rfl,tv⟩,Cf (Bv (u:=.agg (Ad y224)) rfl (fun hg=>(Bn (e:=Ad) (y:=y224) (v:=.agg (Ad y224)) rfl rfl (fun _=>hg) rfl rfl (ip hg e225) rfl (nl rfl) rfl)) (⟨⟨Bw (v:=.agg (Ad y224)) rfl (fun hg=>(Bn (e:=Ad) (y:=y224) (v:=.agg (Ad y224)) rfl rfl (fun _=>hg) rfl rfl (ip hg e225) rfl (nl rfl) rfl)) rfl,Bw (v:=.agg (Ad y220)) rfl (fun hg=>(Bn (e:=Ad) (y:=y220) (v:=.agg (Ad y220)) rfl rfl (fun _=>hg) rfl rfl (ip hg e221) rfl (nl rfl) rfl)) rfl,tv⟩,Az (Ie (r:=iV r226) rfl rfl rfl (fun hg=>hg) false (fun hg=>hf4 _ _ r226 (ip hg e227)) ⟨(fun hg=>hg),(fun hg=>hg),tv⟩ (fun _=>(ar (At rfl hs4.2.2.1))) (fun _=>(Be rfl (Be rfl (hs4.2.1 _ _ _ _ _)))) (fun _=>rfl) (fun h=>nomatch h) (dw [(0,Ag 2097152 p84),(1,iV a1),(4,.clo f4 k4),(11,iV p179),(12,iV p204),(53,.bool (decide (p179≤p204))),(63,.may ((decide (p179≤p204))==true) (iV r226))] [] tv (Ak tv (Bv (u:=.bool (decide (r226<0))) rfl (fun hg=>(Bl ⟨(fun _=>hg),tv,tv⟩ rfl tv)) (⟨tv,?_⟩))))) Aq⟩))⟩))⟩))⟩))⟩))⟩))⟩))⟩))⟩))))))
    refine Ak tv (Dh rfl rfl rfl (fun h=>Ta h) tv rfl (⟨tv,d_ (Ba 1 (Lz p84 a1 f4 k4 [(11,iV p179),(12,iV p204),(65,.bool (bif (decide (p179≤p204)) then (decide (r226<0)) else false))]) [] (Ch h2 (fun c228 h2=>?_) (fun c228 h2=>?_)))⟩))
    ·refine Ax 8 ?_
     obtain rfl:=sj h2
     exact kn hK2 rfl rfl
    ·obtain rfl:=sj h2
     obtain rfl:=hx2 _ rfl
     refine Hq rfl ?_
     exact jn hE2 ⟨_,rfl,rfl⟩
  ·rintro p166 o2 _ K2 rfl h2 hx2 hK2 hE2 hR2
   refine Bt (Bt (bb h2 fun y180 e181 h2=>bb h2 fun y182 e183 h2=>bb h2 fun y184 e185 h2=>bb h2 fun y186 e187 h2=>bb h2 fun r188 e189 h2=>Ax 4 (Bd (Ak tv (Bv (u:=.clo f4 k4) rfl (fun hg=>(Dm (v:=.clo f4 k4) rfl tv)) (⟨tv,Ak tv (Bv (u:=Ag 2097152 p84) rfl (fun hg=>(Dm (v:=Ag 2097152 p84) rfl tv)) (⟨tv,Ak tv (Bv (u:=iV a1) rfl (fun hg=>(Dm (v:=iV a1) rfl tv)) (⟨tv,Ak tv (Bv (u:=.optr 2097152 4 (0+a1.toNat) 0) rfl (fun hg=>(Gx (e:=Ad) (y:=y180) rfl rfl (fun _=>hg) rfl rfl (fun _=>hg) (ip hg e181))) (⟨tv,Cf (Bv (u:=.agg (Ad y182)) rfl (fun hg=>(Bn (e:=Ad) (y:=y182) (v:=.agg (Ad y182)) rfl rfl (fun _=>hg) rfl rfl (ip hg e183) rfl (nl rfl) rfl)) (⟨⟨Bw (v:=.agg (Ad y182)) rfl (fun hg=>(Bn (e:=Ad) (y:=y182) (v:=.agg (Ad y182)) rfl rfl (fun _=>hg) rfl rfl (ip hg e183) rfl (nl rfl) rfl)) rfl,tv⟩,Ak tv (Bv (u:=Ag 2097152 p84) rfl (fun hg=>(Dm (v:=Ag 2097152 p84) rfl tv)) (⟨⟨Bw (v:=.agg (Ad y182)) rfl (fun hg=>(Bn (e:=Ad) (y:=y182) (v:=.agg (Ad y182)) rfl rfl (fun _=>hg) rfl rfl (ip hg e183) rfl (nl rfl) rfl)) rfl,tv⟩,Ak tv (Bv (u:=iV p166) rfl (fun hg=>(Dm (v:=iV p166) rfl tv)) (⟨⟨Bw (v:=.agg (Ad y182)) rfl (fun hg=>(Bn (e:=Ad) (y:=y182) (v:=.agg (Ad y182)) rfl rfl (fun _=>hg) rfl rfl (ip hg e183) rfl (nl rfl) rfl)) rfl,tv⟩,Ak tv (Bv (u:=.optr 2097152 4 (0+p166.toNat) 0) rfl (fun hg=>(Gx (e:=Ad) (y:=y184) rfl rfl (fun _=>hg) rfl rfl (fun _=>hg) (ip hg e185))) (⟨⟨Bw (v:=.agg (Ad y182)) rfl (fun hg=>(Bn (e:=Ad) (y:=y182) (v:=.agg (Ad y182)) rfl rfl (fun _=>hg) rfl rfl (ip hg e183) rfl (nl rfl) rfl)) rfl,tv⟩,Cf (Bv (u:=.agg (Ad y186)) rfl (fun hg=>(Bn (e:=Ad) (y:=y186) (v:=.agg (Ad y186)) rfl rfl (fun _=>hg) rfl rfl (ip hg e187) rfl (nl rfl) rfl)) (⟨⟨Bw (v:=.agg (Ad y186)) rfl (fun hg=>(Bn (e:=Ad) (y:=y186) (v:=.agg (Ad y186)) rfl rfl (fun _=>hg) rfl rfl (ip hg e187) rfl (nl rfl) rfl)) rfl,Bw (v:=.agg (Ad y182)) rfl (fun hg=>(Bn (e:=Ad) (y:=y182) (v:=.agg (Ad y182)) rfl rfl (fun _=>hg) rfl rfl (ip hg e183) rfl (nl rfl) rfl)) rfl,tv⟩,Az (Ie (r:=iV r188) rfl rfl rfl (fun hg=>hg) false (fun hg=>hf4 _ _ r188 (ip hg e189)) ⟨(fun hg=>hg),(fun hg=>hg),tv⟩ (fun _=>(ar (At rfl hs4.2.2.1))) (fun _=>(Be rfl (Be rfl (hs4.2.1 _ _ _ _ _)))) (fun _=>rfl) (fun h=>nomatch h) (dw [(0,Ag 2097152 p84),(1,iV a1),(4,.clo f4 k4),(11,iV p166),(12,iV p86),(34,.bool (decide (p166≤p86))),(44,.may ((decide (p166≤p86))==true) (iV r188))] [] tv (Ak tv (Bv (u:=.bool (decide (r188<0))) rfl (fun hg=>(Bl ⟨(fun _=>hg),tv,tv⟩ rfl tv)) (⟨tv,?_⟩))))) Aq⟩))⟩))⟩))⟩))⟩))⟩))⟩))⟩))⟩))))))
   refine Ak tv (Bv (u:=.bool (!(decide (r188<0)))) rfl (fun hg=>(Bl ⟨(fun _=>hg),tv⟩ rfl tv)) (⟨tv,Ak tv (Dh rfl rfl rfl (fun h=>Ta h) tv rfl (⟨tv,d_ (Ba 1 (Lz p84 a1 f4 k4 [(11,iV p166),(12,iV p86),(47,.bool (bif (decide (p166≤p86)) then (!(decide (r188<0))) else false))]) [] (Ch h2 (fun c190 h2=>?_) (fun c190 h2=>?_)))⟩))⟩))
   ·refine Ax 8 ?_
    obtain rfl:=sj h2
    exact kn hK2 rfl rfl
   ·obtain rfl:=sj h2
    obtain rfl:=hx2 _ rfl
    refine Hq rfl ?_
    exact jn hE2 ⟨_,rfl,rfl⟩

/- slices.partitionCmpFunc[loop.example/g00149/impl.Lease] -/
def UP:=[i_ 10 0,k_ 11 (.bool false)]
def UQ:=tk [m_ 14 0,m_ 15 1,m_ 16 0,m_ 17 3,m_ 18 0,m_ 19 3,x_ 20 18 19 4,L_ 21 20 4,m_ 22 0,m_ 23 1,x_ 24 22 23 4,L_ 25 24 4,x_ 26 14 15 4] (.alt [m_ 17 3,m_ 16 0] (s_ 26 21 4) (tk [x_ 27 16 17 4] (.alt [] (s_ 27 25 4) .fin .stop)) .stop)
def UR:=[m_ 28 1,B_ .add 29 28 1,m_ 30 2,B_ .sub 31 30 1,m_ 12 29,m_ 13 31]
def US:=tk [m_ 32 12,m_ 33 13,b_ .leq 34 32 33,m_ 35 34,mT 35 36 4,mT 35 37 0,mT 35 38 12,xT 35 39 37 38 4,lT 35 40 39 4 true,mT 35 41 0,mT 35 42 1,xT 35 43 41 42 4,lT 35 44 43 4 true] (.alt [] ⟨some 45,.callv (.t 36) [.t 40,.t 44],some (35,true)⟩ (tk [pT 35 46 (.bin .lss (.t 45) (.c (iV 0))),pa 47 35 46] .fin) .stop)
def UT:=[m_ 48 12,B_ .add 49 48 1,m_ 12 49]
def UK:IR:=(.seq (sd US (.ite (.t 47) .skip (.exit 0))) (.block 1 (.reg UT)))
def UU:=tk [m_ 50 12,m_ 51 13,b_ .leq 52 50 51,m_ 53 52,mT 53 54 4,mT 53 55 0,mT 53 56 13,xT 53 57 55 56 4,lT 53 58 57 4 true,mT 53 59 0,mT 53 60 1,xT 53 61 59 60 4,lT 53 62 61 4 true] (.alt [] ⟨some 63,.callv (.t 54) [.t 58,.t 62],some (53,true)⟩ (tk [pT 53 64 (.bin .lss (.t 63) (.c (iV 0))),pT 53 65 (.un .not (.t 64)),pa 66 53 65] .fin) .stop)
def UV:=[m_ 67 13,B_ .sub 68 67 1,m_ 13 68]
def UL:IR:=(.seq (sd UU (.ite (.t 66) .skip (.exit 2))) (.block 3 (.reg UV)))
def UW:=[m_ 69 12,m_ 70 13,b_ .gtr 71 69 70]
def UX:=tk [m_ 72 0,m_ 73 13,m_ 74 0,m_ 75 1,m_ 76 0,m_ 77 1,x_ 78 76 77 4,L_ 79 78 4,m_ 80 0,m_ 81 13,x_ 82 80 81 4,L_ 83 82 4,x_ 84 72 73 4] (.alt [m_ 75 1,m_ 74 0] (s_ 84 79 4) (tk [x_ 85 74 75 4] (.alt [] (s_ 85 83 4) .fin .stop)) .stop)
def UY:=[m_ 86 13,m_ 10 86,k_ 11 (.bool true)]
def xV:=tk [m_ 87 0,m_ 88 12,m_ 89 0,m_ 90 13,m_ 91 0,m_ 92 13,x_ 93 91 92 4,L_ 94 93 4,m_ 95 0,m_ 96 12,x_ 97 95 96 4,L_ 98 97 4,x_ 99 87 88 4] (.alt [m_ 90 13,m_ 89 0] (s_ 99 94 4) (tk [x_ 100 89 90 4] (.alt [] (s_ 100 98 4) .fin .stop)) .stop)
def xW:=[m_ 101 12,B_ .add 102 101 1,m_ 12 102]
def xX:=[m_ 103 13,B_ .sub 104 103 1,m_ 13 104]
def xY:=tk [m_ 105 12,m_ 106 13,b_ .leq 107 105 106,m_ 108 107,mT 108 109 4,mT 108 110 0,mT 108 111 12,xT 108 112 110 111 4,lT 108 113 112 4 true,mT 108 114 0,mT 108 115 1,xT 108 116 114 115 4,lT 108 117 116 4 true] (.alt [] ⟨some 118,.callv (.t 109) [.t 113,.t 117],some (108,true)⟩ (tk [pT 108 119 (.bin .lss (.t 118) (.c (iV 0))),pa 120 108 119] .fin) .stop)
def xZ:=[m_ 121 12,B_ .add 122 121 1,m_ 12 122]
def UM:IR:=(.seq (sd xY (.ite (.t 120) .skip (.exit 6))) (.block 7 (.reg xZ)))
def yA:=tk [m_ 123 12,m_ 124 13,b_ .leq 125 123 124,m_ 126 125,mT 126 127 4,mT 126 128 0,mT 126 129 13,xT 126 130 128 129 4,lT 126 131 130 4 true,mT 126 132 0,mT 126 133 1,xT 126 134 132 133 4,lT 126 135 134 4 true] (.alt [] ⟨some 136,.callv (.t 127) [.t 131,.t 135],some (126,true)⟩ (tk [pT 126 137 (.bin .lss (.t 136) (.c (iV 0))),pT 126 138 (.un .not (.t 137)),pa 139 126 138] .fin) .stop)
def yB:=[m_ 140 13,B_ .sub 141 140 1,m_ 13 141]
def UN:IR:=(.seq (sd yA (.ite (.t 139) .skip (.exit 8))) (.block 9 (.reg yB)))
def yC:=[m_ 142 12,m_ 143 13,b_ .gtr 144 142 143]
def yD:=tk [m_ 145 0,m_ 146 12,m_ 147 0,m_ 148 13,m_ 149 0,m_ 150 13,x_ 151 149 150 4,L_ 152 151 4,m_ 153 0,m_ 154 12,x_ 155 153 154 4,L_ 156 155 4,x_ 157 145 146 4] (.alt [m_ 148 13,m_ 147 0] (s_ 157 152 4) (tk [x_ 158 147 148 4] (.alt [] (s_ 158 156 4) .fin .stop)) .stop)
def yE:=[m_ 159 12,B_ .add 160 159 1,m_ 12 160]
def yF:=[m_ 161 13,B_ .sub 162 161 1,m_ 13 162]
def UO:IR:=(.block 5 (.seq (Ho 6 UM) (.seq (Ho 8 UN) (.seq (sr yC (iz 144 (.exit 4))) (sd yD (sr yE (.reg yF)))))))
def yG:=tk [m_ 163 0,m_ 164 13,m_ 165 0,m_ 166 1,m_ 167 0,m_ 168 1,x_ 169 167 168 4,L_ 170 169 4,m_ 171 0,m_ 172 13,x_ 173 171 172 4,L_ 174 173 4,x_ 175 163 164 4] (.alt [m_ 166 1,m_ 165 0] (s_ 175 170 4) (tk [x_ 176 165 166 4] (.alt [] (s_ 176 174 4) .fin .stop)) .stop)
def yH:=[m_ 177 13,m_ 10 177,k_ 11 (.bool false)]
def c155:Cz:=⟨5,178,[.t 10,.t 11],sr UP (sd UQ (sr UR (.seq (Ho 0 UK) (.seq (Ho 2 UL) (.seq (sr UW (iz 71 (sd UX (rr UY)))) (sd xV (sr xW (sr xX (.seq (Ho 4 UO) (sd yG (rr yH)))))))))))⟩
def K155 (C:Bj) (D:Bj:=C):Prop:=∀(a0:List Aa) (a1:Int) (a2:Int) (a3:Int) (f4:Nat) (k4:List V) (is4:Aa→Aa→Option Int) (hs4:Io k4) (hf4:∀(x0:Aa) (x1:Aa) r,is4 x0 x1=some r→C f4 ⟨.agg (Ad x0) :: .agg (Ad x1)::k4,[]⟩ ⟨iV r,[],[]⟩) (r:Int×Bool×(List Aa)),CH a0 a1 a2 a3 is4=some r→D 155 ⟨[Ag 2097152 a0,iV a1,iV a2,iV a3,.clo f4 k4],[]⟩ ⟨.tup [iV r.1,.bool r.2.1],[],[(0,4,r.2.2.map Ad)]⟩
abbrev Ma:=fun x0 x1 x2 x3 (r:List (Nat×V))=>(0,Ag 2097152 x0)::(1,iV x1)::(4,.clo x2 x3)::r
abbrev Jm:=fun x0 x1 x2 (r:List (Nat×V))=>(1,iV x0)::(4,.clo x1 x2)::r
theorem F155:K155 C (FO C c155):=by
 intro a0 a1 a2 a3 f4 k4 is4 hs4 hf4 r h0
 refine f0 (Ba 4 (Jm a1 f4 k4 [(0,Ag 2097152 a0),(2,iV a2),(3,iV a3)]) [] (Bt (bb h0 fun y1 e2 h0=>bb h0 fun y3 e4 h0=>bb h0 fun y5 e6 h0=>bb h0 fun y7 e8 h0=>bb h0 fun y9 e10 h0=>bb h0 fun y11 e12 h0=>Ax 6 (Bd (d_ (Yq rfl rfl rfl e2 (Bd (Cf (c_ (Ny rfl rfl e4) (⟨⟨Cy rfl rfl e4 rfl,tv⟩,Ak tv (Cj rfl tv (⟨⟨Cy rfl rfl e4 rfl,tv⟩,Ak tv (Cj rfl tv (⟨⟨Cy rfl rfl e4 rfl,tv⟩,Ak tv (c_ (Kc rfl rfl e6) (⟨⟨Cy rfl rfl e4 rfl,tv⟩,Cf (c_ (Ny rfl rfl e8) (⟨⟨Cy rfl rfl e8 rfl,Cy rfl rfl e4 rfl,tv⟩,Ak tv (c_ (Kc rfl rfl e6) (⟨⟨Cy rfl rfl e8 rfl,Cy rfl rfl e4 rfl,tv⟩,Az (He (y':=y3) rfl rfl tv rfl rfl rfl rfl e8 (nl rfl) rfl rfl rfl rfl (iP ⟨[(0,Ag 2097152 (a0.set a1.toNat y3)),(1,iV a1),(2,iV a2),(3,iV a3),(4,.clo f4 k4),(16,Ag 2097152 (a0.set a1.toNat y3)),(17,iV a3),(25,.agg (Ad y7))],[],[]⟩ (fg ⟨congrArg (fun z=>some ((.own 2097152 0 4 z:V))) Bf,rfl,rfl,rfl,rfl,congrArg (fun z=>some ((.own 2097152 0 4 z:V))) Bf,rfl,rfl,tv⟩ tv) ⟨[],⟨⟨.inl tv,Bs (Dm (v:=iV a3) rfl tv) rfl⟩,⟨.inl tv,Bs (Dm (v:=Ag 2097152 (a0.set a1.toNat y3)) rfl tv) rfl⟩,tv⟩,tv,Ak tv (c_ (Kc rfl rfl e10) (⟨tv,?_⟩))⟩)) Aq⟩))⟩))⟩))⟩))⟩))⟩))))))))))
 refine Az (He (y':=y7) rfl rfl tv rfl rfl rfl rfl e12 (nl rfl) rfl rfl rfl rfl (d0 tv (Hc (Dc ⟨[(0,Ag 2097152 ((a0.set a1.toNat y3).set a3.toNat y7)),(1,iV a1),(2,iV a2),(4,.clo f4 k4)],[],[]⟩ (fg ⟨congrArg (fun z=>some ((.own 2097152 0 4 z:V))) Bf,rfl,rfl,rfl,tv⟩ tv) (Ba 8 (Jm a1 f4 k4 [(0,Ag 2097152 ((a0.set a1.toNat y3).set a3.toNat y7)),(12,iV (wi (a1+1))),(13,iV (wi (a2-1)))]) [] (Bt (Cc (bb h0 fun r55 e56 h0=>Cr (R:=(fun S=>∃p41:Int,p41=r55∧S=⟨Jm a1 f4 k4 [(0,Ag 2097152 ((a0.set a1.toNat y3).set a3.toNat y7)),(12,iV p41),(13,iV (wi (a2-1)))],[],[]⟩)) (fA a0 a1 a2 a3 is4 y3 y7) (fun s S=>match s with | p26=>S=⟨Jm a1 f4 k4 [(0,Ag 2097152 ((a0.set a1.toNat y3).set a3.toNat y7)),(12,iV p26),(13,iV (wi (a2-1)))],[],[]⟩) e56 _ (Dw (by kernel_rfl)) rfl 0 (fun _=>rfl) ?_ ?_)))))))) Aq
 ·rintro S _ hfg ⟨p41,rfl,rfl⟩
  refine Dc ⟨Jm a1 f4 k4 [(0,Ag 2097152 ((a0.set a1.toNat y3).set a3.toNat y7)),(12,iV p41),(13,iV (wi (a2-1)))],[],[]⟩ (sQ hfg ⟨rfl,rfl,rfl,rfl,rfl,tv⟩ tv) (Bt (Cc (bb h0 fun r95 e96 h0=>Cr (R:=(fun S=>∃p83:Int,p83=r95∧S=⟨Jm a1 f4 k4 [(0,Ag 2097152 ((a0.set a1.toNat y3).set a3.toNat y7)),(12,iV p41),(13,iV p83)],[],[]⟩)) (fB a0 a1 a3 is4 y3 y7 p41) (fun s S=>match s with | p70=>S=⟨Jm a1 f4 k4 [(0,Ag 2097152 ((a0.set a1.toNat y3).set a3.toNat y7)),(12,iV p41),(13,iV p70)],[],[]⟩) e96 _ (Dw (by kernel_rfl)) rfl 2 (fun _=>rfl) ?_ ?_)))
  ·rintro S _ hfg ⟨p83,rfl,rfl⟩
   refine Dc ⟨Jm a1 f4 k4 [(0,Ag 2097152 ((a0.set a1.toNat y3).set a3.toNat y7)),(12,iV p41),(13,iV p83)],[],[]⟩ (sQ hfg ⟨rfl,rfl,rfl,rfl,rfl,tv⟩ tv) (Ba 6 (Jm a1 f4 k4 [(0,Ag 2097152 ((a0.set a1.toNat y3).set a3.toNat y7)),(12,iV p41),(13,iV p83),(71,.bool (decide (p41>p83)))]) [] (Ch h0 (fun c97 h0=>?_) (fun c97 h0=>?_)))
   ·refine Bt (bb h0 fun y98 e99 h0=>bb h0 fun y100 e101 h0=>bb h0 fun y102 e103 h0=>bb h0 fun y104 e105 h0=>bb h0 fun y106 e107 h0=>bb h0 fun y108 e109 h0=>Ax 6 (Bd (d_ (Yq rfl rfl rfl e99 (Bd (Cf (c_ (Ny rfl rfl e101) (⟨⟨Cy rfl rfl e101 rfl,tv⟩,Ak tv (Cj rfl tv (⟨⟨Cy rfl rfl e101 rfl,tv⟩,Ak tv (Cj rfl tv (⟨⟨Cy rfl rfl e101 rfl,tv⟩,Ak tv (c_ (Kc rfl rfl e103) (⟨⟨Cy rfl rfl e101 rfl,tv⟩,Cf (c_ (Ny rfl rfl e105) (⟨⟨Cy rfl rfl e105 rfl,Cy rfl rfl e101 rfl,tv⟩,Ak tv (c_ (Kc rfl rfl e103) (⟨⟨Cy rfl rfl e105 rfl,Cy rfl rfl e101 rfl,tv⟩,Az (He (y':=y100) rfl rfl tv rfl rfl rfl rfl e105 (nl rfl) rfl rfl rfl rfl (iP ⟨[(0,Ag 2097152 (((a0.set a1.toNat y3).set a3.toNat y7).set p83.toNat y100)),(1,iV a1),(13,iV p83),(74,Ag 2097152 (((a0.set a1.toNat y3).set a3.toNat y7).set p83.toNat y100)),(75,iV a1),(83,.agg (Ad y104))],[],[]⟩ (fg ⟨congrArg (fun z=>some ((.own 2097152 0 4 z:V))) Bf,rfl,rfl,congrArg (fun z=>some ((.own 2097152 0 4 z:V))) Bf,rfl,rfl,tv⟩ tv) ⟨[],⟨⟨.inl tv,Bs (Dm (v:=iV a1) rfl tv) rfl⟩,⟨.inl tv,Bs (Dm (v:=Ag 2097152 (((a0.set a1.toNat y3).set a3.toNat y7).set p83.toNat y100)) rfl tv) rfl⟩,tv⟩,tv,Ak tv (c_ (Kc rfl rfl e107) (⟨tv,?_⟩))⟩)) Aq⟩))⟩))⟩))⟩))⟩))⟩))))))))
    refine Az (He (y':=y104) rfl rfl tv rfl rfl rfl rfl e109 (nl rfl) rfl rfl rfl rfl (d0 tv (Hc (Dc ⟨[(0,Ag 2097152 ((((a0.set a1.toNat y3).set a3.toNat y7).set p83.toNat y100).set a1.toNat y104)),(13,iV p83)],[],[]⟩ (fg ⟨congrArg (fun z=>some ((.own 2097152 0 4 z:V))) Bf,rfl,tv⟩ tv) (Ax 5 (bv h0 fun v110 e111 h0=>Dc ⟨[(0,Ag 2097152 v110),(10,iV p83),(11,.bool true)],[],[]⟩ (Dw (by subst e111; kernel_rfl)) ?_)))))) Aq
    obtain rfl:=sj h0
    exact Ka (Dx rfl rfl rfl rfl rfl ⟨⟨rfl,Ip (fun _=>rfl)⟩,tv⟩)
   ·refine Lr 3 (bb h0 fun y112 e113 h0=>bb h0 fun y114 e115 h0=>bb h0 fun y116 e117 h0=>bb h0 fun y118 e119 h0=>bb h0 fun y120 e121 h0=>bb h0 fun y122 e123 h0=>Ax 6 (Bd (d_ (Yq rfl rfl rfl e113 (Bd (Cf (c_ (Ny rfl rfl e115) (⟨⟨Cy rfl rfl e115 rfl,tv⟩,Ak tv (Cj rfl tv (⟨⟨Cy rfl rfl e115 rfl,tv⟩,Ak tv (Cj rfl tv (⟨⟨Cy rfl rfl e115 rfl,tv⟩,Ak tv (c_ (Kc rfl rfl e117) (⟨⟨Cy rfl rfl e115 rfl,tv⟩,Cf (c_ (Ny rfl rfl e119) (⟨⟨Cy rfl rfl e119 rfl,Cy rfl rfl e115 rfl,tv⟩,Ak tv (c_ (Kc rfl rfl e117) (⟨⟨Cy rfl rfl e119 rfl,Cy rfl rfl e115 rfl,tv⟩,Az (He (y':=y114) rfl rfl tv rfl rfl rfl rfl e119 (nl rfl) rfl rfl rfl rfl (iP ⟨[(0,Ag 2097152 (((a0.set a1.toNat y3).set a3.toNat y7).set p41.toNat y114)),(1,iV a1),(4,.clo f4 k4),(12,iV p41),(13,iV p83),(89,Ag 2097152 (((a0.set a1.toNat y3).set a3.toNat y7).set p41.toNat y114)),(90,iV p83),(98,.agg (Ad y118))],[],[]⟩ (fg ⟨congrArg (fun z=>some ((.own 2097152 0 4 z:V))) Bf,rfl,rfl,rfl,rfl,congrArg (fun z=>some ((.own 2097152 0 4 z:V))) Bf,rfl,rfl,tv⟩ tv) ⟨[],⟨⟨.inl tv,Bs (Dm (v:=iV p83) rfl tv) rfl⟩,⟨.inl tv,Bs (Dm (v:=Ag 2097152 (((a0.set a1.toNat y3).set a3.toNat y7).set p41.toNat y114)) rfl tv) rfl⟩,tv⟩,tv,Ak tv (c_ (Kc rfl rfl e121) (⟨tv,?_⟩))⟩)) Aq⟩))⟩))⟩))⟩))⟩))⟩))))))))
    refine Az (He (y':=y118) rfl rfl tv rfl rfl rfl rfl e123 (nl rfl) rfl rfl rfl rfl (d0 tv (Hc (Dc ⟨[(0,Ag 2097152 ((((a0.set a1.toNat y3).set a3.toNat y7).set p41.toNat y114).set p83.toNat y118)),(1,iV a1),(4,.clo f4 k4),(12,iV p41),(13,iV p83)],[],[]⟩ (fg ⟨congrArg (fun z=>some ((.own 2097152 0 4 z:V))) Bf,rfl,rfl,rfl,rfl,tv⟩ tv) (Ax 5 (bv h0 fun v124 e125 h0=>Dc ⟨[(0,Ag 2097152 v124),(1,iV a1),(4,.clo f4 k4),(12,iV (wi (p41+1))),(13,iV p83)],[],[]⟩ (fg ⟨(by subst e125; rfl),(by subst e125; rfl),(by subst e125; rfl),(by subst e125; rfl),(by subst e125; rfl),tv⟩ tv) (Ba 5 (Jm a1 f4 k4 [(0,Ag 2097152 v124),(12,iV (wi (p41+1))),(13,iV (wi (p83-1)))]) [] (Bt (Cc (bb h0 fun r355 e356 h0=>Cr (R:=(fun S=>∃p264:List Aa,∃p265:Int,(p264,p265)=r355∧S=⟨[(0,Ag 2097152 p264),(1,iV a1),(13,iV p265)],[],[]⟩)) (Yi a1 is4) (fun s S=>match s with | (p195,p196,p197)=>S=⟨Ma p195 a1 f4 k4 [(12,iV p196),(13,iV p197)],[],[]⟩) e356 _ (Dw (by kernel_rfl)) rfl 4 (fun _=>rfl) ?_ ?_)))))))))) Aq
    ·rintro S _ hfg ⟨p264,p265,rfl,rfl⟩
     refine Dc _ hfg (Bt (bb h0 fun y357 e358 h0=>bb h0 fun y359 e360 h0=>bb h0 fun y361 e362 h0=>bb h0 fun y363 e364 h0=>bb h0 fun y365 e366 h0=>bb h0 fun y367 e368 h0=>Ax 6 (Bd (d_ (Yq rfl rfl rfl e358 (Bd (Cf (c_ (Ny rfl rfl e360) (⟨⟨Cy rfl rfl e360 rfl,tv⟩,Ak tv (Cj rfl tv (⟨⟨Cy rfl rfl e360 rfl,tv⟩,Ak tv (Cj rfl tv (⟨⟨Cy rfl rfl e360 rfl,tv⟩,Ak tv (c_ (Kc rfl rfl e362) (⟨⟨Cy rfl rfl e360 rfl,tv⟩,Cf (c_ (Ny rfl rfl e364) (⟨⟨Cy rfl rfl e364 rfl,Cy rfl rfl e360 rfl,tv⟩,Ak tv (c_ (Kc rfl rfl e362) (⟨⟨Cy rfl rfl e364 rfl,Cy rfl rfl e360 rfl,tv⟩,Az (He (y':=y359) rfl rfl tv rfl rfl rfl rfl e364 (nl rfl) rfl rfl rfl rfl (iP ⟨[(0,Ag 2097152 (p264.set p265.toNat y359)),(1,iV a1),(13,iV p265),(165,Ag 2097152 (p264.set p265.toNat y359)),(166,iV a1),(174,.agg (Ad y363))],[],[]⟩ (fg ⟨congrArg (fun z=>some ((.own 2097152 0 4 z:V))) Bf,rfl,rfl,congrArg (fun z=>some ((.own 2097152 0 4 z:V))) Bf,rfl,rfl,tv⟩ tv) ⟨[],⟨⟨.inl tv,Bs (Dm (v:=iV a1) rfl tv) rfl⟩,⟨.inl tv,Bs (Dm (v:=Ag 2097152 (p264.set p265.toNat y359)) rfl tv) rfl⟩,tv⟩,tv,Ak tv (c_ (Kc rfl rfl e366) (⟨tv,?_⟩))⟩)) Aq⟩))⟩))⟩))⟩))⟩))⟩)))))))))
     refine Az (He (y':=y363) rfl rfl tv rfl rfl rfl rfl e368 (nl rfl) rfl rfl rfl rfl (d0 tv (Hc (Dc ⟨[(0,Ag 2097152 ((p264.set p265.toNat y359).set a1.toNat y363)),(13,iV p265)],[],[]⟩ (fg ⟨congrArg (fun z=>some ((.own 2097152 0 4 z:V))) Bf,rfl,tv⟩ tv) (Ba 5 [(0,Ag 2097152 ((p264.set p265.toNat y359).set a1.toNat y363)),(10,iV p265),(11,.bool false)] [] ?_))))) Aq
     obtain rfl:=sj h0
     exact Ka (Dx rfl rfl rfl rfl rfl ⟨⟨rfl,Ip (fun _=>rfl)⟩,tv⟩)
    ·rintro ⟨p195,p196,p197⟩ o1 _ K1 rfl h1 hx1 hK1 hE1 hR1
     refine Cc (Bt (Cc (bb h1 fun r302 e303 h1=>Cr (R:=(fun S=>∃p290:Int,p290=r302∧S=⟨Ma p195 a1 f4 k4 [(12,iV p290),(13,iV p197)],[],[]⟩)) (Tn a1 is4 p195 p197) (fun s S=>match s with | p277=>S=⟨Ma p195 a1 f4 k4 [(12,iV p277),(13,iV p197)],[],[]⟩) e303 _ (Dw (by kernel_rfl)) rfl 6 (fun _=>rfl) ?_ ?_)))
     ·rintro S _ hfg ⟨p290,rfl,rfl⟩
      refine Dc ⟨Ma p195 a1 f4 k4 [(12,iV p290),(13,iV p197)],[],[]⟩ (sQ hfg ⟨rfl,rfl,rfl,rfl,rfl,tv⟩ tv) (Bt (Cc (bb h1 fun r340 e341 h1=>Cr (R:=(fun S=>∃p328:Int,p328=r340∧S=⟨Ma p195 a1 f4 k4 [(12,iV p290),(13,iV p328)],[],[]⟩)) (To a1 is4 p195 p290) (fun s S=>match s with | p315=>S=⟨Ma p195 a1 f4 k4 [(12,iV p290),(13,iV p315)],[],[]⟩) e341 _ (Dw (by kernel_rfl)) rfl 8 (fun _=>rfl) ?_ ?_)))
      ·rintro S _ hfg ⟨p328,rfl,rfl⟩
       refine Dc ⟨Ma p195 a1 f4 k4 [(12,iV p290),(13,iV p328)],[],[]⟩ (sQ hfg ⟨rfl,rfl,rfl,rfl,rfl,tv⟩ tv) (Ba 6 (Ma p195 a1 f4 k4 [(12,iV p290),(13,iV p328),(144,.bool (decide (p290>p328)))]) [] (Ch h1 (fun c342 h1=>?_) (fun c342 h1=>?_)))
       ·obtain rfl:=sj h1
        obtain rfl:=hx1 _ rfl
        refine Hq rfl ?_
        exact jn hE1 ⟨_,_,rfl,rfl⟩
       ·refine Lr 3 (bb h1 fun y343 e344 h1=>bb h1 fun y345 e346 h1=>bb h1 fun y347 e348 h1=>bb h1 fun y349 e350 h1=>bb h1 fun y351 e352 h1=>bb h1 fun y353 e354 h1=>Ax 6 (Bd (d_ (Yq rfl rfl rfl e344 (Bd (Cf (c_ (Ny rfl rfl e346) (⟨⟨Cy rfl rfl e346 rfl,tv⟩,Ak tv (Cj rfl tv (⟨⟨Cy rfl rfl e346 rfl,tv⟩,Ak tv (Cj rfl tv (⟨⟨Cy rfl rfl e346 rfl,tv⟩,Ak tv (c_ (Kc rfl rfl e348) (⟨⟨Cy rfl rfl e346 rfl,tv⟩,Cf (c_ (Ny rfl rfl e350) (⟨⟨Cy rfl rfl e350 rfl,Cy rfl rfl e346 rfl,tv⟩,Ak tv (c_ (Kc rfl rfl e348) (⟨⟨Cy rfl rfl e350 rfl,Cy rfl rfl e346 rfl,tv⟩,Az (He (y':=y345) rfl rfl tv rfl rfl rfl rfl e350 (nl rfl) rfl rfl rfl rfl (iP ⟨[(0,Ag 2097152 (p195.set p290.toNat y345)),(1,iV a1),(4,.clo f4 k4),(12,iV p290),(13,iV p328),(147,Ag 2097152 (p195.set p290.toNat y345)),(148,iV p328),(156,.agg (Ad y349))],[],[]⟩ (fg ⟨congrArg (fun z=>some ((.own 2097152 0 4 z:V))) Bf,rfl,rfl,rfl,rfl,congrArg (fun z=>some ((.own 2097152 0 4 z:V))) Bf,rfl,rfl,tv⟩ tv) ⟨[],⟨⟨.inl tv,Bs (Dm (v:=iV p328) rfl tv) rfl⟩,⟨.inl tv,Bs (Dm (v:=Ag 2097152 (p195.set p290.toNat y345)) rfl tv) rfl⟩,tv⟩,tv,Ak tv (c_ (Kc rfl rfl e352) (⟨tv,?_⟩))⟩)) Aq⟩))⟩))⟩))⟩))⟩))⟩))))))))
        refine Az (He (y':=y349) rfl rfl tv rfl rfl rfl rfl e354 (nl rfl) rfl rfl rfl rfl (d0 tv (Hc (Dc ⟨[(0,Ag 2097152 ((p195.set p290.toNat y345).set p328.toNat y349)),(1,iV a1),(4,.clo f4 k4),(12,iV p290),(13,iV p328)],[],[]⟩ (fg ⟨congrArg (fun z=>some ((.own 2097152 0 4 z:V))) Bf,rfl,rfl,rfl,rfl,tv⟩ tv) (Ba 5 (Jm a1 f4 k4 [(0,Ag 2097152 ((p195.set p290.toNat y345).set p328.toNat y349)),(12,iV (wi (p290+1))),(13,iV p328)]) [] (Ax 5 ?_)))))) Aq
        obtain rfl:=sj h1
        exact kn hK1 rfl rfl
      ·rintro p315 o2 _ K2 rfl h2 hx2 hK2 hE2 hR2
       refine Bt (Bt (bb h2 fun y329 e330 h2=>bb h2 fun y331 e332 h2=>bb h2 fun y333 e334 h2=>bb h2 fun y335 e336 h2=>bb h2 fun r337 e338 h2=>Ax 4 (Bd (Ak tv (Bv (u:=.clo f4 k4) rfl (fun hg=>(Dm (v:=.clo f4 k4) rfl tv)) (⟨tv,Ak tv (Bv (u:=Ag 2097152 p195) rfl (fun hg=>(Dm (v:=Ag 2097152 p195) rfl tv)) (⟨tv,Ak tv (Bv (u:=iV p315) rfl (fun hg=>(Dm (v:=iV p315) rfl tv)) (⟨tv,Ak tv (Bv (u:=.optr 2097152 4 (0+p315.toNat) 0) rfl (fun hg=>(Gx (e:=Ad) (y:=y329) rfl rfl (fun _=>hg) rfl rfl (fun _=>hg) (ip hg e330))) (⟨tv,Cf (Bv (u:=.agg (Ad y331)) rfl (fun hg=>(Bn (e:=Ad) (y:=y331) (v:=.agg (Ad y331)) rfl rfl (fun _=>hg) rfl rfl (ip hg e332) rfl (nl rfl) rfl)) (⟨⟨Bw (v:=.agg (Ad y331)) rfl (fun hg=>(Bn (e:=Ad) (y:=y331) (v:=.agg (Ad y331)) rfl rfl (fun _=>hg) rfl rfl (ip hg e332) rfl (nl rfl) rfl)) rfl,tv⟩,Ak tv (Bv (u:=Ag 2097152 p195) rfl (fun hg=>(Dm (v:=Ag 2097152 p195) rfl tv)) (⟨⟨Bw (v:=.agg (Ad y331)) rfl (fun hg=>(Bn (e:=Ad) (y:=y331) (v:=.agg (Ad y331)) rfl rfl (fun _=>hg) rfl rfl (ip hg e332) rfl (nl rfl) rfl)) rfl,tv⟩,Ak tv (Bv (u:=iV a1) rfl (fun hg=>(Dm (v:=iV a1) rfl tv)) (⟨⟨Bw (v:=.agg (Ad y331)) rfl (fun hg=>(Bn (e:=Ad) (y:=y331) (v:=.agg (Ad y331)) rfl rfl (fun _=>hg) rfl rfl (ip hg e332) rfl (nl rfl) rfl)) rfl,tv⟩,Ak tv (Bv (u:=.optr 2097152 4 (0+a1.toNat) 0) rfl (fun hg=>(Gx (e:=Ad) (y:=y333) rfl rfl (fun _=>hg) rfl rfl (fun _=>hg) (ip hg e334))) (⟨⟨Bw (v:=.agg (Ad y331)) rfl (fun hg=>(Bn (e:=Ad) (y:=y331) (v:=.agg (Ad y331)) rfl rfl (fun _=>hg) rfl rfl (ip hg e332) rfl (nl rfl) rfl)) rfl,tv⟩,Cf (Bv (u:=.agg (Ad y335)) rfl (fun hg=>(Bn (e:=Ad) (y:=y335) (v:=.agg (Ad y335)) rfl rfl (fun _=>hg) rfl rfl (ip hg e336) rfl (nl rfl) rfl)) (⟨⟨Bw (v:=.agg (Ad y335)) rfl (fun hg=>(Bn (e:=Ad) (y:=y335) (v:=.agg (Ad y335)) rfl rfl (fun _=>hg) rfl rfl (ip hg e336) rfl (nl rfl) rfl)) rfl,Bw (v:=.agg (Ad y331)) rfl (fun hg=>(Bn (e:=Ad) (y:=y331) (v:=.agg (Ad y331)) rfl rfl (fun _=>hg) rfl rfl (ip hg e332) rfl (nl rfl) rfl)) rfl,tv⟩,Az (Ie (r:=iV r337) rfl rfl rfl (fun hg=>hg) false (fun hg=>hf4 _ _ r337 (ip hg e338)) ⟨(fun hg=>hg),(fun hg=>hg),tv⟩ (fun _=>(ar (At rfl hs4.2.2.1))) (fun _=>(Be rfl (Be rfl (hs4.2.1 _ _ _ _ _)))) (fun _=>rfl) (fun h=>nomatch h) (dw [(0,Ag 2097152 p195),(1,iV a1),(4,.clo f4 k4),(12,iV p290),(13,iV p315),(126,.bool (decide (p290≤p315))),(136,.may ((decide (p290≤p315))==true) (iV r337))] [] tv (Ak tv (Bv (u:=.bool (decide (r337<0))) rfl (fun hg=>(Bl ⟨(fun _=>hg),tv,tv⟩ rfl tv)) (⟨tv,?_⟩))))) Aq⟩))⟩))⟩))⟩))⟩))⟩))⟩))⟩))⟩))))))
       refine Ak tv (Bv (u:=.bool (!(decide (r337<0)))) rfl (fun hg=>(Bl ⟨(fun _=>hg),tv⟩ rfl tv)) (⟨tv,Ak tv (Dh rfl rfl rfl (fun h=>Ta h) tv rfl (⟨tv,d_ (Ba 1 (Ma p195 a1 f4 k4 [(12,iV p290),(13,iV p315),(139,.bool (bif (decide (p290≤p315)) then (!(decide (r337<0))) else false))]) [] (Ch h2 (fun c339 h2=>?_) (fun c339 h2=>?_)))⟩))⟩))
       ·refine Ax 8 ?_
        obtain rfl:=sj h2
        exact kn hK2 rfl rfl
       ·obtain rfl:=sj h2
        obtain rfl:=hx2 _ rfl
        refine Hq rfl ?_
        exact jn hE2 ⟨_,rfl,rfl⟩
     ·rintro p277 o2 _ K2 rfl h2 hx2 hK2 hE2 hR2
      refine Bt (Bt (bb h2 fun y291 e292 h2=>bb h2 fun y293 e294 h2=>bb h2 fun y295 e296 h2=>bb h2 fun y297 e298 h2=>bb h2 fun r299 e300 h2=>Ax 4 (Bd (Ak tv (Bv (u:=.clo f4 k4) rfl (fun hg=>(Dm (v:=.clo f4 k4) rfl tv)) (⟨tv,Ak tv (Bv (u:=Ag 2097152 p195) rfl (fun hg=>(Dm (v:=Ag 2097152 p195) rfl tv)) (⟨tv,Ak tv (Bv (u:=iV p277) rfl (fun hg=>(Dm (v:=iV p277) rfl tv)) (⟨tv,Ak tv (Bv (u:=.optr 2097152 4 (0+p277.toNat) 0) rfl (fun hg=>(Gx (e:=Ad) (y:=y291) rfl rfl (fun _=>hg) rfl rfl (fun _=>hg) (ip hg e292))) (⟨tv,Cf (Bv (u:=.agg (Ad y293)) rfl (fun hg=>(Bn (e:=Ad) (y:=y293) (v:=.agg (Ad y293)) rfl rfl (fun _=>hg) rfl rfl (ip hg e294) rfl (nl rfl) rfl)) (⟨⟨Bw (v:=.agg (Ad y293)) rfl (fun hg=>(Bn (e:=Ad) (y:=y293) (v:=.agg (Ad y293)) rfl rfl (fun _=>hg) rfl rfl (ip hg e294) rfl (nl rfl) rfl)) rfl,tv⟩,Ak tv (Bv (u:=Ag 2097152 p195) rfl (fun hg=>(Dm (v:=Ag 2097152 p195) rfl tv)) (⟨⟨Bw (v:=.agg (Ad y293)) rfl (fun hg=>(Bn (e:=Ad) (y:=y293) (v:=.agg (Ad y293)) rfl rfl (fun _=>hg) rfl rfl (ip hg e294) rfl (nl rfl) rfl)) rfl,tv⟩,Ak tv (Bv (u:=iV a1) rfl (fun hg=>(Dm (v:=iV a1) rfl tv)) (⟨⟨Bw (v:=.agg (Ad y293)) rfl (fun hg=>(Bn (e:=Ad) (y:=y293) (v:=.agg (Ad y293)) rfl rfl (fun _=>hg) rfl rfl (ip hg e294) rfl (nl rfl) rfl)) rfl,tv⟩,Ak tv (Bv (u:=.optr 2097152 4 (0+a1.toNat) 0) rfl (fun hg=>(Gx (e:=Ad) (y:=y295) rfl rfl (fun _=>hg) rfl rfl (fun _=>hg) (ip hg e296))) (⟨⟨Bw (v:=.agg (Ad y293)) rfl (fun hg=>(Bn (e:=Ad) (y:=y293) (v:=.agg (Ad y293)) rfl rfl (fun _=>hg) rfl rfl (ip hg e294) rfl (nl rfl) rfl)) rfl,tv⟩,Cf (Bv (u:=.agg (Ad y297)) rfl (fun hg=>(Bn (e:=Ad) (y:=y297) (v:=.agg (Ad y297)) rfl rfl (fun _=>hg) rfl rfl (ip hg e298) rfl (nl rfl) rfl)) (⟨⟨Bw (v:=.agg (Ad y297)) rfl (fun hg=>(Bn (e:=Ad) (y:=y297) (v:=.agg (Ad y297)) rfl rfl (fun _=>hg) rfl rfl (ip hg e298) rfl (nl rfl) rfl)) rfl,Bw (v:=.agg (Ad y293)) rfl (fun hg=>(Bn (e:=Ad) (y:=y293) (v:=.agg (Ad y293)) rfl rfl (fun _=>hg) rfl rfl (ip hg e294) rfl (nl rfl) rfl)) rfl,tv⟩,Az (Ie (r:=iV r299) rfl rfl rfl (fun hg=>hg) false (fun hg=>hf4 _ _ r299 (ip hg e300)) ⟨(fun hg=>hg),(fun hg=>hg),tv⟩ (fun _=>(ar (At rfl hs4.2.2.1))) (fun _=>(Be rfl (Be rfl (hs4.2.1 _ _ _ _ _)))) (fun _=>rfl) (fun h=>nomatch h) (dw [(0,Ag 2097152 p195),(1,iV a1),(4,.clo f4 k4),(12,iV p277),(13,iV p197),(108,.bool (decide (p277≤p197))),(118,.may ((decide (p277≤p197))==true) (iV r299))] [] tv (Ak tv (Bv (u:=.bool (decide (r299<0))) rfl (fun hg=>(Bl ⟨(fun _=>hg),tv,tv⟩ rfl tv)) (⟨tv,?_⟩))))) Aq⟩))⟩))⟩))⟩))⟩))⟩))⟩))⟩))⟩))))))
      refine Ak tv (Dh rfl rfl rfl (fun h=>Ta h) tv rfl (⟨tv,d_ (Ba 1 (Ma p195 a1 f4 k4 [(12,iV p277),(13,iV p197),(120,.bool (bif (decide (p277≤p197)) then (decide (r299<0)) else false))]) [] (Ch h2 (fun c301 h2=>?_) (fun c301 h2=>?_)))⟩))
      ·refine Ax 8 ?_
       obtain rfl:=sj h2
       exact kn hK2 rfl rfl
      ·obtain rfl:=sj h2
       obtain rfl:=hx2 _ rfl
       refine Hq rfl ?_
       exact jn hE2 ⟨_,rfl,rfl⟩
  ·rintro p70 o1 _ K1 rfl h1 hx1 hK1 hE1 hR1
   refine Bt (Bt (bb h1 fun y84 e85 h1=>bb h1 fun y86 e87 h1=>bb h1 fun y88 e89 h1=>bb h1 fun y90 e91 h1=>bb h1 fun r92 e93 h1=>Ax 4 (Bd (Ak tv (Bv (u:=.clo f4 k4) rfl (fun hg=>(Dm (v:=.clo f4 k4) rfl tv)) (⟨tv,Ak tv (Bv (u:=Ag 2097152 ((a0.set a1.toNat y3).set a3.toNat y7)) rfl (fun hg=>(Dm (v:=Ag 2097152 ((a0.set a1.toNat y3).set a3.toNat y7)) rfl tv)) (⟨tv,Ak tv (Bv (u:=iV p70) rfl (fun hg=>(Dm (v:=iV p70) rfl tv)) (⟨tv,Ak tv (Bv (u:=.optr 2097152 4 (0+p70.toNat) 0) rfl (fun hg=>(Gx (e:=Ad) (y:=y84) rfl rfl (fun _=>hg) rfl rfl (fun _=>hg) (ip hg e85))) (⟨tv,Cf (Bv (u:=.agg (Ad y86)) rfl (fun hg=>(Bn (e:=Ad) (y:=y86) (v:=.agg (Ad y86)) rfl rfl (fun _=>hg) rfl rfl (ip hg e87) rfl (nl rfl) rfl)) (⟨⟨Bw (v:=.agg (Ad y86)) rfl (fun hg=>(Bn (e:=Ad) (y:=y86) (v:=.agg (Ad y86)) rfl rfl (fun _=>hg) rfl rfl (ip hg e87) rfl (nl rfl) rfl)) rfl,tv⟩,Ak tv (Bv (u:=Ag 2097152 ((a0.set a1.toNat y3).set a3.toNat y7)) rfl (fun hg=>(Dm (v:=Ag 2097152 ((a0.set a1.toNat y3).set a3.toNat y7)) rfl tv)) (⟨⟨Bw (v:=.agg (Ad y86)) rfl (fun hg=>(Bn (e:=Ad) (y:=y86) (v:=.agg (Ad y86)) rfl rfl (fun _=>hg) rfl rfl (ip hg e87) rfl (nl rfl) rfl)) rfl,tv⟩,Ak tv (Bv (u:=iV a1) rfl (fun hg=>(Dm (v:=iV a1) rfl tv)) (⟨⟨Bw (v:=.agg (Ad y86)) rfl (fun hg=>(Bn (e:=Ad) (y:=y86) (v:=.agg (Ad y86)) rfl rfl (fun _=>hg) rfl rfl (ip hg e87) rfl (nl rfl) rfl)) rfl,tv⟩,Ak tv (Bv (u:=.optr 2097152 4 (0+a1.toNat) 0) rfl (fun hg=>(Gx (e:=Ad) (y:=y88) rfl rfl (fun _=>hg) rfl rfl (fun _=>hg) (ip hg e89))) (⟨⟨Bw (v:=.agg (Ad y86)) rfl (fun hg=>(Bn (e:=Ad) (y:=y86) (v:=.agg (Ad y86)) rfl rfl (fun _=>hg) rfl rfl (ip hg e87) rfl (nl rfl) rfl)) rfl,tv⟩,Cf (Bv (u:=.agg (Ad y90)) rfl (fun hg=>(Bn (e:=Ad) (y:=y90) (v:=.agg (Ad y90)) rfl rfl (fun _=>hg) rfl rfl (ip hg e91) rfl (nl rfl) rfl)) (⟨⟨Bw (v:=.agg (Ad y90)) rfl (fun hg=>(Bn (e:=Ad) (y:=y90) (v:=.agg (Ad y90)) rfl rfl (fun _=>hg) rfl rfl (ip hg e91) rfl (nl rfl) rfl)) rfl,Bw (v:=.agg (Ad y86)) rfl (fun hg=>(Bn (e:=Ad) (y:=y86) (v:=.agg (Ad y86)) rfl rfl (fun _=>hg) rfl rfl (ip hg e87) rfl (nl rfl) rfl)) rfl,tv⟩,Az (Ie (r:=iV r92) rfl rfl rfl (fun hg=>hg) false (fun hg=>hf4 _ _ r92 (ip hg e93)) ⟨(fun hg=>hg),(fun hg=>hg),tv⟩ (fun _=>(ar (At rfl hs4.2.2.1))) (fun _=>(Be rfl (Be rfl (hs4.2.1 _ _ _ _ _)))) (fun _=>rfl) (fun h=>nomatch h) (dw [(0,Ag 2097152 ((a0.set a1.toNat y3).set a3.toNat y7)),(1,iV a1),(4,.clo f4 k4),(12,iV p41),(13,iV p70),(53,.bool (decide (p41≤p70))),(63,.may ((decide (p41≤p70))==true) (iV r92))] [] tv (Ak tv (Bv (u:=.bool (decide (r92<0))) rfl (fun hg=>(Bl ⟨(fun _=>hg),tv,tv⟩ rfl tv)) (⟨tv,?_⟩))))) Aq⟩))⟩))⟩))⟩))⟩))⟩))⟩))⟩))⟩))))))
   refine Ak tv (Bv (u:=.bool (!(decide (r92<0)))) rfl (fun hg=>(Bl ⟨(fun _=>hg),tv⟩ rfl tv)) (⟨tv,Ak tv (Dh rfl rfl rfl (fun h=>Ta h) tv rfl (⟨tv,d_ (Ba 1 (Jm a1 f4 k4 [(0,Ag 2097152 ((a0.set a1.toNat y3).set a3.toNat y7)),(12,iV p41),(13,iV p70),(66,.bool (bif (decide (p41≤p70)) then (!(decide (r92<0))) else false))]) [] (Ch h1 (fun c94 h1=>?_) (fun c94 h1=>?_)))⟩))⟩))
   ·refine Ax 8 ?_
    obtain rfl:=sj h1
    exact kn hK1 rfl rfl
   ·obtain rfl:=sj h1
    obtain rfl:=hx1 _ rfl
    refine Hq rfl ?_
    exact jn hE1 ⟨_,rfl,rfl⟩
 ·rintro p26 o1 _ K1 rfl h1 hx1 hK1 hE1 hR1
  refine Bt (Bt (bb h1 fun y42 e43 h1=>bb h1 fun y44 e45 h1=>bb h1 fun y46 e47 h1=>bb h1 fun y48 e49 h1=>bb h1 fun r50 e51 h1=>Ax 4 (Bd (Ak tv (Bv (u:=.clo f4 k4) rfl (fun hg=>(Dm (v:=.clo f4 k4) rfl tv)) (⟨tv,Ak tv (Bv (u:=Ag 2097152 ((a0.set a1.toNat y3).set a3.toNat y7)) rfl (fun hg=>(Dm (v:=Ag 2097152 ((a0.set a1.toNat y3).set a3.toNat y7)) rfl tv)) (⟨tv,Ak tv (Bv (u:=iV p26) rfl (fun hg=>(Dm (v:=iV p26) rfl tv)) (⟨tv,Ak tv (Bv (u:=.optr 2097152 4 (0+p26.toNat) 0) rfl (fun hg=>(Gx (e:=Ad) (y:=y42) rfl rfl (fun _=>hg) rfl rfl (fun _=>hg) (ip hg e43))) (⟨tv,Cf (Bv (u:=.agg (Ad y44)) rfl (fun hg=>(Bn (e:=Ad) (y:=y44) (v:=.agg (Ad y44)) rfl rfl (fun _=>hg) rfl rfl (ip hg e45) rfl (nl rfl) rfl)) (⟨⟨Bw (v:=.agg (Ad y44)) rfl (fun hg=>(Bn (e:=Ad) (y:=y44) (v:=.agg (Ad y44)) rfl rfl (fun _=>hg) rfl rfl (ip hg e45) rfl (nl rfl) rfl)) rfl,tv⟩,Ak tv (Bv (u:=Ag 2097152 ((a0.set a1.toNat y3).set a3.toNat y7)) rfl (fun hg=>(Dm (v:=Ag 2097152 ((a0.set a1.toNat y3).set a3.toNat y7)) rfl tv)) (⟨⟨Bw (v:=.agg (Ad y44)) rfl (fun hg=>(Bn (e:=Ad) (y:=y44) (v:=.agg (Ad y44)) rfl rfl (fun _=>hg) rfl rfl (ip hg e45) rfl (nl rfl) rfl)) rfl,tv⟩,Ak tv (Bv (u:=iV a1) rfl (fun hg=>(Dm (v:=iV a1) rfl tv)) (⟨⟨Bw (v:=.agg (Ad y44)) rfl (fun hg=>(Bn (e:=Ad) (y:=y44) (v:=.agg (Ad y44)) rfl rfl (fun _=>hg) rfl rfl (ip hg e45) rfl (nl rfl) rfl)) rfl,tv⟩,Ak tv (Bv (u:=.optr 2097152 4 (0+a1.toNat) 0) rfl (fun hg=>(Gx (e:=Ad) (y:=y46) rfl rfl (fun _=>hg) rfl rfl (fun _=>hg) (ip hg e47))) (⟨⟨Bw (v:=.agg (Ad y44)) rfl (fun hg=>(Bn (e:=Ad) (y:=y44) (v:=.agg (Ad y44)) rfl rfl (fun _=>hg) rfl rfl (ip hg e45) rfl (nl rfl) rfl)) rfl,tv⟩,Cf (Bv (u:=.agg (Ad y48)) rfl (fun hg=>(Bn (e:=Ad) (y:=y48) (v:=.agg (Ad y48)) rfl rfl (fun _=>hg) rfl rfl (ip hg e49) rfl (nl rfl) rfl)) (⟨⟨Bw (v:=.agg (Ad y48)) rfl (fun hg=>(Bn (e:=Ad) (y:=y48) (v:=.agg (Ad y48)) rfl rfl (fun _=>hg) rfl rfl (ip hg e49) rfl (nl rfl) rfl)) rfl,Bw (v:=.agg (Ad y44)) rfl (fun hg=>(Bn (e:=Ad) (y:=y44) (v:=.agg (Ad y44)) rfl rfl (fun _=>hg) rfl rfl (ip hg e45) rfl (nl rfl) rfl)) rfl,tv⟩,Az (Ie (r:=iV r50) rfl rfl rfl (fun hg=>hg) false (fun hg=>hf4 _ _ r50 (ip hg e51)) ⟨(fun hg=>hg),(fun hg=>hg),tv⟩ (fun _=>(ar (At rfl hs4.2.2.1))) (fun _=>(Be rfl (Be rfl (hs4.2.1 _ _ _ _ _)))) (fun _=>rfl) (fun h=>nomatch h) (dw [(0,Ag 2097152 ((a0.set a1.toNat y3).set a3.toNat y7)),(1,iV a1),(4,.clo f4 k4),(12,iV p26),(13,iV (wi (a2-1))),(35,.bool (decide (p26≤(wi (a2-1))))),(45,.may ((decide (p26≤(wi (a2-1))))==true) (iV r50))] [] tv (Ak tv (Bv (u:=.bool (decide (r50<0))) rfl (fun hg=>(Bl ⟨(fun _=>hg),tv,tv⟩ rfl tv)) (⟨tv,?_⟩))))) Aq⟩))⟩))⟩))⟩))⟩))⟩))⟩))⟩))⟩))))))
  refine Ak tv (Dh rfl rfl rfl (fun h=>Ta h) tv rfl (⟨tv,Hc (bv h1 fun v52 e53 h1=>Dc ⟨[(0,Ag 2097152 ((a0.set a1.toNat y3).set a3.toNat y7)),(1,iV a1),(4,.clo f4 k4),(12,iV p26),(13,iV (wi (a2-1))),(47,.bool v52)],[],[]⟩ (fg ⟨(by subst e53; rfl),(by subst e53; rfl),(by subst e53; rfl),(by subst e53; rfl),(by subst e53; rfl),(by subst e53; rfl),tv⟩ tv) (Ch h1 (fun c54 h1=>?_) (fun c54 h1=>?_)))⟩))
  ·refine Ax 8 ?_
   obtain rfl:=sj h1
   exact kn hK1 rfl rfl
  ·obtain rfl:=sj h1
   obtain rfl:=hx1 _ rfl
   refine Hq rfl ?_
   exact jn hE1 ⟨_,rfl,rfl⟩

/- slices.pdqsortCmpFunc[loop.example/g00149/impl.Lease] -/
def PO:=[k_ 10 (.bool true)]
def PP:=[k_ 11 (.bool true)]
def PQ:=[m_ 21 2,m_ 22 1,b_ .sub 23 21 22,m_ 12 23]
def PR:=[m_ 24 12,B_ .leq 25 24 12]
def PS:=[m_ 26 0,m_ 27 1,m_ 28 2,m_ 29 4,q_ 30 148 [.t 26,.t 27,.t 28,.t 29]]
def PT:=[m_ 31 3,B_ .eql 32 31 0]
def PV:=[m_ 33 0,m_ 34 1,m_ 35 2,m_ 36 4,q_ 37 149 [.t 33,.t 34,.t 35,.t 36]]
def PW:=[m_ 38 10,N_ 39 38]
def PX:=[m_ 40 0,m_ 41 1,m_ 42 2,m_ 43 4,q_ 44 150 [.t 40,.t 41,.t 42,.t 43]]
def PY:=[m_ 45 3,B_ .sub 46 45 1,m_ 3 46]
def vW:=[m_ 48 0,m_ 49 1,m_ 50 2,m_ 51 4,q_ 52 151 [.t 48,.t 49,.t 50,.t 51],m_ 47 52,e_ 53 47 0,e_ 54 47 1,m_ 13 53,m_ 14 54]
def vX:=[m_ 55 14,B_ .eql 56 55 2]
def vY:=[m_ 57 0,m_ 58 1,m_ 59 2,m_ 60 4,q_ 61 152 [.t 57,.t 58,.t 59,.t 60]]
def vZ:=[m_ 62 2,B_ .sub 63 62 1,m_ 64 13,m_ 65 1,b_ .sub 66 64 65,b_ .sub 67 63 66,m_ 13 67]
def wA:=[i_ 14 1]
def wB:=[m_ 68 10,m_ 69 68,mT 69 70 11,pa 71 69 70,m_ 72 71,mT 72 73 14,pT 72 74 (.bin .eql (.t 73) (.c (iV 1))),pa 75 72 74]
def wC:=[m_ 76 0,m_ 77 1,m_ 78 2,m_ 79 4,q_ 80 153 [.t 76,.t 77,.t 78,.t 79]]
def wD:=tk [m_ 81 1,B_ .gtr 82 81 0,m_ 83 82,mT 83 84 4,mT 83 85 0,mT 83 86 1,pT 83 87 (.bin .sub (.t 86) (.c (iV 1))),xT 83 88 85 87 4,lT 83 89 88 4 true,mT 83 90 0,mT 83 91 13,xT 83 92 90 91 4,lT 83 93 92 4 true] (.alt [] ⟨some 94,.callv (.t 84) [.t 89,.t 93],some (83,true)⟩ (tk [pT 83 95 (.bin .lss (.t 94) (.c (iV 0))),pT 83 96 (.un .not (.t 95)),pa 97 83 96] .fin) .stop)
def wE:=[m_ 98 0,m_ 99 1,m_ 100 2,m_ 101 13,m_ 102 4,q_ 103 154 [.t 98,.t 99,.t 100,.t 101,.t 102],m_ 15 103]
def wF:=[m_ 104 15,m_ 1 104]
def wG:=[m_ 106 0,m_ 107 1,m_ 108 2,m_ 109 13,m_ 110 4,q_ 111 155 [.t 106,.t 107,.t 108,.t 109,.t 110],m_ 105 111,e_ 112 105 0,e_ 113 105 1,m_ 16 112,m_ 17 113]
def wH:=[m_ 114 17,m_ 11 114]
def wI:=[m_ 115 16,m_ 116 1,b_ .sub 117 115 116,m_ 118 2,m_ 119 16,b_ .sub 120 118 119,m_ 18 117,m_ 19 120]
def wJ:=[m_ 121 12,B_ .quo 122 121 8,m_ 20 122]
def wK:=[m_ 123 18,m_ 124 19,b_ .lss 125 123 124]
def wL:=[m_ 126 18,m_ 127 20,b_ .geq 128 126 127,m_ 10 128]
def wM:=[m_ 129 0,m_ 130 1,m_ 131 16,m_ 132 3,m_ 133 4,q_ 134 137 [.t 129,.t 130,.t 131,.t 132,.t 133]]
def wN:=[m_ 135 16,B_ .add 136 135 1,m_ 1 136]
def wO:=[m_ 137 19,m_ 138 20,b_ .geq 139 137 138,m_ 10 139]
def wP:=[m_ 140 0,m_ 141 16,B_ .add 142 141 1,m_ 143 2,m_ 144 3,m_ 145 4,q_ 146 137 [.t 140,.t 142,.t 143,.t 144,.t 145]]
def wQ:=[m_ 147 16,m_ 2 147]
def PN:IR:=(.block 1 (sr PQ (.seq (sr PR (iz 25 (rr PS))) (.seq (sr PT (iz 32 (rr PV))) (.seq (sr PW (iz 39 (sr PX (.reg PY)))) (sr vW (.seq (sr vX (iz 56 (sr vY (sr vZ (.reg wA))))) (.seq (sr wB (iz 75 (sr wC (iz 80 .ret)))) (.seq (sd wD (iz 97 (sr wE (sr wF (.exit 1))))) (sr wG (sr wH (sr wI (sr wJ (sr wK (.ite (.t 125) (sr wL (sr wM (.reg wN))) (sr wO (sr wP (.reg wQ))))))))))))))))))
def c137:Cz:=⟨5,148,[],sr PO (sr PP (Ho 0 PN))⟩
def sV (C:Bj) (rc:(List Aa)→Int→Int→Int→(Aa→Aa→Option Int)→Option (List Aa)):Prop:=∀(a0:List Aa) (a1:Int) (a2:Int) (a3:Int) (f4:Nat) (k4:List V) (is4:Aa→Aa→Option Int) (hs4:Io k4) (hf4:∀(x0:Aa) (x1:Aa) r,is4 x0 x1=some r→C f4 ⟨.agg (Ad x0) :: .agg (Ad x1)::k4,[]⟩ ⟨iV r,[],[]⟩) (r:(List Aa)),rc a0 a1 a2 a3 is4=some r→C 137 ⟨[Ag 2097152 a0,iV a1,iV a2,iV a3,.clo f4 k4],[]⟩ ⟨.tup [],[],[(0,4,r.map Ad)]⟩
def K137 (C:Bj):Prop:=∀n,sV C (lM n)
abbrev Ly:=fun x0 x1 x2 x3 x4 x5 (r:List (Nat×V))=>(1,iV x0)::(2,iV x1)::(4,.clo x2 x3)::(10,.bool x4)::(11,.bool x5)::r
theorem F137 {C:Bj} (H148:K148 C) (H149:K149 C) (H150:K150 C) (H151:K151 C) (H152:K152 C) (H153:K153 C) (H154:K154 C) (H155:K155 C) (rc137:(List Aa)→Int→Int→Int→(Aa→Aa→Option Int)→Option (List Aa)) (R137:sV C rc137) (a0:List Aa) (a1:Int) (a2:Int) (a3:Int) (f4:Nat) (k4:List V) (is4:Aa→Aa→Option Int) (hs4:Io k4) (hf4:∀(x0:Aa) (x1:Aa) r,is4 x0 x1=some r→C f4 ⟨.agg (Ad x0) :: .agg (Ad x1)::k4,[]⟩ ⟨iV r,[],[]⟩) (r:(List Aa)) (h0:Vf rc137 a0 a1 a2 a3 is4=some r):hO C c137 ⟨[Ag 2097152 a0,iV a1,iV a2,iV a3,.clo f4 k4],[]⟩ ⟨.tup [],[],[(0,4,r.map Ad)]⟩:=by
 refine f0 (Ba 7 [(0,Ag 2097152 a0),(1,iV a1),(2,iV a2),(3,iV a3),(4,.clo f4 k4),(10,.bool true),(11,.bool true)] [] (Cc (bb h0 fun r214 e215 h0=>Cr (R:=(fun _=>False)) (Jw is4 rc137) (fun s S=>match s with | (p62,p63,p64,p65,p66,p67)=>S=⟨Ly p63 p64 f4 k4 p66 p67 [(0,Ag 2097152 p62),(3,iV p65)],[],[]⟩) e215 _ (Dw (by kernel_rfl)) rfl 0 (fun h=>h.elim fun _ h=>h.elim) ?_ ?_)))
 ·exact fun _ _ _ h=>h.elim
 ·rintro ⟨p62,p63,p64,p65,p66,p67⟩ o1 _ K1 rfl h1 hx1 hK1 hE1 hR1
  refine Ba 13 (Ly p63 p64 f4 k4 p66 p67 [(0,Ag 2097152 p62),(3,iV p65),(12,iV (wi (p64-p63))),(25,.bool (decide ((wi (p64-p63))≤12)))]) [] (Ch h1 (fun c135 h1=>?_) (fun c135 h1=>?_))
  ·refine Ax 5 (As (bb h1 fun r136 e137 h1=>gg h1 fun PZ h1=>st (Ed [] [2097152] [] false (H148 p62 p63 p64 f4 k4 is4 hs4 hf4 r136 e137) ⟨tv,tv,tv,tv,tv⟩ (by kernel_rfl) (congrArg (fun z=>Gj.mk z []) (Be rfl (Be rfl (Be rfl (Be (Eo hs4) rfl))))) (by kernel_rfl) (by kernel_rfl) (fun _=>At rfl (At (Wi (fun _=>rfl)) rfl)) (Ha (Dc ⟨[(0,Ag 2097152 r136)],[],[]⟩ (fg ⟨congrArg (fun z=>some ((z:V))) (Ep PZ),tv⟩ tv) ?_)))))
   obtain rfl:=sj h1
   obtain rfl:=hx1 _ rfl
   obtain rfl:=sj h0
   exact Ka (hR1 _ (Dx rfl rfl rfl rfl rfl ⟨⟨rfl,Ip (fun _=>rfl)⟩,tv⟩))
  ·refine Ba 7 (Ly p63 p64 f4 k4 p66 p67 [(0,Ag 2097152 p62),(3,iV p65),(12,iV (wi (p64-p63))),(32,.bool (p65==0))]) [] (Ch h1 (fun c139 h1=>?_) (fun c139 h1=>?_))
   ·refine Ax 5 (As (bb h1 fun r140 e141 h1=>gg h1 fun c142 h1=>st (Ed [] [2097152] [] false (H149 p62 p63 p64 f4 k4 is4 hs4 hf4 r140 e141) ⟨tv,tv,tv,tv,tv⟩ (by kernel_rfl) (congrArg (fun z=>Gj.mk z []) (Be rfl (Be rfl (Be rfl (Be (Eo hs4) rfl))))) (by kernel_rfl) (by kernel_rfl) (fun _=>At rfl (At (Wi (fun _=>rfl)) rfl)) (Ha (Dc ⟨[(0,Ag 2097152 r140)],[],[]⟩ (fg ⟨congrArg (fun z=>some ((z:V))) (Ep c142),tv⟩ tv) ?_)))))
    obtain rfl:=sj h1
    obtain rfl:=hx1 _ rfl
    obtain rfl:=sj h0
    exact Ka (hR1 _ (Dx rfl rfl rfl rfl rfl ⟨⟨rfl,Ip (fun _=>rfl)⟩,tv⟩))
   ·refine Ba 7 (Ly p63 p64 f4 k4 p66 p67 [(0,Ag 2097152 p62),(3,iV p65),(12,iV (wi (p64-p63))),(39,.bool (!p66))]) [] (Ld (cb:=(!p66)) (fun S=>∃p147:List Aa,∃p148:Int,S=⟨Ly p63 p64 f4 k4 p66 p67 [(0,Ag 2097152 p147),(3,iV p148),(12,iV (wi (p64-p63)))],[],[]⟩∧Ln is4 rc137 p63 p64 p66 p67 p147 p148=some o1) rfl ?_ (fun c210 J209=>?_) (fun c210 J209=>?_))
    ·rintro _ ⟨p147,p148,rfl,h1⟩
     refine Ax 6 (As (bb h1 fun r149 e150 h1=>st (Ci (r:=.tup [iV r149.1,iV r149.2]) false (H151 p147 p63 p64 f4 k4 is4 hs4 hf4 r149 e150) ⟨tv,tv,tv,tv,tv⟩ rfl (Be rfl (Be rfl (Be rfl (Be (Eo hs4) rfl)))) (fun _=>rfl) (o_ (Ba 12 (Ly p63 p64 f4 k4 p66 p67 [(0,Ag 2097152 p147),(3,iV p148),(12,iV (wi (p64-p63))),(13,iV r149.1),(14,iV r149.2),(56,.bool (r149.2==2))]) [] (Ld (cb:=(r149.2==2)) (fun S=>∃p157:List Aa,∃p158:Int,∃p159:Int,S=⟨Ly p63 p64 f4 k4 p66 p67 [(0,Ag 2097152 p157),(3,iV p148),(12,iV (wi (p64-p63))),(13,iV p158),(14,iV p159)],[],[]⟩∧Qq is4 rc137 p63 p64 p66 p67 p148 p157 p158 p159=some o1) rfl ?_ (fun c203 J202=>?_) (fun c203 J202=>?_)))))))
     ·rintro _ ⟨p157,p158,p159,rfl,h1⟩
      refine Ax 5 (As (st (Bv (u:=.bool p67) rfl (fun hg=>(Dm (v:=.bool p67) rfl tv)) (st (Dh rfl rfl rfl (fun h=>Ta h) tv rfl (st (Cj rfl tv (st (Bv (u:=iV p159) rfl (fun hg=>(Dm (v:=iV p159) rfl tv)) (st (Bv (u:=.bool (p159==1)) rfl (fun hg=>(Bl ⟨(fun _=>hg),tv,tv⟩ rfl tv)) (st (Dh rfl rfl rfl (fun h=>Ta h) tv rfl (o_ (Ba 1 (Ly p63 p64 f4 k4 p66 p67 [(0,Ag 2097152 p157),(3,iV p148),(12,iV (wi (p64-p63))),(13,iV p158),(75,.bool (bif (bif p66 then p67 else false) then (p159==1) else false))]) [] (Ld (cb:=(bif (bif p66 then p67 else false) then (p159==1) else false)) (fun S=>∃p165:List Aa,S=⟨Ly p63 p64 f4 k4 p66 p67 [(0,Ag 2097152 p165),(3,iV p148),(12,iV (wi (p64-p63))),(13,iV p158)],[],[]⟩∧Tg is4 rc137 p63 p64 p66 p67 p148 p158 p165=some o1) rfl ?_ (fun c197 J196=>?_) (fun c197 J196=>?_)))))))))))))))))
      ·rintro _ ⟨p165,rfl,h1⟩
       refine Lr 3 (bb h1 fun y166 e167 h1=>bb h1 fun y168 e169 h1=>bb h1 fun y170 e171 h1=>bb h1 fun y172 e173 h1=>bb h1 fun r174 e175 h1=>Ax 3 (Bd (Ak tv (Bv (u:=.clo f4 k4) rfl (fun hg=>(Dm (v:=.clo f4 k4) rfl tv)) (⟨tv,Ak tv (Bv (u:=Ag 2097152 p165) rfl (fun hg=>(Dm (v:=Ag 2097152 p165) rfl tv)) (⟨tv,Ak tv (Bv (u:=iV p63) rfl (fun hg=>(Dm (v:=iV p63) rfl tv)) (⟨tv,Ak tv (Bv (u:=iV (wi (p63-1))) rfl (fun hg=>(Bl ⟨(fun _=>hg),tv,tv⟩ rfl tv)) (⟨tv,Ak tv (Bv (u:=.optr 2097152 4 (0+((wi (p63-1)).toNat)) 0) rfl (fun hg=>(Gx (e:=Ad) (y:=y166) rfl rfl (fun _=>hg) rfl rfl (fun _=>hg) (ip hg e167))) (⟨tv,Cf (Bv (u:=.agg (Ad y168)) rfl (fun hg=>(Bn (e:=Ad) (y:=y168) (v:=.agg (Ad y168)) rfl rfl (fun _=>hg) rfl rfl (ip hg e169) rfl (nl rfl) rfl)) (⟨⟨Bw (v:=.agg (Ad y168)) rfl (fun hg=>(Bn (e:=Ad) (y:=y168) (v:=.agg (Ad y168)) rfl rfl (fun _=>hg) rfl rfl (ip hg e169) rfl (nl rfl) rfl)) rfl,tv⟩,Ak tv (Bv (u:=Ag 2097152 p165) rfl (fun hg=>(Dm (v:=Ag 2097152 p165) rfl tv)) (⟨⟨Bw (v:=.agg (Ad y168)) rfl (fun hg=>(Bn (e:=Ad) (y:=y168) (v:=.agg (Ad y168)) rfl rfl (fun _=>hg) rfl rfl (ip hg e169) rfl (nl rfl) rfl)) rfl,tv⟩,Ak tv (Bv (u:=iV p158) rfl (fun hg=>(Dm (v:=iV p158) rfl tv)) (⟨⟨Bw (v:=.agg (Ad y168)) rfl (fun hg=>(Bn (e:=Ad) (y:=y168) (v:=.agg (Ad y168)) rfl rfl (fun _=>hg) rfl rfl (ip hg e169) rfl (nl rfl) rfl)) rfl,tv⟩,Ak tv (Bv (u:=.optr 2097152 4 (0+p158.toNat) 0) rfl (fun hg=>(Gx (e:=Ad) (y:=y170) rfl rfl (fun _=>hg) rfl rfl (fun _=>hg) (ip hg e171))) (⟨⟨Bw (v:=.agg (Ad y168)) rfl (fun hg=>(Bn (e:=Ad) (y:=y168) (v:=.agg (Ad y168)) rfl rfl (fun _=>hg) rfl rfl (ip hg e169) rfl (nl rfl) rfl)) rfl,tv⟩,Cf (Bv (u:=.agg (Ad y172)) rfl (fun hg=>(Bn (e:=Ad) (y:=y172) (v:=.agg (Ad y172)) rfl rfl (fun _=>hg) rfl rfl (ip hg e173) rfl (nl rfl) rfl)) (⟨⟨Bw (v:=.agg (Ad y172)) rfl (fun hg=>(Bn (e:=Ad) (y:=y172) (v:=.agg (Ad y172)) rfl rfl (fun _=>hg) rfl rfl (ip hg e173) rfl (nl rfl) rfl)) rfl,Bw (v:=.agg (Ad y168)) rfl (fun hg=>(Bn (e:=Ad) (y:=y168) (v:=.agg (Ad y168)) rfl rfl (fun _=>hg) rfl rfl (ip hg e169) rfl (nl rfl) rfl)) rfl,tv⟩,Az (Ie (r:=iV r174) rfl rfl rfl (fun hg=>hg) false (fun hg=>hf4 _ _ r174 (ip hg e175)) ⟨(fun hg=>hg),(fun hg=>hg),tv⟩ (fun _=>(ar (At rfl hs4.2.2.1))) (fun _=>(Be rfl (Be rfl (hs4.2.1 _ _ _ _ _)))) (fun _=>rfl) (fun h=>nomatch h) (dw [(0,Ag 2097152 p165),(1,iV p63),(2,iV p64),(3,iV p148),(4,.clo f4 k4),(10,.bool p66),(11,.bool p67),(12,iV (wi (p64-p63))),(13,iV p158),(83,.bool (decide (p63>0))),(94,.may ((decide (p63>0))==true) (iV r174))] [] tv (Ak tv (Bv (u:=.bool (decide (r174<0))) rfl (fun hg=>(Bl ⟨(fun _=>hg),tv,tv⟩ rfl tv)) (⟨tv,?_⟩))))) Aq⟩))⟩))⟩))⟩))⟩))⟩))⟩))⟩))⟩))⟩)))))
       refine Ak tv (Bv (u:=.bool (!(decide (r174<0)))) rfl (fun hg=>(Bl ⟨(fun _=>hg),tv⟩ rfl tv)) (⟨tv,Ak tv (Dh rfl rfl rfl (fun h=>Ta h) tv rfl (⟨tv,d_ (Ba 1 (Ly p63 p64 f4 k4 p66 p67 [(0,Ag 2097152 p165),(3,iV p148),(12,iV (wi (p64-p63))),(13,iV p158),(97,.bool (bif (decide (p63>0)) then (!(decide (r174<0))) else false))]) [] (Ch h1 (fun c176 h1=>?_) (fun c176 h1=>?_)))⟩))⟩))
       ·refine Ax 6 (As (bb h1 fun r177 e178 h1=>gg h1 fun c179 h1=>st (Ed [] [2097152] [] false (H154 p165 p63 p64 p158 f4 k4 is4 hs4 hf4 r177 e178) ⟨tv,tv,tv,tv,tv,tv⟩ (by kernel_rfl) (congrArg (fun z=>Gj.mk z []) (Be rfl (Be rfl (Be rfl (Be rfl (Be (Eo hs4) rfl)))))) (by kernel_rfl) (by kernel_rfl) (fun _=>At rfl (At (Wi (fun _=>rfl)) rfl)) (sw ⟨[(0,Ag 2097152 r177.2),(2,iV p64),(3,iV p148),(4,.clo f4 k4),(10,.bool p66),(11,.bool p67),(103,iV r177.1)],[],[]⟩ (fg ⟨congrArg (fun z=>some ((z:V))) (Ep c179),rfl,rfl,rfl,rfl,rfl,rfl,tv⟩ tv) (Cj rfl tv (o_ (Ba 6 [(0,Ag 2097152 r177.2),(1,iV r177.1),(2,iV p64),(3,iV p148),(4,.clo f4 k4),(10,.bool p66),(11,.bool p67)] [] (ex_ rfl ?_))))))))
        obtain rfl:=sj h1
        exact kn hK1 rfl rfl
       ·refine Ax 8 (As (bb h1 fun r180 e181 h1=>gg h1 fun c182 h1=>st (Ed [] [2097152] [] false (H155 p165 p63 p64 p158 f4 k4 is4 hs4 hf4 r180 e181) ⟨tv,tv,tv,tv,tv,tv⟩ (by kernel_rfl) (congrArg (fun z=>Gj.mk z []) (Be rfl (Be rfl (Be rfl (Be rfl (Be (Eo hs4) rfl)))))) (by kernel_rfl) (by kernel_rfl) (fun _=>At rfl (At (Wi (fun _=>rfl)) rfl)) (sw ⟨[(0,Ag 2097152 r180.2.2),(1,iV p63),(2,iV p64),(3,iV p148),(4,.clo f4 k4),(12,iV (wi (p64-p63))),(111,.tup [iV r180.1,.bool r180.2.1])],[],[]⟩ (fg ⟨congrArg (fun z=>some ((z:V))) (Ep c182),rfl,rfl,rfl,rfl,rfl,rfl,tv⟩ tv) (Cj rfl tv (o_ (Ba 21 [(0,Ag 2097152 r180.2.2),(1,iV p63),(2,iV p64),(3,iV p148),(4,.clo f4 k4),(11,.bool r180.2.1),(12,iV (wi (p64-p63))),(16,iV r180.1),(18,iV (wi (r180.1-p63))),(19,iV (wi (p64-r180.1)))] [] (Bt (As (st (Cj rfl tv (st (c_ (Bl ⟨tv,tv,tv⟩ rfl (by decide)) (st (Cj rfl tv ?_)))))))))))))))
        refine o_ (Ba 1 [(0,Ag 2097152 r180.2.2),(1,iV p63),(2,iV p64),(3,iV p148),(4,.clo f4 k4),(11,.bool r180.2.1),(16,iV r180.1),(18,iV (wi (r180.1-p63))),(19,iV (wi (p64-r180.1))),(20,iV (wi (((wi (p64-p63))).tdiv 8)))] [] (Ax 5 (bv h1 fun v183 e184 h1=>Dc ⟨[(0,Ag 2097152 r180.2.2),(1,iV p63),(2,iV p64),(3,iV p148),(4,.clo f4 k4),(11,.bool r180.2.1),(16,iV r180.1),(18,iV (wi (r180.1-p63))),(19,iV (wi (p64-r180.1))),(20,iV (wi (((wi (p64-p63))).tdiv 8))),(125,.bool v183)],[],[]⟩ (fg ⟨(by subst e184; rfl),(by subst e184; rfl),(by subst e184; rfl),(by subst e184; rfl),(by subst e184; rfl),(by subst e184; rfl),(by subst e184; rfl),(by subst e184; rfl),(by subst e184; rfl),(by subst e184; rfl),(by subst e184; rfl),tv⟩ tv) (Ch h1 (fun c185 h1=>?_) (fun c185 h1=>?_)))))
        ·refine Ax 6 (bv h1 fun v186 e187 h1=>Dc ⟨[(0,Ag 2097152 r180.2.2),(1,iV p63),(2,iV p64),(3,iV p148),(4,.clo f4 k4),(10,.bool v186),(11,.bool r180.2.1),(16,iV r180.1)],[],[]⟩ (fg ⟨(by subst e187; rfl),(by subst e187; rfl),(by subst e187; rfl),(by subst e187; rfl),(by subst e187; rfl),(by subst e187; rfl),(by subst e187; rfl),(by subst e187; rfl),tv⟩ tv) (Ax 6 (As (bb h1 fun r188 e189 h1=>gg h1 fun c190 h1=>st (Ed [] [2097152] [] false (R137 r180.2.2 p63 r180.1 p148 f4 k4 is4 hs4 hf4 r188 e189) ⟨tv,tv,tv,tv,tv,tv⟩ (by kernel_rfl) (congrArg (fun z=>Gj.mk z []) (Be rfl (Be rfl (Be rfl (Be rfl (Be (Eo hs4) rfl)))))) (by kernel_rfl) (by kernel_rfl) (fun _=>At rfl (At (Wi (fun _=>rfl)) rfl)) (Ha (Dc ⟨[(0,Ag 2097152 r188),(2,iV p64),(3,iV p148),(4,.clo f4 k4),(10,.bool v186),(11,.bool r180.2.1),(16,iV r180.1)],[],[]⟩ (fg ⟨congrArg (fun z=>some ((z:V))) (Ep c190),rfl,rfl,rfl,rfl,rfl,rfl,tv⟩ tv) (Ax 5 ?_))))))))
         obtain rfl:=sj h1
         exact kn hK1 rfl rfl
        ·refine Ax 6 (bv h1 fun v191 e192 h1=>Dc ⟨[(0,Ag 2097152 r180.2.2),(1,iV p63),(2,iV p64),(3,iV p148),(4,.clo f4 k4),(10,.bool v191),(11,.bool r180.2.1),(16,iV r180.1)],[],[]⟩ (fg ⟨(by subst e192; rfl),(by subst e192; rfl),(by subst e192; rfl),(by subst e192; rfl),(by subst e192; rfl),(by subst e192; rfl),(by subst e192; rfl),(by subst e192; rfl),tv⟩ tv) (Ax 7 (As (bb h1 fun r193 e194 h1=>gg h1 fun c195 h1=>st (Ed [] [2097152] [] false (R137 r180.2.2 (wi (r180.1+1)) p64 p148 f4 k4 is4 hs4 hf4 r193 e194) ⟨tv,tv,tv,tv,tv,tv⟩ (by kernel_rfl) (congrArg (fun z=>Gj.mk z []) (Be rfl (Be rfl (Be rfl (Be rfl (Be (Eo hs4) rfl)))))) (by kernel_rfl) (by kernel_rfl) (fun _=>At rfl (At (Wi (fun _=>rfl)) rfl)) (Ha (Dc ⟨[(0,Ag 2097152 r193),(1,iV p63),(3,iV p148),(4,.clo f4 k4),(10,.bool v191),(11,.bool r180.2.1),(16,iV r180.1)],[],[]⟩ (fg ⟨congrArg (fun z=>some ((z:V))) (Ep c195),rfl,rfl,rfl,rfl,rfl,rfl,tv⟩ tv) (Ax 4 ?_))))))))
         obtain rfl:=sj h1
         exact kn hK1 rfl rfl
      ·replace h1:=ip c197 h1
       refine Ax 5 (As (bb h1 fun r198 e199 h1=>gg h1 fun c200 h1=>st (Ed [] [2097152] [] false (H153 p157 p63 p64 f4 k4 is4 hs4 hf4 r198 e199) ⟨tv,tv,tv,tv,tv⟩ (by kernel_rfl) (congrArg (fun z=>Gj.mk z []) (Be rfl (Be rfl (Be rfl (Be (Eo hs4) rfl))))) (by kernel_rfl) (by kernel_rfl) (fun _=>At rfl (At (Wi (fun _=>rfl)) rfl)) (Ha (Dc ⟨[(0,Ag 2097152 r198.2),(1,iV p63),(2,iV p64),(3,iV p148),(4,.clo f4 k4),(10,.bool p66),(11,.bool p67),(12,iV (wi (p64-p63))),(13,iV p158),(80,.bool r198.1)],[],[]⟩ (fg ⟨congrArg (fun z=>some ((z:V))) (Ep c200),rfl,rfl,rfl,rfl,rfl,rfl,rfl,rfl,rfl,tv⟩ tv) (Ch h1 (fun c201 h1=>?_) (fun c201 h1=>?_)))))))
       ·obtain rfl:=sj h1
        obtain rfl:=hx1 _ rfl
        obtain rfl:=sj h0
        exact Ka (hR1 _ (Dx rfl rfl rfl rfl rfl ⟨⟨rfl,Ip (fun _=>rfl)⟩,tv⟩))
       ·refine Lc ?_
        exact jn J196 ⟨_,rfl,h1⟩
      ·replace h1:=aB c197 h1
       refine Lc ?_
       exact jn J196 ⟨_,rfl,h1⟩
     ·replace h1:=ip c203 h1
      refine Ax 5 (As (bb h1 fun r204 e205 h1=>gg h1 fun c206 h1=>st (Ed [] [2097152] [] false (H152 p147 p63 p64 f4 k4 is4 hs4 hf4 r204 e205) ⟨tv,tv,tv,tv,tv⟩ (by kernel_rfl) (congrArg (fun z=>Gj.mk z []) (Be rfl (Be rfl (Be rfl (Be (Eo hs4) rfl))))) (by kernel_rfl) (by kernel_rfl) (fun _=>At rfl (At (Wi (fun _=>rfl)) rfl)) (Ha (Dc ⟨[(0,Ag 2097152 r204),(1,iV p63),(2,iV p64),(3,iV p148),(4,.clo f4 k4),(10,.bool p66),(11,.bool p67),(12,iV (wi (p64-p63))),(13,iV r149.1)],[],[]⟩ (fg ⟨congrArg (fun z=>some ((z:V))) (Ep c206),rfl,rfl,rfl,rfl,rfl,rfl,rfl,rfl,tv⟩ tv) (Ax 9 (bv h1 fun v207 e208 h1=>Dc ⟨[(0,Ag 2097152 r204),(1,iV p63),(2,iV p64),(3,iV p148),(4,.clo f4 k4),(10,.bool p66),(11,.bool p67),(12,iV (wi (p64-p63))),(13,iV v207)],[],[]⟩ (fg ⟨(by subst e208; rfl),(by subst e208; rfl),(by subst e208; rfl),(by subst e208; rfl),(by subst e208; rfl),(by subst e208; rfl),(by subst e208; rfl),(by subst e208; rfl),(by subst e208; rfl),tv⟩ tv) (As (st (DZ tv (Ha ?_)))))))))))
      exact jn J202 ⟨_,_,_,rfl,h1⟩
     ·replace h1:=aB c203 h1
      refine Lc ?_
      exact jn J202 ⟨_,_,_,rfl,h1⟩
    ·replace h1:=ip c210 h1
     refine Ax 5 (As (bb h1 fun r211 e212 h1=>gg h1 fun c213 h1=>st (Ed [] [2097152] [] false (H150 p62 p63 p64 f4 k4 is4 hs4 hf4 r211 e212) ⟨tv,tv,tv,tv,tv⟩ (by kernel_rfl) (congrArg (fun z=>Gj.mk z []) (Be rfl (Be rfl (Be rfl (Be (Eo hs4) rfl))))) (by kernel_rfl) (by kernel_rfl) (fun _=>At rfl (At (Wi (fun _=>rfl)) rfl)) (Ha (Dc ⟨[(0,Ag 2097152 r211),(1,iV p63),(2,iV p64),(3,iV p65),(4,.clo f4 k4),(10,.bool p66),(11,.bool p67),(12,iV (wi (p64-p63)))],[],[]⟩ (fg ⟨congrArg (fun z=>some ((z:V))) (Ep c213),rfl,rfl,rfl,rfl,rfl,rfl,rfl,tv⟩ tv) (Ax 4 ?_))))))
     exact jn J209 ⟨_,_,rfl,h1⟩
    ·replace h1:=aB c210 h1
     refine Lc ?_
     exact jn J209 ⟨_,_,rfl,h1⟩

/- slices.SortFunc[[]loop.example/g00149/impl.Lease,loop.example/g00149/impl.Lease] -/
def KW:=[m_ 5 0,n_ 6 5,m_ 4 6]
def KX:=[m_ 7 0,m_ 8 4,m_ 9 4,iQ 10 (.conv .u64 (.t 9)),q_ 11 138 [.t 10],m_ 12 1,q_ 13 137 [.t 7,.c (iV 0),.t 8,.t 11,.t 12]]
def c116:Cz:=⟨2,14,[],sr KW (.reg KX)⟩
def K116 (C:Bj) (D:Bj:=C):Prop:=∀(a0:List Aa) (f1:Nat) (k1:List V) (is1:Aa→Aa→Option Int) (hs1:Io k1) (hf1:∀(x0:Aa) (x1:Aa) r,is1 x0 x1=some r→C f1 ⟨.agg (Ad x0) :: .agg (Ad x1)::k1,[]⟩ ⟨iV r,[],[]⟩) (r:(List Aa)),CC a0 is1=some r→D 116 ⟨[Ag 2097152 a0,.clo f1 k1],[]⟩ ⟨.tup [],[],[(0,4,r.map Ad)]⟩
theorem F116 (H137:K137 C) (H138:GN C):K116 C (FO C c116):=by
 intro a0 f1 k1 is1 hs1 hf1 r h0
 refine f0 (Bt (As (st (Cj rfl tv (Xf rfl (o_ (Ba 2 [(0,Ag 2097152 a0),(1,.clo f1 k1),(4,iV (a0.length:Int))] [] (Ax 4 (As (bb h0 fun r1 e2 h0=>Jj (H138 (IntKind.u64.wrap (a0.length:Int)) r1 e2) (st (Cj rfl tv (bb h0 fun r3 e4 h0=>gg h0 fun c5 h0=>st (Ed [] [2097152] [] false ((H137 Og) a0 0 (a0.length:Int) r1 f1 k1 is1 hs1 hf1 r3 e4) ⟨tv,tv,tv,tv,tv,tv⟩ (by kernel_rfl) (congrArg (fun z=>Gj.mk z []) (Be rfl (Be rfl (Be rfl (Be rfl (Be (Eo hs1) rfl)))))) (by kernel_rfl) (by kernel_rfl) (fun _=>At rfl (At (Wi (fun _=>rfl)) rfl)) (Ha ?_)))))))))))))))
 obtain rfl:=sj h0
 exact bF (bE (S1:=⟨[(0,Ag 2097152 r3),(7,Ag 2097152 r3)],[],[]⟩) (fg ⟨congrArg (fun z=>some ((z:V))) (Ep c5),congrArg (fun z=>some ((z:V))) (Ep c5),tv⟩ tv) (Dx rfl rfl rfl rfl rfl ⟨⟨rfl,Ip (fun _=>rfl)⟩,tv⟩))

/- (loop.example/g00149/impl.Table).tick -/
def c82_r0:List Cd:=[X_ 2 0,a_ 4 (zT 259),⟨some 5,.nilS 1,none⟩]
def c82_r1:=[L_ 10 2 3,q_ 11 112 [.t 10],a_ 6 (zT 387),s_ 6 11 3]
def c82_r2:=[f_ 12 2 0,l_ 13 12 1,m_ 14 1,iQ 15 (.mx (.t 13) (.t 14)),f_ 16 6 0,s_ 16 15 1]
def c82_r3:List Cd:=[⟨some 7,.nilS 4,none⟩]
def c82_r4:=[f_ 17 6 2,l_ 18 17 1,n_ 19 18,i_ 20 0]
def c82_r5:=[b_ .lss 21 20 19]
def c82_r6:=[m_ 22 20,x_ 23 18 20 4,L_ 24 23 4,a_ 9 [iV 0,iV 0,iV 0,.bool false],m_ 8 22,s_ 9 24 4]
def c82_r7:=[f_ 25 9 3,l_ 26 25 1,N_ 27 26,m_ 28 27,fT 28 29 9 1,lT 28 30 29 1 false,fT 28 31 6 0,lT 28 32 31 1 false,pT 28 33 (.bin .leq (.t 30) (.t 32)),pa 34 28 33]
def c82_r8:List Cd:=[f_ 35 6 2,l_ 36 35 1,m_ 37 8,x_ 38 36 37 4,f_ 39 38 3,⟨none,.store (.t 39) (.c (.bool true)) 1,none⟩]
def c82_r9:List Cd:=[m_ 40 7,L_ 41 9 4,⟨some 42,.mkS 4 [iV 0,iV 0,iV 0,.bool false] 1 [(0,.t 41)],none⟩,⟨some 43,.app 4 32 (.t 40) (.t 42),none⟩,m_ 7 43]
def Acp:=[B_ .add 44 20 1,m_ 20 44]
def c82_l0:IR:=(sr c82_r5 (.seq (.ite (.t 21) .skip (.exit 0)) (.seq (.block 1 (sr c82_r6 (sr c82_r7 (iz 34 (sr c82_r8 (.reg c82_r9)))))) (.reg Acp))))
def Acq:=[m_ 45 7,q_ 46 116 [.t 45,.c (.clo 69 [])]]
def Acr:=tk [L_ 47 6 3,m_ 48 7,⟨some 49,.p (.build (zT 3139) [(2,1,.t 48)]),none⟩] (.alt [L_ 47 6 3] (q_ 50 60 [.t 49]) (.alt [] (s_ 4 47 3) (tk [m_ 5 50] .fin) .stop) .stop)
def c82:Cz:=⟨2,51,[.cell 4 3 true,.t 5],sr c82_r0 (sr c82_r1 (sr c82_r2 (sr c82_r3 (.seq (sr c82_r4 (Ho 0 c82_l0)) (sr Acq (sd Acr .ret))))))⟩
def K82 (D:Bj):Prop:=∀a0 a1 r,g82 a0 a1=some r→D 82 ⟨[.agg (Bb a0),iV a1],[]⟩ ⟨.tup [.agg (Cm r.1 (Ai 0)),oI 1 r.2],[],[]⟩
abbrev Rp:=fun (r:List (Nat×List V))=>(256,Br 0 0 (Ai 259) [])::r
abbrev Ui:=fun (r:List (Nat×V))=>(4,.ptr 256 0)::(6,.ptr 384 0)::r
theorem F82 (H60:K60 C) (H69:K69 C) (H112:hP C) (H116:K116 C):K82 (FO C c82):=by
 intro a0 a1 r h0
 refine f0 (Ba 5 [(1,iV a1),(2,.ptr 128 0),(4,.ptr 256 0)] (Rp [(128,Bb a0)]) (Ax 2 (As (bb h0 fun r1 e2 h0=>Qf (H112 a0 r1 e2) (ar (At rfl (af rfl))) (o_ (Ba 16 (Ui [(7,.own 448 0 4 ([].map Ad))]) (Rp [(384,Br (if a1>a0.clock then a1 else a0.clock) r1.next (Ai 704) r1.Ae)]) (Ax 4 (As (Xf rfl (o_ (Ba 2 (Ui [(7,.own 448 0 4 ([].map Ad)),(18,Ag 704 r1.Ae),(19,iV (r1.Ae.length:Int)),(20,iV 0)]) (Rp [(384,Br (if a1>a0.clock then a1 else a0.clock) r1.next (Ai 704) r1.Ae)]) (Cc (bb h0 fun r74 e75 h0=>Cr (R:=(fun S=>∃p43:List Aa,∃p44:List Aa,(p43,p44)=r74∧S=⟨Ui [(7,Ag 448 p43)],Rp [(384,Br (if a1>a0.clock then a1 else a0.clock) r1.next (Ai 704) p44)],[]⟩)) (Sc a0 a1 r1) (fun s S=>match s with | (p19,p20,p21)=>S=⟨Ui [(7,Ag 448 p19),(18,Ag 704 p20),(19,iV (r1.Ae.length:Int)),(20,iV p21)],Rp [(384,Br (if a1>a0.clock then a1 else a0.clock) r1.next (Ai 704) p20)],[]⟩) e75 _ (Dw (by kernel_rfl)) rfl 0 (fun _=>rfl) ?_ ?_)))))))))))))
 ·rintro S _ hfg ⟨p43,p44,rfl,rfl⟩
  refine Dc _ hfg (Bt (As (st (Cj rfl tv (bb h0 fun r76 e77 h0=>gg h0 fun c78 h0=>st (Ed [] [448] [] false (H116 p43 69 [] (fun z69_0 z69_1=>g69 z69_0 z69_1) (⟨fun _ _ _ _ _=>rfl,fun _ _ _ _ _=>rfl,rfl,fun _ _ _ n=>by cases n<;>rfl,fun _=>rfl⟩) (fun z69_0 z69_1 r h=>H69 z69_0 z69_1 r h) r76 e77) ⟨tv,tv,tv⟩ (by kernel_rfl) (by kernel_rfl) (by kernel_rfl) (by kernel_rfl) (fun _=>At rfl (At (Wi (fun _=>rfl)) rfl)) (Ha (Dc ⟨[(4,.ptr 256 0),(6,.ptr 384 0),(7,Ag 448 r76)],[(256,Br 0 0 (Ai 259) []),(384,Br (if a1>a0.clock then a1 else a0.clock) r1.next (Ai 704) p44)],[]⟩ (fg ⟨rfl,rfl,congrArg (fun z=>some ((z:V))) (Ep c78),tv⟩ ⟨rfl,rfl,tv⟩) (Bt (bb h0 fun r79 e80 h0=>Ax 2 (Bd (Ak tv (c_ (v:=.agg (Br 0 0 (Ai 448) r76)) (Bl ⟨tv,tv⟩ rfl ⟨⟨rfl,rfl,nl rfl⟩,tv⟩) (⟨tv,Gh (H60 (Ar.mk 0 0 r76) r79 e80) (af rfl) (dw [(4,.ptr 256 0),(6,.ptr 384 0),(47,.agg (Br (if a1>a0.clock then a1 else a0.clock) r1.next (Ai 704) p44)),(50,oI 3200 r79)] [(256,Br 0 0 (Ai 259) []),(384,Br (if a1>a0.clock then a1 else a0.clock) r1.next (Ai 704) p44)] hB (Az (Cl rfl rfl tv rfl rfl rfl (nl rfl) (d0 tv (d_ (Ba 2 [(4,.ptr 256 0),(5,oI 3200 r79)] [(256,Br (if a1>a0.clock then a1 else a0.clock) r1.next (Ai 704) p44)] ?_)))) Aq)) Aq⟩))))))))))))))
  obtain rfl:=sj h0
  exact Ka (Dx rfl rfl rfl rfl rfl tv)
 ·rintro ⟨p19,p20,p21⟩ o1 _ K1 rfl h1 hx1 hK1 hE1 hR1
  refine Ba 3 (Ui [(7,Ag 448 p19),(18,Ag 704 p20),(19,iV (r1.Ae.length:Int)),(20,iV p21),(21,.bool (decide (p21<(r1.Ae.length:Int))))]) (Rp [(384,Br (if a1>a0.clock then a1 else a0.clock) r1.next (Ai 704) p20)]) (Bt (Ch h1 (fun oC h1=>?_) (fun oC h1=>?_)))
  ·refine Lr 3 (Jk (fun S=>∃p58:List Aa,∃p59:List Aa,S=⟨Ui [(7,Ag 448 p58),(18,Ag 704 p59),(19,iV (r1.Ae.length:Int)),(20,iV p21)],Rp [(384,Br (if a1>a0.clock then a1 else a0.clock) r1.next (Ai 704) p59)],[]⟩∧Zt p21 p58 p59=some o1) ?_ (fun J61=>?_))
   ·rintro _ ⟨p58,p59,rfl,h1⟩
    refine Ax 4 ?_
    obtain rfl:=sj h1
    exact kn hK1 rfl rfl
   ·refine Bt ?_
    refine As (st (Cj rfl tv (bb h1 fun y62 e63 h1=>Wa rfl rfl e63 (bb h1 fun y64 e65 h1=>lo_ rfl rfl e65 (o_ (Ba 4 (Ui [(7,Ag 448 p19),(8,iV p21),(9,.ptr 576 0),(18,Ag 704 p20),(19,iV (r1.Ae.length:Int)),(20,iV p21)]) (Rp [(384,Br (if a1>a0.clock then a1 else a0.clock) r1.next (Ai 704) p20),(576,Ad y64)]) (bS 12 (bv h1 fun v66 e67 h1=>Dc ⟨Ui [(7,Ag 448 p19),(8,iV p21),(9,.ptr 576 0),(18,Ag 704 p20),(19,iV (r1.Ae.length:Int)),(20,iV p21),(34,.bool v66)],Rp [(384,Br (if a1>a0.clock then a1 else a0.clock) r1.next (Ai 704) p20),(576,Ad y64)],[]⟩ (Dw (by subst e67; kernel_rfl)) (Ch h1 (fun c68 h1=>?_) (fun c68 h1=>?_))))))))))
    ·refine Ax 4 (As (bb h1 fun y69 e70 h1=>Wa rfl rfl e70 (st (c_ (Bl ⟨tv,tv⟩ rfl tv) (bb h1 fun y71 e72 h1=>gQ (Aa.mk y71.id y71.Bg y71.cap true) rfl rfl e72 (o_ (Ba 1 (Ui [(7,Ag 448 p19),(9,.ptr 576 0),(18,Ag 704 (p20.set p21.toNat (Aa.mk y71.id y71.Bg y71.cap true))),(19,iV (r1.Ae.length:Int)),(20,iV p21)]) (Rp [(384,Br (if a1>a0.clock then a1 else a0.clock) r1.next (Ai 704) (p20.set p21.toNat (Aa.mk y71.id y71.Bg y71.cap true))),(576,Ad y64)]) (Ax 3 (As (gg h1 fun c73 h1=>st (Kk (e:=Ad) (l0:=p19) (l1:=([y64]:List Aa)) rfl rfl tv rfl (by decide) c73 (st (Cj rfl tv (Ha (Su ?_)))))))))))))))
     exact jn J61 ⟨_,_,rfl,h1⟩
    ·refine Lc (Su ?_)
     exact jn J61 ⟨_,_,rfl,h1⟩
  ·obtain rfl:=sj h1
   obtain rfl:=hx1 _ rfl
   refine Hq rfl ?_
   exact jn hE1 ⟨_,_,rfl,rfl⟩

/- (loop.example/g00149/impl.Vault).tick$1 -/
def Aby:=[k_ 2 (.bool false)]
def Abz:=[f_ 3 0 6,l_ 4 3 1,B_ .eql 5 4 2,m_ 6 5,lT 6 7 1 1 false,pT 6 8 (.nilc (.t 7)),fT 6 9 8 13,lT 6 10 9 1 false,pT 6 11 (.bin .eql (.t 10) (.c (iV 1))),pa 12 6 11,m_ 2 12]
def c472:Cz:=⟨2,13,[.t 2],sr Aby (rr Abz)⟩
def K472 (D:Bj):Prop:=∀a0 a1 r,mD a0 a1=some r→D 472 ⟨[.iptr (Am a0),.iptr [.iptr (iS a1)]],[]⟩ ⟨.bool r,[],[]⟩
theorem F472:K472 (FO C c472):=by
 intro a0 a1 r h0
 refine f0 (Ba 3 [(0,.iptr (Am a0)),(1,.iptr [.iptr (iS a1)])] [] (bS 11 (As (o_ ?_))))
 obtain rfl:=sj h0
 exact Cn 3

/- slices.IndexFunc[[]loop.example/g00149/impl.Intent,loop.example/g00149/impl.Intent] -/
def AbO:=[i_ 4 0]
def AbP:=[m_ 6 0,n_ 7 6,i_ 8 0]
def AbQ:=[b_ .lss 9 8 7]
def AbR:=[m_ 10 8,m_ 5 10]
def AbS:List Cd:=[m_ 11 1,m_ 12 0,m_ 13 5,x_ 14 12 13 2,L_ 15 14 2,⟨some 16,.callv (.t 11) [.t 15],none⟩]
def AbT:=[m_ 17 5,m_ 4 17]
def AbU:=[B_ .add 18 8 1,m_ 8 18]
def AbN:IR:=(sr AbQ (.seq (.ite (.t 9) .skip (.exit 0)) (.seq (.block 1 (sr AbR (sr AbS (iz 16 (rr AbT))))) (.reg AbU))))
def AbV:=[i_ 4 (-1)]
def c475:Cz:=⟨2,19,[.t 4],sr AbO (.seq (sr AbP (Ho 0 AbN)) (rr AbV))⟩
def K475 (C:Bj) (D:Bj:=C):Prop:=∀(a0:List Aj) (f1:Nat) (k1:List V) (is1:Aj→Option Bool) (hs1:Io k1) (hf1:∀(x0:Aj) r,is1 x0=some r→C f1 ⟨.agg (Bq x0)::k1,[]⟩ ⟨.bool r,[],[]⟩) (r:Int),g475 a0 is1=some r→D 475 ⟨[Bm a0,.clo f1 k1],[]⟩ ⟨iV r,[],[]⟩
theorem F475:K475 C (FO C c475):=by
 intro a0 f1 k1 is1 hs1 hf1 r h0
 refine f0 (Ba 3 [(0,Bm a0),(1,.clo f1 k1)] [] (Ax 3 (As (Jr rfl (o_ (Ba 2 [(0,Bm a0),(1,.clo f1 k1),(7,iV (a0.length:Int)),(8,iV 0)] [] (Cc (bb h0 fun r21 e22 h0=>Cr (R:=(fun S=>.inl ()=r21∧S=⟨[],[],[]⟩)) (oR a0 is1) (fun s S=>match s with | p7=>S=⟨[(0,Bm a0),(1,.clo f1 k1),(7,iV (a0.length:Int)),(8,iV p7)],[],[]⟩) e22 _ (Dw (by kernel_rfl)) rfl 0 (fun _=>rfl) ?_ ?_))))))))
 ·rintro S _ hfg ⟨rfl,rfl⟩
  refine Dc _ hfg ?_
  obtain rfl:=sj h0
  exact Cn 4
 ·rintro p7 o1 _ K1 rfl h1 hx1 hK1 hE1 hR1
  refine Ba 3 [(0,Bm a0),(1,.clo f1 k1),(7,iV (a0.length:Int)),(8,iV p7),(9,.bool (decide (p7<(a0.length:Int))))] [] (Bt (Ch h1 (fun c15 h1=>?_) (fun c15 h1=>?_)))
  ·refine Ba 8 [(0,Bm a0),(1,.clo f1 k1),(5,iV p7),(7,iV (a0.length:Int)),(8,iV p7)] [] (Ax 4 (As (bb h1 fun y16 e17 h1=>Nr rfl rfl e17 (st (c_ (v:=.agg (Bq y16)) (Bl ⟨tv,tv⟩ rfl (nl rfl)) (bb h1 fun r18 e19 h1=>st (Gt (r:=.bool r18) rfl false (hf1 _ r18 e19) ⟨tv,tv⟩ (At rfl hs1.2.2.1) (Be rfl (hs1.2.1 _ _ _ _ _)) (fun _=>rfl) (o_ (Ba 1 [(0,Bm a0),(1,.clo f1 k1),(5,iV p7),(7,iV (a0.length:Int)),(8,iV p7),(16,.bool r18)] [] (Ch h1 (fun kP h1=>?_) (fun kP h1=>?_)))))))))))
   ·obtain rfl:=sj h1
    obtain rfl:=hx1 _ rfl
    obtain rfl:=sj h0
    exact Wv 5 hR1
   ·refine Ax 6 ?_
    obtain rfl:=sj h1
    exact kn hK1 rfl rfl
  ·obtain rfl:=sj h1
   obtain rfl:=hx1 _ rfl
   refine Hq rfl ?_
   exact jn hE1 ⟨rfl,rfl⟩

/- slices.DeleteFunc[[]loop.example/g00149/impl.Intent,loop.example/g00149/impl.Intent] -/
def AbB:List Cd:=[⟨some 4,.nilS 2,none⟩]
def AbC:=[m_ 8 0,m_ 9 1,q_ 10 475 [.t 8,.t 9],m_ 5 10]
def AbD:=[m_ 11 5,B_ .eql 12 11 (-1)]
def AbE:=[m_ 13 0,m_ 4 13]
def AbF:=[m_ 14 5,B_ .add 15 14 1,m_ 6 15]
def AbG:=[m_ 16 6,m_ 17 0,n_ 18 17,b_ .lss 19 16 18]
def AbH:=[m_ 22 0,m_ 23 6,x_ 24 22 23 2,L_ 25 24 2,a_ 7 [iV 0,.bool false],s_ 7 25 2]
def AbI:List Cd:=[m_ 26 1,L_ 27 7 2,⟨some 28,.callv (.t 26) [.t 27],none⟩,N_ 29 28]
def AbJ:=[m_ 30 0,m_ 31 5,L_ 32 7 2,x_ 33 30 31 2,s_ 33 32 2]
def AbK:=[m_ 34 5,B_ .add 35 34 1,m_ 5 35]
def BJ:=[m_ 20 6,B_ .add 21 20 1,m_ 6 21]
def AbA:IR:=(.seq (sr AbG (.ite (.t 19) .skip (.exit 0))) (.seq (.block 1 (sr AbH (sr AbI (iz 29 (sr AbJ (.reg AbK)))))) (.reg BJ)))
def BK:List Cd:=[m_ 36 0,m_ 37 5,⟨some 38,.p (.slice (.t 36) (some (.t 37)) none 2),none⟩,⟨none,.clear 2 [iV 0,.bool false] (.t 38),none⟩]
def BL:List Cd:=[m_ 39 0,m_ 40 5,⟨some 41,.p (.slice (.t 39) none (some (.t 40)) 2),none⟩,m_ 4 41]
def c473:Cz:=⟨2,42,[.t 4],sr AbB (sr AbC (.seq (sr AbD (iz 12 (rr AbE))) (.seq (sr AbF (Ho 0 AbA)) (sr BK (rr BL)))))⟩
def K473 (C:Bj) (D:Bj:=C):Prop:=∀(a0:List Aj) (f1:Nat) (k1:List V) (is1:Aj→Option Bool) (hs1:Io k1) (hf1:∀(x0:Aj) r,is1 x0=some r→C f1 ⟨.agg (Bq x0)::k1,[]⟩ ⟨.bool r,[],[]⟩) (r:(List Aj)),CQ a0 is1=some r→D 473 ⟨[Bo 1024000 a0,.clo f1 k1],[]⟩ ⟨Bo 0 r,[],[]⟩
theorem F473 (H475:K475 C):K473 C (FO C c473):=by
 intro a0 f1 k1 is1 hs1 hf1 r h0
 refine f0 (Bt (As (st (dU (Ha (Dc ⟨[(0,Bo 1024000 a0),(1,.clo f1 k1)],[],[]⟩ (fg ⟨rfl,congrArg (fun z=>some z) (iR hs1),tv⟩ tv) (Ax 3 (As (bb h0 fun r1 e2 h0=>st (Ci (r:=iV r1) false (H475 a0 f1 k1 is1 hs1 hf1 r1 e2) ⟨tv,tv,tv⟩ rfl (Be rfl (Be (Eo hs1) rfl)) (fun _=>rfl) (o_ (Ba 8 [(0,Bo 1024000 a0),(1,.clo f1 k1),(5,iV r1),(12,.bool (r1==(-1)))] [] (Ch h0 (fun c3 h0=>?_) (fun c3 h0=>?_))))))))))))))
 ·obtain rfl:=sj h0
  exact Cn 5
 ·refine Ba 8 [(0,Bo 1024000 a0),(1,.clo f1 k1),(5,iV r1),(6,iV (wi (r1+1)))] [] (Cc (bb h0 fun r66 e67 h0=>Cr (R:=(fun S=>∃p38:List Aj,∃p39:Int,(p38,p39)=r66∧S=⟨[(0,Bo 1024000 p38),(5,iV p39)],[],[]⟩)) (oQ is1) (fun s S=>match s with | (p18,p19,p20)=>S=⟨[(0,Bo 1024000 p18),(1,.clo f1 k1),(5,iV p19),(6,iV p20)],[],[]⟩) e67 _ (Dw (by kernel_rfl)) rfl 0 (fun _=>rfl) ?_ ?_))
  ·rintro S _ hfg ⟨p38,p39,rfl,rfl⟩
   refine Dc _ hfg (Ax 3 (As (bb h0 fun s68 e69 h0=>st (c_ (Ew (e:=Bq) (y:=s68) rfl rfl tv ⟨tv,tv⟩ rfl rfl e69) (st (clear_ (e:=Bq) (z:=(Aj.mk 0 false)) rfl rfl (Ha (Dc ⟨[(0,Bo 1024000 (ovl p38 p39.toNat (List.replicate s68.length (Aj.mk 0 false)))),(5,iV p39)],[],[]⟩ (fg ⟨congrArg (fun z=>some ((.own 1024000 0 2 z:V))) Jg,rfl,tv⟩ tv) (Ax 3 (As (bb h0 fun s70 e71 h0=>st (c_ (Ew (e:=Bq) (y:=s70) rfl rfl tv ⟨tv,tv⟩ rfl rfl e71) (o_ ?_)))))))))))))
   obtain rfl:=sj h0
   exact Cn 3
  ·rintro ⟨p18,p19,p20⟩ o1 _ K1 rfl h1 hx1 hK1 hE1 hR1
   refine Ax 4 (As (Xf rfl (o_ (Ba 2 [(0,Bo 1024000 p18),(1,.clo f1 k1),(5,iV p19),(6,iV p20),(19,.bool (decide (p20<(p18.length:Int))))] [] (Ch h1 (fun c40 h1=>?_) (fun c40 h1=>?_))))))
   ·refine Lr 3 (Jk (fun S=>∃p52:List Aj,∃p53:Int,S=⟨[(0,Bo 1024000 p52),(1,.clo f1 k1),(5,iV p53),(6,iV p20)],[],[]⟩∧fL p20 p52 p53=some o1) ?_ (fun J54=>?_))
    ·rintro _ ⟨p52,p53,rfl,h1⟩
     refine Ax 5 ?_
     obtain rfl:=sj h1
     exact kn hK1 rfl rfl
    ·refine Bt ?_
     refine Ax 2 (As (bb h1 fun y55 e56 h1=>Wa rfl rfl e56 (bb h1 fun y57 e58 h1=>lo_ rfl rfl e58 (st (Ce (sw ⟨[(0,Bo 1024000 p18),(1,.clo f1 k1),(5,iV p19),(6,iV p20),(7,.ptr 448 0),(25,.agg (Bq y57))],[(448,[iV 0,.bool false])],[]⟩ (fg ⟨rfl,congrArg (fun z=>some z) (iR hs1),rfl,rfl,rfl,rfl,tv⟩ ⟨rfl,tv⟩) (Cl rfl rfl tv rfl rfl rfl (nl rfl) (o_ (Ba 1 [(0,Bo 1024000 p18),(1,.clo f1 k1),(5,iV p19),(6,iV p20),(7,.ptr 448 0)] [(448,Bq y57)] (Ax 3 (As (bb h1 fun r59 e60 h1=>st (Gt (r:=.bool r59) rfl false (hf1 _ r59 e60) ⟨tv,tv⟩ (At rfl hs1.2.2.1) (Be rfl (hs1.2.1 _ _ _ _ _)) (fun _=>rfl) (o_ (Ba 2 [(0,Bo 1024000 p18),(1,.clo f1 k1),(5,iV p19),(6,iV p20),(7,.ptr 448 0),(29,.bool (!r59))] [(448,Bq y57)] (Ch h1 (fun c61 h1=>?_) (fun c61 h1=>?_)))))))))))))))))
     ·refine Ax 4 (As (bb h1 fun y62 e63 h1=>Wa rfl rfl e63 (bb h1 fun y64 e65 h1=>gQ y57 rfl rfl e65 (o_ (Ba 1 [(0,Bo 1024000 (p18.set p19.toNat y57)),(1,.clo f1 k1),(5,iV p19),(6,iV p20)] [] (Ax 5 ?_))))))
      exact jn J54 ⟨_,_,rfl,h1⟩
     ·refine Lc (Su ?_)
      exact jn J54 ⟨_,_,rfl,h1⟩
   ·obtain rfl:=sj h1
    obtain rfl:=hx1 _ rfl
    refine Hq rfl ?_
    exact jn hE1 ⟨_,_,rfl,rfl⟩

/- (loop.example/g00149/impl.Vault).tick$2 -/
def AbL:=[X_ 2 0,k_ 3 (.bool false)]
def AbM:=[f_ 4 2 0,l_ 5 4 1,f_ 6 1 0,l_ 7 6 1,b_ .eql 8 5 7,m_ 3 8]
def c474:Cz:=⟨2,9,[.t 3],sr AbL (rr AbM)⟩
def K474 (D:Bj):Prop:=∀a0 a1 r,CR a0 a1=some r→D 474 ⟨[.agg (Bq a0),.iptr (Bq a1)],[]⟩ ⟨.bool r,[],[]⟩
theorem F474:K474 (FO C c474):=by
 intro a0 a1 r h0
 refine f0 (?_)
 obtain rfl:=sj h0
 exact Cn 14

/- (loop.example/g00149/impl.Vault).tick -/
def AaT:=[X_ 2 0,X_ 3 1,a_ 4 (zV 259 260 261),a_ 5 [iV 0,iV 0]]
def AaU:List Cd:=[L_ 16 2 6,L_ 17 3 7,⟨some 18,.p (.build [iV 0,iV 0,.own 1155 0 4 [],.own 1156 0 2 [],.own 1157 0 1 [],.bool false,iV 0,iV 0,iV 0,iV 0,iV 0,.own 1164 0 1 [],iV 0,iV 0] [(0,6,.t 16),(6,7,.t 17)]),none⟩,X_ 19 18,a_ 6 [.undef],s_ 6 19 1]
def AaV:=tk [l_ 21 6 1,f_ 22 2 0,L_ 23 22 3,f_ 24 3 4,l_ 25 24 1] (.alt [l_ 21 6 1] (q_ 26 82 [.t 23,.t 25]) (tk [m_ 20 26,e_ 27 20 0,e_ 28 20 1,iQ 29 (.nilc (.t 21)),f_ 30 29 0,f_ 31 30 0] (.alt [e_ 28 20 1] (s_ 31 27 3) .fin .stop)) .stop)
def AaW:=[f_ 32 3 6,l_ 33 32 1,B_ .eql 34 33 1]
def AaX:=[l_ 35 6 1,iQ 36 (.nilc (.t 35)),f_ 37 36 0,L_ 38 37 6,q_ 39 470 [.t 38],e_ 40 39 0,e_ 41 39 1,s_ 4 40 6,s_ 5 41 2]
def AaY:=[iQ 42 (.fn 472 [.t 3,.t 6]),m_ 7 42]
def AaZ:=[l_ 43 6 1,iQ 44 (.nilc (.t 43)),f_ 45 44 0,f_ 46 45 0,f_ 47 46 2,l_ 48 47 1,q_ 49 66 [.t 48],n_ 50 49,i_ 51 0]
def Aba:=[b_ .lss 52 51 50]
def Abb:=[x_ 53 49 51 4,L_ 54 53 4,a_ 9 [iV 0,iV 0,iV 0,.bool false],s_ 9 54 4]
def Abc:=[f_ 55 9 3,l_ 56 55 1,N_ 57 56]
def AR:=[l_ 58 6 1,f_ 59 9 0,l_ 60 59 1,q_ 61 471 [.t 58,.t 60,.c (.bool false)],m_ 10 61]
def AS:=tk [l_ 63 6 1,iQ 64 (.nilc (.t 63)),f_ 65 64 0,f_ 66 65 0,L_ 67 66 3,f_ 68 9 0,l_ 69 68 1] (.alt [] (q_ 70 77 [.t 67,.t 69]) (tk [m_ 62 70,e_ 71 62 0,e_ 72 62 1,m_ 11 71,m_ 12 72] .fin) .stop)
def AT:=[m_ 73 10,B_ .eql 74 73 0]
def AU:=tk [l_ 75 6 1,l_ 76 6 1,iQ 77 (.nilc (.t 76)),f_ 78 77 0,f_ 79 78 0,L_ 80 79 3,m_ 81 11] (.alt [l_ 75 6 1] (q_ 82 78 [.t 80,.t 81]) (tk [iQ 83 (.nilc (.t 75)),f_ 84 83 0,f_ 85 84 0] (.alt [] (s_ 85 82 3) .fin .stop)) .stop)
def AV:List Cd:=[m_ 86 7,⟨some 87,.callv (.t 86) [],none⟩]
def AW:=[l_ 88 6 1,iQ 89 (.nilc (.t 88)),f_ 90 89 0,L_ 91 90 6,q_ 92 470 [.t 91],e_ 93 92 0,e_ 94 92 1,s_ 4 93 6,s_ 5 94 2]
def AX:=[B_ .add 95 51 1,m_ 51 95]
def AaR:IR:=(sr Aba (.seq (.ite (.t 52) .skip (.exit 0)) (.seq (.block 1 (sr Abb (.seq (sr Abc (iz 57 (.exit 1))) (sr AR (.seq (sd AS (sr AT (iz 74 (.draw AU)))) (sr AV (iz 87 (rr AW)))))))) (.reg AX))))
def AY:=[l_ 96 6 1,iQ 97 (.nilc (.t 96)),f_ 98 97 0,f_ 99 98 3,l_ 100 99 1,q_ 101 469 [.t 100],n_ 102 101,i_ 103 0]
def AZ:=[b_ .lss 104 103 102]
def BA:=[x_ 105 101 103 2,L_ 106 105 2,a_ 14 [iV 0,.bool false],s_ 14 106 2]
def BB:=[f_ 107 14 1,l_ 108 107 1,N_ 109 108]
def BC:=[l_ 110 6 1,f_ 111 14 0,l_ 112 111 1,q_ 113 471 [.t 110,.t 112,.c (.bool false)],m_ 15 113]
def BD:=[m_ 114 15,B_ .eql 115 114 0]
def BE:=tk [l_ 116 6 1,l_ 117 6 1,iQ 118 (.nilc (.t 117)),f_ 119 118 0,f_ 120 119 3,l_ 121 120 1,iQ 122 (.fn 474 [.t 14])] (.alt [l_ 116 6 1] (q_ 123 473 [.t 121,.t 122]) (tk [iQ 124 (.nilc (.t 116)),f_ 125 124 0,f_ 126 125 3] (.alt [] (s_ 126 123 1) .fin .stop)) .stop)
def BF:List Cd:=[m_ 127 7,⟨some 128,.callv (.t 127) [],none⟩]
def BG:=[l_ 129 6 1,iQ 130 (.nilc (.t 129)),f_ 131 130 0,L_ 132 131 6,q_ 133 470 [.t 132],e_ 134 133 0,e_ 135 133 1,s_ 4 134 6,s_ 5 135 2]
def BH:=[B_ .add 136 103 1,m_ 103 136]
def AaS:IR:=(sr AZ (.seq (.ite (.t 104) .skip (.exit 2)) (.seq (.block 3 (sr BA (.seq (sr BB (iz 109 (.exit 3))) (sr BC (.seq (sr BD (iz 115 (.draw BE))) (sr BF (iz 128 (rr BG)))))))) (.reg BH))))
def BI:=[l_ 137 6 1,iQ 138 (.nilc (.t 137)),f_ 139 138 0,L_ 140 139 6,iQ 141 (.build [iV 0,iV 0] []),s_ 4 140 6,s_ 5 141 2]
def c467:Cz:=⟨2,142,[.cell 4 6 true,.cell 5 2 true],sr AaT (sr AaU (sd AaV (.seq (sr AaW (iz 34 (rr AaX))) (sr AaY (.seq (sr AaZ (Ho 0 AaR)) (.seq (sr AY (Ho 2 AaS)) (rr BI)))))))⟩
def K467 (D:Bj):Prop:=∀a0 a1 r,AdC a0 a1=some r→D 467 ⟨[.agg (Al a0 (Ai 1024000) (Ai 1024001) (Ai 1024002)),.agg (Am a1)],[]⟩ ⟨.tup [.agg (Al r.1 (Ai 0) (Ai 1) (Ai 2)),.agg (Af r.2)],[],[]⟩
abbrev Ei:=fun x0 (r:List (Nat×List V))=>(192,Am x0)::(256,Ao 0 0 (Ai 259) [] (Ai 260) [] (Ai 261) [] false)::(320,[iV 0,iV 0])::(384,[.ptr 1216 0])::r
abbrev Ez:=fun (r:List (Nat×V))=>(4,.ptr 256 0)::(5,.ptr 320 0)::(6,.ptr 384 0)::(7,.clo 472 [.ptr 192 0,.ptr 384 0])::r
abbrev aU:=fun (r:List (Nat×List V))=>(256,Ao 0 0 (Ai 259) [] (Ai 260) [] (Ai 261) [] false)::(320,[iV 0,iV 0])::r
abbrev Kw:=fun (r:List (Nat×V))=>(4,.ptr 256 0)::(5,.ptr 320 0)::r
theorem F467 (H66:K66 C) (H77:K77 C) (H78:K78 C) (H82:K82 C) (H469:GQ C) (H470:GR C) (H471:GS C) (H472:K472 C) (H473:K473 C) (H474:K474 C):K467 (FO C c467):=by
 intro a0 a1 r h0
 refine f0 (Ba 6 (Kw [(2,.ptr 128 0),(3,.ptr 192 0)]) (aU [(128,Al a0 (Ai 1024000) (Ai 1024001) (Ai 1024002)),(192,Am a1)]) (Ax 3 (As (st (c_ (v:=.agg (Cv a0.Ac.clock a0.Ac.next (Ai 1024000) a0.Ac.Ae (Ai 1024001) a0.Ab (Ai 1024002) a0.Ah a0.An a1.kind a1.id a1.ttl a1.Dr a1.clock u_ a1.Bu a1.stop 0)) (Bl ⟨tv,tv,tv⟩ rfl ⟨⟨rfl,rfl,nl rfl⟩,⟨rfl,rfl,nl rfl⟩,tv⟩) (o_ (Ba 4 (Kw [(2,.ptr 128 0),(3,.ptr 192 0),(6,.ptr 384 0)]) (Ei a1 [(128,Al a0 (Ai 1024000) (Ai 1024001) (Ai 1024002)),(1216,Cv a0.Ac.clock a0.Ac.next (Ai 1024000) a0.Ac.Ae (Ai 1024001) a0.Ab (Ai 1024002) a0.Ah a0.An a1.kind a1.id a1.ttl a1.Dr a1.clock u_ a1.Bu a1.stop 0)]) (Bt (bb h0 fun r1 e2 h0=>Ax 5 (Bd (Gh (H82 a0.Ac a1.clock r1 e2) (ar (At rfl (af (af rfl)))) (dw [(3,.ptr 192 0),(4,.ptr 256 0),(5,.ptr 320 0),(6,.ptr 384 0),(21,.ptr 1216 0),(26,.tup [.agg (Cm r1.1 (Ai 1664)),oI 1665 r1.2])] [(192,Am a1),(256,Ao 0 0 (Ai 259) [] (Ai 260) [] (Ai 261) [] false),(320,[iV 0,iV 0]),(384,[.ptr 1216 0]),(1216,Cv a0.Ac.clock a0.Ac.next (Ai 1024000) a0.Ac.Ae (Ai 1024001) a0.Ab (Ai 1024002) a0.Ah a0.An a1.kind a1.id a1.ttl a1.Dr a1.clock u_ a1.Bu a1.stop 0)] hB (d_ (Ax 6 (Bd (Az (Cl rfl rfl tv rfl rfl rfl (nl rfl) (d0 hB (d_ (Ba 1 (Kw [(3,.ptr 192 0),(6,.ptr 384 0)]) (Ei a1 [(1216,Cv r1.1.clock r1.1.next (Ai 1664) r1.1.Ae (Ai 1024001) a0.Ab (Ai 1024002) a0.Ah a0.An a1.kind a1.id a1.ttl a1.Dr a1.clock u_ a1.Bu a1.stop 0)]) (Bt (Bt ?_)))))) Aq))))) Aq)))))))))))
 refine Ba 4 (Kw [(3,.ptr 192 0),(6,.ptr 384 0),(34,.bool (a1.stop==1))]) (Ei a1 [(1216,Cv r1.1.clock r1.1.next (Ai 1664) r1.1.Ae (Ai 1024001) a0.Ab (Ai 1024002) a0.Ah a0.An a1.kind a1.id a1.ttl a1.Dr a1.clock u_ a1.Bu a1.stop 0)]) (Ch h0 (fun c3 h0=>?_) (fun c3 h0=>?_))
 ·refine Ax 5 (As (bb h0 fun r4 e5 h0=>Xd [] [] [1664,1024001,1024002] (H470 (Ap.mk r1.1 a0.Ab a0.Ah a0.An) r4 e5) (At (ar (At rfl (af (af (af (ar (At rfl (At rfl rfl)))))))) rfl) (sw ⟨Kw [(39,.tup [.agg (Al r4.1 (Ai 2496) (Ai 2497) (Ai 2498)),.agg (Af r4.2)])],aU [],[]⟩ (Dw (by kernel_rfl)) (c_ (Bl ⟨tv,tv⟩ rfl tv) (o_ (Ba 4 (Kw []) [(256,Al r4.1 (Ai 2496) (Ai 2497) (Ai 2498)),(320,Af r4.2)] ?_))))))
  obtain rfl:=sj h0
  exact Ka (Dx rfl rfl rfl rfl rfl tv)
 ·refine Ba 6 (Ez []) (Ei a1 [(1216,Cv r1.1.clock r1.1.next (Ai 1664) r1.1.Ae (Ai 1024001) a0.Ab (Ai 1024002) a0.Ah a0.An a1.kind a1.id a1.ttl a1.Dr a1.clock u_ a1.Bu a1.stop 0)]) (Ax 8 (As (bb h0 fun r6 e7 h0=>Qf (H66 r1.1.Ae r6 e7) (af rfl) (Xf rfl (o_ (Ba 2 (Ez [(49,Ag 3136 r6),(50,iV (r6.length:Int)),(51,iV 0)]) (Ei a1 [(1216,Cv r1.1.clock r1.1.next (Ai 1664) r1.1.Ae (Ai 1024001) a0.Ab (Ai 1024002) a0.Ah a0.An a1.kind a1.id a1.ttl a1.Dr a1.clock u_ a1.Bu a1.stop 0)]) (Cc (bb h0 fun r182 e183 h0=>Cr (R:=(fun S=>∃p108:Int,∃p109:Int,∃p110:List Aa,∃p111:List Aj,∃p112:List Int,∃p113:Bool,∃p114:Int,∃p115:Int,∃p116:Int,∃p117:Int,∃p118:Int,∃p119:List Int,∃p120:Int,∃p121:Int,.inl (p108,p109,p110,p111,p112,p113,p114,p115,p116,p117,p118,p119,p120,p121)=r182∧S=⟨Ez [],Ei a1 [(1216,Cv p108 p109 (Ai 1664) p110 (Ai 1024001) p111 (Ai 1024002) p112 p113 p114 p115 p116 p117 p118 u_ p119 p120 p121)],[]⟩)) (Jy a1 r6) (fun s S=>match s with | (p43,p44,p45,p46,p47,p48,p49,p50,p51,p52,p53,p54,p55,p56,p57)=>S=⟨Ez [(49,Ag 3136 r6),(50,iV (r6.length:Int)),(51,iV p43)],Ei a1 [(1216,Cv p44 p45 (Ai 1664) p46 (Ai 1024001) p47 (Ai 1024002) p48 p49 p50 p51 p52 p53 p54 u_ p55 p56 p57)],[]⟩) e183 _ (Dw (by kernel_rfl)) rfl 0 (fun _=>rfl) ?_ ?_))))))))
  ·rintro S _ hfg ⟨p108,p109,p110,p111,p112,p113,p114,p115,p116,p117,p118,p119,p120,p121,rfl,rfl⟩
   refine Dc _ hfg (Ax 7 (As (bb h0 fun r184 e185 h0=>Qf (H469 p111 r184 e185) (af rfl) (Xf rfl (o_ (Ba 2 (Ez [(101,Bo 6464 r184),(102,iV (r184.length:Int)),(103,iV 0)]) (Ei a1 [(1216,Cv p108 p109 (Ai 1664) p110 (Ai 1024001) p111 (Ai 1024002) p112 p113 p114 p115 p116 p117 p118 u_ p119 p120 p121)]) (Cc (bb h0 fun r344 e345 h0=>Cr (R:=(fun S=>∃p278:Int,∃p279:Int,∃p280:List Aa,∃p281:List Aj,∃p282:List Int,∃p283:Bool,∃p284:Int,∃p285:Int,∃p286:Int,∃p287:Int,∃p288:Int,∃p289:List Int,∃p290:Int,∃p291:Int,.inl (p278,p279,p280,p281,p282,p283,p284,p285,p286,p287,p288,p289,p290,p291)=r344∧S=⟨Kw [(6,.ptr 384 0)],aU [(384,[.ptr 1216 0]),(1216,Cv p278 p279 (Ai 1664) p280 (Ai 1024001) p281 (Ai 1024002) p282 p283 p284 p285 p286 p287 p288 u_ p289 p290 p291)],[]⟩)) (Ig a1 r184) (fun s S=>match s with | (p217,p218,p219,p220,p221,p222,p223,p224,p225,p226,p227,p228,p229,p230,p231)=>S=⟨Ez [(101,Bo 6464 r184),(102,iV (r184.length:Int)),(103,iV p217)],Ei a1 [(1216,Cv p218 p219 (Ai 1664) p220 (Ai 1024001) p221 (Ai 1024002) p222 p223 p224 p225 p226 p227 p228 u_ p229 p230 p231)],[]⟩) e345 _ (Dw (by kernel_rfl)) rfl 2 (fun _=>rfl) ?_ ?_))))))))
   ·rintro S _ hfg ⟨p278,p279,p280,p281,p282,p283,p284,p285,p286,p287,p288,p289,p290,p291,rfl,rfl⟩
    refine Dc _ hfg ?_
    obtain rfl:=sj h0
    exact Cn 10
   ·rintro ⟨p217,p218,p219,p220,p221,p222,p223,p224,p225,p226,p227,p228,p229,p230,p231⟩ o1 _ K1 rfl h1 hx1 hK1 hE1 hR1
    refine Ba 3 (Ez [(101,Bo 6464 r184),(102,iV (r184.length:Int)),(103,iV p217),(104,.bool (decide (p217<(r184.length:Int))))]) (Ei a1 [(1216,Cv p218 p219 (Ai 1664) p220 (Ai 1024001) p221 (Ai 1024002) p222 p223 p224 p225 p226 p227 p228 u_ p229 p230 p231)]) (Bt (Ch h1 (fun c292 h1=>?_) (fun c292 h1=>?_)))
    ·refine Lr 3 (Jk (fun S=>∃p309:Int,∃p310:Int,∃p311:List Aa,∃p312:List Aj,∃p313:List Int,∃p314:Bool,∃p315:Int,∃p316:Int,∃p317:Int,∃p318:Int,∃p319:Int,∃p320:List Int,∃p321:Int,∃p322:Int,S=⟨Ez [(101,Bo 6464 r184),(102,iV (r184.length:Int)),(103,iV p217)],Ei a1 [(1216,Cv p309 p310 (Ai 1664) p311 (Ai 1024001) p312 (Ai 1024002) p313 p314 p315 p316 p317 p318 p319 u_ p320 p321 p322)],[]⟩∧Tu p217 p309 p310 p311 p312 p313 p314 p315 p316 p317 p318 p319 p320 p321 p322=some o1) ?_ (fun J323=>?_))
     ·rintro _ ⟨p309,p310,p311,p312,p313,p314,p315,p316,p317,p318,p319,p320,p321,p322,rfl,h1⟩
      refine Ax 4 ?_
      obtain rfl:=sj h1
      exact kn hK1 rfl rfl
     ·refine Bt ?_
      refine As (bb h1 fun y324 e325 h1=>Wa rfl rfl e325 (bb h1 fun y326 e327 h1=>lo_ rfl rfl e327 (o_ (Ba 10 (Ez [(14,.ptr 896 0),(101,Bo 6464 r184),(102,iV (r184.length:Int)),(103,iV p217),(109,.bool (!y326.Ji))]) (Ei a1 [(896,Bq y326),(1216,Cv p218 p219 (Ai 1664) p220 (Ai 1024001) p221 (Ai 1024002) p222 p223 p224 p225 p226 p227 p228 u_ p229 p230 p231)]) (Ch h1 (fun c328 h1=>?_) (fun c328 h1=>?_))))))
      ·refine ex_ rfl ?_
       exact jn J323 ⟨_,_,_,_,_,_,_,_,_,_,_,_,_,_,rfl,h1⟩
      ·refine Ax 6 (As (bb h1 fun r329 e330 h1=>c2_ [1216] [] [1664,1024001,1024002] (H471 (Cx.mk (Ap.mk (Ar.mk p218 p219 p220) p221 p222 p223) (Bc.mk p224 p225 p226 p227 p228 p229 p230) p231) y326.Ay false r329 e330) (sw ⟨Ez [(14,.ptr 896 0),(101,Bo 6464 r184),(102,iV (r184.length:Int)),(103,iV p217),(113,iV r329.1)],Ei a1 [(896,Bq y326),(1216,Fm r329.2 (Ai 7232) (Ai 7233) (Ai 7234) u_)],[]⟩ (Dw (by kernel_rfl)) (Cj rfl tv (o_ (Ba 7 (Ez [(14,.ptr 896 0),(101,Bo 6464 r184),(102,iV (r184.length:Int)),(103,iV p217),(115,.bool (r329.1==0))]) (Ei a1 [(896,Bq y326),(1216,Fm r329.2 (Ai 7232) (Ai 7233) (Ai 7234) u_)]) (Ld (cb:=(r329.1==0)) (fun S=>∃p334:List Aj,S=⟨Ez [(101,Bo 6464 r184),(102,iV (r184.length:Int)),(103,iV p217)],Ei a1 [(1216,Cv r329.2.v.Ac.clock r329.2.v.Ac.next (Ai 7232) r329.2.v.Ac.Ae (Ai 7872) p334 (Ai 7234) r329.2.v.Ah r329.2.v.An r329.2.a.kind r329.2.a.id r329.2.a.ttl r329.2.a.Dr r329.2.a.clock u_ r329.2.a.Bu r329.2.a.stop r329.2.Gm)],[]⟩∧Qu a1 p217 r329 p334=some o1) rfl ?_ (fun c341 J340=>?_) (fun c341 J340=>?_))))))))
       ·rintro _ ⟨p334,rfl,h1⟩
        refine Ax 3 (As (bb h1 fun r335 e336 h1=>st (Gt (r:=.bool r335) rfl false (H472 a1 (Cx.mk (Ap.mk r329.2.v.Ac p334 r329.2.v.Ah r329.2.v.An) r329.2.a r329.2.Gm) r335 e336) tv rfl rfl (fun _=>rfl) (o_ (Ba 1 (Ez [(101,Bo 6464 r184),(102,iV (r184.length:Int)),(103,iV p217),(128,.bool r335)]) (Ei a1 [(1216,Cv r329.2.v.Ac.clock r329.2.v.Ac.next (Ai 7232) r329.2.v.Ac.Ae (Ai 7872) p334 (Ai 7234) r329.2.v.Ah r329.2.v.An r329.2.a.kind r329.2.a.id r329.2.a.ttl r329.2.a.Dr r329.2.a.clock u_ r329.2.a.Bu r329.2.a.stop r329.2.Gm)]) (Ch h1 (fun c337 h1=>?_) (fun c337 h1=>?_)))))))
        ·refine Ax 5 (As (bb h1 fun r338 e339 h1=>Xd [] [] [7232,7872,7234] (H470 (Ap.mk r329.2.v.Ac p334 r329.2.v.Ah r329.2.v.An) r338 e339) (At (ar (At rfl (af (af (af (ar (At rfl (At rfl rfl)))))))) rfl) (sw ⟨Kw [(133,.tup [.agg (Al r338.1 (Ai 8512) (Ai 8513) (Ai 8514)),.agg (Af r338.2)])],aU [],[]⟩ (Dw (by kernel_rfl)) (c_ (Bl ⟨tv,tv⟩ rfl tv) (o_ (Ba 4 (Kw []) [(256,Al r338.1 (Ai 8512) (Ai 8513) (Ai 8514)),(320,Af r338.2)] ?_))))))
         obtain rfl:=sj h1
         obtain rfl:=hx1 _ rfl
         obtain rfl:=sj h0
         exact Ka (hR1 _ (Dx rfl rfl rfl rfl rfl tv))
        ·refine Lc (Su ?_)
         exact J323 _ _ (eV [] [(7232,1664),(7872,1024001),(7234,1024002)] rfl (by kernel_rfl)) ⟨_,_,_,_,_,_,_,_,_,_,_,_,_,_,rfl,h1⟩
       ·replace h1:=ip c341 h1
        refine bb h1 fun r342 e343 h1=>Ax 7 (Bd (Az (Ed [] [] [7233] false (H473 r329.2.v.Ab 474 [.iptr (Bq y326)] (fun z474_0=>CR z474_0 y326) (⟨fun _ _ _ _ _=>rfl,fun _ _ _ _ _=>rfl,rfl,fun _ _ _ n=>by cases n<;>rfl,fun _=>rfl⟩) (fun z474_0 r h=>H474 z474_0 y326 r h) r342 e343) ⟨tv,tv,tv⟩ (by kernel_rfl) (by kernel_rfl) (by kernel_rfl) (by kernel_rfl) (fun _=>At (af rfl) rfl) (dw [(4,.ptr 256 0),(5,.ptr 320 0),(6,.ptr 384 0),(7,.clo 472 [.ptr 192 0,.ptr 384 0]),(101,Bo 6464 r184),(102,iV (r184.length:Int)),(103,iV p217),(116,.ptr 1216 0),(123,Bo 7872 r342)] [(192,Am a1),(256,Ao 0 0 (Ai 259) [] (Ai 260) [] (Ai 261) [] false),(320,[iV 0,iV 0]),(384,[.ptr 1216 0]),(1216,[iV r329.2.v.Ac.clock,iV r329.2.v.Ac.next,Ag 7232 r329.2.v.Ac.Ae,.undef,oI 7234 r329.2.v.Ah,.bool r329.2.v.An,iV r329.2.a.kind,iV r329.2.a.id,iV r329.2.a.ttl,iV r329.2.a.Dr,iV r329.2.a.clock,lI r329.2.a.Bu,iV r329.2.a.stop,iV r329.2.Gm])] hB (d_ (Ax 3 (Bd (Az (Cl rfl rfl tv rfl rfl rfl (nl rfl) (d0 tv (Hc ?_))) Aq)))))) Aq))
        exact jn J340 ⟨_,rfl,h1⟩
       ·replace h1:=aB c341 h1
        refine Lc ?_
        exact J340 _ _ (eV [] [(7233,7872)] rfl (by kernel_rfl)) ⟨_,rfl,h1⟩
    ·obtain rfl:=sj h1
     obtain rfl:=hx1 _ rfl
     refine Hq rfl ?_
     exact jn hE1 ⟨_,_,_,_,_,_,_,_,_,_,_,_,_,_,rfl,rfl⟩
  ·rintro ⟨p43,p44,p45,p46,p47,p48,p49,p50,p51,p52,p53,p54,p55,p56,p57⟩ o1 _ K1 rfl h1 hx1 hK1 hE1 hR1
   refine Ba 3 (Ez [(49,Ag 3136 r6),(50,iV (r6.length:Int)),(51,iV p43),(52,.bool (decide (p43<(r6.length:Int))))]) (Ei a1 [(1216,Cv p44 p45 (Ai 1664) p46 (Ai 1024001) p47 (Ai 1024002) p48 p49 p50 p51 p52 p53 p54 u_ p55 p56 p57)]) (Bt (Ch h1 (fun LP h1=>?_) (fun LP h1=>?_)))
   ·refine Lr 3 (Jk (fun S=>∃p143:Int,∃p144:Int,∃p145:List Aa,∃p146:List Aj,∃p147:List Int,∃p148:Bool,∃p149:Int,∃p150:Int,∃p151:Int,∃p152:Int,∃p153:Int,∃p154:List Int,∃p155:Int,∃p156:Int,S=⟨Ez [(49,Ag 3136 r6),(50,iV (r6.length:Int)),(51,iV p43)],Ei a1 [(1216,Cv p143 p144 (Ai 1664) p145 (Ai 1024001) p146 (Ai 1024002) p147 p148 p149 p150 p151 p152 p153 u_ p154 p155 p156)],[]⟩∧Tt p43 p143 p144 p145 p146 p147 p148 p149 p150 p151 p152 p153 p154 p155 p156=some o1) ?_ (fun J157=>?_))
    ·rintro _ ⟨p143,p144,p145,p146,p147,p148,p149,p150,p151,p152,p153,p154,p155,p156,rfl,h1⟩
     refine Ax 4 ?_
     obtain rfl:=sj h1
     exact kn hK1 rfl rfl
    ·refine Bt ?_
     refine As (bb h1 fun y158 e159 h1=>Wa rfl rfl e159 (bb h1 fun y160 e161 h1=>lo_ rfl rfl e161 (o_ (Ba 10 (Ez [(9,.ptr 576 0),(49,Ag 3136 r6),(50,iV (r6.length:Int)),(51,iV p43),(57,.bool (!y160.Bz))]) (Ei a1 [(576,Ad y160),(1216,Cv p44 p45 (Ai 1664) p46 (Ai 1024001) p47 (Ai 1024002) p48 p49 p50 p51 p52 p53 p54 u_ p55 p56 p57)]) (Ch h1 (fun WJ h1=>?_) (fun WJ h1=>?_))))))
     ·refine ex_ rfl ?_
      exact jn J157 ⟨_,_,_,_,_,_,_,_,_,_,_,_,_,_,rfl,h1⟩
     ·refine Ax 6 (As (bb h1 fun r163 e164 h1=>c2_ [1216] [] [1664,1024001,1024002] (H471 (Cx.mk (Ap.mk (Ar.mk p44 p45 p46) p47 p48 p49) (Bc.mk p50 p51 p52 p53 p54 p55 p56) p57) y160.id false r163 e164) (sw ⟨Ez [(9,.ptr 576 0),(49,Ag 3136 r6),(50,iV (r6.length:Int)),(51,iV p43),(61,iV r163.1)],Ei a1 [(576,Ad y160),(1216,Fm r163.2 (Ai 3904) (Ai 3905) (Ai 3906) u_)],[]⟩ (Dw (by kernel_rfl)) (Cj rfl tv (o_ (Ba 1 (Ez [(9,.ptr 576 0),(10,iV r163.1),(49,Ag 3136 r6),(50,iV (r6.length:Int)),(51,iV p43)]) (Ei a1 [(576,Ad y160),(1216,Fm r163.2 (Ai 3904) (Ai 3905) (Ai 3906) u_)]) (Bt (Bt (bb h1 fun r165 e166 h1=>Ax 7 (Bd (Gh (H77 r163.2.v.Ac y160.id r165 e166) rfl (dw [(4,.ptr 256 0),(5,.ptr 320 0),(6,.ptr 384 0),(7,.clo 472 [.ptr 192 0,.ptr 384 0]),(10,iV r163.1),(49,Ag 3136 r6),(50,iV (r6.length:Int)),(51,iV p43),(70,.tup [iV r165.1,.bool r165.2])] [(192,Am a1),(256,Ao 0 0 (Ai 259) [] (Ai 260) [] (Ai 261) [] false),(320,[iV 0,iV 0]),(384,[.ptr 1216 0]),(1216,Fm r163.2 (Ai 3904) (Ai 3905) (Ai 3906) u_)] tv (d_ (Ba 6 (Ez [(10,iV r163.1),(11,iV r165.1),(49,Ag 3136 r6),(50,iV (r6.length:Int)),(51,iV p43)]) (Ei a1 [(1216,Fm r163.2 (Ai 3904) (Ai 3905) (Ai 3906) u_)]) (Bt (As ?_))))) Aq)))))))))))
      refine o_ (Ba 3 (Ez [(11,iV r165.1),(49,Ag 3136 r6),(50,iV (r6.length:Int)),(51,iV p43),(74,.bool (r163.1==0))]) (Ei a1 [(1216,Fm r163.2 (Ai 3904) (Ai 3905) (Ai 3906) u_)]) (Ld (cb:=(r163.1==0)) (fun S=>∃p170:Int,∃p171:Int,∃p172:List Aa,S=⟨Ez [(49,Ag 3136 r6),(50,iV (r6.length:Int)),(51,iV p43)],Ei a1 [(1216,Cv p170 p171 (Ai 5248) p172 (Ai 3905) r163.2.v.Ab (Ai 3906) r163.2.v.Ah r163.2.v.An r163.2.a.kind r163.2.a.id r163.2.a.ttl r163.2.a.Dr r163.2.a.clock u_ r163.2.a.Bu r163.2.a.stop r163.2.Gm)],[]⟩∧Qt a1 p43 r163 p170 p171 p172=some o1) rfl ?_ (fun c179 J178=>?_) (fun c179 J178=>?_)))
      ·rintro _ ⟨p170,p171,p172,rfl,h1⟩
       refine Ax 3 (As (bb h1 fun r173 e174 h1=>st (Gt (r:=.bool r173) rfl false (H472 a1 (Cx.mk (Ap.mk (Ar.mk p170 p171 p172) r163.2.v.Ab r163.2.v.Ah r163.2.v.An) r163.2.a r163.2.Gm) r173 e174) tv rfl rfl (fun _=>rfl) (o_ (Ba 1 (Ez [(49,Ag 3136 r6),(50,iV (r6.length:Int)),(51,iV p43),(87,.bool r173)]) (Ei a1 [(1216,Cv p170 p171 (Ai 5248) p172 (Ai 3905) r163.2.v.Ab (Ai 3906) r163.2.v.Ah r163.2.v.An r163.2.a.kind r163.2.a.id r163.2.a.ttl r163.2.a.Dr r163.2.a.clock u_ r163.2.a.Bu r163.2.a.stop r163.2.Gm)]) (Ch h1 (fun c175 h1=>?_) (fun c175 h1=>?_)))))))
       ·refine Ax 5 (As (bb h1 fun r176 e177 h1=>Xd [] [] [5248,3905,3906] (H470 (Ap.mk (Ar.mk p170 p171 p172) r163.2.v.Ab r163.2.v.Ah r163.2.v.An) r176 e177) (At (ar (At rfl (af (af (af (ar (At rfl (At rfl rfl)))))))) rfl) (sw ⟨Kw [(92,.tup [.agg (Al r176.1 (Ai 5888) (Ai 5889) (Ai 5890)),.agg (Af r176.2)])],aU [],[]⟩ (Dw (by kernel_rfl)) (c_ (Bl ⟨tv,tv⟩ rfl tv) (o_ (Ba 4 (Kw []) [(256,Al r176.1 (Ai 5888) (Ai 5889) (Ai 5890)),(320,Af r176.2)] ?_))))))
        obtain rfl:=sj h1
        obtain rfl:=hx1 _ rfl
        obtain rfl:=sj h0
        exact Ka (hR1 _ (Dx rfl rfl rfl rfl rfl tv))
       ·refine Lc (Su ?_)
        exact J157 _ _ (eV [] [(5248,1664),(3905,1024001),(3906,1024002)] rfl (by kernel_rfl)) ⟨_,_,_,_,_,_,_,_,_,_,_,_,_,_,rfl,h1⟩
      ·replace h1:=ip c179 h1
       refine bb h1 fun r180 e181 h1=>Ax 7 (Bd (Gh (H78 r163.2.v.Ac r165.1 r180 e181) (ar (At rfl (af rfl))) (dw [(4,.ptr 256 0),(5,.ptr 320 0),(6,.ptr 384 0),(7,.clo 472 [.ptr 192 0,.ptr 384 0]),(49,Ag 3136 r6),(50,iV (r6.length:Int)),(51,iV p43),(75,.ptr 1216 0),(82,.agg (Cm r180 (Ai 5248)))] [(192,Am a1),(256,Ao 0 0 (Ai 259) [] (Ai 260) [] (Ai 261) [] false),(320,[iV 0,iV 0]),(384,[.ptr 1216 0]),(1216,Fm r163.2 (Ai 3904) (Ai 3905) (Ai 3906) u_)] hB (d_ (Ax 3 (Bd (Az (Cl rfl rfl tv rfl rfl rfl (nl rfl) (d0 tv (Hc ?_))) Aq))))) Aq))
       exact jn J178 ⟨_,_,_,rfl,h1⟩
      ·replace h1:=aB c179 h1
       refine Lc ?_
       exact J178 _ _ (eV [] [(3904,5248)] rfl (by kernel_rfl)) ⟨_,_,_,rfl,h1⟩
   ·obtain rfl:=sj h1
    obtain rfl:=hx1 _ rfl
    refine Hq rfl ?_
    exact jn hE1 ⟨_,_,_,_,_,_,_,_,_,_,_,_,_,_,rfl,rfl⟩

/- (loop.example/g00149/impl.Vault).step -/
def Aan:=[X_ 2 0,X_ 3 1,a_ 4 (zV 259 260 261),a_ 5 [iV 0,iV 0]]
def Aao:=[L_ 6 2 6,q_ 7 463 [.t 6],s_ 2 7 6]
def Aap:=[f_ 9 3 0,l_ 10 9 1,q_ 11 63 [.t 10,.c (iV 1),.c (iV 6)],N_ 12 11,m_ 8 12]
def Aaq:=[L_ 13 2 6,q_ 14 464 [.t 13,.c (iV 16)],e_ 15 14 0,e_ 16 14 1,s_ 4 15 6,s_ 5 16 2]
def Aar:=[f_ 18 2 5,l_ 19 18 1,m_ 20 19,fT 20 21 3 0,lT 20 22 21 1 false,pT 20 23 (.bin .neq (.t 22) (.c (iV 6))),pa 24 20 23,m_ 17 24]
def Aas:=[L_ 25 2 6,q_ 26 464 [.t 25,.c (iV 14)],e_ 27 26 0,e_ 28 26 1,s_ 4 27 6,s_ 5 28 2]
def Aat:=[f_ 29 3 0,l_ 30 29 1]
def Aau:=[B_ .eql 32 30 1,m_ 31 32]
def Aav:=[L_ 33 2 6,L_ 34 3 7,q_ 35 465 [.t 33,.t 34],e_ 36 35 0,e_ 37 35 1,s_ 4 36 6,s_ 5 37 2]
def Aaw:=[B_ .eql 39 30 2,m_ 38 39]
def zZ:=tk [L_ 40 2 6,f_ 41 2 0,L_ 42 41 3,f_ 43 3 1,l_ 44 43 1,f_ 45 3 2,l_ 46 45 1] (.alt [L_ 40 2 6] (q_ 47 80 [.t 42,.t 44,.t 46]) (tk [e_ 48 47 0,e_ 49 47 1] (.alt [] (q_ 50 466 [.t 40,.t 48,.t 49]) (tk [e_ 51 50 0,e_ 52 50 1] (.alt [] (s_ 4 51 6) (.alt [] (s_ 5 52 2) .fin .stop) .stop)) .stop)) .stop)
def AA:=[B_ .eql 54 30 3,m_ 53 54]
def AB:=tk [L_ 55 2 6,f_ 56 2 0,L_ 57 56 3,f_ 58 3 1,l_ 59 58 1] (.alt [L_ 55 2 6] (q_ 60 75 [.t 57,.t 59]) (tk [e_ 61 60 0,e_ 62 60 1] (.alt [] (q_ 63 466 [.t 55,.t 61,.t 62]) (tk [e_ 64 63 0,e_ 65 63 1] (.alt [] (s_ 4 64 6) (.alt [] (s_ 5 65 2) .fin .stop) .stop)) .stop)) .stop)
def AC:=[B_ .eql 67 30 4,m_ 66 67]
def AD:=[L_ 68 2 6,L_ 69 3 7,q_ 70 467 [.t 68,.t 69],e_ 71 70 0,e_ 72 70 1,s_ 4 71 6,s_ 5 72 2]
def AE:=[f_ 73 3 0,l_ 74 73 1,B_ .eql 75 74 5,f_ 76 2 5,s_ 76 75 1]
def AF:=[L_ 77 2 6,iQ 78 (.build [iV 0,iV 0] []),s_ 4 77 6,s_ 5 78 2]
def c459:Cz:=⟨2,79,[.cell 4 6 true,.cell 5 2 true],sr Aan (sr Aao (.seq (.block 0 (sr Aap (.ite (.t 8) (rr Aaq) (sr Aar (iz 17 (rr Aas)))))) (.seq (sr Aat (.block 1 (sr Aau (.ite (.t 31) (rr Aav) (sr Aaw (.ite (.t 38) (sd zZ .ret) (sr AA (.ite (.t 53) (sd AB .ret) (sr AC (iz 66 (rr AD))))))))))) (sr AE (rr AF)))))⟩
def K459 (D:Bj):Prop:=∀a0 a1 r,CO a0 a1=some r→D 459 ⟨[.agg (Au a0),.agg (Am a1)],[]⟩ ⟨.tup [.agg (Al r.1 (Ai 0) (Ai 1) (Ai 2)),.agg (Af r.2)],[],[]⟩
abbrev Sm:=fun x0 x1 (r:List (Nat×List V))=>(128,Al x0 (Ai 448) (Ai 449) (Ai 450))::(192,Am x1)::(256,Ao 0 0 (Ai 259) [] (Ai 260) [] (Ai 261) [] false)::(320,[iV 0,iV 0])::r
abbrev Pp:=fun (r:List (Nat×V))=>(2,.ptr 128 0)::(3,.ptr 192 0)::(4,.ptr 256 0)::(5,.ptr 320 0)::r
theorem F459 (H63:K63 C) (H75:K75 C) (H80:K80 C) (H463:K463 C) (H464:sU C) (H465:K465 C) (H466:K466 C) (H467:K467 C):K459 (FO C c459):=by
 intro a0 a1 r h0
 refine f0 (Ba 6 (Pp []) [(128,Au a0),(192,Am a1),(256,Ao 0 0 (Ai 259) [] (Ai 260) [] (Ai 261) [] false),(320,[iV 0,iV 0])] (Ax 2 (As (bb h0 fun r1 e2 h0=>Qf (H463 a0 r1 e2) (ar (At rfl (af (af (af (At rfl rfl)))))) (o_ (Ba 2 (Pp []) (Sm r1 a1 []) (Ax 5 (As (bb h0 fun r3 e4 h0=>Jj (H63 a1.kind 1 6 r3 e4) (o_ (Ba 3 (Pp [(8,.bool (!r3))]) (Sm r1 a1 []) (Ch h0 (fun c5 h0=>?_) (fun c5 h0=>?_)))))))))))))
 ·refine Ax 2 (As (bb h0 fun r6 e7 h0=>Xd [] [] [448,449,450] (H464 r1 16 r6 e7) (At (ar (At rfl (af (af (af (ar (At rfl (At rfl rfl)))))))) rfl) (o_ ?_)))
  obtain rfl:=sj h0
  exact Cn 6
 ·refine sR 10 (Pp [(17,.bool (bif r1.An then (a1.kind != 6) else false))]) (Sm r1 a1 []) (Ch h0 (fun c8 h0=>?_) (fun c8 h0=>?_))
  ·refine Ax 2 (As (bb h0 fun r9 e10 h0=>Xd [] [] [448,449,450] (H464 r1 14 r9 e10) (At (ar (At rfl (af (af (af (ar (At rfl (At rfl rfl)))))))) rfl) (o_ ?_)))
   obtain rfl:=sj h0
   exact Cn 6
  ·refine Ba 14 (Pp [(30,iV a1.kind),(31,.bool (a1.kind==1))]) (Sm r1 a1 []) (Ch h0 (fun c11 h0=>?_) (fun c11 h0=>?_))
   ·refine Ax 3 (As (bb h0 fun r12 e13 h0=>Xd [] [] [448,449,450] (H465 r1 a1 r12 e13) (At (ar (At rfl (af (af (af (ar (At rfl (At rfl rfl)))))))) rfl) (o_ ?_)))
    obtain rfl:=sj h0
    exact Cn 6
   ·refine Ba 4 (Pp [(30,iV a1.kind),(38,.bool (a1.kind==2))]) (Sm r1 a1 []) (Ch h0 (fun c14 h0=>?_) (fun c14 h0=>?_))
    ·refine Bt (bb h0 fun r15 e16 h0=>bb h0 fun r17 e18 h0=>Ax 7 (Bd (Gh (H80 r1.Ac a1.id a1.ttl r15 e16) (ar (At rfl (af (At rfl rfl)))) (dw [(2,.ptr 128 0),(4,.ptr 256 0),(5,.ptr 320 0),(40,.agg (Al r1 (Ai 448) (Ai 449) (Ai 450))),(47,.tup [.agg (Cm r15.1 (Ai 3008)),iV r15.2])] [(128,Al r1 (Ai 448) (Ai 449) (Ai 450)),(256,Ao 0 0 (Ai 259) [] (Ai 260) [] (Ai 261) [] false),(320,[iV 0,iV 0])] hB (d_ (Ax 2 (Bd (Az (Ed [] [] [448,449,450,3008] false (H466 r1 r15.1 r15.2 r17 e18) ⟨tv,tv,tv,tv⟩ (by kernel_rfl) (by kernel_rfl) (by kernel_rfl) (by kernel_rfl) (fun _=>At (ar (At rfl (af (af (af (ar (At rfl (At rfl rfl)))))))) rfl) (dw [(4,.ptr 256 0),(5,.ptr 320 0),(50,.tup [.agg (Al r17.1 (Ai 3200) (Ai 3201) (Ai 3202)),.agg (Af r17.2)])] [(256,Ao 0 0 (Ai 259) [] (Ai 260) [] (Ai 261) [] false),(320,[iV 0,iV 0])] tv (d_ (Ax 2 (Bd (Az (Cl rfl rfl tv rfl rfl rfl (nl rfl) (d0 tv (Az (Cl rfl rfl tv rfl rfl rfl (nl rfl) (d0 tv ?_)) Aq))) Aq)))))) Aq))))) Aq)))
     refine d_ ?_
     obtain rfl:=sj h0
     exact Cn 2
    ·refine Ba 4 (Pp [(30,iV a1.kind),(53,.bool (a1.kind==3))]) (Sm r1 a1 []) (Ch h0 (fun yJ h0=>?_) (fun yJ h0=>?_))
     ·refine Bt (bb h0 fun r20 e21 h0=>bb h0 fun r22 e23 h0=>Ax 5 (Bd (Gh (H75 r1.Ac a1.id r20 e21) (ar (At rfl (af (At rfl rfl)))) (dw [(2,.ptr 128 0),(4,.ptr 256 0),(5,.ptr 320 0),(55,.agg (Al r1 (Ai 448) (Ai 449) (Ai 450))),(60,.tup [.agg (Cm r20.1 (Ai 3840)),iV r20.2])] [(128,Al r1 (Ai 448) (Ai 449) (Ai 450)),(256,Ao 0 0 (Ai 259) [] (Ai 260) [] (Ai 261) [] false),(320,[iV 0,iV 0])] hB (d_ (Ax 2 (Bd (Az (Ed [] [] [448,449,450,3840] false (H466 r1 r20.1 r20.2 r22 e23) ⟨tv,tv,tv,tv⟩ (by kernel_rfl) (by kernel_rfl) (by kernel_rfl) (by kernel_rfl) (fun _=>At (ar (At rfl (af (af (af (ar (At rfl (At rfl rfl)))))))) rfl) (dw [(4,.ptr 256 0),(5,.ptr 320 0),(63,.tup [.agg (Al r22.1 (Ai 4032) (Ai 4033) (Ai 4034)),.agg (Af r22.2)])] [(256,Ao 0 0 (Ai 259) [] (Ai 260) [] (Ai 261) [] false),(320,[iV 0,iV 0])] tv (d_ (Ax 2 (Bd (Az (Cl rfl rfl tv rfl rfl rfl (nl rfl) (d0 tv (Az (Cl rfl rfl tv rfl rfl rfl (nl rfl) (d0 tv (d_ (Ba 1 [(4,.ptr 256 0),(5,.ptr 320 0)] [(256,Al r22.1 (Ai 4032) (Ai 4033) (Ai 4034)),(320,Af r22.2)] ?_)))) Aq))) Aq)))))) Aq))))) Aq)))
      obtain rfl:=sj h0
      exact Ka (Dx rfl rfl rfl rfl rfl tv)
     ·refine Ba 4 (Pp [(66,.bool (a1.kind==4))]) (Sm r1 a1 []) (Ch h0 (fun c24 h0=>?_) (fun c24 h0=>?_))
      ·refine Ax 3 (As (bb h0 fun r25 e26 h0=>Xd [] [] [448,449,450] (H467 r1 a1 r25 e26) (At (ar (At rfl (af (af (af (ar (At rfl (At rfl rfl)))))))) rfl) (o_ ?_)))
       obtain rfl:=sj h0
       exact Cn 6
      ·obtain rfl:=sj h0
       exact Cn 18

/- loop.example/g00149/impl.StepVault -/
def YT:=[X_ 2 0,X_ 3 1,a_ 4 (zV 259 260 261),a_ 5 [iV 0,iV 0],i_ 6 0]
def YU:List Cd:=[L_ 9 2 6,q_ 10 48 [.t 9],N_ 11 10,m_ 12 11,lF 12 13 3 7 true,⟨some 14,.call 457 [.t 13],some (12,false)⟩,pF 12 15 (.un .not (.t 14)),po 16 12 15]
def YV:=[iQ 17 (.build (zV 1091 1092 1093) []),iQ 18 (.build [iV 0,iV 0] []),s_ 4 17 6,s_ 5 18 2,i_ 6 1]
def YW:=[L_ 20 2 6,L_ 21 3 7,q_ 22 459 [.t 20,.t 21],m_ 19 22,e_ 23 19 0,e_ 24 19 1,a_ 7 (zV 451 452 453),a_ 8 [iV 0,iV 0],s_ 7 23 6,s_ 8 24 2]
def YX:=tk [L_ 25 7 6,L_ 26 8 2] (.alt [L_ 26 8 2] (s_ 4 25 6) (.alt [] (s_ 5 26 2) (tk [i_ 6 0] .fin) .stop) .stop)
def c440:Cz:=⟨2,27,[.cell 4 6 true,.cell 5 2 true,.t 6],sr YT (.seq (sr YU (iz 16 (rr YV))) (sr YW (sd YX .ret)))⟩
def K440 (D:Bj):Prop:=∀a0 a1 r,CN a0 a1=some r→D 440 ⟨[.agg (Au a0),.agg (Am a1)],[]⟩ ⟨.tup [.agg (Al r.1 (Ai 0) (Ai 1) (Ai 2)),.agg (Af r.2.1),iV r.2.2],[],[]⟩
abbrev mR:=fun (r:List (Nat×List V))=>(256,Ao 0 0 (Ai 259) [] (Ai 260) [] (Ai 261) [] false)::(320,[iV 0,iV 0])::r
theorem F440 (H48:K48 C) (H457:K457 C) (H459:K459 C):K440 (FO C c440):=by
 intro a0 a1 r h0
 refine f0 (Ba 7 [(2,.ptr 128 0),(3,.ptr 192 0),(4,.ptr 256 0),(5,.ptr 320 0)] (mR [(128,Au a0),(192,Am a1)]) (Ax 3 (As (bb h0 fun r1 e2 h0=>Jj (H48 a0 r1 e2) (o_ (bS 3 (As (bb h0 fun r3 e4 h0=>st (Eh (r:=.bool r3) rfl false (fun hg=>H457 a1 r3 (ip hg e4)) ⟨(fun hg=>hg),tv⟩ (fun _=>rfl) (fun _=>rfl) (fun _=>rfl) (fun h=>nomatch h) (o_ (sR 3 [(2,.ptr 128 0),(3,.ptr 192 0),(4,.ptr 256 0),(5,.ptr 320 0),(16,.bool (bif (!r1) then true else (!r3)))] (mR [(128,Au a0),(192,Am a1)]) (Ch h0 (fun c5 h0=>?_) (fun c5 h0=>?_)))))))))))))
 ·obtain rfl:=sj h0
  exact Cn 8
 ·refine Ax 5 (As (bb h0 fun r6 e7 h0=>Qf (H459 a0 a1 r6 e7) (ar (At rfl (af (af (af (ar (At rfl (At rfl rfl)))))))) (o_ (Ba 8 [(4,.ptr 256 0),(5,.ptr 320 0),(7,.ptr 448 0),(8,.ptr 512 0)] (mR [(448,Al r6.1 (Ai 1408) (Ai 1409) (Ai 1410)),(512,Af r6.2)]) (Ax 3 (Bd (Az (Cl rfl rfl tv rfl rfl rfl (nl rfl) (d0 hB (Az (Cl rfl rfl tv rfl rfl rfl (nl rfl) (d0 tv (d_ (Ba 2 [(4,.ptr 256 0),(5,.ptr 320 0),(6,iV 0)] [(256,Al r6.1 (Ai 1408) (Ai 1409) (Ai 1410)),(320,Af r6.2)] ?_)))) Aq))) Aq)))))))
  obtain rfl:=sj h0
  exact Ka (Dx rfl rfl rfl rfl rfl tv)

/- loop.example/g00149/spec.l01In -/
def c56_r0:=[k_ 6 (.bool false)]
def c56_r1:=[m_ 7 0,m_ 8 1,b_ .geq 9 7 8,m_ 10 9,mT 10 11 0,mT 10 12 2,pT 10 13 (.bin .leq (.t 11) (.t 12)),pa 14 10 13,m_ 6 14]
def c56:Cz:=⟨3,15,[.t 6],sr c56_r0 (rr c56_r1)⟩
def K56 (D:Bj):Prop:=∀a0 a1 a2 r,oS a0 a1 a2=some r→D 56 ⟨[iV a0,iV a1,iV a2],[]⟩ ⟨.bool r,[],[]⟩
theorem F56:K56 (FO C c56):=by
 intro a0 a1 a2 r h0
 refine f0 (Ba 3 [(0,iV a0),(1,iV a1),(2,iV a2)] [] (bS 9 (As (o_ ?_))))
 obtain rfl:=sj h0
 exact Cn 3

/- loop.example/g00149/spec.TableOK -/
def c18_r0:=[X_ 1 0,k_ 2 (.bool false)]
def c18_r1:List Cd:=[f_ 5 1 0,l_ 6 5 1,B_ .lss 7 6 0,m_ 8 7,fF 8 9 1 1,lF 8 10 9 1 false,⟨some 11,.call 56 [.t 10,.c (iV 1),.c (iV 1000000)],some (8,false)⟩,pF 8 12 (.un .not (.t 11)),po 13 8 12,m_ 14 13,fF 14 15 1 2,lF 14 16 15 1 false,pF 14 17 (.len (.t 16)),pF 14 18 (.bin .gtr (.t 17) (.c (iV 40))),po 19 14 18]
def c18_r2:=[k_ 2 (.bool false)]
def c18_r3:=[i_ 3 0]
def c18_r4:=[m_ 20 3,f_ 21 1 2,l_ 22 21 1,n_ 23 22,b_ .lss 24 20 23]
def c18_r5:=[f_ 27 1 2,l_ 28 27 1,m_ 29 3,x_ 30 28 29 4,L_ 31 30 4,a_ 4 [iV 0,iV 0,iV 0,.bool false],s_ 4 31 4]
def c18_r6:=tk [f_ 32 4 0,l_ 33 32 1,f_ 34 1 1,l_ 35 34 1,B_ .sub 36 35 1] (.alt [] (q_ 37 56 [.t 33,.c (iV 1),.t 36]) (tk [N_ 38 37,m_ 39 38,mF 39 40 3,pF 39 41 (.bin .gtr (.t 40) (.c (iV 0))),mF 39 42 41,fT 42 43 1 2,lT 42 44 43 1 false,mT 42 45 3,pT 42 46 (.bin .sub (.t 45) (.c (iV 1))),xT 42 47 44 46 4,fT 42 48 47 0,lT 42 49 48 1 false,fT 42 50 4 0,lT 42 51 50 1 false,pT 42 52 (.bin .geq (.t 49) (.t 51)),⟨some 53,.pick (.t 42) (.t 52) (.c (.bool false)),some (39,false)⟩,po 54 39 53,m_ 55 54,fF 55 56 4 1,lF 55 57 56 1 false,pF 55 58 (.bin .lss (.t 57) (.c (iV 0))),po 59 55 58,m_ 60 59,fF 60 61 4 1,lF 60 62 61 1 false,fF 60 63 4 2,lF 60 64 63 1 false,pF 60 65 (.bin .gtr (.t 62) (.t 64)),po 66 60 65,m_ 67 66,fF 67 68 4 3,lF 67 69 68 1 false,pF 67 70 (.un .not (.t 69)),mF 67 71 70,fT 71 72 4 1,lT 71 73 72 1 false,fT 71 74 1 0,lT 71 75 74 1 false,pT 71 76 (.bin .leq (.t 73) (.t 75)),⟨some 77,.pick (.t 71) (.t 76) (.c (.bool false)),some (67,false)⟩,po 78 67 77] .fin) .stop)
def c18_r7:=[k_ 2 (.bool false)]
def c18_r8:=[m_ 25 3,B_ .add 26 25 1,m_ 3 26]
def c18_l0:IR:=(.seq (sr c18_r4 (.ite (.t 24) .skip (.exit 0))) (.seq (.block 1 (sr c18_r5 (sd c18_r6 (iz 78 (rr c18_r7))))) (.reg c18_r8)))
def c18_r9:=[k_ 2 (.bool true)]
def c18:Cz:=⟨1,79,[.t 2],sr c18_r0 (.seq (sr c18_r1 (iz 19 (rr c18_r2))) (.seq (sr c18_r3 (Ho 0 c18_l0)) (rr c18_r9)))⟩
def K18 (D:Bj):Prop:=∀a0 r,g18 a0=some r→D 18 ⟨[.agg (Bb a0)],[]⟩ ⟨.bool r,[],[]⟩
theorem F18 (H56:K56 C):K18 (FO C c18):=by
 intro a0 r h0
 refine f0 (Ba 4 [(1,.ptr 64 0)] [(64,Bb a0)] (Ax 6 (As (st (Bv (u:=.ptr 64 1) rfl (fun hg=>(Bl ⟨tv,tv⟩ rfl tv)) (st (Bv (u:=iV a0.next) rfl (fun hg=>(Bl ⟨(fun _=>hg),tv⟩ rfl (nl rfl))) (bb h0 fun r1 e2 h0=>st (Eh (r:=.bool r1) rfl false (fun hg=>H56 a0.next 1 1000000 r1 (ip hg e2)) ⟨(fun hg=>hg),tv,tv,tv⟩ (fun _=>rfl) (fun _=>rfl) (fun _=>rfl) (fun h=>nomatch h) (st (Bv (u:=.bool (!r1)) rfl (fun hg=>(Bl ⟨(fun _=>hg),tv⟩ rfl tv)) (st (Dh rfl rfl rfl tv (fun h=>Uw h) rfl (st (Cj rfl tv (st (Bv (u:=.ptr 64 2) rfl (fun hg=>(Bl ⟨tv,tv⟩ rfl tv)) (st (Bv (u:=Bp a0.Ae) rfl (fun hg=>(Bl ⟨(fun _=>hg),tv⟩ rfl (nl rfl))) (st (Bv (u:=iV (a0.Ae.length:Int)) rfl (fun hg=>(Wf (e:=Ad) (l0:=a0.Ae) rfl rfl (fun _=>hg))) (st (Bv (u:=.bool (decide ((a0.Ae.length:Int)>40))) rfl (fun hg=>(Bl ⟨(fun _=>hg),tv,tv⟩ rfl tv)) (st (Dh rfl rfl rfl tv (fun h=>Uw h) rfl (Ha (bv h0 fun v3 e4 h0=>Dc ⟨[(1,.ptr 64 0),(19,.bool v3)],[(64,Bb a0)],[]⟩ (Dw (by subst e4; kernel_rfl)) (Ch h0 (fun c5 h0=>?_) (fun c5 h0=>?_)))))))))))))))))))))))))))))
 ·obtain rfl:=sj h0
  exact Cn 4
 ·refine Ba 6 [(1,.ptr 64 0),(3,iV 0)] [(64,Bb a0)] (Cc (bb h0 fun r38 e39 h0=>Cr (R:=(fun S=>.inl ()=r38∧S=⟨[],[],[]⟩)) (Zl a0) (fun s S=>match s with | p16=>S=⟨[(1,.ptr 64 0),(3,iV p16)],[(64,Bb a0)],[]⟩) e39 _ (Dw (by kernel_rfl)) rfl 0 (fun _=>rfl) ?_ ?_))
  ·rintro S _ hfg ⟨rfl,rfl⟩
   refine Dc _ hfg ?_
   obtain rfl:=sj h0
   exact Cn 4
  ·rintro p16 o1 _ K1 rfl h1 hx1 hK1 hE1 hR1
   refine Ax 5 (As (Jr rfl (o_ (Ba 2 [(1,.ptr 64 0),(3,iV p16),(24,.bool (decide (p16<(a0.Ae.length:Int))))] [(64,Bb a0)] (Ch h1 (fun c28 h1=>?_) (fun c28 h1=>?_))))))
   ·refine Ax 8 (As (bb h1 fun y29 e30 h1=>Nr rfl rfl e30 (o_ (Ba 4 [(1,.ptr 64 0),(3,iV p16),(4,.ptr 256 0)] [(64,Bb a0),(256,Ad y29)] (Bt (bb h1 fun r31 e32 h1=>bb h1 fun y33 e34 h1=>Ax 5 (Bd (Gh (H56 y29.id 1 (wi (a0.next-1)) r31 e32) rfl (dw [(1,.ptr 64 0),(3,iV p16),(4,.ptr 256 0),(37,.bool r31)] [(64,Bb a0),(256,Ad y29)] tv (d_ (Ax 2 (Bd (Ak tv (Bv (u:=iV p16) rfl (fun hg=>(Dm (v:=iV p16) rfl tv)) (⟨tv,Ak tv (Bv (u:=.bool (decide (p16>0))) rfl (fun hg=>(Bl ⟨(fun _=>hg),tv,tv⟩ rfl tv)) (⟨tv,Ak tv (Bv (u:=.bool (decide (p16>0))) rfl (fun hg=>(Dm (v:=.may ((!r31)==false) (.bool (decide (p16>0)))) rfl (fun _=>hg))) (⟨tv,Ak tv (Bv (u:=.ptr 64 2) rfl (fun hg=>(Bl ⟨tv,tv⟩ rfl tv)) (⟨tv,Ak tv (Bv (u:=Bp a0.Ae) rfl (fun hg=>(Bl ⟨(fun _=>hg),tv⟩ rfl (nl rfl))) (⟨tv,Ak tv (Bv (u:=iV p16) rfl (fun hg=>(Dm (v:=iV p16) rfl tv)) (⟨tv,Ak tv (Bv (u:=iV (wi (p16-1))) rfl (fun hg=>(Bl ⟨(fun _=>hg),tv,tv⟩ rfl tv)) (⟨tv,?_⟩))⟩))⟩))⟩))⟩))⟩))⟩))))))) Aq))))))))
    refine Ak tv (Bv (u:=.iptr (Ad y33)) rfl (fun hg=>(Nw (e:=Ad) (y:=y33) rfl rfl (fun _=>hg) rfl rfl (fun _=>hg) (ip hg e34))) (⟨tv,Ak tv (Bv (u:=.iptr (Ad y33)) rfl (fun hg=>(Bl ⟨(fun _=>hg),tv⟩ rfl (nl rfl))) (⟨tv,Ak tv (Bv (u:=iV y33.id) rfl (fun hg=>(Bl ⟨(fun _=>hg),tv⟩ rfl (nl rfl))) (⟨tv,Ak tv (Bv (u:=.ptr 256 0) rfl (fun hg=>(Bl ⟨tv,tv⟩ rfl tv)) (⟨tv,Ak tv (Bv (u:=iV y29.id) rfl (fun hg=>(Bl ⟨(fun _=>hg),tv⟩ rfl (nl rfl))) (⟨tv,Ak tv (Bv (u:=.bool (decide (y33.id≥y29.id))) rfl (fun hg=>(Bl ⟨(fun _=>hg),(fun _=>hg),tv⟩ rfl tv)) (⟨tv,Ak tv (Nk (u:=.bool (bif (decide (p16>0)) then (decide (y33.id≥y29.id)) else false)) rfl (fun hg=>Sz rfl rfl (fun _=>hg) rfl rfl (fun h=>At hg (Ta h)) tv rfl) (⟨tv,Ak tv (Dh rfl rfl rfl tv (fun h=>Uw h) rfl (⟨tv,Ak tv (Cj rfl tv (⟨tv,Ak tv (Bv (u:=.ptr 256 1) rfl (fun hg=>(Bl ⟨tv,tv⟩ rfl tv)) (⟨tv,Ak tv (Bv (u:=iV y29.Bg) rfl (fun hg=>(Bl ⟨(fun _=>hg),tv⟩ rfl (nl rfl))) (⟨tv,Ak tv (Bv (u:=.bool (decide (y29.Bg<0))) rfl (fun hg=>(Bl ⟨(fun _=>hg),tv,tv⟩ rfl tv)) (⟨tv,Ak tv (Dh rfl rfl rfl tv (fun h=>Uw h) rfl (⟨tv,Ak tv (Cj rfl tv (⟨tv,Ak tv (Bv (u:=.ptr 256 1) rfl (fun hg=>(Bl ⟨tv,tv⟩ rfl tv)) (⟨tv,Ak tv (Bv (u:=iV y29.Bg) rfl (fun hg=>(Bl ⟨(fun _=>hg),tv⟩ rfl (nl rfl))) ?_)⟩))⟩))⟩))⟩))⟩))⟩))⟩))⟩))⟩))⟩))⟩))⟩))⟩))⟩))⟩))
    refine ⟨tv,Ak tv (Bv (u:=.ptr 256 2) rfl (fun hg=>(Bl ⟨tv,tv⟩ rfl tv)) (⟨tv,Ak tv (Bv (u:=iV y29.cap) rfl (fun hg=>(Bl ⟨(fun _=>hg),tv⟩ rfl (nl rfl))) (⟨tv,Ak tv (Bv (u:=.bool (decide (y29.Bg>y29.cap))) rfl (fun hg=>(Bl ⟨(fun _=>hg),(fun _=>hg),tv⟩ rfl tv)) (⟨tv,Ak tv (Dh rfl rfl rfl tv (fun h=>Uw h) rfl (⟨tv,Ak tv (Cj rfl tv (⟨tv,Ak tv (Bv (u:=.ptr 256 3) rfl (fun hg=>(Bl ⟨tv,tv⟩ rfl tv)) (⟨tv,Ak tv (Bv (u:=.bool y29.Bz) rfl (fun hg=>(Bl ⟨(fun _=>hg),tv⟩ rfl (nl rfl))) (⟨tv,Ak tv (Bv (u:=.bool (!y29.Bz)) rfl (fun hg=>(Bl ⟨(fun _=>hg),tv⟩ rfl tv)) (⟨tv,Ak tv (Bv (u:=.bool (!y29.Bz)) rfl (fun hg=>(Dm (v:=.may ((bif (bif (bif (!r31) then true else (bif (decide (p16>0)) then (decide (y33.id≥y29.id)) else false)) then true else (decide (y29.Bg<0))) then true else (decide (y29.Bg>y29.cap)))==false) (.bool (!y29.Bz))) rfl (fun _=>hg))) (⟨tv,Ak tv (Bv (u:=.ptr 256 1) rfl (fun hg=>(Bl ⟨tv,tv⟩ rfl tv)) (⟨tv,Ak tv (Bv (u:=iV y29.Bg) rfl (fun hg=>(Bl ⟨(fun _=>hg),tv⟩ rfl (nl rfl))) (⟨tv,Ak tv (Bv (u:=.ptr 64 0) rfl (fun hg=>(Bl ⟨tv,tv⟩ rfl tv)) (⟨tv,Ak tv (Bv (u:=iV a0.clock) rfl (fun hg=>(Bl ⟨(fun _=>hg),tv⟩ rfl (nl rfl))) (⟨tv,Ak tv (Bv (u:=.bool (decide (y29.Bg≤a0.clock))) rfl (fun hg=>(Bl ⟨(fun _=>hg),(fun _=>hg),tv⟩ rfl tv)) (⟨tv,Ak tv (Nk (u:=.bool (bif (!y29.Bz) then (decide (y29.Bg≤a0.clock)) else false)) rfl (fun hg=>Sz rfl rfl (fun _=>hg) rfl rfl (fun h=>At hg (Ta h)) tv rfl) (⟨tv,?_⟩))⟩))⟩))⟩))⟩))⟩))⟩))⟩))⟩))⟩))⟩))⟩))⟩))⟩))⟩))⟩
    refine Ak tv (Dh rfl rfl rfl tv (fun h=>Uw h) rfl (⟨tv,Hc (bv h1 fun v35 e36 h1=>Dc ⟨[(1,.ptr 64 0),(3,iV p16),(78,.bool v35)],[(64,Bb a0)],[]⟩ (Dw (by subst e36; kernel_rfl)) (Ch h1 (fun c37 h1=>?_) (fun c37 h1=>?_)))⟩))
    ·obtain rfl:=sj h1
     obtain rfl:=hx1 _ rfl
     obtain rfl:=sj h0
     exact Wv 4 hR1
    ·refine Ax 7 ?_
     obtain rfl:=sj h1
     exact kn hK1 rfl rfl
   ·obtain rfl:=sj h1
    obtain rfl:=hx1 _ rfl
    refine Hq rfl ?_
    exact jn hE1 ⟨rfl,rfl⟩

/- loop.example/g00149/spec.l09Rising -/
def c85_r0:=[k_ 4 (.bool false)]
def c85_r1:=[i_ 5 0]
def c85_r2:=[m_ 6 5,m_ 7 0,n_ 8 7,b_ .lss 9 6 8]
def c85_r3:=tk [m_ 12 0,m_ 13 5,x_ 14 12 13 1,l_ 15 14 1,m_ 16 1,B_ .sub 17 16 1] (.alt [] (q_ 18 56 [.t 15,.c (iV 1),.t 17]) (tk [N_ 19 18,m_ 20 19,mF 20 21 5,pF 20 22 (.bin .gtr (.t 21) (.c (iV 0))),mF 20 23 22,mT 23 24 0,mT 23 25 5,pT 23 26 (.bin .sub (.t 25) (.c (iV 1))),xT 23 27 24 26 1,lT 23 28 27 1 false,mT 23 29 0,mT 23 30 5,xT 23 31 29 30 1,lT 23 32 31 1 false,pT 23 33 (.bin .geq (.t 28) (.t 32)),⟨some 34,.pick (.t 23) (.t 33) (.c (.bool false)),some (20,false)⟩,po 35 20 34] .fin) .stop)
def c85_r4:=[k_ 4 (.bool false)]
def c85_r5:=[m_ 10 5,B_ .add 11 10 1,m_ 5 11]
def c85_l0:IR:=(.seq (sr c85_r2 (.ite (.t 9) .skip (.exit 0))) (.seq (.block 1 (sd c85_r3 (iz 35 (rr c85_r4)))) (.reg c85_r5)))
def c85_r6:=[k_ 4 (.bool true)]
def c85:Cz:=⟨2,36,[.t 4],sr c85_r0 (.seq (sr c85_r1 (Ho 0 c85_l0)) (rr c85_r6))⟩
def K85 (D:Bj):Prop:=∀a0 a1 r,g85 a0 a1=some r→D 85 ⟨[lI a0,iV a1],[]⟩ ⟨.bool r,[],[]⟩
theorem F85 (H56:K56 C):K85 (FO C c85):=by
 intro a0 a1 r h0
 refine f0 (Ba 8 [(0,lI a0),(1,iV a1),(5,iV 0)] [] (Cc (bb h0 fun r39 e40 h0=>Cr (R:=(fun S=>.inl ()=r39∧S=⟨[],[],[]⟩)) (Zu a0 a1) (fun s S=>match s with | p13=>S=⟨[(0,lI a0),(1,iV a1),(5,iV p13)],[],[]⟩) e40 _ (Dw (by kernel_rfl)) rfl 0 (fun _=>rfl) ?_ ?_)))
 ·rintro S _ hfg ⟨rfl,rfl⟩
  refine Dc _ hfg ?_
  obtain rfl:=sj h0
  exact Cn 4
 ·rintro p13 o1 _ K1 rfl h1 hx1 hK1 hE1 hR1
  refine Ax 4 (As (Jr rfl (o_ (Ba 2 [(0,lI a0),(1,iV a1),(5,iV p13),(9,.bool (decide (p13<(a0.length:Int))))] [] (Ch h1 (fun cP h1=>?_) (fun cP h1=>?_))))))
  ·refine Lr 5 (bb h1 fun y28 e29 h1=>bb h1 fun r30 e31 h1=>bb h1 fun y32 e33 h1=>bb h1 fun y34 e35 h1=>Ax 2 (Bd (d_ (sI rfl rfl rfl e29 (Ax 3 (Bd (Gh (H56 y28 1 (wi (a1-1)) r30 e31) rfl (dw [(0,lI a0),(1,iV a1),(5,iV p13),(18,.bool r30)] [] tv (d_ (Ax 2 (Bd (Ak tv (Bv (u:=iV p13) rfl (fun hg=>(Dm (v:=iV p13) rfl tv)) (⟨tv,Ak tv (Bv (u:=.bool (decide (p13>0))) rfl (fun hg=>(Bl ⟨(fun _=>hg),tv,tv⟩ rfl tv)) (⟨tv,Ak tv (Bv (u:=.bool (decide (p13>0))) rfl (fun hg=>(Dm (v:=.may ((!r30)==false) (.bool (decide (p13>0)))) rfl (fun _=>hg))) (⟨tv,Ak tv (Bv (u:=lI a0) rfl (fun hg=>(Dm (v:=lI a0) rfl tv)) (⟨tv,Ak tv (Bv (u:=iV p13) rfl (fun hg=>(Dm (v:=iV p13) rfl tv)) (⟨tv,Ak tv (Bv (u:=iV (wi (p13-1))) rfl (fun hg=>(Bl ⟨(fun _=>hg),tv,tv⟩ rfl tv)) (⟨tv,?_⟩))⟩))⟩))⟩))⟩))⟩))))))) Aq)))))))
   refine Ak tv (Bv (u:=.iptr [iV y32]) rfl (fun hg=>(Nw (e:=eI) (y:=y32) rfl rfl (fun _=>hg) rfl rfl (fun _=>hg) (ip hg e33))) (⟨tv,Ak tv (Bv (u:=iV y32) rfl (fun hg=>(Bl ⟨(fun _=>hg),tv⟩ rfl (nl rfl))) (⟨tv,Ak tv (Bv (u:=lI a0) rfl (fun hg=>(Dm (v:=lI a0) rfl tv)) (⟨tv,Ak tv (Bv (u:=iV p13) rfl (fun hg=>(Dm (v:=iV p13) rfl tv)) (⟨tv,Ak tv (Bv (u:=.iptr [iV y34]) rfl (fun hg=>(Nw (e:=eI) (y:=y34) rfl rfl (fun _=>hg) rfl rfl (fun _=>hg) (ip hg e35))) (⟨tv,Ak tv (Bv (u:=iV y34) rfl (fun hg=>(Bl ⟨(fun _=>hg),tv⟩ rfl (nl rfl))) (⟨tv,Ak tv (Bv (u:=.bool (decide (y32≥y34))) rfl (fun hg=>(Bl ⟨(fun _=>hg),(fun _=>hg),tv⟩ rfl tv)) (⟨tv,Ak tv (Nk (u:=.bool (bif (decide (p13>0)) then (decide (y32≥y34)) else false)) rfl (fun hg=>Sz rfl rfl (fun _=>hg) rfl rfl (fun h=>At hg (Ta h)) tv rfl) (⟨tv,Ak tv (Dh rfl rfl rfl tv (fun h=>Uw h) rfl (⟨tv,Hc (bv h1 fun v36 e37 h1=>Dc ⟨[(0,lI a0),(1,iV a1),(5,iV p13),(35,.bool v36)],[],[]⟩ (Dw (by subst e37; kernel_rfl)) (Ch h1 (fun c38 h1=>?_) (fun c38 h1=>?_)))⟩))⟩))⟩))⟩))⟩))⟩))⟩))⟩))⟩))
   ·obtain rfl:=sj h1
    obtain rfl:=hx1 _ rfl
    obtain rfl:=sj h0
    exact Wv 4 hR1
   ·refine Ax 7 ?_
    obtain rfl:=sj h1
    exact kn hK1 rfl rfl
  ·obtain rfl:=sj h1
   obtain rfl:=hx1 _ rfl
   refine Hq rfl ?_
   exact jn hE1 ⟨rfl,rfl⟩

/- loop.example/g00149/spec.l08Find -/
def c92_r0:=[X_ 2 0,i_ 4 0]
def c92_r1:=[i_ 5 0]
def c92_r2:=[m_ 6 5,f_ 7 2 2,l_ 8 7 1,n_ 9 8,b_ .lss 10 6 9]
def c92_r3:=[f_ 13 2 2,l_ 14 13 1,m_ 15 5,x_ 16 14 15 4,f_ 17 16 0,l_ 18 17 1,m_ 19 1,b_ .eql 20 18 19]
def c92_r4:=[m_ 21 5,m_ 4 21]
def c92_r5:=[m_ 11 5,B_ .add 12 11 1,m_ 5 12]
def c92_l0:IR:=(.seq (sr c92_r2 (.ite (.t 10) .skip (.exit 0))) (.seq (.block 1 (sr c92_r3 (iz 20 (rr c92_r4)))) (.reg c92_r5)))
def c92_r6:=[i_ 4 (-1)]
def c92:Cz:=⟨2,22,[.t 4],sr c92_r0 (.seq (sr c92_r1 (Ho 0 c92_l0)) (rr c92_r6))⟩
def K92 (D:Bj):Prop:=∀a0 a1 r,GG a0 a1=some r→D 92 ⟨[.agg (Bb a0),iV a1],[]⟩ ⟨iV r,[],[]⟩
theorem F92:K92 (FO C c92):=by
 intro a0 a1 r h0
 refine f0 (Ba 9 [(1,iV a1),(2,.ptr 128 0),(5,iV 0)] [(128,Bb a0)] (Cc (bb h0 fun r15 e16 h0=>Cr (R:=(fun S=>.inl ()=r15∧S=⟨[],[],[]⟩)) (fQ a0 a1) (fun s S=>match s with | p5=>S=⟨[(1,iV a1),(2,.ptr 128 0),(5,iV p5)],[(128,Bb a0)],[]⟩) e16 _ (Dw (by kernel_rfl)) rfl 0 (fun _=>rfl) ?_ ?_)))
 ·rintro S _ hfg ⟨rfl,rfl⟩
  refine Dc _ hfg ?_
  obtain rfl:=sj h0
  exact Cn 4
 ·rintro p5 o1 _ K1 rfl h1 hx1 hK1 hE1 hR1
  refine Ax 5 (As (Jr rfl (o_ (Ba 2 [(1,iV a1),(2,.ptr 128 0),(5,iV p5),(10,.bool (decide (p5<(a0.Ae.length:Int))))] [(128,Bb a0)] (Ch h1 (fun c11 h1=>?_) (fun c11 h1=>?_))))))
  ·refine Ax 8 (As (bb h1 fun y12 e13 h1=>Nr rfl rfl e13 (o_ (Ba 5 [(1,iV a1),(2,.ptr 128 0),(5,iV p5),(20,.bool (y12.id==a1))] [(128,Bb a0)] (Ch h1 (fun c14 h1=>?_) (fun c14 h1=>?_))))))
   ·obtain rfl:=sj h1
    obtain rfl:=hx1 _ rfl
    obtain rfl:=sj h0
    exact Wv 5 hR1
   ·refine Ax 7 ?_
    obtain rfl:=sj h1
    exact kn hK1 rfl rfl
  ·obtain rfl:=sj h1
   obtain rfl:=hx1 _ rfl
   refine Hq rfl ?_
   exact jn hE1 ⟨rfl,rfl⟩

/- loop.example/g00149/spec.l09Intent -/
def MK:=[X_ 2 0,i_ 4 0]
def ML:=[i_ 5 0]
def MM:=[m_ 6 5,f_ 7 2 3,l_ 8 7 1,n_ 9 8,b_ .lss 10 6 9]
def MN:=[f_ 13 2 3,l_ 14 13 1,m_ 15 5,x_ 16 14 15 2,f_ 17 16 0,l_ 18 17 1,m_ 19 1,b_ .eql 20 18 19]
def MO:=[m_ 21 5,m_ 4 21]
def MP:=[m_ 11 5,B_ .add 12 11 1,m_ 5 12]
def MJ:IR:=(.seq (sr MM (.ite (.t 10) .skip (.exit 0))) (.seq (.block 1 (sr MN (iz 20 (rr MO)))) (.reg MP)))
def MQ:=[i_ 4 (-1)]
def c124:Cz:=⟨2,22,[.t 4],sr MK (.seq (sr ML (Ho 0 MJ)) (rr MQ))⟩
def K124 (D:Bj):Prop:=∀a0 a1 r,AcQ a0 a1=some r→D 124 ⟨[.agg (Au a0),iV a1],[]⟩ ⟨iV r,[],[]⟩
theorem F124:K124 (FO C c124):=by
 intro a0 a1 r h0
 refine f0 (Ba 9 [(1,iV a1),(2,.ptr 128 0),(5,iV 0)] [(128,Au a0)] (Cc (bb h0 fun r15 e16 h0=>Cr (R:=(fun S=>.inl ()=r15∧S=⟨[],[],[]⟩)) (Xs a0 a1) (fun s S=>match s with | p5=>S=⟨[(1,iV a1),(2,.ptr 128 0),(5,iV p5)],[(128,Au a0)],[]⟩) e16 _ (Dw (by kernel_rfl)) rfl 0 (fun _=>rfl) ?_ ?_)))
 ·rintro S _ hfg ⟨rfl,rfl⟩
  refine Dc _ hfg ?_
  obtain rfl:=sj h0
  exact Cn 4
 ·rintro p5 o1 _ K1 rfl h1 hx1 hK1 hE1 hR1
  refine Ax 5 (As (Jr rfl (o_ (Ba 2 [(1,iV a1),(2,.ptr 128 0),(5,iV p5),(10,.bool (decide (p5<(a0.Ab.length:Int))))] [(128,Au a0)] (Ch h1 (fun c11 h1=>?_) (fun c11 h1=>?_))))))
  ·refine Ax 8 (As (bb h1 fun y12 e13 h1=>Nr rfl rfl e13 (o_ (Ba 5 [(1,iV a1),(2,.ptr 128 0),(5,iV p5),(20,.bool (y12.Ay==a1))] [(128,Au a0)] (Ch h1 (fun c14 h1=>?_) (fun c14 h1=>?_))))))
   ·obtain rfl:=sj h1
    obtain rfl:=hx1 _ rfl
    obtain rfl:=sj h0
    exact Wv 5 hR1
   ·refine Ax 7 ?_
    obtain rfl:=sj h1
    exact kn hK1 rfl rfl
  ·obtain rfl:=sj h1
   obtain rfl:=hx1 _ rfl
   refine Hq rfl ?_
   exact jn hE1 ⟨rfl,rfl⟩

/- loop.example/g00149/spec.l09Lost -/
def c93_r0:=[X_ 1 0,i_ 2 0]
def c93_r1:=[i_ 3 0]
def c93_r2:=[m_ 4 3,f_ 5 1 4,l_ 6 5 1,n_ 7 6,b_ .lss 8 4 7]
def c93_r3:=tk [f_ 11 1 0,L_ 12 11 3,f_ 13 1 4,l_ 14 13 1,m_ 15 3,x_ 16 14 15 1,l_ 17 16 1] (.alt [] (q_ 18 92 [.t 12,.t 17]) (tk [B_ .lss 19 18 0,m_ 20 19,lT 20 21 1 6 true,fT 20 22 1 4,lT 20 23 22 1 false,mT 20 24 3,xT 20 25 23 24 1,lT 20 26 25 1 false] (.alt [] ⟨some 27,.call 124 [.t 21,.t 26],some (20,true)⟩ (tk [pT 20 28 (.bin .lss (.t 27) (.c (iV 0))),pa 29 20 28] .fin) .stop)) .stop)
def c93_r4:=[f_ 30 1 4,l_ 31 30 1,m_ 32 3,x_ 33 31 32 1,l_ 34 33 1,m_ 2 34]
def c93_r5:=[m_ 9 3,B_ .add 10 9 1,m_ 3 10]
def c93_l0:IR:=(.seq (sr c93_r2 (.ite (.t 8) .skip (.exit 0))) (.seq (.block 1 (sd c93_r3 (iz 29 (rr c93_r4)))) (.reg c93_r5)))
def c93_r6:=[i_ 2 0]
def c93:Cz:=⟨1,35,[.t 2],sr c93_r0 (.seq (sr c93_r1 (Ho 0 c93_l0)) (rr c93_r6))⟩
def K93 (D:Bj):Prop:=∀a0 r,g93 a0=some r→D 93 ⟨[.agg (Au a0)],[]⟩ ⟨iV r,[],[]⟩
theorem F93 (H92:K92 C) (H124:K124 C):K93 (FO C c93):=by
 intro a0 r h0
 refine f0 (Ba 9 [(1,.ptr 64 0),(3,iV 0)] [(64,Au a0)] (Cc (bb h0 fun r39 e40 h0=>Cr (R:=(fun S=>.inl ()=r39∧S=⟨[],[],[]⟩)) (fR a0) (fun s S=>match s with | p13=>S=⟨[(1,.ptr 64 0),(3,iV p13)],[(64,Au a0)],[]⟩) e40 _ (Dw (by kernel_rfl)) rfl 0 (fun _=>rfl) ?_ ?_)))
 ·rintro S _ hfg ⟨rfl,rfl⟩
  refine Dc _ hfg ?_
  obtain rfl:=sj h0
  exact Cn 4
 ·rintro p13 o1 _ K1 rfl h1 hx1 hK1 hE1 hR1
  refine Ax 5 (As (Jr rfl (o_ (Ba 2 [(1,.ptr 64 0),(3,iV p13),(8,.bool (decide (p13<(a0.Ah.length:Int))))] [(64,Au a0)] (Ch h1 (fun cP h1=>?_) (fun cP h1=>?_))))))
  ·refine Lr 5 (bb h1 fun y28 e29 h1=>bb h1 fun r30 e31 h1=>bb h1 fun y32 e33 h1=>bb h1 fun r34 e35 h1=>Ax 5 (Bd (d_ (sI rfl rfl rfl e29 (Bd (Ak tv (c_ (Bl ⟨tv,tv⟩ rfl (nl rfl)) (⟨tv,Gh (H92 a0.Ac y28 r30 e31) rfl (dw [(1,.ptr 64 0),(3,iV p13),(18,iV r30)] [(64,Au a0)] tv (d_ (bS 6 (Bd (Ak tv (Bv (u:=.iptr [iV y32]) rfl (fun hg=>(Nw (e:=eI) (y:=y32) rfl rfl (fun _=>hg) rfl rfl (fun _=>hg) (ip hg e33))) (⟨tv,?_⟩))))))) Aq⟩))))))))
   refine Ak tv (Bv (u:=iV y32) rfl (fun hg=>(Bl ⟨(fun _=>hg),tv⟩ rfl (nl rfl))) (⟨tv,Az (Eh (r:=iV r34) rfl false (fun hg=>H124 a0 y32 r34 (ip hg e35)) ⟨(fun hg=>hg),(fun hg=>hg),tv⟩ (fun _=>rfl) (fun _=>rfl) (fun _=>rfl) (fun h=>nomatch h) (dw [(1,.ptr 64 0),(3,iV p13),(20,.bool (decide (r30<0))),(27,.may ((decide (r30<0))==true) (iV r34))] [(64,Au a0)] tv (d_ (sR 3 [(1,.ptr 64 0),(3,iV p13),(29,.bool (bif (decide (r30<0)) then (decide (r34<0)) else false))] [(64,Au a0)] (Ch h1 (fun sP h1=>?_) (fun sP h1=>?_)))))) Aq⟩))
   ·refine Ax 4 (As (bb h1 fun y37 e38 h1=>Nr rfl rfl e38 (o_ ?_)))
    obtain rfl:=sj h1
    obtain rfl:=hx1 _ rfl
    obtain rfl:=sj h0
    exact Wv 4 hR1
   ·refine Ax 7 ?_
    obtain rfl:=sj h1
    exact kn hK1 rfl rfl
  ·obtain rfl:=sj h1
   obtain rfl:=hx1 _ rfl
   refine Hq rfl ?_
   exact jn hE1 ⟨rfl,rfl⟩
end Go.Ev
