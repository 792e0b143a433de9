/- The walks of functions: the code comes to the answers that QgD tells. Written by a program of ours. -/
import Derived.Test.YtnkhjipmmomjoaaGreatQgW2
set_option linter.all false
set_option maxHeartbeats 4000000
set_option linter.unusedVariables false
set_option maxRecDepth 100000
namespace Go.Ev
variable {C:Bh}

/- slices.pdqsortCmpFunc[loop.example/g00149/impl.Lease] -/
def NL:=[k_ 10 (.bool true)]
def NM:=[k_ 11 (.bool true)]
def NN:=[m_ 21 2,m_ 22 1,b_ .sub 23 21 22,m_ 12 23]
def NO:=[m_ 24 12,B_ .leq 25 24 12]
def NP:=[m_ 26 0,m_ 27 1,m_ 28 2,m_ 29 4,q_ 30 148 [.t 26,.t 27,.t 28,.t 29]]
def NQ:=[m_ 31 3,B_ .eql 32 31 0]
def NS:=[m_ 33 0,m_ 34 1,m_ 35 2,m_ 36 4,q_ 37 149 [.t 33,.t 34,.t 35,.t 36]]
def NT:=[m_ 38 10,N_ 39 38]
def NU:=[m_ 40 0,m_ 41 1,m_ 42 2,m_ 43 4,q_ 44 150 [.t 40,.t 41,.t 42,.t 43]]
def NV:=[m_ 45 3,B_ .sub 46 45 1,m_ 3 46]
def vK:=[m_ 48 0,m_ 49 1,m_ 50 2,m_ 51 4,q_ 52 151 [.t 48,.t 49,.t 50,.t 51],m_ 47 52,e_ 53 47 0,e_ 54 47 1,m_ 13 53,m_ 14 54]
def vL:=[m_ 55 14,B_ .eql 56 55 2]
def vM:=[m_ 57 0,m_ 58 1,m_ 59 2,m_ 60 4,q_ 61 152 [.t 57,.t 58,.t 59,.t 60]]
def vN:=[m_ 62 2,B_ .sub 63 62 1,m_ 64 13,m_ 65 1,b_ .sub 66 64 65,b_ .sub 67 63 66,m_ 13 67]
def vO:=[i_ 14 1]
def vP:=[m_ 68 10,m_ 69 68,mT 69 70 11,pa 71 69 70,m_ 72 71,mT 72 73 14,pT 72 74 (.bin .eql (.t 73) (.c (iV 1))),pa 75 72 74]
def vQ:=[m_ 76 0,m_ 77 1,m_ 78 2,m_ 79 4,q_ 80 153 [.t 76,.t 77,.t 78,.t 79]]
def vR:=tk [m_ 81 1,B_ .gtr 82 81 0,m_ 83 82,mT 83 84 4,mT 83 85 0,mT 83 86 1,pT 83 87 (.bin .sub (.t 86) (.c (iV 1))),xT 83 88 85 87 4,lT 83 89 88 4 true,mT 83 90 0,mT 83 91 13,xT 83 92 90 91 4,lT 83 93 92 4 true] (.alt [] ⟨some 94,.callv (.t 84) [.t 89,.t 93],some (83,true)⟩ (tk [pT 83 95 (.bin .lss (.t 94) (.c (iV 0))),pT 83 96 (.un .not (.t 95)),pa 97 83 96] .fin) .stop)
def vS:=[m_ 98 0,m_ 99 1,m_ 100 2,m_ 101 13,m_ 102 4,q_ 103 154 [.t 98,.t 99,.t 100,.t 101,.t 102],m_ 15 103]
def vT:=[m_ 104 15,m_ 1 104]
def vU:=[m_ 106 0,m_ 107 1,m_ 108 2,m_ 109 13,m_ 110 4,q_ 111 155 [.t 106,.t 107,.t 108,.t 109,.t 110],m_ 105 111,e_ 112 105 0,e_ 113 105 1,m_ 16 112,m_ 17 113]
def vV:=[m_ 114 17,m_ 11 114]
def vW:=[m_ 115 16,m_ 116 1,b_ .sub 117 115 116,m_ 118 2,m_ 119 16,b_ .sub 120 118 119,m_ 18 117,m_ 19 120]
def vX:=[m_ 121 12,B_ .quo 122 121 8,m_ 20 122]
def vY:=[m_ 123 18,m_ 124 19,b_ .lss 125 123 124]
def vZ:=[m_ 126 18,m_ 127 20,b_ .geq 128 126 127,m_ 10 128]
def wA:=[m_ 129 0,m_ 130 1,m_ 131 16,m_ 132 3,m_ 133 4,q_ 134 137 [.t 129,.t 130,.t 131,.t 132,.t 133]]
def wB:=[m_ 135 16,B_ .add 136 135 1,m_ 1 136]
def wC:=[m_ 137 19,m_ 138 20,b_ .geq 139 137 138,m_ 10 139]
def wD:=[m_ 140 0,m_ 141 16,B_ .add 142 141 1,m_ 143 2,m_ 144 3,m_ 145 4,q_ 146 137 [.t 140,.t 142,.t 143,.t 144,.t 145]]
def wE:=[m_ 147 16,m_ 2 147]
def NK:IR:=(.block 1 (sr NN (.seq (sr NO (iz 25 (rr NP))) (.seq (sr NQ (iz 32 (rr NS))) (.seq (sr NT (iz 39 (sr NU (.reg NV)))) (sr vK (.seq (sr vL (iz 56 (sr vM (sr vN (.reg vO))))) (.seq (sr vP (iz 75 (sr vQ (iz 80 .ret)))) (.seq (sd vR (iz 97 (sr vS (sr vT (.exit 1))))) (sr vU (sr vV (sr vW (sr vX (sr vY (.ite (.t 125) (sr vZ (sr wA (.reg wB))) (sr wC (sr wD (.reg wE))))))))))))))))))
def c137:Dp:=⟨5,148,[],sr NL (sr NM (Ju 0 NK))⟩
def sC (C:Bh) (rc:(List Aa)→Int→Int→Int→(Aa→Aa→Option Int)→Option (List Aa)):Prop:=∀(a0:List Aa) (a1:Int) (a2:Int) (a3:Int) (f4:Nat) (k4:List V) (is4:Aa→Aa→Option Int) (hs4:Iu k4) (hf4:∀(x0:Aa) (x1:Aa) r,is4 x0 x1=some r→C f4 ⟨.agg (Ac x0) :: .agg (Ac x1)::k4,[]⟩ ⟨iV r,[],[]⟩) (r:(List Aa)),rc a0 a1 a2 a3 is4=some r→C 137 ⟨[Af 2097152 a0,iV a1,iV a2,iV a3,.clo f4 k4],[]⟩ ⟨.tup [],[],[(0,4,r.map Ac)]⟩
def K137 (C:Bh):Prop:=∀n,sC C (kX n)
abbrev Ly:=fun x0 x1 x2 x3 x4 x5 (r:List (Nat×V))=>(1,iV x0)::(2,iV x1)::(4,.clo x2 x3)::(10,.bool x4)::(11,.bool x5)::r
theorem F137 {C:Bh} (H148:K148 C) (H149:K149 C) (H150:K150 C) (H151:K151 C) (H152:K152 C) (H153:K153 C) (H154:K154 C) (H155:K155 C) (rc137:(List Aa)→Int→Int→Int→(Aa→Aa→Option Int)→Option (List Aa)) (R137:sC C rc137) (a0:List Aa) (a1:Int) (a2:Int) (a3:Int) (f4:Nat) (k4:List V) (is4:Aa→Aa→Option Int) (hs4:Iu k4) (hf4:∀(x0:Aa) (x1:Aa) r,is4 x0 x1=some r→C f4 ⟨.agg (Ac x0) :: .agg (Ac x1)::k4,[]⟩ ⟨iV r,[],[]⟩) (r:(List Aa)) (h0:Vj rc137 a0 a1 a2 a3 is4=some r):gN C c137 ⟨[Af 2097152 a0,iV a1,iV a2,iV a3,.clo f4 k4],[]⟩ ⟨.tup [],[],[(0,4,r.map Ac)]⟩:=by
 refine f0 (Ay 7 [(0,Af 2097152 a0),(1,iV a1),(2,iV a2),(3,iV a3),(4,.clo f4 k4),(10,.bool true),(11,.bool true)] [] (Cg (bb h0 fun r214 e215 h0=>Cz (R:=(fun _=>False)) (Kd is4 rc137) (fun s S=>match s with | (p62,p63,p64,p65,p66,p67)=>S=⟨Ly p63 p64 f4 k4 p66 p67 [(0,Af 2097152 p62),(3,iV p65)],[],[]⟩) e215 _ (Ez (by kernel_rfl)) rfl 0 (fun h=>h.elim fun _ h=>h.elim) ?_ ?_)))
 ·exact fun _ _ _ h=>h.elim
 ·rintro ⟨p62,p63,p64,p65,p66,p67⟩ o1 _ K1 rfl h1 hx1 hK1 hE1 hR1
  refine Ay 13 (Ly p63 p64 f4 k4 p66 p67 [(0,Af 2097152 p62),(3,iV p65),(12,iV (wi (p64-p63))),(25,.bool (decide ((wi (p64-p63))≤12)))]) [] (Ct h1 (fun MW h1=>?_) (fun MW h1=>?_))
  ·refine Bc 5 (An (bb h1 fun r136 e137 h1=>gg h1 fun NW h1=>st (Eb [] [2097152] [] false (H148 p62 p63 p64 f4 k4 is4 hs4 hf4 r136 e137) ⟨tv,tv,tv,tv,tv⟩ (by kernel_rfl) (congrArg (fun z=>Gn.mk z []) (Av rfl (Av rfl (Av rfl (Av (Eo hs4) rfl))))) (by kernel_rfl) (by kernel_rfl) (fun _=>Bi rfl (Bi (nT (fun _=>rfl)) rfl)) (Hj (Dn ⟨[(0,Af 2097152 r136)],[],[]⟩ (fg ⟨congrArg (fun z=>some ((z:V))) (Ir NW),tv⟩ tv) ?_)))))
   obtain rfl:=sj h1
   obtain rfl:=hx1 _ rfl
   obtain rfl:=sj h0
   exact Lf (hR1 _ (Eg rfl rfl rfl rfl rfl ⟨⟨rfl,Mp (fun _=>rfl)⟩,tv⟩))
  ·refine Ay 7 (Ly p63 p64 f4 k4 p66 p67 [(0,Af 2097152 p62),(3,iV p65),(12,iV (wi (p64-p63))),(32,.bool (p65==0))]) [] (Ct h1 (fun OA h1=>?_) (fun OA h1=>?_))
   ·refine Bc 5 (An (bb h1 fun r140 e141 h1=>gg h1 fun c142 h1=>st (Eb [] [2097152] [] false (H149 p62 p63 p64 f4 k4 is4 hs4 hf4 r140 e141) ⟨tv,tv,tv,tv,tv⟩ (by kernel_rfl) (congrArg (fun z=>Gn.mk z []) (Av rfl (Av rfl (Av rfl (Av (Eo hs4) rfl))))) (by kernel_rfl) (by kernel_rfl) (fun _=>Bi rfl (Bi (nT (fun _=>rfl)) rfl)) (Hj (Dn ⟨[(0,Af 2097152 r140)],[],[]⟩ (fg ⟨congrArg (fun z=>some ((z:V))) (Ir c142),tv⟩ tv) ?_)))))
    obtain rfl:=sj h1
    obtain rfl:=hx1 _ rfl
    obtain rfl:=sj h0
    exact Lf (hR1 _ (Eg rfl rfl rfl rfl rfl ⟨⟨rfl,Mp (fun _=>rfl)⟩,tv⟩))
   ·refine Ay 7 (Ly p63 p64 f4 k4 p66 p67 [(0,Af 2097152 p62),(3,iV p65),(12,iV (wi (p64-p63))),(39,.bool (!p66))]) [] (Kg (cb:=(!p66)) (fun S=>∃p147:List Aa,∃p148:Int,S=⟨Ly p63 p64 f4 k4 p66 p67 [(0,Af 2097152 p147),(3,iV p148),(12,iV (wi (p64-p63)))],[],[]⟩∧Lp is4 rc137 p63 p64 p66 p67 p147 p148=some o1) rfl ?_ (fun c210 J209=>?_) (fun c210 J209=>?_))
    ·rintro _ ⟨p147,p148,rfl,h1⟩
     refine Bc 6 (An (bb h1 fun r149 e150 h1=>st (Dj (r:=.tup [iV r149.1,iV r149.2]) false (H151 p147 p63 p64 f4 k4 is4 hs4 hf4 r149 e150) ⟨tv,tv,tv,tv,tv⟩ rfl (Av rfl (Av rfl (Av rfl (Av (Eo hs4) rfl)))) (fun _=>rfl) (o_ (Ay 12 (Ly p63 p64 f4 k4 p66 p67 [(0,Af 2097152 p147),(3,iV p148),(12,iV (wi (p64-p63))),(13,iV r149.1),(14,iV r149.2),(56,.bool (r149.2==2))]) [] (Kg (cb:=(r149.2==2)) (fun S=>∃p157:List Aa,∃p158:Int,∃p159:Int,S=⟨Ly p63 p64 f4 k4 p66 p67 [(0,Af 2097152 p157),(3,iV p148),(12,iV (wi (p64-p63))),(13,iV p158),(14,iV p159)],[],[]⟩∧Qp is4 rc137 p63 p64 p66 p67 p148 p157 p158 p159=some o1) rfl ?_ (fun c203 J202=>?_) (fun c203 J202=>?_)))))))
     ·rintro _ ⟨p157,p158,p159,rfl,h1⟩
      refine Bc 5 (An (st (Ce (u:=.bool p67) rfl (fun hg=>(Dt (v:=.bool p67) rfl tv)) (st (Eh rfl rfl rfl (fun h=>Sr h) tv rfl (st (Bw rfl tv (st (Ce (u:=iV p159) rfl (fun hg=>(Dt (v:=iV p159) rfl tv)) (st (Ce (u:=.bool (p159==1)) rfl (fun hg=>(Bb ⟨(fun _=>hg),tv,tv⟩ rfl tv)) (st (Eh rfl rfl rfl (fun h=>Sr h) tv rfl (o_ (Ay 1 (Ly p63 p64 f4 k4 p66 p67 [(0,Af 2097152 p157),(3,iV p148),(12,iV (wi (p64-p63))),(13,iV p158),(75,.bool (bif (bif p66 then p67 else false) then (p159==1) else false))]) [] (Kg (cb:=(bif (bif p66 then p67 else false) then (p159==1) else false)) (fun S=>∃p165:List Aa,S=⟨Ly p63 p64 f4 k4 p66 p67 [(0,Af 2097152 p165),(3,iV p148),(12,iV (wi (p64-p63))),(13,iV p158)],[],[]⟩∧Te is4 rc137 p63 p64 p66 p67 p148 p158 p165=some o1) rfl ?_ (fun c197 J196=>?_) (fun c197 J196=>?_)))))))))))))))))
      ·rintro _ ⟨p165,rfl,h1⟩
       refine Mx 3 (bb h1 fun y166 e167 h1=>bb h1 fun y168 e169 h1=>bb h1 fun y170 e171 h1=>bb h1 fun y172 e173 h1=>bb h1 fun r174 e175 h1=>Bc 3 (Bl (Ag tv (Ce (u:=.clo f4 k4) rfl (fun hg=>(Dt (v:=.clo f4 k4) rfl tv)) (⟨tv,Ag tv (Ce (u:=Af 2097152 p165) rfl (fun hg=>(Dt (v:=Af 2097152 p165) rfl tv)) (⟨tv,Ag tv (Ce (u:=iV p63) rfl (fun hg=>(Dt (v:=iV p63) rfl tv)) (⟨tv,Ag tv (Ce (u:=iV (wi (p63-1))) rfl (fun hg=>(Bb ⟨(fun _=>hg),tv,tv⟩ rfl tv)) (⟨tv,Ag tv (Ce (u:=.optr 2097152 4 (0+((wi (p63-1)).toNat)) 0) rfl (fun hg=>(Hd (e:=Ac) (y:=y166) rfl rfl (fun _=>hg) rfl rfl (fun _=>hg) (ip hg e167))) (⟨tv,Ca (Ce (u:=.agg (Ac y168)) rfl (fun hg=>(Bf (e:=Ac) (y:=y168) (v:=.agg (Ac y168)) rfl rfl (fun _=>hg) rfl rfl (ip hg e169) rfl (nl rfl) rfl)) (⟨⟨Bn (v:=.agg (Ac y168)) rfl (fun hg=>(Bf (e:=Ac) (y:=y168) (v:=.agg (Ac y168)) rfl rfl (fun _=>hg) rfl rfl (ip hg e169) rfl (nl rfl) rfl)) rfl,tv⟩,Ag tv (Ce (u:=Af 2097152 p165) rfl (fun hg=>(Dt (v:=Af 2097152 p165) rfl tv)) (⟨⟨Bn (v:=.agg (Ac y168)) rfl (fun hg=>(Bf (e:=Ac) (y:=y168) (v:=.agg (Ac y168)) rfl rfl (fun _=>hg) rfl rfl (ip hg e169) rfl (nl rfl) rfl)) rfl,tv⟩,Ag tv (Ce (u:=iV p158) rfl (fun hg=>(Dt (v:=iV p158) rfl tv)) (⟨⟨Bn (v:=.agg (Ac y168)) rfl (fun hg=>(Bf (e:=Ac) (y:=y168) (v:=.agg (Ac y168)) rfl rfl (fun _=>hg) rfl rfl (ip hg e169) rfl (nl rfl) rfl)) rfl,tv⟩,Ag tv (Ce (u:=.optr 2097152 4 (0+p158.toNat) 0) rfl (fun hg=>(Hd (e:=Ac) (y:=y170) rfl rfl (fun _=>hg) rfl rfl (fun _=>hg) (ip hg e171))) (⟨⟨Bn (v:=.agg (Ac y168)) rfl (fun hg=>(Bf (e:=Ac) (y:=y168) (v:=.agg (Ac y168)) rfl rfl (fun _=>hg) rfl rfl (ip hg e169) rfl (nl rfl) rfl)) rfl,tv⟩,Ca (Ce (u:=.agg (Ac y172)) rfl (fun hg=>(Bf (e:=Ac) (y:=y172) (v:=.agg (Ac y172)) rfl rfl (fun _=>hg) rfl rfl (ip hg e173) rfl (nl rfl) rfl)) (⟨⟨Bn (v:=.agg (Ac y172)) rfl (fun hg=>(Bf (e:=Ac) (y:=y172) (v:=.agg (Ac y172)) rfl rfl (fun _=>hg) rfl rfl (ip hg e173) rfl (nl rfl) rfl)) rfl,Bn (v:=.agg (Ac y168)) rfl (fun hg=>(Bf (e:=Ac) (y:=y168) (v:=.agg (Ac y168)) rfl rfl (fun _=>hg) rfl rfl (ip hg e169) rfl (nl rfl) rfl)) rfl,tv⟩,Bu (Ii (r:=iV r174) rfl rfl rfl (fun hg=>hg) false (fun hg=>hf4 _ _ r174 (ip hg e175)) ⟨(fun hg=>hg),(fun hg=>hg),tv⟩ (fun _=>(ar (Bi rfl hs4.2.2.1))) (fun _=>(Av rfl (Av rfl (hs4.2.1 _ _ _ _ _)))) (fun _=>rfl) (fun h=>nomatch h) (dw [(0,Af 2097152 p165),(1,iV p63),(2,iV p64),(3,iV p148),(4,.clo f4 k4),(10,.bool p66),(11,.bool p67),(12,iV (wi (p64-p63))),(13,iV p158),(83,.bool (decide (p63>0))),(94,.may ((decide (p63>0))==true) (iV r174))] [] tv (Ag tv (Ce (u:=.bool (decide (r174<0))) rfl (fun hg=>(Bb ⟨(fun _=>hg),tv,tv⟩ rfl tv)) (⟨tv,?_⟩))))) Au⟩))⟩))⟩))⟩))⟩))⟩))⟩))⟩))⟩))⟩)))))
       refine Ag tv (Ce (u:=.bool (!(decide (r174<0)))) rfl (fun hg=>(Bb ⟨(fun _=>hg),tv⟩ rfl tv)) (⟨tv,Ag tv (Eh rfl rfl rfl (fun h=>Sr h) tv rfl (⟨tv,d_ (Ay 1 (Ly p63 p64 f4 k4 p66 p67 [(0,Af 2097152 p165),(3,iV p148),(12,iV (wi (p64-p63))),(13,iV p158),(97,.bool (bif (decide (p63>0)) then (!(decide (r174<0))) else false))]) [] (Ct h1 (fun c176 h1=>?_) (fun c176 h1=>?_)))⟩))⟩))
       ·refine Bc 6 (An (bb h1 fun r177 e178 h1=>gg h1 fun c179 h1=>st (Eb [] [2097152] [] false (H154 p165 p63 p64 p158 f4 k4 is4 hs4 hf4 r177 e178) ⟨tv,tv,tv,tv,tv,tv⟩ (by kernel_rfl) (congrArg (fun z=>Gn.mk z []) (Av rfl (Av rfl (Av rfl (Av rfl (Av (Eo hs4) rfl)))))) (by kernel_rfl) (by kernel_rfl) (fun _=>Bi rfl (Bi (nT (fun _=>rfl)) rfl)) (sw ⟨[(0,Af 2097152 r177.2),(2,iV p64),(3,iV p148),(4,.clo f4 k4),(10,.bool p66),(11,.bool p67),(103,iV r177.1)],[],[]⟩ (fg ⟨congrArg (fun z=>some ((z:V))) (Ir c179),rfl,rfl,rfl,rfl,rfl,rfl,tv⟩ tv) (Bw rfl tv (o_ (Ay 6 [(0,Af 2097152 r177.2),(1,iV r177.1),(2,iV p64),(3,iV p148),(4,.clo f4 k4),(10,.bool p66),(11,.bool p67)] [] (ex_ rfl ?_))))))))
        obtain rfl:=sj h1
        exact kn hK1 rfl rfl
       ·refine Bc 8 (An (bb h1 fun r180 e181 h1=>gg h1 fun c182 h1=>st (Eb [] [2097152] [] false (H155 p165 p63 p64 p158 f4 k4 is4 hs4 hf4 r180 e181) ⟨tv,tv,tv,tv,tv,tv⟩ (by kernel_rfl) (congrArg (fun z=>Gn.mk z []) (Av rfl (Av rfl (Av rfl (Av rfl (Av (Eo hs4) rfl)))))) (by kernel_rfl) (by kernel_rfl) (fun _=>Bi rfl (Bi (nT (fun _=>rfl)) rfl)) (sw ⟨[(0,Af 2097152 r180.2.2),(1,iV p63),(2,iV p64),(3,iV p148),(4,.clo f4 k4),(12,iV (wi (p64-p63))),(111,.tup [iV r180.1,.bool r180.2.1])],[],[]⟩ (fg ⟨congrArg (fun z=>some ((z:V))) (Ir c182),rfl,rfl,rfl,rfl,rfl,rfl,tv⟩ tv) (Bw rfl tv (o_ (Ay 21 [(0,Af 2097152 r180.2.2),(1,iV p63),(2,iV p64),(3,iV p148),(4,.clo f4 k4),(11,.bool r180.2.1),(12,iV (wi (p64-p63))),(16,iV r180.1),(18,iV (wi (r180.1-p63))),(19,iV (wi (p64-r180.1)))] [] (Bj (An (st (Bw rfl tv (st (c_ (Bb ⟨tv,tv,tv⟩ rfl (by decide)) (st (Bw rfl tv ?_)))))))))))))))
        refine o_ (Ay 1 [(0,Af 2097152 r180.2.2),(1,iV p63),(2,iV p64),(3,iV p148),(4,.clo f4 k4),(11,.bool r180.2.1),(16,iV r180.1),(18,iV (wi (r180.1-p63))),(19,iV (wi (p64-r180.1))),(20,iV (wi (((wi (p64-p63))).tdiv 8)))] [] (Bc 5 (bv h1 fun v183 e184 h1=>Dn ⟨[(0,Af 2097152 r180.2.2),(1,iV p63),(2,iV p64),(3,iV p148),(4,.clo f4 k4),(11,.bool r180.2.1),(16,iV r180.1),(18,iV (wi (r180.1-p63))),(19,iV (wi (p64-r180.1))),(20,iV (wi (((wi (p64-p63))).tdiv 8))),(125,.bool v183)],[],[]⟩ (fg ⟨(by subst e184; rfl),(by subst e184; rfl),(by subst e184; rfl),(by subst e184; rfl),(by subst e184; rfl),(by subst e184; rfl),(by subst e184; rfl),(by subst e184; rfl),(by subst e184; rfl),(by subst e184; rfl),(by subst e184; rfl),tv⟩ tv) (Ct h1 (fun c185 h1=>?_) (fun c185 h1=>?_)))))
        ·refine Bc 6 (bv h1 fun v186 e187 h1=>Dn ⟨[(0,Af 2097152 r180.2.2),(1,iV p63),(2,iV p64),(3,iV p148),(4,.clo f4 k4),(10,.bool v186),(11,.bool r180.2.1),(16,iV r180.1)],[],[]⟩ (fg ⟨(by subst e187; rfl),(by subst e187; rfl),(by subst e187; rfl),(by subst e187; rfl),(by subst e187; rfl),(by subst e187; rfl),(by subst e187; rfl),(by subst e187; rfl),tv⟩ tv) (Bc 6 (An (bb h1 fun r188 e189 h1=>gg h1 fun c190 h1=>st (Eb [] [2097152] [] false (R137 r180.2.2 p63 r180.1 p148 f4 k4 is4 hs4 hf4 r188 e189) ⟨tv,tv,tv,tv,tv,tv⟩ (by kernel_rfl) (congrArg (fun z=>Gn.mk z []) (Av rfl (Av rfl (Av rfl (Av rfl (Av (Eo hs4) rfl)))))) (by kernel_rfl) (by kernel_rfl) (fun _=>Bi rfl (Bi (nT (fun _=>rfl)) rfl)) (Hj (Dn ⟨[(0,Af 2097152 r188),(2,iV p64),(3,iV p148),(4,.clo f4 k4),(10,.bool v186),(11,.bool r180.2.1),(16,iV r180.1)],[],[]⟩ (fg ⟨congrArg (fun z=>some ((z:V))) (Ir c190),rfl,rfl,rfl,rfl,rfl,rfl,tv⟩ tv) (Bc 5 ?_))))))))
         obtain rfl:=sj h1
         exact kn hK1 rfl rfl
        ·refine Bc 6 (bv h1 fun v191 e192 h1=>Dn ⟨[(0,Af 2097152 r180.2.2),(1,iV p63),(2,iV p64),(3,iV p148),(4,.clo f4 k4),(10,.bool v191),(11,.bool r180.2.1),(16,iV r180.1)],[],[]⟩ (fg ⟨(by subst e192; rfl),(by subst e192; rfl),(by subst e192; rfl),(by subst e192; rfl),(by subst e192; rfl),(by subst e192; rfl),(by subst e192; rfl),(by subst e192; rfl),tv⟩ tv) (Bc 7 (An (bb h1 fun r193 e194 h1=>gg h1 fun c195 h1=>st (Eb [] [2097152] [] false (R137 r180.2.2 (wi (r180.1+1)) p64 p148 f4 k4 is4 hs4 hf4 r193 e194) ⟨tv,tv,tv,tv,tv,tv⟩ (by kernel_rfl) (congrArg (fun z=>Gn.mk z []) (Av rfl (Av rfl (Av rfl (Av rfl (Av (Eo hs4) rfl)))))) (by kernel_rfl) (by kernel_rfl) (fun _=>Bi rfl (Bi (nT (fun _=>rfl)) rfl)) (Hj (Dn ⟨[(0,Af 2097152 r193),(1,iV p63),(3,iV p148),(4,.clo f4 k4),(10,.bool v191),(11,.bool r180.2.1),(16,iV r180.1)],[],[]⟩ (fg ⟨congrArg (fun z=>some ((z:V))) (Ir c195),rfl,rfl,rfl,rfl,rfl,rfl,tv⟩ tv) (Bc 4 ?_))))))))
         obtain rfl:=sj h1
         exact kn hK1 rfl rfl
      ·replace h1:=ip c197 h1
       refine Bc 5 (An (bb h1 fun r198 e199 h1=>gg h1 fun c200 h1=>st (Eb [] [2097152] [] false (H153 p157 p63 p64 f4 k4 is4 hs4 hf4 r198 e199) ⟨tv,tv,tv,tv,tv⟩ (by kernel_rfl) (congrArg (fun z=>Gn.mk z []) (Av rfl (Av rfl (Av rfl (Av (Eo hs4) rfl))))) (by kernel_rfl) (by kernel_rfl) (fun _=>Bi rfl (Bi (nT (fun _=>rfl)) rfl)) (Hj (Dn ⟨[(0,Af 2097152 r198.2),(1,iV p63),(2,iV p64),(3,iV p148),(4,.clo f4 k4),(10,.bool p66),(11,.bool p67),(12,iV (wi (p64-p63))),(13,iV p158),(80,.bool r198.1)],[],[]⟩ (fg ⟨congrArg (fun z=>some ((z:V))) (Ir c200),rfl,rfl,rfl,rfl,rfl,rfl,rfl,rfl,rfl,tv⟩ tv) (Ct h1 (fun c201 h1=>?_) (fun c201 h1=>?_)))))))
       ·obtain rfl:=sj h1
        obtain rfl:=hx1 _ rfl
        obtain rfl:=sj h0
        exact Lf (hR1 _ (Eg rfl rfl rfl rfl rfl ⟨⟨rfl,Mp (fun _=>rfl)⟩,tv⟩))
       ·refine Jf ?_
        exact jn J196 ⟨_,rfl,h1⟩
      ·replace h1:=Wx c197 h1
       refine Jf ?_
       exact jn J196 ⟨_,rfl,h1⟩
     ·replace h1:=ip c203 h1
      refine Bc 5 (An (bb h1 fun r204 e205 h1=>gg h1 fun c206 h1=>st (Eb [] [2097152] [] false (H152 p147 p63 p64 f4 k4 is4 hs4 hf4 r204 e205) ⟨tv,tv,tv,tv,tv⟩ (by kernel_rfl) (congrArg (fun z=>Gn.mk z []) (Av rfl (Av rfl (Av rfl (Av (Eo hs4) rfl))))) (by kernel_rfl) (by kernel_rfl) (fun _=>Bi rfl (Bi (nT (fun _=>rfl)) rfl)) (Hj (Dn ⟨[(0,Af 2097152 r204),(1,iV p63),(2,iV p64),(3,iV p148),(4,.clo f4 k4),(10,.bool p66),(11,.bool p67),(12,iV (wi (p64-p63))),(13,iV r149.1)],[],[]⟩ (fg ⟨congrArg (fun z=>some ((z:V))) (Ir c206),rfl,rfl,rfl,rfl,rfl,rfl,rfl,rfl,tv⟩ tv) (Bc 9 (bv h1 fun v207 e208 h1=>Dn ⟨[(0,Af 2097152 r204),(1,iV p63),(2,iV p64),(3,iV p148),(4,.clo f4 k4),(10,.bool p66),(11,.bool p67),(12,iV (wi (p64-p63))),(13,iV v207)],[],[]⟩ (fg ⟨(by subst e208; rfl),(by subst e208; rfl),(by subst e208; rfl),(by subst e208; rfl),(by subst e208; rfl),(by subst e208; rfl),(by subst e208; rfl),(by subst e208; rfl),(by subst e208; rfl),tv⟩ tv) (An (st (BS tv (Hj ?_)))))))))))
      exact jn J202 ⟨_,_,_,rfl,h1⟩
     ·replace h1:=Wx c203 h1
      refine Jf ?_
      exact jn J202 ⟨_,_,_,rfl,h1⟩
    ·replace h1:=ip c210 h1
     refine Bc 5 (An (bb h1 fun r211 e212 h1=>gg h1 fun c213 h1=>st (Eb [] [2097152] [] false (H150 p62 p63 p64 f4 k4 is4 hs4 hf4 r211 e212) ⟨tv,tv,tv,tv,tv⟩ (by kernel_rfl) (congrArg (fun z=>Gn.mk z []) (Av rfl (Av rfl (Av rfl (Av (Eo hs4) rfl))))) (by kernel_rfl) (by kernel_rfl) (fun _=>Bi rfl (Bi (nT (fun _=>rfl)) rfl)) (Hj (Dn ⟨[(0,Af 2097152 r211),(1,iV p63),(2,iV p64),(3,iV p65),(4,.clo f4 k4),(10,.bool p66),(11,.bool p67),(12,iV (wi (p64-p63)))],[],[]⟩ (fg ⟨congrArg (fun z=>some ((z:V))) (Ir c213),rfl,rfl,rfl,rfl,rfl,rfl,rfl,tv⟩ tv) (Bc 4 ?_))))))
     exact jn J209 ⟨_,_,rfl,h1⟩
    ·replace h1:=Wx c210 h1
     refine Jf ?_
     exact jn J209 ⟨_,_,rfl,h1⟩

/- slices.SortFunc[[]loop.example/g00149/impl.Lease,loop.example/g00149/impl.Lease] -/
def IP:=[m_ 5 0,n_ 6 5,m_ 4 6]
def IQ:=[m_ 7 0,m_ 8 4,m_ 9 4,iQ 10 (.conv .u64 (.t 9)),q_ 11 138 [.t 10],m_ 12 1,q_ 13 137 [.t 7,.c (iV 0),.t 8,.t 11,.t 12]]
def c116:Dp:=⟨2,14,[],sr IP (.reg IQ)⟩
def K116 (C:Bh) (D:Bh:=C):Prop:=∀(a0:List Aa) (f1:Nat) (k1:List V) (is1:Aa→Aa→Option Int) (hs1:Iu k1) (hf1:∀(x0:Aa) (x1:Aa) r,is1 x0 x1=some r→C f1 ⟨.agg (Ac x0) :: .agg (Ac x1)::k1,[]⟩ ⟨iV r,[],[]⟩) (r:(List Aa)),AC a0 is1=some r→D 116 ⟨[Af 2097152 a0,.clo f1 k1],[]⟩ ⟨.tup [],[],[(0,4,r.map Ac)]⟩
theorem F116 (H137:K137 C) (H138:EL C):K116 C (FO C c116):=by
 intro a0 f1 k1 is1 hs1 hf1 r h0
 refine f0 (Bj (An (st (Bw rfl tv (aS rfl (o_ (Ay 2 [(0,Af 2097152 a0),(1,.clo f1 k1),(4,iV (a0.length:Int))] [] (Bc 4 (An (bb h0 fun r1 e2 h0=>Vf (H138 (IntKind.u64.wrap (a0.length:Int)) r1 e2) (st (Bw rfl tv (bb h0 fun r3 e4 h0=>gg h0 fun c5 h0=>st (Eb [] [2097152] [] false ((H137 Oi) a0 0 (a0.length:Int) r1 f1 k1 is1 hs1 hf1 r3 e4) ⟨tv,tv,tv,tv,tv,tv⟩ (by kernel_rfl) (congrArg (fun z=>Gn.mk z []) (Av rfl (Av rfl (Av rfl (Av rfl (Av (Eo hs1) rfl)))))) (by kernel_rfl) (by kernel_rfl) (fun _=>Bi rfl (Bi (nT (fun _=>rfl)) rfl)) (Hj ?_)))))))))))))))
 obtain rfl:=sj h0
 exact bF (bE (S1:=⟨[(0,Af 2097152 r3),(7,Af 2097152 r3)],[],[]⟩) (fg ⟨congrArg (fun z=>some ((z:V))) (Ir c5),congrArg (fun z=>some ((z:V))) (Ir c5),tv⟩ tv) (Eg rfl rfl rfl rfl rfl ⟨⟨rfl,Mp (fun _=>rfl)⟩,tv⟩))

/- (loop.example/g00149/impl.Table).tick -/
def c82_r0:List Bt:=[X_ 2 0,a_ 4 (zT 259),⟨some 5,.nilS 1,none⟩]
def c82_r1:=[L_ 10 2 3,q_ 11 112 [.t 10],a_ 6 (zT 387),s_ 6 11 3]
def c82_r2:=[f_ 12 2 0,l_ 13 12 1,m_ 14 1,iQ 15 (.mx (.t 13) (.t 14)),f_ 16 6 0,s_ 16 15 1]
def c82_r3:List Bt:=[⟨some 7,.nilS 4,none⟩]
def c82_r4:=[f_ 17 6 2,l_ 18 17 1,n_ 19 18,i_ 20 0]
def c82_r5:=[b_ .lss 21 20 19]
def c82_r6:=[m_ 22 20,x_ 23 18 20 4,L_ 24 23 4,a_ 9 [iV 0,iV 0,iV 0,.bool false],m_ 8 22,s_ 9 24 4]
def c82_r7:=[f_ 25 9 3,l_ 26 25 1,N_ 27 26,m_ 28 27,fT 28 29 9 1,lT 28 30 29 1 false,fT 28 31 6 0,lT 28 32 31 1 false,pT 28 33 (.bin .leq (.t 30) (.t 32)),pa 34 28 33]
def c82_r8:List Bt:=[f_ 35 6 2,l_ 36 35 1,m_ 37 8,x_ 38 36 37 4,f_ 39 38 3,⟨none,.store (.t 39) (.c (.bool true)) 1,none⟩]
def c82_r9:List Bt:=[m_ 40 7,L_ 41 9 4,⟨some 42,.mkS 4 [iV 0,iV 0,iV 0,.bool false] 1 [(0,.t 41)],none⟩,⟨some 43,.app 4 32 (.t 40) (.t 42),none⟩,m_ 7 43]
def Aam:=[B_ .add 44 20 1,m_ 20 44]
def c82_l0:IR:=(sr c82_r5 (.seq (.ite (.t 21) .skip (.exit 0)) (.seq (.block 1 (sr c82_r6 (sr c82_r7 (iz 34 (sr c82_r8 (.reg c82_r9)))))) (.reg Aam))))
def Aan:=[m_ 45 7,q_ 46 116 [.t 45,.c (.clo 69 [])]]
def Aao:=tk [L_ 47 6 3,m_ 48 7,⟨some 49,.p (.build (zT 3139) [(2,1,.t 48)]),none⟩] (.alt [L_ 47 6 3] (q_ 50 60 [.t 49]) (.alt [] (s_ 4 47 3) (tk [m_ 5 50] .fin) .stop) .stop)
def c82:Dp:=⟨2,51,[.cell 4 3 true,.t 5],sr c82_r0 (sr c82_r1 (sr c82_r2 (sr c82_r3 (.seq (sr c82_r4 (Ju 0 c82_l0)) (sr Aan (sd Aao .ret))))))⟩
def K82 (D:Bh):Prop:=∀a0 a1 r,g82 a0 a1=some r→D 82 ⟨[.agg (Bd a0),iV a1],[]⟩ ⟨.tup [.agg (Cm r.1 (Ap 0)),oI 1 r.2],[],[]⟩
abbrev Ro:=fun (r:List (Nat×List V))=>(256,Bo 0 0 (Ap 259) [])::r
abbrev Uh:=fun (r:List (Nat×V))=>(4,.ptr 256 0)::(6,.ptr 384 0)::r
theorem F82 (H60:K60 C) (H69:K69 C) (H112:gO C) (H116:K116 C):K82 (FO C c82):=by
 intro a0 a1 r h0
 refine f0 (Ay 5 [(1,iV a1),(2,.ptr 128 0),(4,.ptr 256 0)] (Ro [(128,Bd a0)]) (Bc 2 (An (bb h0 fun r1 e2 h0=>Sy (H112 a0 r1 e2) (ar (Bi rfl (af rfl))) (o_ (Ay 16 (Uh [(7,.own 448 0 4 ([].map Ac))]) (Ro [(384,Bo (if a1>a0.clock then a1 else a0.clock) r1.next (Ap 704) r1.Ae)]) (Bc 4 (An (aS rfl (o_ (Ay 2 (Uh [(7,.own 448 0 4 ([].map Ac)),(18,Af 704 r1.Ae),(19,iV (r1.Ae.length:Int)),(20,iV 0)]) (Ro [(384,Bo (if a1>a0.clock then a1 else a0.clock) r1.next (Ap 704) r1.Ae)]) (Cg (bb h0 fun r74 e75 h0=>Cz (R:=(fun S=>∃p43:List Aa,∃p44:List Aa,(p43,p44)=r74∧S=⟨Uh [(7,Af 448 p43)],Ro [(384,Bo (if a1>a0.clock then a1 else a0.clock) r1.next (Ap 704) p44)],[]⟩)) (Sc a0 a1 r1) (fun s S=>match s with | (p19,p20,p21)=>S=⟨Uh [(7,Af 448 p19),(18,Af 704 p20),(19,iV (r1.Ae.length:Int)),(20,iV p21)],Ro [(384,Bo (if a1>a0.clock then a1 else a0.clock) r1.next (Ap 704) p20)],[]⟩) e75 _ (Ez (by kernel_rfl)) rfl 0 (fun _=>rfl) ?_ ?_)))))))))))))
 ·rintro S _ hfg ⟨p43,p44,rfl,rfl⟩
  refine Dn _ hfg (Bj (An (st (Bw rfl tv (bb h0 fun r76 e77 h0=>gg h0 fun c78 h0=>st (Eb [] [448] [] false (H116 p43 69 [] (fun z69_0 z69_1=>g69 z69_0 z69_1) (⟨fun _ _ _ _ _=>rfl,fun _ _ _ _ _=>rfl,rfl,fun _ _ _ n=>by cases n<;>rfl,fun _=>rfl⟩) (fun z69_0 z69_1 r h=>H69 z69_0 z69_1 r h) r76 e77) ⟨tv,tv,tv⟩ (by kernel_rfl) (by kernel_rfl) (by kernel_rfl) (by kernel_rfl) (fun _=>Bi rfl (Bi (nT (fun _=>rfl)) rfl)) (Hj (Dn ⟨[(4,.ptr 256 0),(6,.ptr 384 0),(7,Af 448 r76)],[(256,Bo 0 0 (Ap 259) []),(384,Bo (if a1>a0.clock then a1 else a0.clock) r1.next (Ap 704) p44)],[]⟩ (fg ⟨rfl,rfl,congrArg (fun z=>some ((z:V))) (Ir c78),tv⟩ ⟨rfl,rfl,tv⟩) (Bj (bb h0 fun r79 e80 h0=>Bc 2 (Bl (Ag tv (c_ (v:=.agg (Bo 0 0 (Ap 448) r76)) (Bb ⟨tv,tv⟩ rfl ⟨⟨rfl,rfl,nl rfl⟩,tv⟩) (⟨tv,Xg (H60 (Ak.mk 0 0 r76) r79 e80) (af rfl) (dw [(4,.ptr 256 0),(6,.ptr 384 0),(47,.agg (Bo (if a1>a0.clock then a1 else a0.clock) r1.next (Ap 704) p44)),(50,oI 3200 r79)] [(256,Bo 0 0 (Ap 259) []),(384,Bo (if a1>a0.clock then a1 else a0.clock) r1.next (Ap 704) p44)] hB (Bu (Gd rfl rfl tv rfl rfl rfl (nl rfl) (d0 tv (d_ (Ay 2 [(4,.ptr 256 0),(5,oI 3200 r79)] [(256,Bo (if a1>a0.clock then a1 else a0.clock) r1.next (Ap 704) p44)] ?_)))) Au)) Au⟩))))))))))))))
  obtain rfl:=sj h0
  exact Lf (Eg rfl rfl rfl rfl rfl tv)
 ·rintro ⟨p19,p20,p21⟩ o1 _ K1 rfl h1 hx1 hK1 hE1 hR1
  refine Ay 3 (Uh [(7,Af 448 p19),(18,Af 704 p20),(19,iV (r1.Ae.length:Int)),(20,iV p21),(21,.bool (decide (p21<(r1.Ae.length:Int))))]) (Ro [(384,Bo (if a1>a0.clock then a1 else a0.clock) r1.next (Ap 704) p20)]) (Bj (Ct h1 (fun c45 h1=>?_) (fun c45 h1=>?_)))
  ·refine Mx 3 (Hs (fun S=>∃p58:List Aa,∃p59:List Aa,S=⟨Uh [(7,Af 448 p58),(18,Af 704 p59),(19,iV (r1.Ae.length:Int)),(20,iV p21)],Ro [(384,Bo (if a1>a0.clock then a1 else a0.clock) r1.next (Ap 704) p59)],[]⟩∧Zr p21 p58 p59=some o1) ?_ (fun J61=>?_))
   ·rintro _ ⟨p58,p59,rfl,h1⟩
    refine Bc 4 ?_
    obtain rfl:=sj h1
    exact kn hK1 rfl rfl
   ·refine Bj ?_
    refine An (st (Bw rfl tv (bb h1 fun y62 e63 h1=>kA rfl rfl e63 (bb h1 fun y64 e65 h1=>lo_ rfl rfl e65 (o_ (Ay 4 (Uh [(7,Af 448 p19),(8,iV p21),(9,.ptr 576 0),(18,Af 704 p20),(19,iV (r1.Ae.length:Int)),(20,iV p21)]) (Ro [(384,Bo (if a1>a0.clock then a1 else a0.clock) r1.next (Ap 704) p20),(576,Ac y64)]) (cX 12 (bv h1 fun v66 e67 h1=>Dn ⟨Uh [(7,Af 448 p19),(8,iV p21),(9,.ptr 576 0),(18,Af 704 p20),(19,iV (r1.Ae.length:Int)),(20,iV p21),(34,.bool v66)],Ro [(384,Bo (if a1>a0.clock then a1 else a0.clock) r1.next (Ap 704) p20),(576,Ac y64)],[]⟩ (Ez (by subst e67; kernel_rfl)) (Ct h1 (fun c68 h1=>?_) (fun c68 h1=>?_))))))))))
    ·refine Bc 4 (An (bb h1 fun y69 e70 h1=>kA rfl rfl e70 (st (c_ (Bb ⟨tv,tv⟩ rfl tv) (bb h1 fun y71 e72 h1=>so_ (Aa.mk y71.id y71.Bm y71.cap true) rfl rfl e72 (o_ (Ay 1 (Uh [(7,Af 448 p19),(9,.ptr 576 0),(18,Af 704 (p20.set p21.toNat (Aa.mk y71.id y71.Bm y71.cap true))),(19,iV (r1.Ae.length:Int)),(20,iV p21)]) (Ro [(384,Bo (if a1>a0.clock then a1 else a0.clock) r1.next (Ap 704) (p20.set p21.toNat (Aa.mk y71.id y71.Bm y71.cap true))),(576,Ac y64)]) (Bc 3 (An (gg h1 fun c73 h1=>st (Ja (e:=Ac) (l0:=p19) (l1:=([y64]:List Aa)) rfl rfl tv rfl (by decide) c73 (st (Bw rfl tv (Hj (Rd ?_)))))))))))))))
     exact jn J61 ⟨_,_,rfl,h1⟩
    ·refine Jf (Rd ?_)
     exact jn J61 ⟨_,_,rfl,h1⟩
  ·obtain rfl:=sj h1
   obtain rfl:=hx1 _ rfl
   refine Jv rfl ?_
   exact jn hE1 ⟨_,_,rfl,rfl⟩

/- (loop.example/g00149/impl.Vault).tick$1 -/
def YZ:=[k_ 2 (.bool false)]
def ZA:=[f_ 3 0 6,l_ 4 3 1,B_ .eql 5 4 2,m_ 6 5,lT 6 7 1 1 false,pT 6 8 (.nilc (.t 7)),fT 6 9 8 13,lT 6 10 9 1 false,pT 6 11 (.bin .eql (.t 10) (.c (iV 1))),pa 12 6 11,m_ 2 12]
def c472:Dp:=⟨2,13,[.t 2],sr YZ (rr ZA)⟩
def K472 (D:Bh):Prop:=∀a0 a1 r,lR a0 a1=some r→D 472 ⟨[.iptr (Ar a0),.iptr [.iptr (iF a1)]],[]⟩ ⟨.bool r,[],[]⟩
theorem F472:K472 (FO C c472):=by
 intro a0 a1 r h0
 refine f0 (Ay 3 [(0,.iptr (Ar a0)),(1,.iptr [.iptr (iF a1)])] [] (cX 11 (An (o_ ?_))))
 obtain rfl:=sj h0
 exact Dd 3

/- slices.IndexFunc[[]loop.example/g00149/impl.Intent,loop.example/g00149/impl.Intent] -/
def ZP:=[i_ 4 0]
def ZQ:=[m_ 6 0,n_ 7 6,i_ 8 0]
def ZR:=[b_ .lss 9 8 7]
def ZS:=[m_ 10 8,m_ 5 10]
def ZT:List Bt:=[m_ 11 1,m_ 12 0,m_ 13 5,x_ 14 12 13 2,L_ 15 14 2,⟨some 16,.callv (.t 11) [.t 15],none⟩]
def ZU:=[m_ 17 5,m_ 4 17]
def ZV:=[B_ .add 18 8 1,m_ 8 18]
def ZO:IR:=(sr ZR (.seq (.ite (.t 9) .skip (.exit 0)) (.seq (.block 1 (sr ZS (sr ZT (iz 16 (rr ZU))))) (.reg ZV))))
def ZW:=[i_ 4 (-1)]
def c475:Dp:=⟨2,19,[.t 4],sr ZP (.seq (sr ZQ (Ju 0 ZO)) (rr ZW))⟩
def K475 (C:Bh) (D:Bh:=C):Prop:=∀(a0:List Ah) (f1:Nat) (k1:List V) (is1:Ah→Option Bool) (hs1:Iu k1) (hf1:∀(x0:Ah) r,is1 x0=some r→C f1 ⟨.agg (Bx x0)::k1,[]⟩ ⟨.bool r,[],[]⟩) (r:Int),g475 a0 is1=some r→D 475 ⟨[Cp a0,.clo f1 k1],[]⟩ ⟨iV r,[],[]⟩
theorem F475:K475 C (FO C c475):=by
 intro a0 f1 k1 is1 hs1 hf1 r h0
 refine f0 (Ay 3 [(0,Cp a0),(1,.clo f1 k1)] [] (Bc 3 (An (Sn rfl (o_ (Ay 2 [(0,Cp a0),(1,.clo f1 k1),(7,iV (a0.length:Int)),(8,iV 0)] [] (Cg (bb h0 fun r21 e22 h0=>Cz (R:=(fun S=>.inl ()=r21∧S=⟨[],[],[]⟩)) (oE a0 is1) (fun s S=>match s with | p7=>S=⟨[(0,Cp a0),(1,.clo f1 k1),(7,iV (a0.length:Int)),(8,iV p7)],[],[]⟩) e22 _ (Ez (by kernel_rfl)) rfl 0 (fun _=>rfl) ?_ ?_))))))))
 ·rintro S _ hfg ⟨rfl,rfl⟩
  refine Dn _ hfg ?_
  obtain rfl:=sj h0
  exact Dd 4
 ·rintro p7 o1 _ K1 rfl h1 hx1 hK1 hE1 hR1
  refine Ay 3 [(0,Cp a0),(1,.clo f1 k1),(7,iV (a0.length:Int)),(8,iV p7),(9,.bool (decide (p7<(a0.length:Int))))] [] (Bj (Ct h1 (fun c15 h1=>?_) (fun c15 h1=>?_)))
  ·refine Ay 8 [(0,Cp a0),(1,.clo f1 k1),(5,iV p7),(7,iV (a0.length:Int)),(8,iV p7)] [] (Bc 4 (An (bb h1 fun y16 e17 h1=>Vv rfl rfl e17 (st (c_ (v:=.agg (Bx y16)) (Bb ⟨tv,tv⟩ rfl (nl rfl)) (bb h1 fun r18 e19 h1=>st (Gy (r:=.bool r18) rfl false (hf1 _ r18 e19) ⟨tv,tv⟩ (Bi rfl hs1.2.2.1) (Av rfl (hs1.2.1 _ _ _ _ _)) (fun _=>rfl) (o_ (Ay 1 [(0,Cp a0),(1,.clo f1 k1),(5,iV p7),(7,iV (a0.length:Int)),(8,iV p7),(16,.bool r18)] [] (Ct h1 (fun EC h1=>?_) (fun EC h1=>?_)))))))))))
   ·obtain rfl:=sj h1
    obtain rfl:=hx1 _ rfl
    obtain rfl:=sj h0
    exact rX 5 hR1
   ·refine Bc 6 ?_
    obtain rfl:=sj h1
    exact kn hK1 rfl rfl
  ·obtain rfl:=sj h1
   obtain rfl:=hx1 _ rfl
   refine Jv rfl ?_
   exact jn hE1 ⟨rfl,rfl⟩

/- slices.DeleteFunc[[]loop.example/g00149/impl.Intent,loop.example/g00149/impl.Intent] -/
def ZC:List Bt:=[⟨some 4,.nilS 2,none⟩]
def ZD:=[m_ 8 0,m_ 9 1,q_ 10 475 [.t 8,.t 9],m_ 5 10]
def ZE:=[m_ 11 5,B_ .eql 12 11 (-1)]
def ZF:=[m_ 13 0,m_ 4 13]
def ZG:=[m_ 14 5,B_ .add 15 14 1,m_ 6 15]
def ZH:=[m_ 16 6,m_ 17 0,n_ 18 17,b_ .lss 19 16 18]
def ZI:=[m_ 22 0,m_ 23 6,x_ 24 22 23 2,L_ 25 24 2,a_ 7 [iV 0,.bool false],s_ 7 25 2]
def ZJ:List Bt:=[m_ 26 1,L_ 27 7 2,⟨some 28,.callv (.t 26) [.t 27],none⟩,N_ 29 28]
def ZK:=[m_ 30 0,m_ 31 5,L_ 32 7 2,x_ 33 30 31 2,s_ 33 32 2]
def ZL:=[m_ 34 5,B_ .add 35 34 1,m_ 5 35]
def zH:=[m_ 20 6,B_ .add 21 20 1,m_ 6 21]
def ZB:IR:=(.seq (sr ZH (.ite (.t 19) .skip (.exit 0))) (.seq (.block 1 (sr ZI (sr ZJ (iz 29 (sr ZK (.reg ZL)))))) (.reg zH)))
def zI:List Bt:=[m_ 36 0,m_ 37 5,⟨some 38,.p (.slice (.t 36) (some (.t 37)) none 2),none⟩,⟨none,.clear 2 [iV 0,.bool false] (.t 38),none⟩]
def zJ:List Bt:=[m_ 39 0,m_ 40 5,⟨some 41,.p (.slice (.t 39) none (some (.t 40)) 2),none⟩,m_ 4 41]
def c473:Dp:=⟨2,42,[.t 4],sr ZC (sr ZD (.seq (sr ZE (iz 12 (rr ZF))) (.seq (sr ZG (Ju 0 ZB)) (sr zI (rr zJ)))))⟩
def K473 (C:Bh) (D:Bh:=C):Prop:=∀(a0:List Ah) (f1:Nat) (k1:List V) (is1:Ah→Option Bool) (hs1:Iu k1) (hf1:∀(x0:Ah) r,is1 x0=some r→C f1 ⟨.agg (Bx x0)::k1,[]⟩ ⟨.bool r,[],[]⟩) (r:(List Ah)),AM a0 is1=some r→D 473 ⟨[Br 1024000 a0,.clo f1 k1],[]⟩ ⟨Br 0 r,[],[]⟩
theorem F473 (H475:K475 C):K473 C (FO C c473):=by
 intro a0 f1 k1 is1 hs1 hf1 r h0
 refine f0 (Bj (An (st (dJ (Hj (Dn ⟨[(0,Br 1024000 a0),(1,.clo f1 k1)],[],[]⟩ (fg ⟨rfl,congrArg (fun z=>some z) (iD hs1),tv⟩ tv) (Bc 3 (An (bb h0 fun r1 e2 h0=>st (Dj (r:=iV r1) false (H475 a0 f1 k1 is1 hs1 hf1 r1 e2) ⟨tv,tv,tv⟩ rfl (Av rfl (Av (Eo hs1) rfl)) (fun _=>rfl) (o_ (Ay 8 [(0,Br 1024000 a0),(1,.clo f1 k1),(5,iV r1),(12,.bool (r1==(-1)))] [] (Ct h0 (fun c3 h0=>?_) (fun c3 h0=>?_))))))))))))))
 ·obtain rfl:=sj h0
  exact Dd 5
 ·refine Ay 8 [(0,Br 1024000 a0),(1,.clo f1 k1),(5,iV r1),(6,iV (wi (r1+1)))] [] (Cg (bb h0 fun r66 e67 h0=>Cz (R:=(fun S=>∃p38:List Ah,∃p39:Int,(p38,p39)=r66∧S=⟨[(0,Br 1024000 p38),(5,iV p39)],[],[]⟩)) (oD is1) (fun s S=>match s with | (p18,p19,p20)=>S=⟨[(0,Br 1024000 p18),(1,.clo f1 k1),(5,iV p19),(6,iV p20)],[],[]⟩) e67 _ (Ez (by kernel_rfl)) rfl 0 (fun _=>rfl) ?_ ?_))
  ·rintro S _ hfg ⟨p38,p39,rfl,rfl⟩
   refine Dn _ hfg (Bc 3 (An (bb h0 fun s68 e69 h0=>st (c_ (Ep (e:=Bx) (y:=s68) rfl rfl tv ⟨tv,tv⟩ rfl rfl e69) (st (clear_ (e:=Bx) (z:=(Ah.mk 0 false)) rfl rfl (Hj (Dn ⟨[(0,Br 1024000 (ovl p38 p39.toNat (List.replicate s68.length (Ah.mk 0 false)))),(5,iV p39)],[],[]⟩ (fg ⟨congrArg (fun z=>some ((.own 1024000 0 2 z:V))) Jo,rfl,tv⟩ tv) (Bc 3 (An (bb h0 fun s70 e71 h0=>st (c_ (Ep (e:=Bx) (y:=s70) rfl rfl tv ⟨tv,tv⟩ rfl rfl e71) (o_ ?_)))))))))))))
   obtain rfl:=sj h0
   exact Dd 3
  ·rintro ⟨p18,p19,p20⟩ o1 _ K1 rfl h1 hx1 hK1 hE1 hR1
   refine Bc 4 (An (aS rfl (o_ (Ay 2 [(0,Br 1024000 p18),(1,.clo f1 k1),(5,iV p19),(6,iV p20),(19,.bool (decide (p20<(p18.length:Int))))] [] (Ct h1 (fun c40 h1=>?_) (fun c40 h1=>?_))))))
   ·refine Mx 3 (Hs (fun S=>∃p52:List Ah,∃p53:Int,S=⟨[(0,Br 1024000 p52),(1,.clo f1 k1),(5,iV p53),(6,iV p20)],[],[]⟩∧eX p20 p52 p53=some o1) ?_ (fun J54=>?_))
    ·rintro _ ⟨p52,p53,rfl,h1⟩
     refine Bc 5 ?_
     obtain rfl:=sj h1
     exact kn hK1 rfl rfl
    ·refine Bj ?_
     refine Bc 2 (An (bb h1 fun y55 e56 h1=>kA rfl rfl e56 (bb h1 fun y57 e58 h1=>lo_ rfl rfl e58 (st (Iz (sw ⟨[(0,Br 1024000 p18),(1,.clo f1 k1),(5,iV p19),(6,iV p20),(7,.ptr 448 0),(25,.agg (Bx y57))],[(448,[iV 0,.bool false])],[]⟩ (fg ⟨rfl,congrArg (fun z=>some z) (iD hs1),rfl,rfl,rfl,rfl,tv⟩ ⟨rfl,tv⟩) (Gd rfl rfl tv rfl rfl rfl (nl rfl) (o_ (Ay 1 [(0,Br 1024000 p18),(1,.clo f1 k1),(5,iV p19),(6,iV p20),(7,.ptr 448 0)] [(448,Bx y57)] (Bc 3 (An (bb h1 fun r59 e60 h1=>st (Gy (r:=.bool r59) rfl false (hf1 _ r59 e60) ⟨tv,tv⟩ (Bi rfl hs1.2.2.1) (Av rfl (hs1.2.1 _ _ _ _ _)) (fun _=>rfl) (o_ (Ay 2 [(0,Br 1024000 p18),(1,.clo f1 k1),(5,iV p19),(6,iV p20),(7,.ptr 448 0),(29,.bool (!r59))] [(448,Bx y57)] (Ct h1 (fun c61 h1=>?_) (fun c61 h1=>?_)))))))))))))))))
     ·refine Bc 4 (An (bb h1 fun y62 e63 h1=>kA rfl rfl e63 (bb h1 fun y64 e65 h1=>so_ y57 rfl rfl e65 (o_ (Ay 1 [(0,Br 1024000 (p18.set p19.toNat y57)),(1,.clo f1 k1),(5,iV p19),(6,iV p20)] [] (Bc 5 ?_))))))
      exact jn J54 ⟨_,_,rfl,h1⟩
     ·refine Jf (Rd ?_)
      exact jn J54 ⟨_,_,rfl,h1⟩
   ·obtain rfl:=sj h1
    obtain rfl:=hx1 _ rfl
    refine Jv rfl ?_
    exact jn hE1 ⟨_,_,rfl,rfl⟩

/- (loop.example/g00149/impl.Vault).tick$2 -/
def ZM:=[X_ 2 0,k_ 3 (.bool false)]
def ZN:=[f_ 4 2 0,l_ 5 4 1,f_ 6 1 0,l_ 7 6 1,b_ .eql 8 5 7,m_ 3 8]
def c474:Dp:=⟨2,9,[.t 3],sr ZM (rr ZN)⟩
def K474 (D:Bh):Prop:=∀a0 a1 r,AN a0 a1=some r→D 474 ⟨[.agg (Bx a0),.iptr (Bx a1)],[]⟩ ⟨.bool r,[],[]⟩
theorem F474:K474 (FO C c474):=by
 intro a0 a1 r h0
 refine f0 (?_)
 obtain rfl:=sj h0
 exact Dd 14

/- (loop.example/g00149/impl.Vault).tick -/
def XU:=[X_ 2 0,X_ 3 1,a_ 4 (zV 259 260 261),a_ 5 [iV 0,iV 0]]
def XV:List Bt:=[L_ 16 2 6,L_ 17 3 7,⟨some 18,.p (.build [iV 0,iV 0,.own 1155 0 4 [],.own 1156 0 2 [],.own 1157 0 1 [],.bool false,iV 0,iV 0,iV 0,iV 0,iV 0,.own 1164 0 1 [],iV 0,iV 0] [(0,6,.t 16),(6,7,.t 17)]),none⟩,X_ 19 18,a_ 6 [.undef],s_ 6 19 1]
def XW:=tk [l_ 21 6 1,f_ 22 2 0,L_ 23 22 3,f_ 24 3 4,l_ 25 24 1] (.alt [l_ 21 6 1] (q_ 26 82 [.t 23,.t 25]) (tk [m_ 20 26,e_ 27 20 0,e_ 28 20 1,iQ 29 (.nilc (.t 21)),f_ 30 29 0,f_ 31 30 0] (.alt [e_ 28 20 1] (s_ 31 27 3) .fin .stop)) .stop)
def XX:=[f_ 32 3 6,l_ 33 32 1,B_ .eql 34 33 1]
def XY:=[l_ 35 6 1,iQ 36 (.nilc (.t 35)),f_ 37 36 0,L_ 38 37 6,q_ 39 470 [.t 38],e_ 40 39 0,e_ 41 39 1,s_ 4 40 6,s_ 5 41 2]
def XZ:=[iQ 42 (.fn 472 [.t 3,.t 6]),m_ 7 42]
def YA:=[l_ 43 6 1,iQ 44 (.nilc (.t 43)),f_ 45 44 0,f_ 46 45 0,f_ 47 46 2,l_ 48 47 1,q_ 49 66 [.t 48],n_ 50 49,i_ 51 0]
def YB:=[b_ .lss 52 51 50]
def YC:=[x_ 53 49 51 4,L_ 54 53 4,a_ 9 [iV 0,iV 0,iV 0,.bool false],s_ 9 54 4]
def YD:=[f_ 55 9 3,l_ 56 55 1,N_ 57 56]
def yP:=[l_ 58 6 1,f_ 59 9 0,l_ 60 59 1,q_ 61 471 [.t 58,.t 60,.c (.bool false)],m_ 10 61]
def yQ:=tk [l_ 63 6 1,iQ 64 (.nilc (.t 63)),f_ 65 64 0,f_ 66 65 0,L_ 67 66 3,f_ 68 9 0,l_ 69 68 1] (.alt [] (q_ 70 77 [.t 67,.t 69]) (tk [m_ 62 70,e_ 71 62 0,e_ 72 62 1,m_ 11 71,m_ 12 72] .fin) .stop)
def yR:=[m_ 73 10,B_ .eql 74 73 0]
def yS:=tk [l_ 75 6 1,l_ 76 6 1,iQ 77 (.nilc (.t 76)),f_ 78 77 0,f_ 79 78 0,L_ 80 79 3,m_ 81 11] (.alt [l_ 75 6 1] (q_ 82 78 [.t 80,.t 81]) (tk [iQ 83 (.nilc (.t 75)),f_ 84 83 0,f_ 85 84 0] (.alt [] (s_ 85 82 3) .fin .stop)) .stop)
def yT:List Bt:=[m_ 86 7,⟨some 87,.callv (.t 86) [],none⟩]
def yU:=[l_ 88 6 1,iQ 89 (.nilc (.t 88)),f_ 90 89 0,L_ 91 90 6,q_ 92 470 [.t 91],e_ 93 92 0,e_ 94 92 1,s_ 4 93 6,s_ 5 94 2]
def yV:=[B_ .add 95 51 1,m_ 51 95]
def XS:IR:=(sr YB (.seq (.ite (.t 52) .skip (.exit 0)) (.seq (.block 1 (sr YC (.seq (sr YD (iz 57 (.exit 1))) (sr yP (.seq (sd yQ (sr yR (iz 74 (.draw yS)))) (sr yT (iz 87 (rr yU)))))))) (.reg yV))))
def yW:=[l_ 96 6 1,iQ 97 (.nilc (.t 96)),f_ 98 97 0,f_ 99 98 3,l_ 100 99 1,q_ 101 469 [.t 100],n_ 102 101,i_ 103 0]
def yX:=[b_ .lss 104 103 102]
def yY:=[x_ 105 101 103 2,L_ 106 105 2,a_ 14 [iV 0,.bool false],s_ 14 106 2]
def yZ:=[f_ 107 14 1,l_ 108 107 1,N_ 109 108]
def zA:=[l_ 110 6 1,f_ 111 14 0,l_ 112 111 1,q_ 113 471 [.t 110,.t 112,.c (.bool false)],m_ 15 113]
def zB:=[m_ 114 15,B_ .eql 115 114 0]
def zC:=tk [l_ 116 6 1,l_ 117 6 1,iQ 118 (.nilc (.t 117)),f_ 119 118 0,f_ 120 119 3,l_ 121 120 1,iQ 122 (.fn 474 [.t 14])] (.alt [l_ 116 6 1] (q_ 123 473 [.t 121,.t 122]) (tk [iQ 124 (.nilc (.t 116)),f_ 125 124 0,f_ 126 125 3] (.alt [] (s_ 126 123 1) .fin .stop)) .stop)
def zD:List Bt:=[m_ 127 7,⟨some 128,.callv (.t 127) [],none⟩]
def zE:=[l_ 129 6 1,iQ 130 (.nilc (.t 129)),f_ 131 130 0,L_ 132 131 6,q_ 133 470 [.t 132],e_ 134 133 0,e_ 135 133 1,s_ 4 134 6,s_ 5 135 2]
def zF:=[B_ .add 136 103 1,m_ 103 136]
def XT:IR:=(sr yX (.seq (.ite (.t 104) .skip (.exit 2)) (.seq (.block 3 (sr yY (.seq (sr yZ (iz 109 (.exit 3))) (sr zA (.seq (sr zB (iz 115 (.draw zC))) (sr zD (iz 128 (rr zE)))))))) (.reg zF))))
def zG:=[l_ 137 6 1,iQ 138 (.nilc (.t 137)),f_ 139 138 0,L_ 140 139 6,iQ 141 (.build [iV 0,iV 0] []),s_ 4 140 6,s_ 5 141 2]
def c467:Dp:=⟨2,142,[.cell 4 6 true,.cell 5 2 true],sr XU (sr XV (sd XW (.seq (sr XX (iz 34 (rr XY))) (sr XZ (.seq (sr YA (Ju 0 XS)) (.seq (sr yW (Ju 2 XT)) (rr zG)))))))⟩
def K467 (D:Bh):Prop:=∀a0 a1 r,g467 a0 a1=some r→D 467 ⟨[.agg (Bk a0 (Ap 1024000) (Ap 1024001) (Ap 1024002)),.agg (Ar a1)],[]⟩ ⟨.tup [.agg (Bk r.1 (Ap 0) (Ap 1) (Ap 2)),.agg (Bg r.2)],[],[]⟩
abbrev Ei:=fun x0 (r:List (Nat×List V))=>(192,Ar x0)::(256,At 0 0 (Ap 259) [] (Ap 260) [] (Ap 261) [] false)::(320,[iV 0,iV 0])::(384,[.ptr 1216 0])::r
abbrev Fb:=fun (r:List (Nat×V))=>(4,.ptr 256 0)::(5,.ptr 320 0)::(6,.ptr 384 0)::(7,.clo 472 [.ptr 192 0,.ptr 384 0])::r
abbrev aR:=fun (r:List (Nat×List V))=>(256,At 0 0 (Ap 259) [] (Ap 260) [] (Ap 261) [] false)::(320,[iV 0,iV 0])::r
abbrev La:=fun (r:List (Nat×V))=>(4,.ptr 256 0)::(5,.ptr 320 0)::r
theorem F467 (H66:K66 C) (H77:K77 C) (H78:K78 C) (H82:K82 C) (H469:EO C) (H470:EP C) (H471:EQ C) (H472:K472 C) (H473:K473 C) (H474:K474 C):K467 (FO C c467):=by
 intro a0 a1 r h0
 refine f0 (Ay 6 (La [(2,.ptr 128 0),(3,.ptr 192 0)]) (aR [(128,Bk a0 (Ap 1024000) (Ap 1024001) (Ap 1024002)),(192,Ar a1)]) (Bc 3 (An (st (c_ (v:=.agg (Cr a0.Ad.clock a0.Ad.next (Ap 1024000) a0.Ad.Ae (Ap 1024001) a0.Ab (Ap 1024002) a0.Ai a0.Al a1.kind a1.id a1.ttl a1.Ef a1.clock u_ a1.Cb a1.stop 0)) (Bb ⟨tv,tv,tv⟩ rfl ⟨⟨rfl,rfl,nl rfl⟩,⟨rfl,rfl,nl rfl⟩,tv⟩) (o_ (Ay 4 (La [(2,.ptr 128 0),(3,.ptr 192 0),(6,.ptr 384 0)]) (Ei a1 [(128,Bk a0 (Ap 1024000) (Ap 1024001) (Ap 1024002)),(1216,Cr a0.Ad.clock a0.Ad.next (Ap 1024000) a0.Ad.Ae (Ap 1024001) a0.Ab (Ap 1024002) a0.Ai a0.Al a1.kind a1.id a1.ttl a1.Ef a1.clock u_ a1.Cb a1.stop 0)]) (Bj (bb h0 fun r1 e2 h0=>Bc 5 (Bl (Xg (H82 a0.Ad a1.clock r1 e2) (ar (Bi rfl (af (af rfl)))) (dw [(3,.ptr 192 0),(4,.ptr 256 0),(5,.ptr 320 0),(6,.ptr 384 0),(21,.ptr 1216 0),(26,.tup [.agg (Cm r1.1 (Ap 1664)),oI 1665 r1.2])] [(192,Ar a1),(256,At 0 0 (Ap 259) [] (Ap 260) [] (Ap 261) [] false),(320,[iV 0,iV 0]),(384,[.ptr 1216 0]),(1216,Cr a0.Ad.clock a0.Ad.next (Ap 1024000) a0.Ad.Ae (Ap 1024001) a0.Ab (Ap 1024002) a0.Ai a0.Al a1.kind a1.id a1.ttl a1.Ef a1.clock u_ a1.Cb a1.stop 0)] hB (d_ (Bc 6 (Bl (Bu (Gd rfl rfl tv rfl rfl rfl (nl rfl) (d0 hB (d_ (Ay 1 (La [(3,.ptr 192 0),(6,.ptr 384 0)]) (Ei a1 [(1216,Cr r1.1.clock r1.1.next (Ap 1664) r1.1.Ae (Ap 1024001) a0.Ab (Ap 1024002) a0.Ai a0.Al a1.kind a1.id a1.ttl a1.Ef a1.clock u_ a1.Cb a1.stop 0)]) (Bj (Bj ?_)))))) Au))))) Au)))))))))))
 refine Ay 4 (La [(3,.ptr 192 0),(6,.ptr 384 0),(34,.bool (a1.stop==1))]) (Ei a1 [(1216,Cr r1.1.clock r1.1.next (Ap 1664) r1.1.Ae (Ap 1024001) a0.Ab (Ap 1024002) a0.Ai a0.Al a1.kind a1.id a1.ttl a1.Ef a1.clock u_ a1.Cb a1.stop 0)]) (Ct h0 (fun c3 h0=>?_) (fun c3 h0=>?_))
 ·refine Bc 5 (An (bb h0 fun r4 e5 h0=>gW [] [] [1664,1024001,1024002] (H470 (Aj.mk r1.1 a0.Ab a0.Ai a0.Al) r4 e5) (Bi (ar (Bi rfl (af (af (af (ar (Bi rfl (Bi rfl rfl)))))))) rfl) (sw ⟨La [(39,.tup [.agg (Bk r4.1 (Ap 2496) (Ap 2497) (Ap 2498)),.agg (Bg r4.2)])],aR [],[]⟩ (Ez (by kernel_rfl)) (c_ (Bb ⟨tv,tv⟩ rfl tv) (o_ (Ay 4 (La []) [(256,Bk r4.1 (Ap 2496) (Ap 2497) (Ap 2498)),(320,Bg r4.2)] ?_))))))
  obtain rfl:=sj h0
  exact Lf (Eg rfl rfl rfl rfl rfl tv)
 ·refine Ay 6 (Fb []) (Ei a1 [(1216,Cr r1.1.clock r1.1.next (Ap 1664) r1.1.Ae (Ap 1024001) a0.Ab (Ap 1024002) a0.Ai a0.Al a1.kind a1.id a1.ttl a1.Ef a1.clock u_ a1.Cb a1.stop 0)]) (Bc 8 (An (bb h0 fun r6 e7 h0=>Sy (H66 r1.1.Ae r6 e7) (af rfl) (aS rfl (o_ (Ay 2 (Fb [(49,Af 3136 r6),(50,iV (r6.length:Int)),(51,iV 0)]) (Ei a1 [(1216,Cr r1.1.clock r1.1.next (Ap 1664) r1.1.Ae (Ap 1024001) a0.Ab (Ap 1024002) a0.Ai a0.Al a1.kind a1.id a1.ttl a1.Ef a1.clock u_ a1.Cb a1.stop 0)]) (Cg (bb h0 fun r182 e183 h0=>Cz (R:=(fun S=>∃p108:Int,∃p109:Int,∃p110:List Aa,∃p111:List Ah,∃p112:List Int,∃p113:Bool,∃p114:Int,∃p115:Int,∃p116:Int,∃p117:Int,∃p118:Int,∃p119:List Int,∃p120:Int,∃p121:Int,.inl (p108,p109,p110,p111,p112,p113,p114,p115,p116,p117,p118,p119,p120,p121)=r182∧S=⟨Fb [],Ei a1 [(1216,Cr p108 p109 (Ap 1664) p110 (Ap 1024001) p111 (Ap 1024002) p112 p113 p114 p115 p116 p117 p118 u_ p119 p120 p121)],[]⟩)) (Kf a1 r6) (fun s S=>match s with | (p43,p44,p45,p46,p47,p48,p49,p50,p51,p52,p53,p54,p55,p56,p57)=>S=⟨Fb [(49,Af 3136 r6),(50,iV (r6.length:Int)),(51,iV p43)],Ei a1 [(1216,Cr p44 p45 (Ap 1664) p46 (Ap 1024001) p47 (Ap 1024002) p48 p49 p50 p51 p52 p53 p54 u_ p55 p56 p57)],[]⟩) e183 _ (Ez (by kernel_rfl)) rfl 0 (fun _=>rfl) ?_ ?_))))))))
  ·rintro S _ hfg ⟨p108,p109,p110,p111,p112,p113,p114,p115,p116,p117,p118,p119,p120,p121,rfl,rfl⟩
   refine Dn _ hfg (Bc 7 (An (bb h0 fun r184 e185 h0=>Sy (H469 p111 r184 e185) (af rfl) (aS rfl (o_ (Ay 2 (Fb [(101,Br 6464 r184),(102,iV (r184.length:Int)),(103,iV 0)]) (Ei a1 [(1216,Cr p108 p109 (Ap 1664) p110 (Ap 1024001) p111 (Ap 1024002) p112 p113 p114 p115 p116 p117 p118 u_ p119 p120 p121)]) (Cg (bb h0 fun r344 e345 h0=>Cz (R:=(fun S=>∃p278:Int,∃p279:Int,∃p280:List Aa,∃p281:List Ah,∃p282:List Int,∃p283:Bool,∃p284:Int,∃p285:Int,∃p286:Int,∃p287:Int,∃p288:Int,∃p289:List Int,∃p290:Int,∃p291:Int,.inl (p278,p279,p280,p281,p282,p283,p284,p285,p286,p287,p288,p289,p290,p291)=r344∧S=⟨La [(6,.ptr 384 0)],aR [(384,[.ptr 1216 0]),(1216,Cr p278 p279 (Ap 1664) p280 (Ap 1024001) p281 (Ap 1024002) p282 p283 p284 p285 p286 p287 p288 u_ p289 p290 p291)],[]⟩)) (Ik a1 r184) (fun s S=>match s with | (p217,p218,p219,p220,p221,p222,p223,p224,p225,p226,p227,p228,p229,p230,p231)=>S=⟨Fb [(101,Br 6464 r184),(102,iV (r184.length:Int)),(103,iV p217)],Ei a1 [(1216,Cr p218 p219 (Ap 1664) p220 (Ap 1024001) p221 (Ap 1024002) p222 p223 p224 p225 p226 p227 p228 u_ p229 p230 p231)],[]⟩) e345 _ (Ez (by kernel_rfl)) rfl 2 (fun _=>rfl) ?_ ?_))))))))
   ·rintro S _ hfg ⟨p278,p279,p280,p281,p282,p283,p284,p285,p286,p287,p288,p289,p290,p291,rfl,rfl⟩
    refine Dn _ hfg ?_
    obtain rfl:=sj h0
    exact Dd 10
   ·rintro ⟨p217,p218,p219,p220,p221,p222,p223,p224,p225,p226,p227,p228,p229,p230,p231⟩ o1 _ K1 rfl h1 hx1 hK1 hE1 hR1
    refine Ay 3 (Fb [(101,Br 6464 r184),(102,iV (r184.length:Int)),(103,iV p217),(104,.bool (decide (p217<(r184.length:Int))))]) (Ei a1 [(1216,Cr p218 p219 (Ap 1664) p220 (Ap 1024001) p221 (Ap 1024002) p222 p223 p224 p225 p226 p227 p228 u_ p229 p230 p231)]) (Bj (Ct h1 (fun c292 h1=>?_) (fun c292 h1=>?_)))
    ·refine Mx 3 (Hs (fun S=>∃p309:Int,∃p310:Int,∃p311:List Aa,∃p312:List Ah,∃p313:List Int,∃p314:Bool,∃p315:Int,∃p316:Int,∃p317:Int,∃p318:Int,∃p319:Int,∃p320:List Int,∃p321:Int,∃p322:Int,S=⟨Fb [(101,Br 6464 r184),(102,iV (r184.length:Int)),(103,iV p217)],Ei a1 [(1216,Cr p309 p310 (Ap 1664) p311 (Ap 1024001) p312 (Ap 1024002) p313 p314 p315 p316 p317 p318 p319 u_ p320 p321 p322)],[]⟩∧Tq p217 p309 p310 p311 p312 p313 p314 p315 p316 p317 p318 p319 p320 p321 p322=some o1) ?_ (fun J323=>?_))
     ·rintro _ ⟨p309,p310,p311,p312,p313,p314,p315,p316,p317,p318,p319,p320,p321,p322,rfl,h1⟩
      refine Bc 4 ?_
      obtain rfl:=sj h1
      exact kn hK1 rfl rfl
     ·refine Bj ?_
      refine An (bb h1 fun y324 e325 h1=>kA rfl rfl e325 (bb h1 fun y326 e327 h1=>lo_ rfl rfl e327 (o_ (Ay 10 (Fb [(14,.ptr 896 0),(101,Br 6464 r184),(102,iV (r184.length:Int)),(103,iV p217),(109,.bool (!y326.Md))]) (Ei a1 [(896,Bx y326),(1216,Cr p218 p219 (Ap 1664) p220 (Ap 1024001) p221 (Ap 1024002) p222 p223 p224 p225 p226 p227 p228 u_ p229 p230 p231)]) (Ct h1 (fun c328 h1=>?_) (fun c328 h1=>?_))))))
      ·refine ex_ rfl ?_
       exact jn J323 ⟨_,_,_,_,_,_,_,_,_,_,_,_,_,_,rfl,h1⟩
      ·refine Bc 6 (An (bb h1 fun r329 e330 h1=>Wv [1216] [] [1664,1024001,1024002] (H471 (Cu.mk (Aj.mk (Ak.mk p218 p219 p220) p221 p222 p223) (Am.mk p224 p225 p226 p227 p228 p229 p230) p231) y326.As false r329 e330) (sw ⟨Fb [(14,.ptr 896 0),(101,Br 6464 r184),(102,iV (r184.length:Int)),(103,iV p217),(113,iV r329.1)],Ei a1 [(896,Bx y326),(1216,Ft r329.2 (Ap 7232) (Ap 7233) (Ap 7234) u_)],[]⟩ (Ez (by kernel_rfl)) (Bw rfl tv (o_ (Ay 7 (Fb [(14,.ptr 896 0),(101,Br 6464 r184),(102,iV (r184.length:Int)),(103,iV p217),(115,.bool (r329.1==0))]) (Ei a1 [(896,Bx y326),(1216,Ft r329.2 (Ap 7232) (Ap 7233) (Ap 7234) u_)]) (Kg (cb:=(r329.1==0)) (fun S=>∃p334:List Ah,S=⟨Fb [(101,Br 6464 r184),(102,iV (r184.length:Int)),(103,iV p217)],Ei a1 [(1216,Cr r329.2.v.Ad.clock r329.2.v.Ad.next (Ap 7232) r329.2.v.Ad.Ae (Ap 7872) p334 (Ap 7234) r329.2.v.Ai r329.2.v.Al r329.2.a.kind r329.2.a.id r329.2.a.ttl r329.2.a.Ef r329.2.a.clock u_ r329.2.a.Cb r329.2.a.stop r329.2.Gs)],[]⟩∧Qt a1 p217 r329 p334=some o1) rfl ?_ (fun c341 J340=>?_) (fun c341 J340=>?_))))))))
       ·rintro _ ⟨p334,rfl,h1⟩
        refine Bc 3 (An (bb h1 fun r335 e336 h1=>st (Gy (r:=.bool r335) rfl false (H472 a1 (Cu.mk (Aj.mk r329.2.v.Ad p334 r329.2.v.Ai r329.2.v.Al) r329.2.a r329.2.Gs) r335 e336) tv rfl rfl (fun _=>rfl) (o_ (Ay 1 (Fb [(101,Br 6464 r184),(102,iV (r184.length:Int)),(103,iV p217),(128,.bool r335)]) (Ei a1 [(1216,Cr r329.2.v.Ad.clock r329.2.v.Ad.next (Ap 7232) r329.2.v.Ad.Ae (Ap 7872) p334 (Ap 7234) r329.2.v.Ai r329.2.v.Al r329.2.a.kind r329.2.a.id r329.2.a.ttl r329.2.a.Ef r329.2.a.clock u_ r329.2.a.Cb r329.2.a.stop r329.2.Gs)]) (Ct h1 (fun c337 h1=>?_) (fun c337 h1=>?_)))))))
        ·refine Bc 5 (An (bb h1 fun r338 e339 h1=>gW [] [] [7232,7872,7234] (H470 (Aj.mk r329.2.v.Ad p334 r329.2.v.Ai r329.2.v.Al) r338 e339) (Bi (ar (Bi rfl (af (af (af (ar (Bi rfl (Bi rfl rfl)))))))) rfl) (sw ⟨La [(133,.tup [.agg (Bk r338.1 (Ap 8512) (Ap 8513) (Ap 8514)),.agg (Bg r338.2)])],aR [],[]⟩ (Ez (by kernel_rfl)) (c_ (Bb ⟨tv,tv⟩ rfl tv) (o_ (Ay 4 (La []) [(256,Bk r338.1 (Ap 8512) (Ap 8513) (Ap 8514)),(320,Bg r338.2)] ?_))))))
         obtain rfl:=sj h1
         obtain rfl:=hx1 _ rfl
         obtain rfl:=sj h0
         exact Lf (hR1 _ (Eg rfl rfl rfl rfl rfl tv))
        ·refine Jf (Rd ?_)
         exact J323 _ _ (Vh [] [(7232,1664),(7872,1024001),(7234,1024002)] rfl (by kernel_rfl)) ⟨_,_,_,_,_,_,_,_,_,_,_,_,_,_,rfl,h1⟩
       ·replace h1:=ip c341 h1
        refine bb h1 fun r342 e343 h1=>Bc 7 (Bl (Bu (Eb [] [] [7233] false (H473 r329.2.v.Ab 474 [.iptr (Bx y326)] (fun z474_0=>AN z474_0 y326) (⟨fun _ _ _ _ _=>rfl,fun _ _ _ _ _=>rfl,rfl,fun _ _ _ n=>by cases n<;>rfl,fun _=>rfl⟩) (fun z474_0 r h=>H474 z474_0 y326 r h) r342 e343) ⟨tv,tv,tv⟩ (by kernel_rfl) (by kernel_rfl) (by kernel_rfl) (by kernel_rfl) (fun _=>Bi (af rfl) rfl) (dw [(4,.ptr 256 0),(5,.ptr 320 0),(6,.ptr 384 0),(7,.clo 472 [.ptr 192 0,.ptr 384 0]),(101,Br 6464 r184),(102,iV (r184.length:Int)),(103,iV p217),(116,.ptr 1216 0),(123,Br 7872 r342)] [(192,Ar a1),(256,At 0 0 (Ap 259) [] (Ap 260) [] (Ap 261) [] false),(320,[iV 0,iV 0]),(384,[.ptr 1216 0]),(1216,[iV r329.2.v.Ad.clock,iV r329.2.v.Ad.next,Af 7232 r329.2.v.Ad.Ae,.undef,oI 7234 r329.2.v.Ai,.bool r329.2.v.Al,iV r329.2.a.kind,iV r329.2.a.id,iV r329.2.a.ttl,iV r329.2.a.Ef,iV r329.2.a.clock,lI r329.2.a.Cb,iV r329.2.a.stop,iV r329.2.Gs])] hB (d_ (Bc 3 (Bl (Bu (Gd rfl rfl tv rfl rfl rfl (nl rfl) (d0 tv (Gf ?_))) Au)))))) Au))
        exact jn J340 ⟨_,rfl,h1⟩
       ·replace h1:=Wx c341 h1
        refine Jf ?_
        exact J340 _ _ (Vh [] [(7233,7872)] rfl (by kernel_rfl)) ⟨_,rfl,h1⟩
    ·obtain rfl:=sj h1
     obtain rfl:=hx1 _ rfl
     refine Jv rfl ?_
     exact jn hE1 ⟨_,_,_,_,_,_,_,_,_,_,_,_,_,_,rfl,rfl⟩
  ·rintro ⟨p43,p44,p45,p46,p47,p48,p49,p50,p51,p52,p53,p54,p55,p56,p57⟩ o1 _ K1 rfl h1 hx1 hK1 hE1 hR1
   refine Ay 3 (Fb [(49,Af 3136 r6),(50,iV (r6.length:Int)),(51,iV p43),(52,.bool (decide (p43<(r6.length:Int))))]) (Ei a1 [(1216,Cr p44 p45 (Ap 1664) p46 (Ap 1024001) p47 (Ap 1024002) p48 p49 p50 p51 p52 p53 p54 u_ p55 p56 p57)]) (Bj (Ct h1 (fun JU h1=>?_) (fun JU h1=>?_)))
   ·refine Mx 3 (Hs (fun S=>∃p143:Int,∃p144:Int,∃p145:List Aa,∃p146:List Ah,∃p147:List Int,∃p148:Bool,∃p149:Int,∃p150:Int,∃p151:Int,∃p152:Int,∃p153:Int,∃p154:List Int,∃p155:Int,∃p156:Int,S=⟨Fb [(49,Af 3136 r6),(50,iV (r6.length:Int)),(51,iV p43)],Ei a1 [(1216,Cr p143 p144 (Ap 1664) p145 (Ap 1024001) p146 (Ap 1024002) p147 p148 p149 p150 p151 p152 p153 u_ p154 p155 p156)],[]⟩∧Tp p43 p143 p144 p145 p146 p147 p148 p149 p150 p151 p152 p153 p154 p155 p156=some o1) ?_ (fun J157=>?_))
    ·rintro _ ⟨p143,p144,p145,p146,p147,p148,p149,p150,p151,p152,p153,p154,p155,p156,rfl,h1⟩
     refine Bc 4 ?_
     obtain rfl:=sj h1
     exact kn hK1 rfl rfl
    ·refine Bj ?_
     refine An (bb h1 fun y158 e159 h1=>kA rfl rfl e159 (bb h1 fun y160 e161 h1=>lo_ rfl rfl e161 (o_ (Ay 10 (Fb [(9,.ptr 576 0),(49,Af 3136 r6),(50,iV (r6.length:Int)),(51,iV p43),(57,.bool (!y160.Cj))]) (Ei a1 [(576,Ac y160),(1216,Cr p44 p45 (Ap 1664) p46 (Ap 1024001) p47 (Ap 1024002) p48 p49 p50 p51 p52 p53 p54 u_ p55 p56 p57)]) (Ct h1 (fun VA h1=>?_) (fun VA h1=>?_))))))
     ·refine ex_ rfl ?_
      exact jn J157 ⟨_,_,_,_,_,_,_,_,_,_,_,_,_,_,rfl,h1⟩
     ·refine Bc 6 (An (bb h1 fun r163 e164 h1=>Wv [1216] [] [1664,1024001,1024002] (H471 (Cu.mk (Aj.mk (Ak.mk p44 p45 p46) p47 p48 p49) (Am.mk p50 p51 p52 p53 p54 p55 p56) p57) y160.id false r163 e164) (sw ⟨Fb [(9,.ptr 576 0),(49,Af 3136 r6),(50,iV (r6.length:Int)),(51,iV p43),(61,iV r163.1)],Ei a1 [(576,Ac y160),(1216,Ft r163.2 (Ap 3904) (Ap 3905) (Ap 3906) u_)],[]⟩ (Ez (by kernel_rfl)) (Bw rfl tv (o_ (Ay 1 (Fb [(9,.ptr 576 0),(10,iV r163.1),(49,Af 3136 r6),(50,iV (r6.length:Int)),(51,iV p43)]) (Ei a1 [(576,Ac y160),(1216,Ft r163.2 (Ap 3904) (Ap 3905) (Ap 3906) u_)]) (Bj (Bj (bb h1 fun r165 e166 h1=>Bc 7 (Bl (Xg (H77 r163.2.v.Ad y160.id r165 e166) rfl (dw [(4,.ptr 256 0),(5,.ptr 320 0),(6,.ptr 384 0),(7,.clo 472 [.ptr 192 0,.ptr 384 0]),(10,iV r163.1),(49,Af 3136 r6),(50,iV (r6.length:Int)),(51,iV p43),(70,.tup [iV r165.1,.bool r165.2])] [(192,Ar a1),(256,At 0 0 (Ap 259) [] (Ap 260) [] (Ap 261) [] false),(320,[iV 0,iV 0]),(384,[.ptr 1216 0]),(1216,Ft r163.2 (Ap 3904) (Ap 3905) (Ap 3906) u_)] tv (d_ (Ay 6 (Fb [(10,iV r163.1),(11,iV r165.1),(49,Af 3136 r6),(50,iV (r6.length:Int)),(51,iV p43)]) (Ei a1 [(1216,Ft r163.2 (Ap 3904) (Ap 3905) (Ap 3906) u_)]) (Bj (An ?_))))) Au)))))))))))
      refine o_ (Ay 3 (Fb [(11,iV r165.1),(49,Af 3136 r6),(50,iV (r6.length:Int)),(51,iV p43),(74,.bool (r163.1==0))]) (Ei a1 [(1216,Ft r163.2 (Ap 3904) (Ap 3905) (Ap 3906) u_)]) (Kg (cb:=(r163.1==0)) (fun S=>∃p170:Int,∃p171:Int,∃p172:List Aa,S=⟨Fb [(49,Af 3136 r6),(50,iV (r6.length:Int)),(51,iV p43)],Ei a1 [(1216,Cr p170 p171 (Ap 5248) p172 (Ap 3905) r163.2.v.Ab (Ap 3906) r163.2.v.Ai r163.2.v.Al r163.2.a.kind r163.2.a.id r163.2.a.ttl r163.2.a.Ef r163.2.a.clock u_ r163.2.a.Cb r163.2.a.stop r163.2.Gs)],[]⟩∧Qs a1 p43 r163 p170 p171 p172=some o1) rfl ?_ (fun c179 J178=>?_) (fun c179 J178=>?_)))
      ·rintro _ ⟨p170,p171,p172,rfl,h1⟩
       refine Bc 3 (An (bb h1 fun r173 e174 h1=>st (Gy (r:=.bool r173) rfl false (H472 a1 (Cu.mk (Aj.mk (Ak.mk p170 p171 p172) r163.2.v.Ab r163.2.v.Ai r163.2.v.Al) r163.2.a r163.2.Gs) r173 e174) tv rfl rfl (fun _=>rfl) (o_ (Ay 1 (Fb [(49,Af 3136 r6),(50,iV (r6.length:Int)),(51,iV p43),(87,.bool r173)]) (Ei a1 [(1216,Cr p170 p171 (Ap 5248) p172 (Ap 3905) r163.2.v.Ab (Ap 3906) r163.2.v.Ai r163.2.v.Al r163.2.a.kind r163.2.a.id r163.2.a.ttl r163.2.a.Ef r163.2.a.clock u_ r163.2.a.Cb r163.2.a.stop r163.2.Gs)]) (Ct h1 (fun c175 h1=>?_) (fun c175 h1=>?_)))))))
       ·refine Bc 5 (An (bb h1 fun r176 e177 h1=>gW [] [] [5248,3905,3906] (H470 (Aj.mk (Ak.mk p170 p171 p172) r163.2.v.Ab r163.2.v.Ai r163.2.v.Al) r176 e177) (Bi (ar (Bi rfl (af (af (af (ar (Bi rfl (Bi rfl rfl)))))))) rfl) (sw ⟨La [(92,.tup [.agg (Bk r176.1 (Ap 5888) (Ap 5889) (Ap 5890)),.agg (Bg r176.2)])],aR [],[]⟩ (Ez (by kernel_rfl)) (c_ (Bb ⟨tv,tv⟩ rfl tv) (o_ (Ay 4 (La []) [(256,Bk r176.1 (Ap 5888) (Ap 5889) (Ap 5890)),(320,Bg r176.2)] ?_))))))
        obtain rfl:=sj h1
        obtain rfl:=hx1 _ rfl
        obtain rfl:=sj h0
        exact Lf (hR1 _ (Eg rfl rfl rfl rfl rfl tv))
       ·refine Jf (Rd ?_)
        exact J157 _ _ (Vh [] [(5248,1664),(3905,1024001),(3906,1024002)] rfl (by kernel_rfl)) ⟨_,_,_,_,_,_,_,_,_,_,_,_,_,_,rfl,h1⟩
      ·replace h1:=ip c179 h1
       refine bb h1 fun r180 e181 h1=>Bc 7 (Bl (Xg (H78 r163.2.v.Ad r165.1 r180 e181) (ar (Bi rfl (af rfl))) (dw [(4,.ptr 256 0),(5,.ptr 320 0),(6,.ptr 384 0),(7,.clo 472 [.ptr 192 0,.ptr 384 0]),(49,Af 3136 r6),(50,iV (r6.length:Int)),(51,iV p43),(75,.ptr 1216 0),(82,.agg (Cm r180 (Ap 5248)))] [(192,Ar a1),(256,At 0 0 (Ap 259) [] (Ap 260) [] (Ap 261) [] false),(320,[iV 0,iV 0]),(384,[.ptr 1216 0]),(1216,Ft r163.2 (Ap 3904) (Ap 3905) (Ap 3906) u_)] hB (d_ (Bc 3 (Bl (Bu (Gd rfl rfl tv rfl rfl rfl (nl rfl) (d0 tv (Gf ?_))) Au))))) Au))
       exact jn J178 ⟨_,_,_,rfl,h1⟩
      ·replace h1:=Wx c179 h1
       refine Jf ?_
       exact J178 _ _ (Vh [] [(3904,5248)] rfl (by kernel_rfl)) ⟨_,_,_,rfl,h1⟩
   ·obtain rfl:=sj h1
    obtain rfl:=hx1 _ rfl
    refine Jv rfl ?_
    exact jn hE1 ⟨_,_,_,_,_,_,_,_,_,_,_,_,_,_,rfl,rfl⟩

/- (loop.example/g00149/impl.Vault).step -/
def WN:=[X_ 2 0,X_ 3 1,a_ 4 (zV 259 260 261),a_ 5 [iV 0,iV 0]]
def WO:=[L_ 6 2 6,q_ 7 463 [.t 6],s_ 2 7 6]
def WP:=[f_ 9 3 0,l_ 10 9 1,q_ 11 63 [.t 10,.c (iV 1),.c (iV 6)],N_ 12 11,m_ 8 12]
def WQ:=[L_ 13 2 6,q_ 14 464 [.t 13,.c (iV 16)],e_ 15 14 0,e_ 16 14 1,s_ 4 15 6,s_ 5 16 2]
def WR:=[f_ 18 2 5,l_ 19 18 1,m_ 20 19,fT 20 21 3 0,lT 20 22 21 1 false,pT 20 23 (.bin .neq (.t 22) (.c (iV 6))),pa 24 20 23,m_ 17 24]
def WS:=[L_ 25 2 6,q_ 26 464 [.t 25,.c (iV 14)],e_ 27 26 0,e_ 28 26 1,s_ 4 27 6,s_ 5 28 2]
def WT:=[f_ 29 3 0,l_ 30 29 1]
def WU:=[B_ .eql 32 30 1,m_ 31 32]
def WV:=[L_ 33 2 6,L_ 34 3 7,q_ 35 465 [.t 33,.t 34],e_ 36 35 0,e_ 37 35 1,s_ 4 36 6,s_ 5 37 2]
def WW:=[B_ .eql 39 30 2,m_ 38 39]
def xX:=tk [L_ 40 2 6,f_ 41 2 0,L_ 42 41 3,f_ 43 3 1,l_ 44 43 1,f_ 45 3 2,l_ 46 45 1] (.alt [L_ 40 2 6] (q_ 47 80 [.t 42,.t 44,.t 46]) (tk [e_ 48 47 0,e_ 49 47 1] (.alt [] (q_ 50 466 [.t 40,.t 48,.t 49]) (tk [e_ 51 50 0,e_ 52 50 1] (.alt [] (s_ 4 51 6) (.alt [] (s_ 5 52 2) .fin .stop) .stop)) .stop)) .stop)
def xY:=[B_ .eql 54 30 3,m_ 53 54]
def xZ:=tk [L_ 55 2 6,f_ 56 2 0,L_ 57 56 3,f_ 58 3 1,l_ 59 58 1] (.alt [L_ 55 2 6] (q_ 60 75 [.t 57,.t 59]) (tk [e_ 61 60 0,e_ 62 60 1] (.alt [] (q_ 63 466 [.t 55,.t 61,.t 62]) (tk [e_ 64 63 0,e_ 65 63 1] (.alt [] (s_ 4 64 6) (.alt [] (s_ 5 65 2) .fin .stop) .stop)) .stop)) .stop)
def yA:=[B_ .eql 67 30 4,m_ 66 67]
def yB:=[L_ 68 2 6,L_ 69 3 7,q_ 70 467 [.t 68,.t 69],e_ 71 70 0,e_ 72 70 1,s_ 4 71 6,s_ 5 72 2]
def yC:=[f_ 73 3 0,l_ 74 73 1,B_ .eql 75 74 5,f_ 76 2 5,s_ 76 75 1]
def yD:=[L_ 77 2 6,iQ 78 (.build [iV 0,iV 0] []),s_ 4 77 6,s_ 5 78 2]
def c459:Dp:=⟨2,79,[.cell 4 6 true,.cell 5 2 true],sr WN (sr WO (.seq (.block 0 (sr WP (.ite (.t 8) (rr WQ) (sr WR (iz 17 (rr WS)))))) (.seq (sr WT (.block 1 (sr WU (.ite (.t 31) (rr WV) (sr WW (.ite (.t 38) (sd xX .ret) (sr xY (.ite (.t 53) (sd xZ .ret) (sr yA (iz 66 (rr yB))))))))))) (sr yC (rr yD)))))⟩
def K459 (D:Bh):Prop:=∀a0 a1 r,iJ a0 a1=some r→D 459 ⟨[.agg (Be a0),.agg (Ar a1)],[]⟩ ⟨.tup [.agg (Bk r.1 (Ap 0) (Ap 1) (Ap 2)),.agg (Bg r.2)],[],[]⟩
abbrev Sm:=fun x0 x1 (r:List (Nat×List V))=>(128,Bk x0 (Ap 448) (Ap 449) (Ap 450))::(192,Ar x1)::(256,At 0 0 (Ap 259) [] (Ap 260) [] (Ap 261) [] false)::(320,[iV 0,iV 0])::r
abbrev Po:=fun (r:List (Nat×V))=>(2,.ptr 128 0)::(3,.ptr 192 0)::(4,.ptr 256 0)::(5,.ptr 320 0)::r
theorem F459 (H63:K63 C) (H75:K75 C) (H80:K80 C) (H463:K463 C) (H464:sB C) (H465:K465 C) (H466:K466 C) (H467:K467 C):K459 (FO C c459):=by
 intro a0 a1 r h0
 refine f0 (Ay 6 (Po []) [(128,Be a0),(192,Ar a1),(256,At 0 0 (Ap 259) [] (Ap 260) [] (Ap 261) [] false),(320,[iV 0,iV 0])] (Bc 2 (An (bb h0 fun r1 e2 h0=>Sy (H463 a0 r1 e2) (ar (Bi rfl (af (af (af (Bi rfl rfl)))))) (o_ (Ay 2 (Po []) (Sm r1 a1 []) (Bc 5 (An (bb h0 fun r3 e4 h0=>Vf (H63 a1.kind 1 6 r3 e4) (o_ (Ay 3 (Po [(8,.bool (!r3))]) (Sm r1 a1 []) (Ct h0 (fun c5 h0=>?_) (fun c5 h0=>?_)))))))))))))
 ·refine Bc 2 (An (bb h0 fun r6 e7 h0=>gW [] [] [448,449,450] (H464 r1 16 r6 e7) (Bi (ar (Bi rfl (af (af (af (ar (Bi rfl (Bi rfl rfl)))))))) rfl) (o_ ?_)))
  obtain rfl:=sj h0
  exact Dd 6
 ·refine AU 10 (Po [(17,.bool (bif r1.Al then (a1.kind != 6) else false))]) (Sm r1 a1 []) (Ct h0 (fun c8 h0=>?_) (fun c8 h0=>?_))
  ·refine Bc 2 (An (bb h0 fun r9 e10 h0=>gW [] [] [448,449,450] (H464 r1 14 r9 e10) (Bi (ar (Bi rfl (af (af (af (ar (Bi rfl (Bi rfl rfl)))))))) rfl) (o_ ?_)))
   obtain rfl:=sj h0
   exact Dd 6
  ·refine Ay 14 (Po [(30,iV a1.kind),(31,.bool (a1.kind==1))]) (Sm r1 a1 []) (Ct h0 (fun c11 h0=>?_) (fun c11 h0=>?_))
   ·refine Bc 3 (An (bb h0 fun r12 e13 h0=>gW [] [] [448,449,450] (H465 r1 a1 r12 e13) (Bi (ar (Bi rfl (af (af (af (ar (Bi rfl (Bi rfl rfl)))))))) rfl) (o_ ?_)))
    obtain rfl:=sj h0
    exact Dd 6
   ·refine Ay 4 (Po [(30,iV a1.kind),(38,.bool (a1.kind==2))]) (Sm r1 a1 []) (Ct h0 (fun c14 h0=>?_) (fun c14 h0=>?_))
    ·refine Bj (bb h0 fun r15 e16 h0=>bb h0 fun r17 e18 h0=>Bc 7 (Bl (Xg (H80 r1.Ad a1.id a1.ttl r15 e16) (ar (Bi rfl (af (Bi rfl rfl)))) (dw [(2,.ptr 128 0),(4,.ptr 256 0),(5,.ptr 320 0),(40,.agg (Bk r1 (Ap 448) (Ap 449) (Ap 450))),(47,.tup [.agg (Cm r15.1 (Ap 3008)),iV r15.2])] [(128,Bk r1 (Ap 448) (Ap 449) (Ap 450)),(256,At 0 0 (Ap 259) [] (Ap 260) [] (Ap 261) [] false),(320,[iV 0,iV 0])] hB (d_ (Bc 2 (Bl (Bu (Eb [] [] [448,449,450,3008] false (H466 r1 r15.1 r15.2 r17 e18) ⟨tv,tv,tv,tv⟩ (by kernel_rfl) (by kernel_rfl) (by kernel_rfl) (by kernel_rfl) (fun _=>Bi (ar (Bi rfl (af (af (af (ar (Bi rfl (Bi rfl rfl)))))))) rfl) (dw [(4,.ptr 256 0),(5,.ptr 320 0),(50,.tup [.agg (Bk r17.1 (Ap 3200) (Ap 3201) (Ap 3202)),.agg (Bg r17.2)])] [(256,At 0 0 (Ap 259) [] (Ap 260) [] (Ap 261) [] false),(320,[iV 0,iV 0])] tv (d_ (Bc 2 (Bl (Bu (Gd rfl rfl tv rfl rfl rfl (nl rfl) (d0 tv (Bu (Gd rfl rfl tv rfl rfl rfl (nl rfl) (d0 tv ?_)) Au))) Au)))))) Au))))) Au)))
     refine d_ ?_
     obtain rfl:=sj h0
     exact Dd 2
    ·refine Ay 4 (Po [(30,iV a1.kind),(53,.bool (a1.kind==3))]) (Sm r1 a1 []) (Ct h0 (fun c19 h0=>?_) (fun c19 h0=>?_))
     ·refine Bj (bb h0 fun r20 e21 h0=>bb h0 fun r22 e23 h0=>Bc 5 (Bl (Xg (H75 r1.Ad a1.id r20 e21) (ar (Bi rfl (af (Bi rfl rfl)))) (dw [(2,.ptr 128 0),(4,.ptr 256 0),(5,.ptr 320 0),(55,.agg (Bk r1 (Ap 448) (Ap 449) (Ap 450))),(60,.tup [.agg (Cm r20.1 (Ap 3840)),iV r20.2])] [(128,Bk r1 (Ap 448) (Ap 449) (Ap 450)),(256,At 0 0 (Ap 259) [] (Ap 260) [] (Ap 261) [] false),(320,[iV 0,iV 0])] hB (d_ (Bc 2 (Bl (Bu (Eb [] [] [448,449,450,3840] false (H466 r1 r20.1 r20.2 r22 e23) ⟨tv,tv,tv,tv⟩ (by kernel_rfl) (by kernel_rfl) (by kernel_rfl) (by kernel_rfl) (fun _=>Bi (ar (Bi rfl (af (af (af (ar (Bi rfl (Bi rfl rfl)))))))) rfl) (dw [(4,.ptr 256 0),(5,.ptr 320 0),(63,.tup [.agg (Bk r22.1 (Ap 4032) (Ap 4033) (Ap 4034)),.agg (Bg r22.2)])] [(256,At 0 0 (Ap 259) [] (Ap 260) [] (Ap 261) [] false),(320,[iV 0,iV 0])] tv (d_ (Bc 2 (Bl (Bu (Gd rfl rfl tv rfl rfl rfl (nl rfl) (d0 tv (Bu (Gd rfl rfl tv rfl rfl rfl (nl rfl) (d0 tv (d_ (Ay 1 [(4,.ptr 256 0),(5,.ptr 320 0)] [(256,Bk r22.1 (Ap 4032) (Ap 4033) (Ap 4034)),(320,Bg r22.2)] ?_)))) Au))) Au)))))) Au))))) Au)))
      obtain rfl:=sj h0
      exact Lf (Eg rfl rfl rfl rfl rfl tv)
     ·refine Ay 4 (Po [(66,.bool (a1.kind==4))]) (Sm r1 a1 []) (Ct h0 (fun c24 h0=>?_) (fun c24 h0=>?_))
      ·refine Bc 3 (An (bb h0 fun r25 e26 h0=>gW [] [] [448,449,450] (H467 r1 a1 r25 e26) (Bi (ar (Bi rfl (af (af (af (ar (Bi rfl (Bi rfl rfl)))))))) rfl) (o_ ?_)))
       obtain rfl:=sj h0
       exact Dd 6
      ·obtain rfl:=sj h0
       exact Dd 18

/- loop.example/g00149/impl.StepVault -/
def VV:=[X_ 2 0,X_ 3 1,a_ 4 (zV 259 260 261),a_ 5 [iV 0,iV 0],i_ 6 0]
def VW:List Bt:=[L_ 9 2 6,q_ 10 48 [.t 9],N_ 11 10,m_ 12 11,lF 12 13 3 7 true,⟨some 14,.call 457 [.t 13],some (12,false)⟩,pF 12 15 (.un .not (.t 14)),po 16 12 15]
def VX:=[iQ 17 (.build (zV 1091 1092 1093) []),iQ 18 (.build [iV 0,iV 0] []),s_ 4 17 6,s_ 5 18 2,i_ 6 1]
def VY:=[L_ 20 2 6,L_ 21 3 7,q_ 22 459 [.t 20,.t 21],m_ 19 22,e_ 23 19 0,e_ 24 19 1,a_ 7 (zV 451 452 453),a_ 8 [iV 0,iV 0],s_ 7 23 6,s_ 8 24 2]
def VZ:=tk [L_ 25 7 6,L_ 26 8 2] (.alt [L_ 26 8 2] (s_ 4 25 6) (.alt [] (s_ 5 26 2) (tk [i_ 6 0] .fin) .stop) .stop)
def c440:Dp:=⟨2,27,[.cell 4 6 true,.cell 5 2 true,.t 6],sr VV (.seq (sr VW (iz 16 (rr VX))) (sr VY (sd VZ .ret)))⟩
def K440 (D:Bh):Prop:=∀a0 a1 r,lP a0 a1=some r→D 440 ⟨[.agg (Be a0),.agg (Ar a1)],[]⟩ ⟨.tup [.agg (Bk r.1 (Ap 0) (Ap 1) (Ap 2)),.agg (Bg r.2.1),iV r.2.2],[],[]⟩
abbrev mH:=fun (r:List (Nat×List V))=>(256,At 0 0 (Ap 259) [] (Ap 260) [] (Ap 261) [] false)::(320,[iV 0,iV 0])::r
theorem F440 (H48:K48 C) (H457:K457 C) (H459:K459 C):K440 (FO C c440):=by
 intro a0 a1 r h0
 refine f0 (Ay 7 [(2,.ptr 128 0),(3,.ptr 192 0),(4,.ptr 256 0),(5,.ptr 320 0)] (mH [(128,Be a0),(192,Ar a1)]) (Bc 3 (An (bb h0 fun r1 e2 h0=>Vf (H48 a0 r1 e2) (o_ (cX 3 (An (bb h0 fun r3 e4 h0=>st (Gr (r:=.bool r3) rfl false (fun hg=>H457 a1 r3 (ip hg e4)) ⟨(fun hg=>hg),tv⟩ (fun _=>rfl) (fun _=>rfl) (fun _=>rfl) (fun h=>nomatch h) (o_ (AU 3 [(2,.ptr 128 0),(3,.ptr 192 0),(4,.ptr 256 0),(5,.ptr 320 0),(16,.bool (bif (!r1) then true else (!r3)))] (mH [(128,Be a0),(192,Ar a1)]) (Ct h0 (fun c5 h0=>?_) (fun c5 h0=>?_)))))))))))))
 ·obtain rfl:=sj h0
  exact Dd 8
 ·refine Bc 5 (An (bb h0 fun r6 e7 h0=>Sy (H459 a0 a1 r6 e7) (ar (Bi rfl (af (af (af (ar (Bi rfl (Bi rfl rfl)))))))) (o_ (Ay 8 [(4,.ptr 256 0),(5,.ptr 320 0),(7,.ptr 448 0),(8,.ptr 512 0)] (mH [(448,Bk r6.1 (Ap 1408) (Ap 1409) (Ap 1410)),(512,Bg r6.2)]) (Bc 3 (Bl (Bu (Gd rfl rfl tv rfl rfl rfl (nl rfl) (d0 hB (Bu (Gd rfl rfl tv rfl rfl rfl (nl rfl) (d0 tv (d_ (Ay 2 [(4,.ptr 256 0),(5,.ptr 320 0),(6,iV 0)] [(256,Bk r6.1 (Ap 1408) (Ap 1409) (Ap 1410)),(320,Bg r6.2)] ?_)))) Au))) Au)))))))
  obtain rfl:=sj h0
  exact Lf (Eg rfl rfl rfl rfl rfl tv)

/- loop.example/g00149/laws.countBegun -/
def WB:=[X_ 1 0,i_ 2 0]
def WC:=[i_ 3 0]
def WE:=[i_ 4 0]
def WF:=[m_ 5 4,f_ 6 1 3,l_ 7 6 1,n_ 8 7,b_ .lss 9 5 8]
def WG:=[f_ 12 1 3,l_ 13 12 1,m_ 14 4,x_ 15 13 14 2,f_ 16 15 1,l_ 17 16 1,N_ 18 17]
def WH:=[m_ 19 3,B_ .add 20 19 1,m_ 3 20]
def WI:=[m_ 10 4,B_ .add 11 10 1,m_ 4 11]
def WA:IR:=(.seq (sr WF (.ite (.t 9) .skip (.exit 0))) (.seq (.block 1 (sr WG (iz 18 (.reg WH)))) (.reg WI)))
def WJ:=[m_ 21 3,m_ 2 21]
def c441:Dp:=⟨1,22,[.t 2],sr WB (sr WC (.seq (sr WE (Ju 0 WA)) (rr WJ)))⟩
def K441 (D:Bh):Prop:=∀a0 r,g441 a0=some r→D 441 ⟨[.agg (Be a0)],[]⟩ ⟨iV r,[],[]⟩
theorem F441:K441 (FO C c441):=by
 intro a0 r h0
 refine f0 (Ay 13 [(1,.ptr 64 0),(3,iV 0),(4,iV 0)] [(64,Be a0)] (Cg (bb h0 fun r25 e26 h0=>Cz (R:=(fun S=>∃p15:Int,p15=r25∧S=⟨[(3,iV p15)],[],[]⟩)) (Qr a0) (fun s S=>match s with | (p6,p7)=>S=⟨[(1,.ptr 64 0),(3,iV p6),(4,iV p7)],[(64,Be a0)],[]⟩) e26 _ (Ez (by kernel_rfl)) rfl 0 (fun _=>rfl) ?_ ?_)))
 ·rintro S _ hfg ⟨p15,rfl,rfl⟩
  refine Dn _ hfg ?_
  obtain rfl:=sj h0
  exact Dd 5
 ·rintro ⟨p6,p7⟩ o1 _ K1 rfl h1 hx1 hK1 hE1 hR1
  refine Bc 5 (An (Sn rfl (o_ (Ay 2 [(1,.ptr 64 0),(3,iV p6),(4,iV p7),(9,.bool (decide (p7<(a0.Ab.length:Int))))] [(64,Be a0)] (Ct h1 (fun c16 h1=>?_) (fun c16 h1=>?_))))))
  ·refine Mx 3 (Hs (fun S=>∃p20:Int,S=⟨[(1,.ptr 64 0),(3,iV p20),(4,iV p7)],[(64,Be a0)],[]⟩∧Yi p7 p20=some o1) ?_ (fun J21=>?_))
   ·rintro _ ⟨p20,rfl,h1⟩
    refine Bc 5 ?_
    obtain rfl:=sj h1
    exact kn hK1 rfl rfl
   ·refine Bj ?_
    refine Bc 3 (An (bb h1 fun y22 e23 h1=>Vv rfl rfl e23 (o_ (Ay 4 [(1,.ptr 64 0),(3,iV p6),(4,iV p7),(18,.bool (!y22.Md))] [(64,Be a0)] (Ct h1 (fun c24 h1=>?_) (fun c24 h1=>?_))))))
    ·refine Bc 5 ?_
     exact jn J21 ⟨_,rfl,h1⟩
    ·refine Jf (Rd ?_)
     exact jn J21 ⟨_,rfl,h1⟩
  ·obtain rfl:=sj h1
   obtain rfl:=hx1 _ rfl
   refine Jv rfl ?_
   exact jn hE1 ⟨_,rfl,rfl⟩

/- loop.example/g00149/laws.FnDrains -/
def VO:=[k_ 2 (.bool false)]
def VP:=[m_ 12 0,n_ 13 12,B_ .gtr 14 13 1048576]
def VQ:=[k_ 2 (.bool true)]
def VR:=[m_ 16 0,q_ 17 51 [.t 16],q_ 18 50 [.t 17],m_ 15 18,e_ 19 15 0,e_ 20 15 1,e_ 21 15 2,a_ 3 (zV 195 196 197),s_ 3 19 6,m_ 4 20,m_ 5 21]
def VS:List Bt:=[L_ 23 3 6,⟨some 24,.p (.build [iV 0,iV 0,iV 0,iV 0,iV 0,.own 1542 0 1 [],iV 0] [(0,1,.c (iV 6))]),none⟩,q_ 25 440 [.t 23,.t 24],m_ 22 25,e_ 26 22 0,e_ 27 22 1,e_ 28 22 2,a_ 6 (zV 387 388 389),a_ 7 [iV 0,iV 0],s_ 6 26 6,s_ 7 27 2,m_ 8 28]
def VT:List Bt:=[L_ 30 6 6,⟨some 31,.p (.build [iV 0,iV 0,iV 0,iV 0,iV 0,.own 1990 0 1 [],iV 0] [(0,1,.c (iV 4)),(4,1,.c (iV 9223372036854775807))]),none⟩,q_ 32 440 [.t 30,.t 31],m_ 29 32,e_ 33 29 0,e_ 34 29 1,e_ 35 29 2,a_ 9 (zV 579 580 581),a_ 10 [iV 0,iV 0],s_ 9 33 6,s_ 10 34 2,m_ 11 35]
def VU:=tk [m_ 36 8,B_ .eql 37 36 0,m_ 38 37,mT 38 39 11,pT 38 40 (.bin .eql (.t 39) (.c (iV 0))),pa 41 38 40,m_ 42 41,fT 42 43 9 0,fT 42 44 43 0,lT 42 45 44 1 false,pT 42 46 (.bin .eql (.t 45) (.c (iV 9223372036854775807))),pa 47 42 46,m_ 48 47,fT 48 49 9 0,fT 48 50 49 2,lT 48 51 50 1 false,pT 48 52 (.len (.t 51)),pT 48 53 (.bin .eql (.t 52) (.c (iV 0))),pa 54 48 53,m_ 55 54,fT 55 56 9 3,lT 55 57 56 1 false,pT 55 58 (.len (.t 57)),lT 55 59 3 6 true] (.alt [pT 55 58 (.len (.t 57)),lT 55 57 56 1 false,fT 55 56 9 3] ⟨some 60,.call 441 [.t 59],some (55,true)⟩ (tk [pT 55 61 (.bin .eql (.t 58) (.t 60)),pa 62 55 61,m_ 63 62,fT 63 64 9 4,lT 63 65 64 1 false,pT 63 66 (.len (.t 65)),pT 63 67 (.bin .eql (.t 66) (.c (iV 0))),pa 68 63 67,m_ 2 68] .fin) .stop)
def c434:Dp:=⟨1,69,[.t 2],sr VO (.seq (sr VP (iz 14 (rr VQ))) (sr VR (sr VS (sr VT (sd VU .ret)))))⟩
def K434 (D:Bh):Prop:=∀a0 r,g434 a0=some r→D 434 ⟨[lU8 a0],[]⟩ ⟨.bool r,[],[]⟩
theorem F434 (H50:K50 C) (H51:K51 C) (H440:K440 C) (H441:K441 C):K434 (FO C c434):=by
 intro a0 r h0
 refine f0 (Ay 3 [(0,lU8 a0)] [] (Bc 3 (An (Sn rfl (o_ (Ay 2 [(0,lU8 a0),(14,.bool (decide ((a0.length:Int)>1048576)))] [] (Ct h0 (fun c1 h0=>?_) (fun c1 h0=>?_))))))))
 ·obtain rfl:=sj h0
  exact Dd 4
 ·refine Bc 4 (An (bb h0 fun r2 e3 h0=>st (Dj (r:=Ey 0 r2) true (H51 a0 r2 e3) ⟨tv,tv⟩ rfl rfl (fun h=>nomatch h) (bb h0 fun r4 e5 h0=>Sy (H50 r2 r4 e5) (ar (Bi rfl (af (af (af (ar (af (Bi rfl rfl)))))))) (o_ (Ay 9 [(3,.ptr 192 0)] [(192,Bk r4.1 (Ap 1152) (Ap 1153) (Ap 1154))] (Bc 2 (An (st (c_ (v:=.agg (Bv 6 0 0 0 0 (Ap 1542) [] 0)) (Bb ⟨tv,tv⟩ rfl ⟨⟨rfl,rfl,nl rfl⟩,tv⟩) (bb h0 fun r6 e7 h0=>Sy (H440 r4.1 (Am.mk 6 0 0 0 0 ([]:List Int) 0) r6 e7) (ar (Bi rfl (af (af (af (ar (Bi rfl (ar (Bi rfl rfl))))))))) (o_ (Ay 10 [(3,.ptr 192 0),(6,.ptr 384 0),(8,iV r6.2.2)] [(192,Bk r4.1 (Ap 1152) (Ap 1153) (Ap 1154)),(384,Bk r6.1 (Ap 1600) (Ap 1601) (Ap 1602))] (Bc 2 (An (st (c_ (v:=.agg (Bv 4 0 0 0 9223372036854775807 (Ap 1990) [] 0)) (Bb ⟨tv,tv,tv⟩ rfl ⟨⟨rfl,rfl,nl rfl⟩,⟨rfl,rfl,nl rfl⟩,tv⟩) (bb h0 fun r8 e9 h0=>Sy (H440 r6.1 (Am.mk 4 0 0 0 9223372036854775807 ([]:List Int) 0) r8 e9) (ar (Bi rfl (af (af (af (ar (Bi rfl (ar (Bi rfl rfl))))))))) (o_ (Ay 10 [(3,.ptr 192 0),(8,iV r6.2.2),(9,.ptr 576 0),(11,iV r8.2.2)] [(192,Bk r4.1 (Ap 1152) (Ap 1153) (Ap 1154)),(576,Bk r8.1 (Ap 2048) (Ap 2049) (Ap 2050))] (Bj (bb h0 fun r10 e11 h0=>Bc 3 (Bl (Ag tv (Ce (u:=iV r8.2.2) rfl (fun hg=>(Dt (v:=iV r8.2.2) rfl tv)) (⟨tv,Ag tv (Ce (u:=.bool (r8.2.2==0)) rfl (fun hg=>(Bb ⟨(fun _=>hg),tv,tv⟩ rfl tv)) (⟨tv,Ag tv (Eh rfl rfl rfl (fun h=>Sr h) tv rfl (⟨tv,Ag tv (Bw rfl tv (⟨tv,Ag tv (Ce (u:=.ptr 576 0) rfl (fun hg=>(Bb ⟨tv,tv⟩ rfl tv)) (⟨tv,Ag tv (Ce (u:=.ptr 576 0) rfl (fun hg=>(Bb ⟨(fun _=>hg),tv⟩ rfl tv)) (⟨tv,Ag tv (Ce (u:=iV r8.1.Ad.clock) rfl (fun hg=>(Bb ⟨(fun _=>hg),tv⟩ rfl (nl rfl))) (⟨tv,Ag tv (Ce (u:=.bool (r8.1.Ad.clock==9223372036854775807)) rfl (fun hg=>(Bb ⟨(fun _=>hg),tv,tv⟩ rfl tv)) (⟨tv,Ag tv (Eh rfl rfl rfl (fun h=>Sr h) tv rfl (⟨tv,Ag tv (Bw rfl tv (⟨tv,Ag tv (Ce (u:=.ptr 576 0) rfl (fun hg=>(Bb ⟨tv,tv⟩ rfl tv)) (⟨tv,Ag tv (Ce (u:=.ptr 576 2) rfl (fun hg=>(Bb ⟨(fun _=>hg),tv⟩ rfl tv)) (⟨tv,?_⟩))⟩))⟩))⟩))⟩))⟩))⟩))⟩))⟩))⟩))⟩))⟩))))))))))))))))))))))))))
  refine Ag tv (Ce (u:=Af 2048 r8.1.Ad.Ae) rfl (fun hg=>(Bb ⟨(fun _=>hg),tv⟩ rfl (nl rfl))) (⟨tv,Ag tv (Ce (u:=iV (r8.1.Ad.Ae.length:Int)) rfl (fun hg=>(cP (e:=Ac) (l0:=r8.1.Ad.Ae) rfl rfl (fun _=>hg))) (⟨tv,Ag tv (Ce (u:=.bool ((r8.1.Ad.Ae.length:Int)==0)) rfl (fun hg=>(Bb ⟨(fun _=>hg),tv,tv⟩ rfl tv)) (⟨tv,Ag tv (Eh rfl rfl rfl (fun h=>Sr h) tv rfl (⟨tv,Ag tv (Bw rfl tv (⟨tv,Ag tv (Ce (u:=.ptr 576 3) rfl (fun hg=>(Bb ⟨tv,tv⟩ rfl tv)) (⟨tv,Ag tv (Ce (u:=Br 2049 r8.1.Ab) rfl (fun hg=>(Bb ⟨(fun _=>hg),tv⟩ rfl (nl rfl))) (⟨tv,Ag tv (Ce (u:=iV (r8.1.Ab.length:Int)) rfl (fun hg=>(cP (e:=Bx) (l0:=r8.1.Ab) rfl rfl (fun _=>hg))) (⟨tv,Ag tv (Ce (u:=.agg (Bk r4.1 (Ap 1152) (Ap 1153) (Ap 1154))) rfl (fun hg=>(Bb ⟨tv,tv⟩ rfl (nl rfl))) (⟨tv,Bu (Gr (r:=iV r10) rfl false (fun hg=>H441 r4.1 r10 (ip hg e11)) ⟨(fun hg=>hg),tv⟩ (fun _=>rfl) (fun _=>rfl) (fun _=>rfl) (fun h=>nomatch h) (dw [(9,.ptr 576 0),(55,.bool (bif (bif (bif (r6.2.2==0) then (r8.2.2==0) else false) then (r8.1.Ad.clock==9223372036854775807) else false) then ((r8.1.Ad.Ae.length:Int)==0) else false)),(56,.may ((bif (bif (bif (r6.2.2==0) then (r8.2.2==0) else false) then (r8.1.Ad.clock==9223372036854775807) else false) then ((r8.1.Ad.Ae.length:Int)==0) else false)==true) (.ptr 576 3)),(57,.may ((bif (bif (bif (r6.2.2==0) then (r8.2.2==0) else false) then (r8.1.Ad.clock==9223372036854775807) else false) then ((r8.1.Ad.Ae.length:Int)==0) else false)==true) (Br 2049 r8.1.Ab)),(58,.may ((bif (bif (bif (r6.2.2==0) then (r8.2.2==0) else false) then (r8.1.Ad.clock==9223372036854775807) else false) then ((r8.1.Ad.Ae.length:Int)==0) else false)==true) (iV (r8.1.Ab.length:Int))),(60,.may ((bif (bif (bif (r6.2.2==0) then (r8.2.2==0) else false) then (r8.1.Ad.clock==9223372036854775807) else false) then ((r8.1.Ad.Ae.length:Int)==0) else false)==true) (iV r10))] [(576,Bk r8.1 (Ap 2048) (Ap 2049) (Ap 2050))] ⟨⟨.inl tv,Bn (v:=iV (r8.1.Ab.length:Int)) rfl (fun hg=>(cP (e:=Bx) (l0:=r8.1.Ab) rfl rfl (fun _=>hg))) rfl⟩,⟨.inl tv,Bn (v:=Br 2049 r8.1.Ab) rfl (fun hg=>(Bb ⟨(fun _=>hg),tv⟩ rfl (nl rfl))) rfl⟩,⟨.inl tv,Bn (v:=.ptr 576 3) rfl (fun hg=>(Bb ⟨tv,tv⟩ rfl tv)) rfl⟩,tv⟩ (Ag tv (Ce (u:=.bool ((r8.1.Ab.length:Int)==r10)) rfl (fun hg=>(Bb ⟨(fun _=>hg),(fun _=>hg),tv⟩ rfl tv)) (⟨tv,Ag tv (Eh rfl rfl rfl (fun h=>Sr h) tv rfl (⟨tv,Ag tv (Bw rfl tv (⟨tv,Ag tv (Ce (u:=.ptr 576 4) rfl (fun hg=>(Bb ⟨tv,tv⟩ rfl tv)) (⟨tv,Ag tv (Ce (u:=oI 2050 r8.1.Ai) rfl (fun hg=>(Bb ⟨(fun _=>hg),tv⟩ rfl (nl rfl))) (⟨tv,Ag tv (Ce (u:=iV (r8.1.Ai.length:Int)) rfl (fun hg=>(cP (e:=eI) (l0:=r8.1.Ai) rfl rfl (fun _=>hg))) ?_)⟩))⟩))⟩))⟩))⟩))))) Au⟩))⟩))⟩))⟩))⟩))⟩))⟩))⟩))⟩))
  refine ⟨tv,Ag tv (Ce (u:=.bool ((r8.1.Ai.length:Int)==0)) rfl (fun hg=>(Bb ⟨(fun _=>hg),tv,tv⟩ rfl tv)) (⟨tv,Ag tv (Eh rfl rfl rfl (fun h=>Sr h) tv rfl (⟨tv,d_ (Bc 2 (bv h0 fun v12 e13 h0=>Dn ⟨[(2,.bool v12)],[],[]⟩ (Ez (by subst e13; kernel_rfl)) ?_))⟩))⟩))⟩
  obtain rfl:=sj h0
  exact Lf (Eg rfl rfl rfl rfl rfl tv)
end Go.Ev
