/- The walks of functions: the code comes to the answers that QgD tells. Written by a program of ours. -/
import Derived.Test.YtdmclbbhhcpjfaaQgW0
set_option linter.all false
set_option maxHeartbeats 4000000
set_option linter.unusedVariables false
set_option maxRecDepth 100000
namespace Go.Ev
variable {C:Av}

/- loop.example/g00149/laws.FnExactDeviceRun -/
def nG:=[k_ 2 (.bool false)]
def nH:=[i_ 3 1048576]
def nI:=[m_ 17 0,m_ 18 3,q_ 19 244 [.t 17,.t 18],m_ 3 19]
def nJ:=[m_ 20 3,B_ .lss 21 20 0]
def nK:=[k_ 2 (.bool true)]
def nL:=[m_ 23 0,q_ 24 246 [.t 23],q_ 25 245 [.t 24],m_ 22 25,e_ 26 22 0,e_ 27 22 1,e_ 28 22 2,a_ 5 [.own 321 0 1 [],.own 322 0 2 []],m_ 4 26,s_ 5 27 2,m_ 6 28]
def nM:=[m_ 29 0,q_ 30 246 [.t 29],m_ 7 30]
def nN:=[m_ 32 7,q_ 33 215 [.t 32],m_ 31 33,e_ 34 31 0,e_ 35 31 1,e_ 36 31 2,a_ 9 [.own 577 0 1 [],.own 578 0 2 []],m_ 8 34,s_ 9 35 2,m_ 10 36]
def nO:List Bg:=[m_ 37 8,m_ 38 4,q_ 39 36 [.t 37,.t 38],N_ 40 39,m_ 41 40,lF 41 42 9 2 true,lF 41 43 5 2 true,⟨some 44,.call 232 [.t 42,.t 43],some (41,false)⟩,pF 41 45 (.un .not (.t 44)),po 46 41 45,m_ 47 46,mF 47 48 10,mF 47 49 6,pF 47 50 (.bin .neq (.t 48) (.t 49)),po 51 47 50]
def nP:=[k_ 2 (.bool false)]
def fM:=[m_ 52 7,m_ 53 0,q_ 54 246 [.t 53],q_ 55 247 [.t 52,.t 54],N_ 56 55]
def fN:=[k_ 2 (.bool false)]
def fO:=[i_ 11 1]
def fP:=[m_ 57 7,m_ 58 11,q_ 59 248 [.t 57,.t 58],m_ 11 59]
def fQ:List Bg:=[m_ 60 11,B_ .lss 61 60 0,m_ 62 61,mF 62 63 8,mF 62 64 4,⟨some 65,.call 36 [.t 63,.t 64],some (62,false)⟩,pF 62 66 (.un .not (.t 65)),po 67 62 66,m_ 68 67,lF 68 69 9 2 true,lF 68 70 5 2 true,⟨some 71,.call 232 [.t 69,.t 70],some (68,false)⟩,pF 68 72 (.un .not (.t 71)),po 73 68 72,m_ 74 73,mF 74 75 10,mF 74 76 6,pF 74 77 (.bin .neq (.t 75) (.t 76)),po 78 74 77]
def fR:=[k_ 2 (.bool false)]
def fS:=[i_ 12 1]
def fU:=[m_ 79 8,m_ 80 12,q_ 81 37 [.t 79,.t 80],m_ 12 81]
def fV:=[L_ 82 9 2,m_ 83 12,q_ 84 234 [.t 82,.t 83],m_ 12 84]
def fW:=[i_ 13 1]
def fX:=[m_ 85 8,m_ 86 13,q_ 87 38 [.t 85,.t 86],m_ 13 87]
def fY:=[m_ 88 13,B_ .lss 89 88 0]
def fZ:=[k_ 2 (.bool false)]
def gA:=[L_ 90 9 2,m_ 91 13,q_ 92 236 [.t 90,.t 91],m_ 13 92]
def gB:=[m_ 93 13,B_ .lss 94 93 0]
def gC:=[k_ 2 (.bool false)]
def gD:=[m_ 95 13,m_ 96 12,b_ .neq 97 95 96]
def gE:=[k_ 2 (.bool false)]
def gF:=[m_ 99 0,q_ 100 246 [.t 99],q_ 101 215 [.t 100],m_ 98 101,e_ 102 98 0,e_ 103 98 1,e_ 104 98 2,a_ 15 [.own 961 0 1 [],.own 962 0 2 []],m_ 14 102,s_ 15 103 2,m_ 16 104]
def gG:List Bg:=[m_ 105 14,m_ 106 4,q_ 107 36 [.t 105,.t 106],N_ 108 107,m_ 109 108,lF 109 110 15 2 true,lF 109 111 5 2 true,⟨some 112,.call 232 [.t 110,.t 111],some (109,false)⟩,pF 109 113 (.un .not (.t 112)),po 114 109 113,m_ 115 114,mF 115 116 16,mF 115 117 6,pF 115 118 (.bin .neq (.t 116) (.t 117)),po 119 115 118]
def gH:=[k_ 2 (.bool false)]
def gI:=[i_ 13 1]
def gJ:=[m_ 120 8,m_ 121 13,q_ 122 38 [.t 120,.t 121],m_ 13 122]
def gK:=[m_ 123 13,B_ .lss 124 123 0]
def gL:=[k_ 2 (.bool false)]
def gM:=[L_ 125 9 2,m_ 126 13,q_ 127 236 [.t 125,.t 126],m_ 13 127]
def gN:=[m_ 128 13,B_ .lss 129 128 0]
def gO:=[k_ 2 (.bool false)]
def gP:=[m_ 130 13,m_ 131 12,b_ .neq 132 130 131]
def gQ:=[k_ 2 (.bool false)]
def gR:=[k_ 2 (.bool true)]
def JA:Er:=⟨1,133,[.t 2],sr nG (sr nH (sr nI (.seq (sr nJ (iz 21 (rr nK))) (sr nL (sr nM (sr nN (.seq (sr nO (iz 51 (rr nP))) (.seq (sr fM (iz 56 (rr fN))) (sr fO (sr fP (.seq (sr fQ (iz 78 (rr fR))) (sr fS (sr fU (sr fV (sr fW (sr fX (.seq (sr fY (iz 89 (rr fZ))) (sr gA (.seq (sr gB (iz 94 (rr gC))) (.seq (sr gD (iz 97 (rr gE))) (sr gF (.seq (sr gG (iz 119 (rr gH))) (sr gI (sr gJ (.seq (sr gK (iz 124 (rr gL))) (sr gM (.seq (sr gN (iz 129 (rr gO))) (.seq (sr gP (iz 132 (rr gQ))) (rr gR)))))))))))))))))))))))))))))⟩
def IV (D:Av):Prop:=∀a0 r,HF a0=some r→D 208 ⟨[Ai a0],[]⟩ ⟨.bool r,[],[]⟩
abbrev Ei:=fun x0 x1 x2 (r:List (Nat×V))=>(0,Ai x0)::(4,oI 1600 x1)::(5,.ptr 320 0)::(6,iV x2)::(9,.ptr 576 0)::r
abbrev Hs:=fun x0 x1 (r:List (Nat×List V))=>(320,Ak x0 (Cf 1601) (Cf 1602))::(576,Ak x1 (Cf 2113) (Cf 2146))::r
abbrev Qg:=fun x0 x1 x2 (r:List (Nat×List V))=>(320,Ak x0 (Cf 1601) (Cf 1602))::(576,[Au 2113 x1,Ab 2146 x2])::r
abbrev Tu:=fun x0 x1 (r:List (Nat×V))=>(8,oI 2112 x0)::(9,.ptr 576 0)::(12,iV x1)::r
theorem LW (H36:NQ C) (H37:NS C) (H38:NT C) (H215:EK C) (H232:EM C) (H234:EN C) (H236:EO C) (H244:EP C) (H245:EQ C) (H246:ER C) (H247:ES C) (H248:ET C):IV (FO C JA):=by
 intro a0 r h0
 refine f0 (At 7 [(0,Ai a0),(3,iV 1048576)] [] (Bu (Aj (st (Ce rfl tv (st (Ce rfl tv (bb h0 fun r1 e2 h0=>Rv (H244 a0 1048576 r1 e2) (o_ (At 8 [(0,Ai a0),(21,.bool (decide (r1<0)))] [] (Cv h0 (fun c3 h0=>?_) (fun c3 h0=>?_))))))))))))
 ·obtain rfl:=sj h0
  exact Dt 4
 ·refine aH (eY (Bu (Aj (st (Ce rfl tv (bb h0 fun r4 e5 h0=>Ru (H246 a0 r4 e5) (Ek (Sx rfl) rfl) (bb h0 fun r6 e7 h0=>st (Kh (r:=.tup [oI 0 r6.1,.agg (Ak r6.2.1 (Cf 1) (Cf 2)),iV r6.2.2]) true (H245 r4 r6 e7) ⟨tv,tv⟩ rfl rfl (fun h=>nomatch h) (sw ⟨[(0,Ai a0),(25,.tup [oI 1600 r6.1,.agg (Ak r6.2.1 (Cf 1601) (Cf 1602)),iV r6.2.2])],[],[]⟩ (Fz (by kernel_rfl)) (Ce rfl tv (st (c_ (Bx ⟨tv,tv⟩ rfl tv) (st (c_ (Bx ⟨tv,tv⟩ rfl tv) (st (c_ (Bx ⟨tv,tv⟩ rfl tv) (st (Gk (sw ⟨[(0,Ai a0),(5,.ptr 320 0),(26,oI 1600 r6.1),(27,.agg (Ak r6.2.1 (Cf 1601) (Cf 1602))),(28,iV r6.2.2)],[(320,[Au 321 [],Ab 354 []])],[]⟩ (Ge [] [(322,354)] rfl (by kernel_rfl)) (Ce rfl tv (o_ (At 3 [(0,Ai a0),(4,oI 1600 r6.1),(5,.ptr 320 0),(6,iV r6.2.2)] [(320,Ak r6.2.1 (Cf 1601) (Cf 1602))] (Bu (Aj (st (Ce rfl tv (bb h0 fun r8 e9 h0=>Ru (H246 a0 r8 e9) (Ek (Sx rfl) rfl) (o_ (At 2 [(0,Ai a0),(4,oI 1600 r6.1),(5,.ptr 320 0),(6,iV r6.2.2),(7,Ay 1952 r8)] [(320,Ak r6.2.1 (Cf 1601) (Cf 1602))] (Bu (Aj (st (Ce rfl tv (bb h0 fun r10 e11 h0=>Ru (H215 r8 r10 e11) (af (af (Ek (Sx rfl) (Ek rfl rfl)))) (st (Ce rfl tv (st (c_ (Bx ⟨tv,tv⟩ rfl tv) (st (c_ (Bx ⟨tv,tv⟩ rfl tv) (st (c_ (Bx ⟨tv,tv⟩ rfl tv) (st (Gk (sw ⟨Ei a0 r6.1 r6.2.2 [(7,Ay 1952 r8),(34,oI 2112 r10.1),(35,.agg (Ak r10.2.1 (Cf 2113) (Cf 2146))),(36,iV r10.2.2)],[(320,Ak r6.2.1 (Cf 1601) (Cf 1602)),(576,[Au 577 [],Ab 610 []])],[]⟩ (Ge [] [(578,610)] rfl (by kernel_rfl)) (Ce rfl tv (o_ (At 3 (Ei a0 r6.1 r6.2.2 [(7,Ay 1952 r8),(8,oI 2112 r10.1),(10,iV r10.2.2)]) (Hs r6.2.1 r10.2.1 []) (Bu (Bu (Aj (st (Ce rfl tv (st (Ce rfl tv (bb h0 fun r12 e13 h0=>Rv (H36 r10.1 r6.1 r12 e13) (st (c_ (Bx ⟨tv,tv⟩ rfl tv) (st (Ce rfl tv (st (Po (u:=.agg (Ak r10.2.1 (Cf 2113) (Cf 2146))) rfl (fun hg=>(Bx ⟨tv,tv⟩ rfl (nl rfl))) (st (Po (u:=.agg (Ak r6.2.1 (Cf 1601) (Cf 1602))) rfl (fun hg=>(Bx ⟨tv,tv⟩ rfl (nl rfl))) (bb h0 fun r14 e15 h0=>sw ⟨Ei a0 r6.1 r6.2.2 [(7,Ay 1952 r8),(8,oI 2112 r10.1),(10,iV r10.2.2),(41,.bool (!r12)),(42,.may ((!r12)==false) (.agg (Ak r10.2.1 (Cf 2113) (Cf 2146)))),(43,.may ((!r12)==false) (.agg (Ak r6.2.1 (Cf 1601) (Cf 1602))))],Hs r6.2.1 r10.2.1 [],[]⟩ (Fz (by kernel_rfl)) (Wm (r:=.bool r14) rfl false (fun hg=>H232 r10.2.1 r6.2.1 r14 (ip hg e15)) ⟨(fun hg=>hg),(fun hg=>hg),tv⟩ (fun _=>rfl) (fun _=>rfl) (fun _=>rfl) (fun h=>nomatch h) (st (Po (u:=.bool (!r14)) rfl (fun hg=>(Bx ⟨(fun _=>hg),tv⟩ rfl tv)) (st (Pd rfl rfl rfl tv (fun h=>BA h) rfl (st (Ce rfl tv (st (Po (u:=iV r10.2.2) rfl (fun hg=>(Xl (v:=iV r10.2.2) rfl tv)) (st (Po (u:=iV r6.2.2) rfl (fun hg=>(Xl (v:=iV r6.2.2) rfl tv)) (st (Po (u:=.bool (r10.2.2 != r6.2.2)) rfl (fun hg=>(Bx ⟨(fun _=>hg),(fun _=>hg),tv⟩ rfl tv)) (st (Pd rfl rfl rfl tv (fun h=>BA h) rfl (Pa (bv h0 fun v16 e17 h0=>Fs ⟨Ei a0 r6.1 r6.2.2 [(7,Ay 1952 r8),(8,oI 2112 r10.1),(10,iV r10.2.2),(51,.bool v16)],Hs r6.2.1 r10.2.1 [],[]⟩ (Fz (by subst e17; kernel_rfl)) (Cv h0 (fun c18 h0=>?_) (fun c18 h0=>?_))))))))))))))))))))))))))))))))))))))))))))))))))))))))))))))))))))))))))))))))))))
  ·obtain rfl:=sj h0
   exact Dt 4
  ·refine aH (eY (Bu (Bu (Aj (st (Ce rfl tv (st (Ce rfl tv (bb h0 fun r19 e20 h0=>Ru (H246 a0 r19 e20) (Ek (Sx rfl) rfl) (bb h0 fun r21 e22 h0=>Rv (H247 r8 r19 r21 e22) (o_ (At 2 (Ei a0 r6.1 r6.2.2 [(7,Ay 1952 r8),(8,oI 2112 r10.1),(10,iV r10.2.2),(56,.bool (!r21))]) (Hs r6.2.1 r10.2.1 []) (Cv h0 (fun c23 h0=>?_) (fun c23 h0=>?_))))))))))))))
   ·obtain rfl:=sj h0
    exact Dt 4
   ·refine At 5 (Ei a0 r6.1 r6.2.2 [(7,Ay 1952 r8),(8,oI 2112 r10.1),(10,iV r10.2.2),(11,iV 1)]) (Hs r6.2.1 r10.2.1 []) (Bu (Aj (st (Ce rfl tv (st (Ce rfl tv (bb h0 fun r24 e25 h0=>gg h0 fun c26 h0=>NX [] [1952] [] (H248 r8 1 r24 e25) (sw ⟨Ei a0 r6.1 r6.2.2 [(8,oI 2112 r10.1),(10,iV r10.2.2),(59,iV r24.1)],Hs r6.2.1 r10.2.1 [],[]⟩ (Fz (by kernel_rfl)) (Ce rfl tv (o_ (At 1 (Ei a0 r6.1 r6.2.2 [(8,oI 2112 r10.1),(10,iV r10.2.2),(11,iV r24.1)]) (Hs r6.2.1 r10.2.1 []) (Bu (Bu (Aj (st (Ce rfl tv (st (c_ (Bx t3 rfl tv) (st (Ce rfl tv (st (Po (u:=oI 2112 r10.1) rfl (fun hg=>(Xl (v:=oI 2112 r10.1) rfl tv)) (st (Po (u:=oI 1600 r6.1) rfl (fun hg=>(Xl (v:=oI 1600 r6.1) rfl tv)) (bb h0 fun r27 e28 h0=>st (Wm (r:=.bool r27) rfl false (fun hg=>H36 r10.1 r6.1 r27 (ip hg e28)) ⟨(fun hg=>hg),(fun hg=>hg),tv⟩ (fun _=>rfl) (fun _=>rfl) (fun _=>rfl) (fun h=>nomatch h) (st (Po (u:=.bool (!r27)) rfl (fun hg=>(Bx ⟨(fun _=>hg),tv⟩ rfl tv)) (st (Pd rfl rfl rfl tv (fun h=>BA h) rfl (st (Ce rfl tv (st (Po (u:=.agg (Ak r10.2.1 (Cf 2113) (Cf 2146))) rfl (fun hg=>(Bx ⟨tv,tv⟩ rfl (nl rfl))) (st (Po (u:=.agg (Ak r6.2.1 (Cf 1601) (Cf 1602))) rfl (fun hg=>(Bx ⟨tv,tv⟩ rfl (nl rfl))) (bb h0 fun r29 e30 h0=>sw ⟨Ei a0 r6.1 r6.2.2 [(8,oI 2112 r10.1),(10,iV r10.2.2),(68,.bool (bif (decide (r24.1<0)) then true else (!r27))),(69,.may ((bif (decide (r24.1<0)) then true else (!r27))==false) (.agg (Ak r10.2.1 (Cf 2113) (Cf 2146)))),(70,.may ((bif (decide (r24.1<0)) then true else (!r27))==false) (.agg (Ak r6.2.1 (Cf 1601) (Cf 1602))))],Hs r6.2.1 r10.2.1 [],[]⟩ (Fz (by kernel_rfl)) (Wm (r:=.bool r29) rfl false (fun hg=>H232 r10.2.1 r6.2.1 r29 (ip hg e30)) ⟨(fun hg=>hg),(fun hg=>hg),tv⟩ (fun _=>rfl) (fun _=>rfl) (fun _=>rfl) (fun h=>nomatch h) (st (Po (u:=.bool (!r29)) rfl (fun hg=>(Bx ⟨(fun _=>hg),tv⟩ rfl tv)) (st (Pd rfl rfl rfl tv (fun h=>BA h) rfl (st (Ce rfl tv (st (Po (u:=iV r10.2.2) rfl (fun hg=>(Xl (v:=iV r10.2.2) rfl tv)) (st (Po (u:=iV r6.2.2) rfl (fun hg=>(Xl (v:=iV r6.2.2) rfl tv)) (st (Po (u:=.bool (r10.2.2 != r6.2.2)) rfl (fun hg=>(Bx ⟨(fun _=>hg),(fun _=>hg),tv⟩ rfl tv)) (st (Pd rfl rfl rfl tv (fun h=>BA h) rfl (Pa (bv h0 fun v31 e32 h0=>Fs ⟨Ei a0 r6.1 r6.2.2 [(8,oI 2112 r10.1),(78,.bool v31)],Hs r6.2.1 r10.2.1 [],[]⟩ (Fz (by subst e32; kernel_rfl)) (Cv h0 (fun c33 h0=>?_) (fun c33 h0=>?_))))))))))))))))))))))))))))))))))))))))))))))))))))))))
    ·obtain rfl:=sj h0
     exact Dt 4
    ·refine At 5 (Ei a0 r6.1 r6.2.2 [(8,oI 2112 r10.1),(12,iV 1)]) (Hs r6.2.1 r10.2.1 []) (Bu (Aj (st (Ce rfl tv (st (Ce rfl tv (bb h0 fun r34 e35 h0=>gg h0 fun LO h0=>LN [] [2112] [] (H37 r10.1 1 r34 e35) (ar (Ek (OP (fun _=>rfl)) rfl)) (sw ⟨[(0,Ai a0),(4,oI 1600 r6.1),(5,.ptr 320 0),(6,iV r6.2.2),(8,oI 2112 r34.2),(9,.ptr 576 0),(81,iV r34.1)],[(320,Ak r6.2.1 (Cf 1601) (Cf 1602)),(576,Ak r10.2.1 (Cf 2113) (Cf 2146))],[]⟩ (fg ⟨rfl,rfl,rfl,rfl,congrArg (fun z=>some ((z:V))) (Qp LO),rfl,rfl,tv⟩ ⟨rfl,rfl,tv⟩) (Ce rfl tv (o_ (At 1 (Ei a0 r6.1 r6.2.2 [(8,oI 2112 r34.2),(12,iV r34.1)]) (Hs r6.2.1 r10.2.1 []) (Bu (Aj (st (c_ (v:=.agg (Ak r10.2.1 (Cf 2113) (Cf 2146))) (Bx ⟨tv,tv⟩ rfl (nl rfl)) (st (Ce rfl tv (bb h0 fun r37 e38 h0=>gg h0 fun c39 h0=>gg h0 fun c40 h0=>NX [] [2113,2146] [] (H234 r10.2.1 r34.1 r37 e38) (sw ⟨[(0,Ai a0),(4,oI 1600 r6.1),(5,.ptr 320 0),(6,iV r6.2.2),(8,oI 2112 r34.2),(9,.ptr 576 0),(84,iV r37.1)],[(320,Ak r6.2.1 (Cf 1601) (Cf 1602)),(576,[Au 2113 r37.2.1,Ab 2146 r37.2.2])],[]⟩ (fg ⟨rfl,rfl,rfl,rfl,rfl,rfl,rfl,tv⟩ ⟨rfl,OX (fun z0 z1=>some (([z0,z1]:List V))) (Qp c39) (Qp c40),tv⟩) (Ce rfl tv (o_ (At 5 (Ei a0 r6.1 r6.2.2 [(8,oI 2112 r34.2),(12,iV r37.1),(13,iV 1)]) (Qg r6.2.1 r37.2.1 r37.2.2 []) (Bu (Aj (st (Ce rfl tv (st (Ce rfl tv (bb h0 fun r41 e42 h0=>Rv (H38 r34.2 1 r41 e42) (o_ (At 8 (Ei a0 r6.1 r6.2.2 [(8,oI 2112 r34.2),(12,iV r37.1),(13,iV r41),(89,.bool (decide (r41<0)))]) (Qg r6.2.1 r37.2.1 r37.2.2 []) (Cv h0 (fun c43 h0=>?_) (fun c43 h0=>?_)))))))))))))))))))))))))))))))))
     ·obtain rfl:=sj h0
      exact Dt 4
     ·refine aH (eY (Bu (Aj (st (c_ (v:=.agg [Au 2113 r37.2.1,Ab 2146 r37.2.2]) (Bx ⟨tv,tv⟩ rfl (nl rfl)) (st (Ce rfl tv (bb h0 fun r44 e45 h0=>Rv (H236 (Ae.mk r37.2.1 r37.2.2) r41 r44 e45) (o_ (At 8 (Ei a0 r6.1 r6.2.2 [(8,oI 2112 r34.2),(12,iV r37.1),(13,iV r44),(94,.bool (decide (r44<0)))]) (Qg r6.2.1 r37.2.1 r37.2.2 []) (Cv h0 (fun c46 h0=>?_) (fun c46 h0=>?_))))))))))))
      ·obtain rfl:=sj h0
       exact Dt 4
      ·refine At 8 (Ei a0 r6.1 r6.2.2 [(8,oI 2112 r34.2),(12,iV r37.1),(97,.bool (r44 != r37.1))]) (Qg r6.2.1 r37.2.1 r37.2.2 []) (Cv h0 (fun c47 h0=>?_) (fun c47 h0=>?_))
       ·obtain rfl:=sj h0
        exact Dt 4
       ·refine aH (eY (Bu (Aj (st (Ce rfl tv (bb h0 fun r48 e49 h0=>Ru (H246 a0 r48 e49) (Ek (Sx rfl) rfl) (bb h0 fun r50 e51 h0=>Ru (H215 r48 r50 e51) (af (af (Ek (Sx rfl) (Ek rfl rfl)))) (st (Ce rfl tv (st (c_ (Bx ⟨tv,tv⟩ rfl tv) (st (c_ (Bx ⟨tv,tv⟩ rfl tv) (st (c_ (Bx ⟨tv,tv⟩ rfl tv) (st (Gk (sw ⟨Tu r34.2 r37.1 [(4,oI 1600 r6.1),(5,.ptr 320 0),(6,iV r6.2.2),(15,.ptr 960 0),(102,oI 6464 r50.1),(103,.agg (Ak r50.2.1 (Cf 6465) (Cf 6498))),(104,iV r50.2.2)],Qg r6.2.1 r37.2.1 r37.2.2 [(960,[Au 961 [],Ab 994 []])],[]⟩ (Ge [] [(962,994)] rfl (by kernel_rfl)) (Ce rfl tv (o_ (At 3 (Tu r34.2 r37.1 [(4,oI 1600 r6.1),(5,.ptr 320 0),(6,iV r6.2.2),(14,oI 6464 r50.1),(15,.ptr 960 0),(16,iV r50.2.2)]) (Qg r6.2.1 r37.2.1 r37.2.2 [(960,Ak r50.2.1 (Cf 6465) (Cf 6498))]) (Bu (Bu (Aj (st (Ce rfl tv (st (Ce rfl tv (bb h0 fun r52 e53 h0=>Rv (H36 r50.1 r6.1 r52 e53) (st (c_ (Bx ⟨tv,tv⟩ rfl tv) (st (Ce rfl tv (st (Po (u:=.agg (Ak r50.2.1 (Cf 6465) (Cf 6498))) rfl (fun hg=>(Bx ⟨tv,tv⟩ rfl (nl rfl))) (st (Po (u:=.agg (Ak r6.2.1 (Cf 1601) (Cf 1602))) rfl (fun hg=>(Bx ⟨tv,tv⟩ rfl (nl rfl))) (bb h0 fun r54 e55 h0=>sw ⟨Tu r34.2 r37.1 [(6,iV r6.2.2),(16,iV r50.2.2),(109,.bool (!r52)),(110,.may ((!r52)==false) (.agg (Ak r50.2.1 (Cf 6465) (Cf 6498)))),(111,.may ((!r52)==false) (.agg (Ak r6.2.1 (Cf 1601) (Cf 1602))))],[(576,[Au 2113 r37.2.1,Ab 2146 r37.2.2])],[]⟩ (Fz (by kernel_rfl)) (Wm (r:=.bool r54) rfl false (fun hg=>H232 r50.2.1 r6.2.1 r54 (ip hg e55)) ⟨(fun hg=>hg),(fun hg=>hg),tv⟩ (fun _=>rfl) (fun _=>rfl) (fun _=>rfl) (fun h=>nomatch h) (st (Po (u:=.bool (!r54)) rfl (fun hg=>(Bx ⟨(fun _=>hg),tv⟩ rfl tv)) (st (Pd rfl rfl rfl tv (fun h=>BA h) rfl (st (Ce rfl tv (st (Po (u:=iV r50.2.2) rfl (fun hg=>(Xl (v:=iV r50.2.2) rfl tv)) (st (Po (u:=iV r6.2.2) rfl (fun hg=>(Xl (v:=iV r6.2.2) rfl tv)) (st (Po (u:=.bool (r50.2.2 != r6.2.2)) rfl (fun hg=>(Bx ⟨(fun _=>hg),(fun _=>hg),tv⟩ rfl tv)) (st (Pd rfl rfl rfl tv (fun h=>BA h) rfl (Pa (bv h0 fun v56 e57 h0=>Fs ⟨Tu r34.2 r37.1 [(119,.bool v56)],[(576,[Au 2113 r37.2.1,Ab 2146 r37.2.2])],[]⟩ (Fz (by subst e57; kernel_rfl)) (Cv h0 (fun c58 h0=>?_) (fun c58 h0=>?_)))))))))))))))))))))))))))))))))))))))))))))))))))))))))
        ·obtain rfl:=sj h0
         exact Dt 4
        ·refine At 5 (Tu r34.2 r37.1 [(13,iV 1)]) [(576,[Au 2113 r37.2.1,Ab 2146 r37.2.2])] (Bu (Aj (st (Ce rfl tv (st (Ce rfl tv (bb h0 fun r59 e60 h0=>Rv (H38 r34.2 1 r59 e60) (o_ (At 8 [(9,.ptr 576 0),(12,iV r37.1),(13,iV r59),(124,.bool (decide (r59<0)))] [(576,[Au 2113 r37.2.1,Ab 2146 r37.2.2])] (Cv h0 (fun c61 h0=>?_) (fun c61 h0=>?_)))))))))))
         ·obtain rfl:=sj h0
          exact Dt 4
         ·refine aH (eY (Bu (Aj (st (c_ (v:=.agg [Au 2113 r37.2.1,Ab 2146 r37.2.2]) (Bx ⟨tv,tv⟩ rfl (nl rfl)) (st (Ce rfl tv (bb h0 fun r62 e63 h0=>Rv (H236 (Ae.mk r37.2.1 r37.2.2) r59 r62 e63) (o_ (At 8 [(12,iV r37.1),(13,iV r62),(129,.bool (decide (r62<0)))] [] (Cv h0 (fun c64 h0=>?_) (fun c64 h0=>?_))))))))))))
          ·obtain rfl:=sj h0
           exact Dt 4
          ·refine At 8 [(132,.bool (r62 != r37.1))] [] (Cv h0 (fun c65 h0=>?_) (fun c65 h0=>?_))
           ·obtain rfl:=sj h0
            exact Dt 4
           ·obtain rfl:=sj h0
            exact Dt 6
end Go.Ev
