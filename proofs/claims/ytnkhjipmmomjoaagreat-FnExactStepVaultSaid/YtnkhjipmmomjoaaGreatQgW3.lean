/- The walks of functions: the code comes to the answers that QgD tells. Written by a program of ours. -/
import Derived.Test.YtnkhjipmmomjoaaGreatQgW2
set_option linter.all false
set_option maxHeartbeats 4000000
set_option linter.unusedVariables false
set_option maxRecDepth 100000
namespace Go.Ev
variable {C:Bj}

/- loop.example/g00149/spec.VaultOK -/
def c46_r0:=[X_ 1 0,k_ 2 (.bool false)]
def c46_r1:List Cd:=[f_ 5 1 0,L_ 6 5 3,q_ 7 18 [.t 6],N_ 8 7,m_ 9 8,fF 9 10 1 3,lF 9 11 10 1 false,pF 9 12 (.len (.t 11)),pF 9 13 (.bin .gtr (.t 12) (.c (iV 40))),po 14 9 13,m_ 15 14,fF 15 16 1 4,lF 15 17 16 1 false,pF 15 18 (.len (.t 17)),pF 15 19 (.bin .gtr (.t 18) (.c (iV 80))),po 20 15 19,m_ 21 20,fF 21 22 1 4,lF 21 23 22 1 false,fF 21 24 1 0,fF 21 25 24 1,lF 21 26 25 1 false,⟨some 27,.call 85 [.t 23,.t 26],some (21,false)⟩,pF 21 28 (.un .not (.t 27)),po 29 21 28]
def c46_r2:=[k_ 2 (.bool false)]
def c46_r3:=[i_ 3 0]
def c46_r4:=[m_ 30 3,f_ 31 1 3,l_ 32 31 1,n_ 33 32,b_ .lss 34 30 33]
def c46_r5:=[f_ 37 1 3,l_ 38 37 1,m_ 39 3,x_ 40 38 39 2,f_ 41 40 0,l_ 42 41 1,m_ 4 42]
def c46_r6:List Cd:=[m_ 43 4,f_ 44 1 0,f_ 45 44 1,l_ 46 45 1,B_ .sub 47 46 1,q_ 48 56 [.t 43,.c (iV 1),.t 47],N_ 49 48,m_ 50 49,mF 50 51 3,pF 50 52 (.bin .gtr (.t 51) (.c (iV 0))),mF 50 53 52,fT 53 54 1 3,lT 53 55 54 1 false,mT 53 56 3,pT 53 57 (.bin .sub (.t 56) (.c (iV 1))),xT 53 58 55 57 2,fT 53 59 58 0,lT 53 60 59 1 false,mT 53 61 4,pT 53 62 (.bin .geq (.t 60) (.t 61)),⟨some 63,.pick (.t 53) (.t 62) (.c (.bool false)),some (50,false)⟩,po 64 50 63,m_ 65 64,fF 65 66 1 0,lF 65 67 66 3 true,mF 65 68 4,⟨some 69,.call 92 [.t 67,.t 68],some (65,false)⟩,pF 65 70 (.bin .geq (.t 69) (.c (iV 0))),po 71 65 70]
def c46_r7:=[k_ 2 (.bool false)]
def c46_r8:=[m_ 35 3,B_ .add 36 35 1,m_ 3 36]
def c46_l0:IR:=(.seq (sr c46_r4 (.ite (.t 34) .skip (.exit 0))) (.seq (.block 1 (sr c46_r5 (sr c46_r6 (iz 71 (rr c46_r7))))) (.reg c46_r8)))
def c46_r9:=[L_ 72 1 6,q_ 73 93 [.t 72],B_ .eql 74 73 0,m_ 2 74]
def c46:Cz:=⟨1,75,[.t 2],sr c46_r0 (.seq (sr c46_r1 (iz 29 (rr c46_r2))) (.seq (sr c46_r3 (Ho 0 c46_l0)) (rr c46_r9)))⟩
def K46 (D:Bj):Prop:=∀a0 r,g46 a0=some r→D 46 ⟨[.agg (Au a0)],[]⟩ ⟨.bool r,[],[]⟩
theorem F46 (H18:K18 C) (H56:K56 C) (H85:K85 C) (H92:K92 C) (H93:K93 C):K46 (FO C c46):=by
 intro a0 r h0
 refine f0 (Ba 4 [(1,.ptr 64 0)] [(64,Au a0)] (Ax 4 (As (bb h0 fun r1 e2 h0=>Jj (H18 a0.Ac r1 e2) (o_ (Ax 2 (As (st (Bv (u:=.ptr 64 3) rfl (fun hg=>(Bl ⟨tv,tv⟩ rfl tv)) (st (Bv (u:=Bm a0.Ab) rfl (fun hg=>(Bl ⟨(fun _=>hg),tv⟩ rfl (nl rfl))) (st (Bv (u:=iV (a0.Ab.length:Int)) rfl (fun hg=>(Wf (e:=Bq) (l0:=a0.Ab) rfl rfl (fun _=>hg))) (st (Bv (u:=.bool (decide ((a0.Ab.length:Int)>40))) rfl (fun hg=>(Bl ⟨(fun _=>hg),tv,tv⟩ rfl tv)) (st (Dh rfl rfl rfl tv (fun h=>Uw h) rfl (st (Cj rfl tv (st (Bv (u:=.ptr 64 4) rfl (fun hg=>(Bl ⟨tv,tv⟩ rfl tv)) (st (Bv (u:=lI a0.Ah) rfl (fun hg=>(Bl ⟨(fun _=>hg),tv⟩ rfl (nl rfl))) (st (Bv (u:=iV (a0.Ah.length:Int)) rfl (fun hg=>(Wf (e:=eI) (l0:=a0.Ah) rfl rfl (fun _=>hg))) (st (Bv (u:=.bool (decide ((a0.Ah.length:Int)>80))) rfl (fun hg=>(Bl ⟨(fun _=>hg),tv,tv⟩ rfl tv)) (st (Dh rfl rfl rfl tv (fun h=>Uw h) rfl (st (Cj rfl tv (st (Bv (u:=.ptr 64 4) rfl (fun hg=>(Bl ⟨tv,tv⟩ rfl tv)) (st (Bv (u:=lI a0.Ah) rfl (fun hg=>(Bl ⟨(fun _=>hg),tv⟩ rfl (nl rfl))) (st (Bv (u:=.ptr 64 0) rfl (fun hg=>(Bl ⟨tv,tv⟩ rfl tv)) (st (Bv (u:=.ptr 64 1) rfl (fun hg=>(Bl ⟨(fun _=>hg),tv⟩ rfl tv)) (st (Bv (u:=iV a0.Ac.next) rfl (fun hg=>(Bl ⟨(fun _=>hg),tv⟩ rfl (nl rfl))) (bb h0 fun r3 e4 h0=>st (Eh (r:=.bool r3) rfl false (fun hg=>H85 a0.Ah a0.Ac.next r3 (ip hg e4)) ⟨(fun hg=>hg),(fun hg=>hg),tv⟩ (fun _=>rfl) (fun _=>rfl) (fun _=>rfl) (fun h=>nomatch h) (st (Bv (u:=.bool (!r3)) rfl (fun hg=>(Bl ⟨(fun _=>hg),tv⟩ rfl tv)) (st (Dh rfl rfl rfl tv (fun h=>Uw h) rfl (Ha (bv h0 fun v5 e6 h0=>Dc ⟨[(1,.ptr 64 0),(29,.bool v5)],[(64,Au a0)],[]⟩ (Dw (by subst e6; kernel_rfl)) (Ch h0 (fun c7 h0=>?_) (fun c7 h0=>?_)))))))))))))))))))))))))))))))))))))))))))))))))))
 ·obtain rfl:=sj h0
  exact Cn 4
 ·refine Ba 6 [(1,.ptr 64 0),(3,iV 0)] [(64,Au a0)] (Cc (bb h0 fun r46 e47 h0=>Cr (R:=(fun S=>.inl ()=r46∧S=⟨[(1,.ptr 64 0)],[(64,Au a0)],[]⟩)) (Zp a0) (fun s S=>match s with | p20=>S=⟨[(1,.ptr 64 0),(3,iV p20)],[(64,Au a0)],[]⟩) e47 _ (Dw (by kernel_rfl)) rfl 0 (fun _=>rfl) ?_ ?_))
  ·rintro S _ hfg ⟨rfl,rfl⟩
   refine Dc _ hfg (Ax 2 (As (bb h0 fun r48 e49 h0=>Jj (H93 a0 r48 e49) (o_ ?_))))
   obtain rfl:=sj h0
   exact Cn 4
  ·rintro p20 o1 _ K1 rfl h1 hx1 hK1 hE1 hR1
   refine Ax 5 (As (Jr rfl (o_ (Ba 2 [(1,.ptr 64 0),(3,iV p20),(34,.bool (decide (p20<(a0.Ab.length:Int))))] [(64,Au a0)] (Ch h1 (fun c34 h1=>?_) (fun c34 h1=>?_))))))
   ·refine Ax 8 (As (bb h1 fun y35 e36 h1=>Nr rfl rfl e36 (o_ (Ba 4 [(1,.ptr 64 0),(3,iV p20),(4,iV y35.Ay)] [(64,Au a0)] (Ax 6 (As (bb h1 fun r37 e38 h1=>Jj (H56 y35.Ay 1 (wi (a0.Ac.next-1)) r37 e38) (o_ (Ax 2 (As (st (Bv (u:=iV p20) rfl (fun hg=>(Dm (v:=iV p20) rfl tv)) (st (Bv (u:=.bool (decide (p20>0))) rfl (fun hg=>(Bl ⟨(fun _=>hg),tv,tv⟩ rfl tv)) (st (Bv (u:=.bool (decide (p20>0))) rfl (fun hg=>(Dm (v:=.may ((!r37)==false) (.bool (decide (p20>0)))) rfl (fun _=>hg))) (st (Bv (u:=.ptr 64 3) rfl (fun hg=>(Bl ⟨tv,tv⟩ rfl tv)) (st (Bv (u:=Bm a0.Ab) rfl (fun hg=>(Bl ⟨(fun _=>hg),tv⟩ rfl (nl rfl))) (st (Bv (u:=iV p20) rfl (fun hg=>(Dm (v:=iV p20) rfl tv)) (st (Bv (u:=iV (wi (p20-1))) rfl (fun hg=>(Bl ⟨(fun _=>hg),tv,tv⟩ rfl tv)) (bb h1 fun y39 e40 h1=>st (Bv (u:=.iptr (Bq y39)) rfl (fun hg=>(Nw (e:=Bq) (y:=y39) rfl rfl (fun _=>hg) rfl rfl (fun _=>hg) (ip hg e40))) (st (Bv (u:=.iptr (Bq y39)) rfl (fun hg=>(Bl ⟨(fun _=>hg),tv⟩ rfl (nl rfl))) (st (Bv (u:=iV y39.Ay) rfl (fun hg=>(Bl ⟨(fun _=>hg),tv⟩ rfl (nl rfl))) (st (Bv (u:=iV y35.Ay) rfl (fun hg=>(Dm (v:=iV y35.Ay) rfl tv)) (st (Bv (u:=.bool (decide (y39.Ay≥y35.Ay))) rfl (fun hg=>(Bl ⟨(fun _=>hg),(fun _=>hg),tv⟩ rfl tv)) (st (Nk (u:=.bool (bif (decide (p20>0)) then (decide (y39.Ay≥y35.Ay)) else false)) rfl (fun hg=>Sz rfl rfl (fun _=>hg) rfl rfl (fun h=>At hg (Ta h)) tv rfl) (st (Dh rfl rfl rfl tv (fun h=>Uw h) rfl (st (Cj rfl tv (st (Bv (u:=.ptr 64 0) rfl (fun hg=>(Bl ⟨tv,tv⟩ rfl tv)) (st (Bv (u:=.agg (Bb a0.Ac)) rfl (fun hg=>(Bl ⟨(fun _=>hg),tv⟩ rfl (nl rfl))) (st (Bv (u:=iV y35.Ay) rfl (fun hg=>(Dm (v:=iV y35.Ay) rfl tv)) (bb h1 fun r41 e42 h1=>st (Eh (r:=iV r41) rfl false (fun hg=>H92 a0.Ac y35.Ay r41 (ip hg e42)) ⟨(fun hg=>hg),(fun hg=>hg),tv⟩ (fun _=>rfl) (fun _=>rfl) (fun _=>rfl) (fun h=>nomatch h) (st (Bv (u:=.bool (decide (r41≥0))) rfl (fun hg=>(Bl ⟨(fun _=>hg),tv,tv⟩ rfl tv)) (st (Dh rfl rfl rfl tv (fun h=>Uw h) rfl (Ha (bv h1 fun v43 e44 h1=>Dc ⟨[(1,.ptr 64 0),(3,iV p20),(71,.bool v43)],[(64,Au a0)],[]⟩ (Dw (by subst e44; kernel_rfl)) (Ch h1 (fun oC h1=>?_) (fun oC h1=>?_))))))))))))))))))))))))))))))))))))))))))))))))))))))))
    ·obtain rfl:=sj h1
     obtain rfl:=hx1 _ rfl
     obtain rfl:=sj h0
     exact Wv 4 hR1
    ·refine Ax 7 ?_
     obtain rfl:=sj h1
     exact kn hK1 rfl rfl
   ·obtain rfl:=sj h1
    obtain rfl:=hx1 _ rfl
    refine Hq rfl ?_
    exact jn hE1 ⟨rfl,rfl⟩

/- loop.example/g00149/spec.l09Act -/
def GW:=[X_ 1 0,k_ 2 (.bool false)]
def GX:List Cd:=[f_ 4 1 5,l_ 5 4 1,n_ 6 5,B_ .gtr 7 6 4096,m_ 8 7,fF 8 9 1 6,lF 8 10 9 1 false,⟨some 11,.call 56 [.t 10,.c (iV 0),.c (iV 2)],some (8,false)⟩,pF 8 12 (.un .not (.t 11)),po 13 8 12]
def GY:=[k_ 2 (.bool false)]
def GZ:=[i_ 3 0]
def HA:=[m_ 14 3,f_ 15 1 5,l_ 16 15 1,n_ 17 16,b_ .lss 18 14 17]
def HB:=[f_ 21 1 5,l_ 22 21 1,m_ 23 3,x_ 24 22 23 1,l_ 25 24 1,q_ 26 56 [.t 25,.c (iV 0),.c (iV 2)],N_ 27 26]
def HC:=[k_ 2 (.bool false)]
def HD:=[m_ 19 3,B_ .add 20 19 1,m_ 3 20]
def GV:IR:=(.seq (sr HA (.ite (.t 18) .skip (.exit 0))) (.seq (.block 1 (sr HB (iz 27 (rr HC)))) (.reg HD)))
def HE:=[k_ 2 (.bool true)]
def c100:Cz:=⟨1,28,[.t 2],sr GW (.seq (sr GX (iz 13 (rr GY))) (.seq (sr GZ (Ho 0 GV)) (rr HE)))⟩
def K100 (D:Bj):Prop:=∀a0 r,AcI a0=some r→D 100 ⟨[.agg (Am a0)],[]⟩ ⟨.bool r,[],[]⟩
theorem F100 (H56:K56 C):K100 (FO C c100):=by
 intro a0 r h0
 refine f0 (Ba 4 [(1,.ptr 64 0)] [(64,Am a0)] (Ax 4 (As (Jr rfl (o_ (bS 4 (As (bb h0 fun r1 e2 h0=>st (Eh (r:=.bool r1) rfl false (fun hg=>H56 a0.stop 0 2 r1 (ip hg e2)) ⟨(fun hg=>hg),tv,tv,tv⟩ (fun _=>rfl) (fun _=>rfl) (fun _=>rfl) (fun h=>nomatch h) (o_ (sR 3 [(1,.ptr 64 0),(13,.bool (bif (decide ((a0.Bu.length:Int)>4096)) then true else (!r1)))] [(64,Am a0)] (Ch h0 (fun c3 h0=>?_) (fun c3 h0=>?_)))))))))))))
 ·obtain rfl:=sj h0
  exact Cn 4
 ·refine Ba 6 [(1,.ptr 64 0),(3,iV 0)] [(64,Am a0)] (Cc (bb h0 fun r24 e25 h0=>Cr (R:=(fun S=>.inl ()=r24∧S=⟨[],[],[]⟩)) (Tc a0) (fun s S=>match s with | p10=>S=⟨[(1,.ptr 64 0),(3,iV p10)],[(64,Am a0)],[]⟩) e25 _ (Dw (by kernel_rfl)) rfl 0 (fun _=>rfl) ?_ ?_))
  ·rintro S _ hfg ⟨rfl,rfl⟩
   refine Dc _ hfg ?_
   obtain rfl:=sj h0
   exact Cn 4
  ·rintro p10 o1 _ K1 rfl h1 hx1 hK1 hE1 hR1
   refine Ax 5 (As (Jr rfl (o_ (Ba 2 [(1,.ptr 64 0),(3,iV p10),(18,.bool (decide (p10<(a0.Bu.length:Int))))] [(64,Am a0)] (Ch h1 (fun c18 h1=>?_) (fun c18 h1=>?_))))))
   ·refine Ax 8 (As (bb h1 fun y19 e20 h1=>Nr rfl rfl e20 (st (c_ (Bl ⟨tv,tv⟩ rfl (nl rfl)) (bb h1 fun r21 e22 h1=>Jj (H56 y19 0 2 r21 e22) (o_ (Ba 2 [(1,.ptr 64 0),(3,iV p10),(27,.bool (!r21))] [(64,Am a0)] (Ch h1 (fun c23 h1=>?_) (fun c23 h1=>?_)))))))))
    ·obtain rfl:=sj h1
     obtain rfl:=hx1 _ rfl
     obtain rfl:=sj h0
     exact Wv 4 hR1
    ·refine Ax 7 ?_
     obtain rfl:=sj h1
     exact kn hK1 rfl rfl
   ·obtain rfl:=sj h1
    obtain rfl:=hx1 _ rfl
    refine Hq rfl ?_
    exact jn hE1 ⟨rfl,rfl⟩

/- loop.example/g00149/spec.l08Copy -/
def JW:=[X_ 1 0,a_ 2 (zT 131)]
def JX:List Cd:=[⟨some 3,.mkS 4 [iV 0,iV 0,iV 0,.bool false] 0 [],none⟩,f_ 4 1 2,l_ 5 4 1,⟨some 6,.app 4 32 (.t 3) (.t 5),none⟩,f_ 7 1 2,s_ 7 6 1]
def JY:=[L_ 8 1 3,s_ 2 8 3]
def c111:Cz:=⟨1,9,[.cell 2 3 true],sr JW (sr JX (rr JY))⟩
def kT (D:Bj):Prop:=∀a0 r,iW a0=some r→D 111 ⟨[.agg (Bb a0)],[]⟩ ⟨.agg (Cm r (Ai 0)),[],[]⟩
theorem F111:kT (FO C c111):=by
 intro a0 r h0
 refine f0 (Ba 4 [(1,.ptr 64 0),(2,.ptr 128 0)] [(64,Bb a0),(128,Br 0 0 (Ai 131) [])] (Ax 4 (As (gg h0 fun c1 h0=>st (Kk (e:=Ad) (l0:=([]:List Aa)) (l1:=a0.Ae) rfl rfl tv rfl (by decide) c1 (o_ ?_))))))
 obtain rfl:=sj h0
 exact Cn 9

/- loop.example/g00149/spec.l08Revoke -/
def c74_r0:=[X_ 2 0,a_ 4 (zT 259),i_ 5 0]
def c74_r1:=[L_ 8 2 3,m_ 9 1,q_ 10 92 [.t 8,.t 9],m_ 6 10]
def c74_r2:=[m_ 11 6,B_ .lss 12 11 0]
def c74_r3:=[L_ 13 2 3,s_ 4 13 3,i_ 5 5]
def c74_r4:=[L_ 14 2 3,q_ 15 111 [.t 14],a_ 7 (zT 451),s_ 7 15 3]
def c74_r5:List Cd:=[f_ 16 7 2,l_ 17 16 1,m_ 18 6,x_ 19 17 18 4,f_ 20 19 3,⟨none,.store (.t 20) (.c (.bool true)) 1,none⟩]
def c74_r6:=[L_ 21 7 3,s_ 4 21 3,i_ 5 0]
def c74:Cz:=⟨2,22,[.cell 4 3 true,.t 5],sr c74_r0 (sr c74_r1 (.seq (sr c74_r2 (iz 12 (rr c74_r3))) (sr c74_r4 (sr c74_r5 (rr c74_r6)))))⟩
def K74 (D:Bj):Prop:=∀a0 a1 r,g74 a0 a1=some r→D 74 ⟨[.agg (Bb a0),iV a1],[]⟩ ⟨.tup [.agg (Bb r.1),iV r.2],[],[]⟩
theorem F74 (H92:K92 C) (H111:kT C):K74 (FO C c74):=by
 intro a0 a1 r h0
 refine f0 (Ba 5 [(1,iV a1),(2,.ptr 128 0),(4,.ptr 256 0)] [(128,Bb a0),(256,Br 0 0 (Ai 259) [])] (Ax 3 (As (bb h0 fun r1 e2 h0=>Jj (H92 a0 a1 r1 e2) (o_ (Ba 8 [(2,.ptr 128 0),(4,.ptr 256 0),(6,iV r1),(12,.bool (decide (r1<0)))] [(128,Bb a0),(256,Br 0 0 (Ai 259) [])] (Ch h0 (fun c3 h0=>?_) (fun c3 h0=>?_))))))))
 ·obtain rfl:=sj h0
  exact Cn 6
 ·refine Ax 4 (As (bb h0 fun r4 e5 h0=>Qf (H111 a0 r4 e5) (ar (At rfl (af rfl))) (o_ (Ba 3 [(4,.ptr 256 0),(6,iV r1),(7,.ptr 448 0)] [(256,Br 0 0 (Ai 259) []),(448,Cm r4 (Ai 960))] (Ax 4 (As (bb h0 fun y6 e7 h0=>Wa rfl rfl e7 (st (c_ (Bl ⟨tv,tv⟩ rfl tv) (bb h0 fun y8 e9 h0=>gQ (Aa.mk y8.id y8.Bg y8.cap true) rfl rfl e9 (o_ ?_)))))))))))
  obtain rfl:=sj h0
  exact Cn 8 [960]

/- loop.example/g00149/spec.l08Later -/
def c53_r0:=[i_ 4 0]
def c53_r1:List Cd:=[m_ 5 0,m_ 6 1,⟨some 7,.p (.bin .sub (.c (iV 9223372036854775807)) (.t 6)),none⟩,b_ .gtr 8 5 7]
def c53_r2:=[i_ 4 9223372036854775807]
def c53_r3:=[m_ 9 0,m_ 10 1,b_ .add 11 9 10,m_ 4 11]
def c53:Cz:=⟨2,12,[.t 4],sr c53_r0 (.seq (sr c53_r1 (iz 8 (rr c53_r2))) (rr c53_r3))⟩
def K53 (D:Bj):Prop:=∀a0 a1 r,g53 a0 a1=some r→D 53 ⟨[iV a0,iV a1],[]⟩ ⟨iV r,[],[]⟩
theorem F53:K53 (FO C c53):=by
 intro a0 a1 r h0
 refine f0 (Ba 11 [(0,iV a0),(1,iV a1),(8,.bool (decide (a0>(wi (9223372036854775807-a1)))))] [] (Ch h0 (fun c1 h0=>?_) (fun c1 h0=>?_)))
 ·obtain rfl:=sj h0
  exact Cn 4
 ·obtain rfl:=sj h0
  exact Cn 9

/- loop.example/g00149/spec.l08Renew -/
def c79_r0:=[X_ 3 0,a_ 6 (zT 387),i_ 7 0]
def c79_r1:=[L_ 10 3 3,m_ 11 1,q_ 12 92 [.t 10,.t 11],m_ 8 12]
def c79_r2:=[m_ 14 2,B_ .lss 15 14 1,m_ 13 15]
def c79_r3:=[L_ 16 3 3,s_ 6 16 3,i_ 7 4]
def c79_r4:=[m_ 18 8,B_ .lss 19 18 0,m_ 17 19]
def c79_r5:=[L_ 20 3 3,s_ 6 20 3,i_ 7 5]
def c79_r6:=[f_ 22 3 2,l_ 23 22 1,m_ 24 8,x_ 25 23 24 4,f_ 26 25 3,l_ 27 26 1,m_ 21 27]
def c79_r7:=[L_ 28 3 3,s_ 6 28 3,i_ 7 13]
def c79_r8:=[L_ 29 3 3,q_ 30 111 [.t 29],a_ 9 (zT 579),s_ 9 30 3]
def c79_r9:=tk [f_ 31 9 2,l_ 32 31 1,m_ 33 8,f_ 34 9 2,l_ 35 34 1,m_ 36 8,x_ 37 35 36 4,f_ 38 37 2,l_ 39 38 1,f_ 40 3 0,l_ 41 40 1,m_ 42 2] (.alt [l_ 39 38 1,f_ 38 37 2,x_ 37 35 36 4,m_ 36 8,l_ 35 34 1,f_ 34 9 2,m_ 33 8,l_ 32 31 1,f_ 31 9 2] (q_ 43 53 [.t 41,.t 42]) (tk [iQ 44 (.mn (.t 39) (.t 43)),x_ 45 32 33 4,f_ 46 45 1] (.alt [] (s_ 46 44 1) .fin .stop)) .stop)
def Aci:=[L_ 47 9 3,s_ 6 47 3,i_ 7 0]
def c79:Cz:=⟨3,48,[.cell 6 3 true,.t 7],sr c79_r0 (sr c79_r1 (.seq (.block 0 (sr c79_r2 (.ite (.t 13) (rr c79_r3) (sr c79_r4 (.ite (.t 17) (rr c79_r5) (sr c79_r6 (iz 21 (rr c79_r7)))))))) (sr c79_r8 (sd c79_r9 (rr Aci)))))⟩
def K79 (D:Bj):Prop:=∀a0 a1 a2 r,g79 a0 a1 a2=some r→D 79 ⟨[.agg (Bb a0),iV a1,iV a2],[]⟩ ⟨.tup [.agg (Bb r.1),iV r.2],[],[]⟩
abbrev jM:=fun x0 (r:List (Nat×List V))=>(192,Bb x0)::(384,Br 0 0 (Ai 387) [])::r
abbrev jN:=fun x0 (r:List (Nat×V))=>(2,iV x0)::(3,.ptr 192 0)::(6,.ptr 384 0)::r
theorem F79 (H53:K53 C) (H92:K92 C) (H111:kT C):K79 (FO C c79):=by
 intro a0 a1 a2 r h0
 refine f0 (Ba 5 (jN a2 [(1,iV a1)]) (jM a0 []) (Ax 3 (As (bb h0 fun r1 e2 h0=>Jj (H92 a0 a1 r1 e2) (o_ (Ba 10 (jN a2 [(8,iV r1),(13,.bool (decide (a2<1)))]) (jM a0 []) (Ch h0 (fun c3 h0=>?_) (fun c3 h0=>?_))))))))
 ·obtain rfl:=sj h0
  exact Cn 6
 ·refine Ba 5 (jN a2 [(8,iV r1),(17,.bool (decide (r1<0)))]) (jM a0 []) (Ch h0 (fun c4 h0=>?_) (fun c4 h0=>?_))
  ·obtain rfl:=sj h0
   exact Cn 6
  ·refine Ax 4 (As (bb h0 fun y5 e6 h0=>Nr rfl rfl e6 (o_ (Ba 4 (jN a2 [(8,iV r1),(21,.bool y5.Bz)]) (jM a0 []) (Ch h0 (fun c7 h0=>?_) (fun c7 h0=>?_))))))
   ·obtain rfl:=sj h0
    exact Cn 6
   ·refine Ax 5 (As (bb h0 fun r8 e9 h0=>Qf (H111 a0 r8 e9) (ar (At rfl (af rfl))) (o_ (Ba 3 (jN a2 [(8,iV r1),(9,.ptr 576 0)]) (jM a0 [(576,Cm r8 (Ai 1920))]) (Bt (bb h0 fun y10 e11 h0=>bb h0 fun y12 e13 h0=>bb h0 fun r14 e15 h0=>Ax 6 (Bd (d_ (Yq rfl rfl rfl e11 (Bd (Ak tv (c_ (Bl ⟨tv,tv⟩ rfl tv) (⟨tv,Cf (c_ (Ny rfl rfl e13) (⟨⟨Cy rfl rfl e13 rfl,tv⟩,Ak tv (c_ (Bl ⟨tv,tv⟩ rfl tv) (⟨⟨Cy rfl rfl e13 rfl,tv⟩,Ak tv (c_ (Bl ⟨tv,tv⟩ rfl (nl rfl)) (⟨⟨Cy rfl rfl e13 rfl,tv⟩,Ak tv (Cj rfl tv (⟨⟨Cy rfl rfl e13 rfl,tv⟩,Az (Ci (r:=iV r14) false (H53 a0.clock a2 r14 e15) ⟨tv,tv,tv⟩ rfl rfl (fun _=>rfl) (iP ⟨[(6,.ptr 384 0),(8,iV r1),(9,.ptr 576 0),(31,.ptr 576 2),(32,Ag 1920 r8.Ae),(33,iV r1),(34,.ptr 576 2),(35,Ag 1920 r8.Ae),(36,iV r1),(37,.optr 1920 4 (0+r1.toNat) 0),(38,.optr 1920 4 (0+r1.toNat) 2),(39,iV y12.cap),(43,iV r14)],[(384,Br 0 0 (Ai 387) []),(576,Cm r8 (Ai 1920))],[]⟩ (Dw (by kernel_rfl)) ⟨[iQ 39 (.load (.t 38) 1 false)],⟨⟨.inr (.head _),Cy rfl rfl e13 rfl⟩,⟨.inl tv,Bs (Bl ⟨tv,tv⟩ rfl tv) rfl⟩,⟨.inl tv,Bs (Kc rfl rfl e11) rfl⟩,⟨.inl tv,Bs (Dm (v:=iV r1) rfl tv) rfl⟩,⟨.inl tv,Bs (Bl ⟨tv,tv⟩ rfl (nl rfl)) rfl⟩,⟨.inl tv,Bs (Bl ⟨tv,tv⟩ rfl tv) rfl⟩,⟨.inl tv,Bs (Dm (v:=iV r1) rfl tv) rfl⟩,⟨.inl tv,Bs (Bl ⟨tv,tv⟩ rfl (nl rfl)) rfl⟩,⟨.inl tv,Bs (Bl ⟨tv,tv⟩ rfl tv) rfl⟩,tv⟩,⟨Cy rfl rfl e13 rfl,tv⟩,Ak tv (c_ (Bl ⟨tv,tv,tv⟩ rfl rfl) (⟨⟨Cy rfl rfl e13 rfl,tv⟩,Ak tv (c_ (Kc rfl rfl e11) (⟨⟨Cy rfl rfl e13 rfl,tv⟩,?_⟩))⟩))⟩)) Aq⟩))⟩))⟩))⟩))⟩)))))))))))))
    refine Ak tv (c_ (Bl ⟨tv,tv⟩ rfl tv) (⟨⟨Cy rfl rfl e13 rfl,tv⟩,Az (He (y':=(Aa.mk y12.id (if r14<y12.cap then r14 else y12.cap) y12.cap y12.Bz)) rfl rfl tv rfl rfl rfl rfl e13 (nl rfl) rfl rfl rfl rfl (d0 tv (Hc (Dc ⟨[(6,.ptr 384 0),(9,.ptr 576 0)],[(384,Br 0 0 (Ai 387) []),(576,Br r8.clock r8.next (Ai 1920) (r8.Ae.set r1.toNat (Aa.mk y12.id (if r14<y12.cap then r14 else y12.cap) y12.cap y12.Bz)))],[]⟩ (fg ⟨rfl,rfl,tv⟩ ⟨rfl,congrArg (fun z=>some (([iV r8.clock,iV r8.next,.own 1920 0 4 z]:List V))) Bf,tv⟩) (rZ_ 5 [1920] [] [(6,.ptr 384 0),(7,iV 0)] [(384,Br r8.clock r8.next u_ (r8.Ae.set r1.toNat (Aa.mk y12.id (if r14<y12.cap then r14 else y12.cap) y12.cap y12.Bz)))] ?_))))) Aq⟩))
    obtain rfl:=sj h0
    exact Ka (Dx rfl rfl rfl rfl rfl tv)

/- loop.example/g00149/spec.l08Tick -/
def c81_r0:List Cd:=[X_ 2 0,a_ 4 (zT 259),⟨some 5,.nilS 1,none⟩]
def c81_r1:=[L_ 11 2 3,q_ 12 111 [.t 11],a_ 6 (zT 387),s_ 6 12 3]
def c81_r2:=[f_ 13 2 0,l_ 14 13 1,m_ 15 1,iQ 16 (.mx (.t 14) (.t 15)),f_ 17 6 0,s_ 17 16 1]
def c81_r3:List Cd:=[⟨some 18,.mkS 1 [iV 0] 0 [],none⟩,m_ 7 18]
def c81_r4:=[i_ 8 (-1)]
def c81_r5:=[i_ 9 0]
def c81_r6:=[m_ 19 9,f_ 20 6 2,l_ 21 20 1,n_ 22 21,b_ .lss 23 19 22]
def c81_r7:=[f_ 26 6 2,l_ 27 26 1,m_ 28 9,x_ 29 27 28 4,L_ 30 29 4,a_ 10 [iV 0,iV 0,iV 0,.bool false],s_ 10 30 4]
def c81_r8:=tk [f_ 31 10 3,l_ 32 31 1,N_ 33 32,m_ 34 33,fT 34 35 10 1,lT 34 36 35 1 false,fT 34 37 6 0,lT 34 38 37 1 false,pT 34 39 (.bin .leq (.t 36) (.t 38)),pa 40 34 39,m_ 41 40,mT 41 42 8,pT 41 43 (.bin .lss (.t 42) (.c (iV 0))),mT 41 44 43,fF 44 45 10 1,lF 44 46 45 1 false,fF 44 47 6 2,lF 44 48 47 1 false,mF 44 49 8,xF 44 50 48 49 4,fF 44 51 50 1,lF 44 52 51 1 false,pF 44 53 (.bin .lss (.t 46) (.t 52)),⟨some 54,.pick (.t 44) (.c (.bool true)) (.t 53),some (41,true)⟩,pa 55 41 54] .fin
def c81_r9:=[m_ 56 9,m_ 8 56]
def Ack:=[m_ 24 9,B_ .add 25 24 1,m_ 9 25]
def c81_l0:IR:=(.seq (sr c81_r6 (.ite (.t 23) .skip (.exit 2))) (.seq (.block 3 (sr c81_r7 (sd c81_r8 (iz 55 (.reg c81_r9))))) (.reg Ack)))
def Acl:=[m_ 57 8,B_ .lss 58 57 0]
def Acm:=[L_ 59 6 3,m_ 60 7,s_ 4 59 3,m_ 5 60]
def Acn:List Cd:=[f_ 61 6 2,l_ 62 61 1,m_ 63 8,x_ 64 62 63 4,f_ 65 64 3,⟨none,.store (.t 65) (.c (.bool true)) 1,none⟩]
def Aco:List Cd:=[m_ 66 7,f_ 67 6 2,l_ 68 67 1,m_ 69 8,x_ 70 68 69 4,f_ 71 70 0,l_ 72 71 1,⟨some 73,.mkS 1 [iV 0] 1 [(0,.t 72)],none⟩,⟨some 74,.app 1 8 (.t 66) (.t 73),none⟩,m_ 7 74]
def c81_l1:IR:=(.block 1 (sr c81_r4 (.seq (sr c81_r5 (Ho 2 c81_l0)) (.seq (sr Acl (iz 58 (rr Acm))) (sr Acn (.reg Aco))))))
def c81:Cz:=⟨2,75,[.cell 4 3 true,.t 5],sr c81_r0 (sr c81_r1 (sr c81_r2 (sr c81_r3 (Ho 0 c81_l1))))⟩
def K81 (D:Bj):Prop:=∀a0 a1 r,g81 a0 a1=some r→D 81 ⟨[.agg (Bb a0),iV a1],[]⟩ ⟨.tup [.agg (Cm r.1 (Ai 0)),oI 1 r.2],[],[]⟩
abbrev Ro:=fun x0 (r:List (Nat×V))=>(4,.ptr 256 0)::(6,.ptr 384 0)::(7,oI 1152 x0)::r
abbrev Oa:=fun (r:List (Nat×List V))=>(256,Br 0 0 (Ai 259) [])::r
theorem F81 (H111:kT C):K81 (FO C c81):=by
 intro a0 a1 r h0
 refine f0 (Ba 5 [(1,iV a1),(2,.ptr 128 0),(4,.ptr 256 0)] (Oa [(128,Bb a0)]) (Ax 2 (As (bb h0 fun r1 e2 h0=>Qf (H111 a0 r1 e2) (ar (At rfl (af rfl))) (o_ (Ba 17 [(4,.ptr 256 0),(6,.ptr 384 0),(7,oI 1152 [])] (Oa [(384,Br (if a1>a0.clock then a1 else a0.clock) r1.next (Ai 768) r1.Ae)]) (Cc (bb h0 fun r157 e158 h0=>Cr (R:=(fun _=>False)) (fP a0 a1 r1) (fun s S=>match s with | (p44,p45)=>S=⟨Ro p44 [],Oa [(384,Br (if a1>a0.clock then a1 else a0.clock) r1.next (Ai 768) p45)],[]⟩) e158 _ (Dw (by kernel_rfl)) rfl 0 (fun h=>h.elim fun _ h=>h.elim) ?_ ?_))))))))
 ·exact fun _ _ _ h=>h.elim
 ·rintro ⟨p44,p45⟩ o1 _ K1 rfl h1 hx1 hK1 hE1 hR1
  refine Ba 9 (Ro p44 [(8,iV (-1)),(9,iV 0)]) (Oa [(384,Br (if a1>a0.clock then a1 else a0.clock) r1.next (Ai 768) p45)]) (Cc (bb h1 fun r145 e146 h1=>Cr (R:=(fun S=>∃p119:Int,p119=r145∧S=⟨Ro p44 [(8,iV p119)],Oa [(384,Br (if a1>a0.clock then a1 else a0.clock) r1.next (Ai 768) p45)],[]⟩)) (Zs a0 a1 p45) (fun s S=>match s with | (p102,p103)=>S=⟨Ro p44 [(8,iV p102),(9,iV p103)],Oa [(384,Br (if a1>a0.clock then a1 else a0.clock) r1.next (Ai 768) p45)],[]⟩) e146 _ (Dw (by kernel_rfl)) rfl 2 (fun _=>rfl) ?_ ?_))
  ·rintro S _ hfg ⟨p119,rfl,rfl⟩
   refine Dc _ hfg (Ba 5 (Ro p44 [(8,iV p119),(58,.bool (decide (p119<0)))]) (Oa [(384,Br (if a1>a0.clock then a1 else a0.clock) r1.next (Ai 768) p45)]) (Ch h1 (fun c147 h1=>?_) (fun c147 h1=>?_)))
   ·obtain rfl:=sj h1
    obtain rfl:=hx1 _ rfl
    obtain rfl:=sj h0
    exact Wv 7 hR1
   ·refine Ax 6 (As (bb h1 fun y148 e149 h1=>Wa rfl rfl e149 (st (c_ (Bl ⟨tv,tv⟩ rfl tv) (bb h1 fun y150 e151 h1=>gQ (Aa.mk y150.id y150.Bg y150.cap true) rfl rfl e151 (o_ (Ba 1 (Ro p44 [(8,iV p119)]) (Oa [(384,Br (if a1>a0.clock then a1 else a0.clock) r1.next (Ai 768) (p45.set p119.toNat (Aa.mk y150.id y150.Bg y150.cap true)))]) (Ax 4 (As (bb h1 fun y152 e153 h1=>Wa rfl rfl e153 (st (c_ (Bl ⟨tv,tv⟩ rfl tv) (bb h1 fun y154 e155 h1=>lo_ rfl rfl e155 (st (gB ⟨tv,tv⟩ ⟨⟨nl rfl,rfl,rfl⟩,tv⟩ (gg h1 fun UZ h1=>st (Kk (e:=eI) (l0:=p44) (l1:=([y154.id]:List Int)) rfl rfl tv rfl (by decide) UZ (st (Cj rfl tv (Ha (Su ?_)))))))))))))))))))))
    obtain rfl:=sj h1
    exact kn hK1 rfl rfl
  ·rintro ⟨p102,p103⟩ o2 _ K2 rfl h2 hx2 hK2 hE2 hR2
   refine Ax 5 (As (Xf rfl (o_ (Ba 2 (Ro p44 [(8,iV p102),(9,iV p103),(23,.bool (decide (p103<(p45.length:Int))))]) (Oa [(384,Br (if a1>a0.clock then a1 else a0.clock) r1.next (Ai 768) p45)]) (Ch h2 (fun KY h2=>?_) (fun KY h2=>?_))))))
   ·refine Lr 3 (Jk (fun S=>∃p132:Int,S=⟨Ro p44 [(8,iV p132),(9,iV p103)],Oa [(384,Br (if a1>a0.clock then a1 else a0.clock) r1.next (Ai 768) p45)],[]⟩∧Vk p103 p132=some o2) ?_ (fun J133=>?_))
    ·rintro _ ⟨p132,rfl,h2⟩
     refine Ax 5 ?_
     obtain rfl:=sj h2
     exact kn hK2 rfl rfl
    ·refine Bt ?_
     refine Ax 3 (As (bb h2 fun y134 e135 h2=>Wa rfl rfl e135 (bb h2 fun y136 e137 h2=>lo_ rfl rfl e137 (o_ (Ba 3 (Ro p44 [(8,iV p102),(9,iV p103),(10,.ptr 640 0)]) (Oa [(384,Br (if a1>a0.clock then a1 else a0.clock) r1.next (Ai 768) p45),(640,Ad y136)]) (Bt (bb h2 fun y138 e139 h2=>bb h2 fun y140 e141 h2=>Ax 4 (Bd (Ak tv (Bv (u:=.ptr 640 1) rfl (fun hg=>(Bl ⟨tv,tv⟩ rfl tv)) (⟨tv,Ak tv (Bv (u:=iV y136.Bg) rfl (fun hg=>(Bl ⟨(fun _=>hg),tv⟩ rfl (nl rfl))) (⟨tv,Ak tv (Bv (u:=.ptr 384 0) rfl (fun hg=>(Bl ⟨tv,tv⟩ rfl tv)) (⟨tv,Ak tv (Bv (u:=iV (if a1>a0.clock then a1 else a0.clock)) rfl (fun hg=>(Bl ⟨(fun _=>hg),tv⟩ rfl (nl rfl))) (⟨tv,Ak tv (Bv (u:=.bool (decide (y136.Bg≤(if a1>a0.clock then a1 else a0.clock)))) rfl (fun hg=>(Bl ⟨(fun _=>hg),(fun _=>hg),tv⟩ rfl tv)) (⟨tv,Ak tv (Dh rfl rfl rfl (fun h=>Ta h) tv rfl (⟨tv,Ak tv (Cj rfl tv (⟨tv,Ak tv (Bv (u:=iV p102) rfl (fun hg=>(Dm (v:=iV p102) rfl tv)) (⟨tv,Ak tv (Bv (u:=.bool (decide (p102<0))) rfl (fun hg=>(Bl ⟨(fun _=>hg),tv,tv⟩ rfl tv)) (⟨tv,Ak tv (Bv (u:=.bool (decide (p102<0))) rfl (fun hg=>(Dm (v:=.may ((bif (!y136.Bz) then (decide (y136.Bg≤(if a1>a0.clock then a1 else a0.clock))) else false)==true) (.bool (decide (p102<0)))) rfl (fun _=>hg))) (⟨tv,Ak tv (Bv (u:=.ptr 640 1) rfl (fun hg=>(Bl ⟨tv,tv⟩ rfl tv)) (⟨tv,?_⟩))⟩))⟩))⟩))⟩))⟩))⟩))⟩))⟩))⟩))⟩)))))))))))
     refine Ak tv (Bv (u:=iV y136.Bg) rfl (fun hg=>(Bl ⟨(fun _=>hg),tv⟩ rfl (nl rfl))) (⟨tv,Ak tv (Bv (u:=.ptr 384 2) rfl (fun hg=>(Bl ⟨tv,tv⟩ rfl tv)) (⟨tv,Ak tv (Bv (u:=Ag 768 p45) rfl (fun hg=>(Bl ⟨(fun _=>hg),tv⟩ rfl (nl rfl))) (⟨tv,Ak tv (Bv (u:=iV p102) rfl (fun hg=>(Dm (v:=iV p102) rfl tv)) (⟨tv,Ak tv (Bv (u:=.optr 768 4 (0+p102.toNat) 0) rfl (fun hg=>(Gx (e:=Ad) (y:=y138) rfl rfl (fun _=>hg) rfl rfl (fun _=>hg) (ip hg e139))) (⟨tv,Ak tv (Bv (u:=.optr 768 4 (0+p102.toNat) 1) rfl (fun hg=>(Bl ⟨(fun _=>hg),tv⟩ rfl tv)) (⟨tv,Cf (Bv (u:=iV y140.Bg) rfl (fun hg=>(Bn (e:=Ad) (y:=y140) (v:=iV y140.Bg) rfl rfl (fun _=>hg) rfl rfl (ip hg e141) rfl (nl rfl) rfl)) (⟨⟨Bw (v:=iV y140.Bg) rfl (fun hg=>(Bn (e:=Ad) (y:=y140) (v:=iV y140.Bg) rfl rfl (fun _=>hg) rfl rfl (ip hg e141) rfl (nl rfl) rfl)) rfl,tv⟩,Ak tv (Bv (u:=.bool (decide (y136.Bg<y140.Bg))) rfl (fun hg=>(Bl ⟨(fun _=>hg),(fun _=>hg),tv⟩ rfl tv)) (⟨⟨Bw (v:=iV y140.Bg) rfl (fun hg=>(Bn (e:=Ad) (y:=y140) (v:=iV y140.Bg) rfl rfl (fun _=>hg) rfl rfl (ip hg e141) rfl (nl rfl) rfl)) rfl,tv⟩,Ak tv (Nk (u:=.bool (bif (decide (p102<0)) then true else (decide (y136.Bg<y140.Bg)))) rfl (fun hg=>Sz rfl rfl (fun _=>hg) rfl rfl tv (fun h=>At hg (Uw h)) rfl) (⟨⟨Bw (v:=iV y140.Bg) rfl (fun hg=>(Bn (e:=Ad) (y:=y140) (v:=iV y140.Bg) rfl rfl (fun _=>hg) rfl rfl (ip hg e141) rfl (nl rfl) rfl)) rfl,tv⟩,Ak tv (Dh rfl rfl rfl (fun h=>Ta h) tv rfl (⟨⟨Bw (v:=iV y140.Bg) rfl (fun hg=>(Bn (e:=Ad) (y:=y140) (v:=iV y140.Bg) rfl rfl (fun _=>hg) rfl rfl (ip hg e141) rfl (nl rfl) rfl)) rfl,tv⟩,Hc (bv h2 fun v142 e143 h2=>Dc ⟨Ro p44 [(8,iV p102),(9,iV p103),(55,.bool v142)],Oa [(384,Br (if a1>a0.clock then a1 else a0.clock) r1.next (Ai 768) p45)],[]⟩ (Dw (by subst e143; kernel_rfl)) (Ch h2 (fun QH h2=>?_) (fun QH h2=>?_)))⟩))⟩))⟩))⟩))⟩))⟩))⟩))⟩))⟩))⟩))
     ·refine Ax 4 ?_
      exact jn J133 ⟨_,rfl,h2⟩
     ·refine Lc (Su ?_)
      exact jn J133 ⟨_,rfl,h2⟩
   ·obtain rfl:=sj h2
    obtain rfl:=hx2 _ rfl
    refine Hq rfl ?_
    exact jn hE2 ⟨_,rfl,rfl⟩

/- loop.example/g00149/spec.l09Copy -/
def HP:=[X_ 1 0,a_ 2 (zV 131 132 133)]
def HQ:=[f_ 3 1 0,L_ 4 3 3,q_ 5 111 [.t 4],f_ 6 1 0,s_ 6 5 3]
def HR:List Cd:=[⟨some 7,.mkS 2 [iV 0,.bool false] 0 [],none⟩,f_ 8 1 3,l_ 9 8 1,⟨some 10,.app 2 16 (.t 7) (.t 9),none⟩,f_ 11 1 3,s_ 11 10 1]
def HS:List Cd:=[⟨some 12,.mkS 1 [iV 0] 0 [],none⟩,f_ 13 1 4,l_ 14 13 1,⟨some 15,.app 1 8 (.t 12) (.t 14),none⟩,f_ 16 1 4,s_ 16 15 1]
def HT:=[L_ 17 1 6,s_ 2 17 6]
def c102:Cz:=⟨1,18,[.cell 2 6 true],sr HP (sr HQ (sr HR (sr HS (rr HT))))⟩
def kS (D:Bj):Prop:=∀a0 r,bW a0=some r→D 102 ⟨[.agg (Au a0)],[]⟩ ⟨.agg (Al r (Ai 0) (Ai 1) (Ai 2)),[],[]⟩
abbrev mQ:=fun (r:List (Nat×List V))=>(128,Ao 0 0 (Ai 131) [] (Ai 132) [] (Ai 133) [] false)::r
theorem F102 (H111:kT C):kS (FO C c102):=by
 intro a0 r h0
 refine f0 (Ba 4 [(1,.ptr 64 0),(2,.ptr 128 0)] (mQ [(64,Au a0)]) (Ax 3 (As (bb h0 fun r1 e2 h0=>Qf (H111 a0.Ac r1 e2) (ar (At rfl (af rfl))) (o_ (Ba 3 [(1,.ptr 64 0),(2,.ptr 128 0)] (mQ [(64,Ao r1.clock r1.next (Ai 320) r1.Ae u_ a0.Ab u_ a0.Ah a0.An)]) (Ax 4 (As (gg h0 fun c3 h0=>st (Kk (e:=Bq) (l0:=([]:List Aj)) (l1:=a0.Ab) rfl rfl tv rfl (by decide) c3 (o_ (Ba 3 [(1,.ptr 64 0),(2,.ptr 128 0)] (mQ [(64,Ao r1.clock r1.next (Ai 320) r1.Ae (Ai 448) (([]:List Aj)++a0.Ab) u_ a0.Ah a0.An)]) (Ax 4 (As (gg h0 fun c4 h0=>st (Kk (e:=eI) (l0:=([]:List Int)) (l1:=a0.Ah) rfl rfl tv rfl (by decide) c4 (o_ ?_)))))))))))))))))
 obtain rfl:=sj h0
 exact Cn 9

/- loop.example/g00149/spec.l08Grant -/
def c70_r0:=[X_ 3 0,a_ 6 (zT 387),i_ 7 0,i_ 8 0]
def c70_r1:=[m_ 11 1,B_ .lss 12 11 1,m_ 13 12,mF 13 14 2,mF 13 15 1,pF 13 16 (.bin .lss (.t 14) (.t 15)),po 17 13 16,m_ 10 17]
def c70_r2:=[L_ 18 3 3,s_ 6 18 3,i_ 7 0,i_ 8 4]
def c70_r3:=[f_ 20 3 0,l_ 21 20 1,B_ .eql 22 21 9223372036854775807,m_ 19 22]
def c70_r4:=[L_ 23 3 3,s_ 6 23 3,i_ 7 0,i_ 8 11]
def c70_r5:=[f_ 25 3 2,l_ 26 25 1,n_ 27 26,B_ .eql 28 27 40,m_ 29 28,fF 29 30 3 1,lF 29 31 30 1 false,pF 29 32 (.bin .eql (.t 31) (.c (iV 1000000))),po 33 29 32,m_ 24 33]
def c70_r6:=[L_ 34 3 3,s_ 6 34 3,i_ 7 0,i_ 8 9]
def c70_r7:=[L_ 35 3 3,q_ 36 111 [.t 35],a_ 9 (zT 579),s_ 9 36 3]
def c70_r8:=tk [f_ 37 9 2,l_ 38 37 1,f_ 39 3 1,l_ 40 39 1,f_ 41 3 0,l_ 42 41 1,m_ 43 1,f_ 45 3 0,l_ 46 45 1,m_ 47 2] (.alt [m_ 47 2,l_ 46 45 1,f_ 45 3 0,l_ 40 39 1,f_ 39 3 1,l_ 38 37 1,f_ 37 9 2] (q_ 44 53 [.t 42,.t 43]) (.alt [l_ 40 39 1,f_ 39 3 1,l_ 38 37 1,f_ 37 9 2] (q_ 48 53 [.t 46,.t 47]) (tk [⟨some 49,.p (.build [iV 0,iV 0,iV 0,.bool false] [(0,1,.t 40),(1,1,.t 44),(2,1,.t 48)]),none⟩] (.alt [l_ 38 37 1,f_ 37 9 2] ⟨some 50,.mkS 4 [iV 0,iV 0,iV 0,.bool false] 1 [(0,.t 49)],none⟩ (.alt [] ⟨some 51,.app 4 32 (.t 38) (.t 50),none⟩ (tk [f_ 52 9 2] (.alt [] (s_ 52 51 1) .fin .stop)) .stop) .stop)) .stop) .stop)
def c70_r9:=[f_ 53 9 1,l_ 54 53 1,B_ .add 55 54 1,f_ 56 9 1,s_ 56 55 1]
def AbW:=tk [L_ 57 9 3,f_ 58 3 1,l_ 59 58 1] (.alt [l_ 59 58 1,f_ 58 3 1] (s_ 6 57 3) (tk [m_ 7 59,i_ 8 0] .fin) .stop)
def c70:Cz:=⟨3,60,[.cell 6 3 true,.t 7,.t 8],sr c70_r0 (.seq (.block 0 (sr c70_r1 (.ite (.t 10) (rr c70_r2) (sr c70_r3 (.ite (.t 19) (rr c70_r4) (sr c70_r5 (iz 24 (rr c70_r6)))))))) (sr c70_r7 (sd c70_r8 (sr c70_r9 (sd AbW .ret)))))⟩
def K70 (D:Bj):Prop:=∀a0 a1 a2 r,g70 a0 a1 a2=some r→D 70 ⟨[.agg (Bb a0),iV a1,iV a2],[]⟩ ⟨.tup [.agg (Bb r.1),iV r.2.1,iV r.2.2],[],[]⟩
abbrev jK:=fun x0 (r:List (Nat×List V))=>(192,Bb x0)::(384,Br 0 0 (Ai 387) [])::r
abbrev pC:=fun x0 x1 (r:List (Nat×V))=>(1,iV x0)::(2,iV x1)::(3,.ptr 192 0)::(6,.ptr 384 0)::r
theorem F70 (H53:K53 C) (H111:kT C):K70 (FO C c70):=by
 intro a0 a1 a2 r h0
 refine f0 (sR 19 (pC a1 a2 [(10,.bool (bif (decide (a1<1)) then true else (decide (a2<a1))))]) (jK a0 []) (Ch h0 (fun c1 h0=>?_) (fun c1 h0=>?_)))
 ·obtain rfl:=sj h0
  exact Cn 7
 ·refine Ba 6 (pC a1 a2 [(19,.bool (a0.clock==9223372036854775807))]) (jK a0 []) (Ch h0 (fun c2 h0=>?_) (fun c2 h0=>?_))
  ·obtain rfl:=sj h0
   exact Cn 7
  ·refine Ax 3 (As (Jr rfl (o_ (bS 8 (bv h0 fun v3 e4 h0=>Dc ⟨pC a1 a2 [(24,.bool v3)],jK a0 [],[]⟩ (Dw (by subst e4; kernel_rfl)) (Ch h0 (fun c5 h0=>?_) (fun c5 h0=>?_)))))))
   ·obtain rfl:=sj h0
    exact Cn 7
   ·refine Ax 5 (As (bb h0 fun r6 e7 h0=>Qf (H111 a0 r6 e7) (ar (At rfl (af rfl))) (o_ (Ba 3 (pC a1 a2 [(9,.ptr 576 0)]) (jK a0 [(576,Cm r6 (Ai 2304))]) (Bt (bb h0 fun r8 e9 h0=>bb h0 fun r10 e11 h0=>gg h0 fun c12 h0=>Ax 10 (Bd (Gh (H53 a0.clock a1 r8 e9) rfl (dw [(2,iV a2),(3,.ptr 192 0),(6,.ptr 384 0),(9,.ptr 576 0),(37,.ptr 576 2),(38,Ag 2304 r6.Ae),(39,.ptr 192 1),(40,iV a0.next),(44,iV r8),(45,.ptr 192 0),(46,iV a0.clock),(47,iV a2)] [(192,Bb a0),(384,Br 0 0 (Ai 387) []),(576,Cm r6 (Ai 2304))] hB (Gh (H53 a0.clock a2 r10 e11) rfl (dw [(3,.ptr 192 0),(6,.ptr 384 0),(9,.ptr 576 0),(37,.ptr 576 2),(38,Ag 2304 r6.Ae),(39,.ptr 192 1),(40,iV a0.next),(44,iV r8),(48,iV r10)] [(192,Bb a0),(384,Br 0 0 (Ai 387) []),(576,Cm r6 (Ai 2304))] hB (Ak tv (c_ (v:=.agg (Xm a0.next r8 r10 false)) (Bl ⟨tv,tv,tv,tv⟩ rfl ⟨⟨rfl,rfl,nl rfl⟩,⟨rfl,rfl,nl rfl⟩,⟨rfl,rfl,nl rfl⟩,tv⟩) (⟨tv,Az (gB ⟨tv,tv⟩ ⟨⟨nl rfl,rfl,rfl⟩,tv⟩ (d0 hB (Az (Kk (e:=Ad) (l0:=r6.Ae) (l1:=([Aa.mk a0.next r8 r10 false]:List Aa)) rfl rfl tv rfl (by decide) c12 (d0 tv ?_)) Aq))) Aq⟩)))) Aq)) Aq))))))))
    refine Ak tv (c_ (Bl ⟨tv,tv⟩ rfl tv) (⟨tv,Az (Cl rfl rfl tv rfl rfl rfl (nl rfl) (d0 tv (d_ (Ba 9 [(3,.ptr 192 0),(6,.ptr 384 0),(9,.ptr 576 0)] (jK a0 [(576,[iV r6.clock,iV (wi (r6.next+1)),Ag 2304 (r6.Ae++([Aa.mk a0.next r8 r10 false]:List Aa))])]) (Ax 4 (Bd (Az (Cl rfl rfl tv rfl rfl rfl (nl rfl) (d0 hB (d_ (rZ_ 3 [2304] [] [(6,.ptr 384 0),(7,iV a0.next),(8,iV 0)] [(384,[iV r6.clock,iV (wi (r6.next+1)),Bp (r6.Ae++([Aa.mk a0.next r8 r10 false]:List Aa))])] ?_)))) Aq))))))) Aq⟩))
    obtain rfl:=sj h0
    exact Ka (Dx rfl rfl rfl rfl rfl tv)

/- loop.example/g00149/spec.l09Call -/
def c86_r0:List Cd:=[⟨some 8,.nilS 1,none⟩,i_ 9 0]
def c86_r1:=[m_ 13 3,B_ .eql 14 13 1]
def c86_r2:=[m_ 15 0,m_ 8 15,i_ 9 13]
def c86_r3:List Cd:=[⟨some 16,.mkS 1 [iV 0] 0 [],none⟩,m_ 10 16]
def c86_r4:=[i_ 11 0]
def c86_r5:=[m_ 17 11,m_ 18 0,n_ 19 18,b_ .lss 20 17 19,m_ 21 20,mT 21 22 0,mT 21 23 11,xT 21 24 22 23 1,lT 21 25 24 1 false,mT 21 26 1,pT 21 27 (.bin .lss (.t 25) (.t 26)),pa 28 21 27]
def c86_r6:List Cd:=[m_ 31 10,m_ 32 0,m_ 33 11,x_ 34 32 33 1,l_ 35 34 1,⟨some 36,.mkS 1 [iV 0] 1 [(0,.t 35)],none⟩,⟨some 37,.app 1 8 (.t 31) (.t 36),none⟩,m_ 10 37]
def c86_r7:=[m_ 29 11,B_ .add 30 29 1,m_ 11 30]
def c86_l0:IR:=(.seq (sr c86_r5 (.ite (.t 28) .skip (.exit 0))) (.seq (.block 1 (.reg c86_r6)) (.reg c86_r7)))
def c86_r8:=[m_ 38 10,n_ 39 38,m_ 12 39]
def c86_r9:=[m_ 40 2]
def Acs:List Cd:=[m_ 41 10,m_ 42 1,⟨some 43,.mkS 1 [iV 0] 1 [(0,.t 42)],none⟩,⟨some 44,.app 1 8 (.t 41) (.t 43),none⟩,m_ 10 44]
def Acu:=[m_ 45 12,m_ 46 0,n_ 47 46,b_ .lss 48 45 47,m_ 49 48,mT 49 50 0,mT 49 51 12,xT 49 52 50 51 1,lT 49 53 52 1 false,mT 49 54 1,pT 49 55 (.bin .eql (.t 53) (.t 54)),pa 56 49 55]
def Acv:=[m_ 57 12,B_ .add 58 57 1,m_ 12 58]
def Acw:List Cd:=[m_ 59 10,m_ 60 0,m_ 61 12,⟨some 62,.p (.slice (.t 60) (some (.t 61)) none 1),none⟩,⟨some 63,.app 1 8 (.t 59) (.t 62),none⟩,m_ 10 63]
def Acx:=[m_ 64 3,B_ .eql 65 64 2]
def Acy:=[m_ 66 10,m_ 8 66,i_ 9 15]
def Acz:=[m_ 67 10,m_ 8 67,i_ 9 0]
def c86:Cz:=⟨4,68,[.t 8,.t 9],sr c86_r0 (.seq (sr c86_r1 (iz 14 (rr c86_r2))) (sr c86_r3 (.seq (sr c86_r4 (Ho 0 c86_l0)) (sr c86_r8 (.seq (sr c86_r9 (iz 40 (.reg Acs))) (.seq (sr Acu (iz 56 (.reg Acv))) (sr Acw (.seq (sr Acx (iz 65 (rr Acy))) (rr Acz)))))))))⟩
def K86 (D:Bj):Prop:=∀a0 a1 a2 a3 r,g86 a0 a1 a2 a3=some r→D 86 ⟨[lI a0,iV a1,.bool a2,iV a3],[]⟩ ⟨.tup [lI r.1,iV r.2],[],[]⟩
abbrev dR:=fun x0 x1 x2 x3 (r:List (Nat×V))=>(0,lI x0)::(1,iV x1)::(2,.bool x2)::(3,iV x3)::r
theorem F86:K86 (FO C c86):=by
 intro a0 a1 a2 a3 r h0
 refine f0 (Ba 10 (dR a0 a1 a2 a3 [(14,.bool (a3==1))]) [] (Ch h0 (fun c1 h0=>?_) (fun c1 h0=>?_)))
 ·obtain rfl:=sj h0
  exact Cn 6
 ·refine Ba 11 (dR a0 a1 a2 a3 [(10,oI 1024 []),(11,iV 0)]) [] (Cc (bb h0 fun r31 e32 h0=>Cr (R:=(fun S=>∃p22:List Int,p22=r31∧S=⟨dR a0 a1 a2 a3 [(10,oI 1024 p22)],[],[]⟩)) (Vl a0 a1) (fun s S=>match s with | (p10,p11)=>S=⟨dR a0 a1 a2 a3 [(10,oI 1024 p10),(11,iV p11)],[],[]⟩) e32 _ (Dw (by kernel_rfl)) rfl 0 (fun _=>rfl) ?_ ?_))
  ·rintro S _ hfg ⟨p22,rfl,rfl⟩
   refine Dc _ hfg (Bt (As (st (Cj rfl tv (Xf rfl (o_ (Ba 7 [(0,lI a0),(1,iV a1),(3,iV a3),(10,oI 1024 p22),(12,iV (p22.length:Int)),(40,.bool a2)] [] (Ld (cb:=a2) (fun S=>∃p35:List Int,S=⟨[(0,lI a0),(1,iV a1),(3,iV a3),(10,oI 1024 p35),(12,iV (p22.length:Int))],[],[]⟩∧Zv a0 a1 a3 p22 p35=some r) rfl ?_ (fun c49 J48=>?_) (fun c49 J48=>?_)))))))))
   ·rintro _ ⟨p35,rfl,h0⟩
    refine Ax 5 (As (Jr rfl (o_ (bS 4 (As (bb h0 fun y36 e37 h0=>st (Bv (u:=.iptr [iV y36]) rfl (fun hg=>(Nw (e:=eI) (y:=y36) rfl rfl (fun _=>hg) rfl rfl (fun _=>hg) (ip hg e37))) (o_ (bS 5 (bv h0 fun v38 e39 h0=>Dc ⟨[(0,lI a0),(3,iV a3),(10,oI 1024 p35),(12,iV (p22.length:Int)),(56,.bool v38)],[],[]⟩ (Dw (by subst e39; kernel_rfl)) (Ld (cb:=v38) (fun S=>∃p41:Int,S=⟨[(0,lI a0),(3,iV a3),(10,oI 1024 p35),(12,iV p41)],[],[]⟩∧Zw a0 a3 p35 p41=some r) rfl ?_ (fun c47 J46=>?_) (fun c47 J46=>?_))))))))))))
    ·rintro _ ⟨p41,rfl,h0⟩
     refine Ax 5 (As (bb h0 fun s42 e43 h0=>st (c_ (Qi (e:=eI) (y:=s42) rfl rfl tv ⟨tv,tv⟩ rfl rfl e43) (gg h0 fun c44 h0=>st (Kk (e:=eI) (l0:=p35) (l1:=s42) rfl rfl tv rfl (by decide) c44 (o_ (Ba 8 [(10,oI 1024 (p35++s42)),(65,.bool (a3==2))] [] (Ch h0 (fun oC h0=>?_) (fun oC h0=>?_)))))))))
     ·obtain rfl:=sj h0
      exact Cn 6 [1024]
     ·obtain rfl:=sj h0
      exact Cn 8 [1024]
    ·replace h0:=ip c47 h0
     refine Ax 4 ?_
     exact jn J46 ⟨_,rfl,h0⟩
    ·replace h0:=aB c47 h0
     refine Lc ?_
     exact jn J46 ⟨_,rfl,h0⟩
   ·replace h0:=ip c49 h0
    refine Ax 3 (As (gg h0 fun c50 h0=>st (Kk (e:=eI) (l0:=p22) (l1:=([a1]:List Int)) rfl rfl tv rfl (by decide) c50 (st (Cj rfl tv (Ha ?_))))))
    exact jn J48 ⟨_,rfl,h0⟩
   ·replace h0:=aB c49 h0
    refine Lc ?_
    exact jn J48 ⟨_,rfl,h0⟩
  ·rintro ⟨p10,p11⟩ o1 _ K1 rfl h1 hx1 hK1 hE1 hR1
   refine Ax 4 (As (Jr rfl (o_ (bS 4 (As (bb h1 fun y23 e24 h1=>st (Bv (u:=.iptr [iV y23]) rfl (fun hg=>(Nw (e:=eI) (y:=y23) rfl rfl (fun _=>hg) rfl rfl (fun _=>hg) (ip hg e24))) (o_ (bS 5 (bv h1 fun v25 e26 h1=>Dc ⟨dR a0 a1 a2 a3 [(10,oI 1024 p10),(11,iV p11),(28,.bool v25)],[],[]⟩ (Dw (by subst e26; kernel_rfl)) (Ch h1 (fun cP h1=>?_) (fun cP h1=>?_))))))))))))
   ·refine Ax 7 (As (bb h1 fun y28 e29 h1=>Nr rfl rfl e29 (o_ (Ax 2 (As (gg h1 fun c30 h1=>st (Kk (e:=eI) (l0:=p10) (l1:=([y28]:List Int)) rfl rfl tv rfl (by decide) c30 (o_ (Ba 3 (dR a0 a1 a2 a3 [(10,oI 1024 (p10++([y28]:List Int))),(11,iV p11)]) [] (Ax 4 ?_))))))))))
    obtain rfl:=sj h1
    exact kn hK1 rfl rfl
   ·obtain rfl:=sj h1
    obtain rfl:=hx1 _ rfl
    refine Hq rfl ?_
    exact jn hE1 ⟨_,rfl,rfl⟩

/- loop.example/g00149/spec.l09Recover -/
def OR:=[X_ 1 0,a_ 2 (zV 131 132 133)]
def OS:=[L_ 5 1 6,q_ 6 102 [.t 5],a_ 3 (zV 195 196 197),s_ 3 6 6]
def OT:=[i_ 4 0]
def OU:=[m_ 7 4,f_ 8 3 3,l_ 9 8 1,n_ 10 9,b_ .lss 11 7 10]
def OV:List Cd:=[f_ 14 3 3,l_ 15 14 1,m_ 16 4,x_ 17 15 16 2,f_ 18 17 1,⟨none,.store (.t 18) (.c (.bool true)) 1,none⟩]
def OW:=[m_ 12 4,B_ .add 13 12 1,m_ 4 13]
def OQ:IR:=(.seq (sr OU (.ite (.t 11) .skip (.exit 0))) (.seq (.block 1 (.reg OV)) (.reg OW)))
def OX:List Cd:=[f_ 19 3 5,⟨none,.store (.t 19) (.c (.bool true)) 1,none⟩]
def OY:=[L_ 20 3 6,s_ 2 20 6]
def c133:Cz:=⟨1,21,[.cell 2 6 true],sr OR (sr OS (.seq (sr OT (Ho 0 OQ)) (sr OX (rr OY))))⟩
def sT (D:Bj):Prop:=∀a0 r,eZ a0=some r→D 133 ⟨[.agg (Au a0)],[]⟩ ⟨.agg (Al r (Ai 0) (Ai 1) (Ai 2)),[],[]⟩
abbrev Vs:=fun (r:List (Nat×List V))=>(128,Ao 0 0 (Ai 131) [] (Ai 132) [] (Ai 133) [] false)::r
abbrev aS:=fun (r:List (Nat×V))=>(2,.ptr 128 0)::(3,.ptr 192 0)::r
theorem F133 (H102:kS C):sT (FO C c133):=by
 intro a0 r h0
 refine f0 (Ba 4 [(1,.ptr 64 0),(2,.ptr 128 0)] (Vs [(64,Au a0)]) (Ax 2 (As (bb h0 fun r1 e2 h0=>Qf (H102 a0 r1 e2) (ar (At rfl (af (af (af (At rfl rfl)))))) (o_ (Ba 8 (aS [(4,iV 0)]) (Vs [(192,Al r1 (Ai 384) (Ai 385) (Ai 386))]) (Cc (bb h0 fun r23 e24 h0=>Cr (R:=(fun S=>∃p17:List Aj,p17=r23∧S=⟨aS [],Vs [(192,Ao r1.Ac.clock r1.Ac.next (Ai 384) r1.Ac.Ae (Ai 385) p17 (Ai 386) r1.Ah r1.An)],[]⟩)) (Qn) (fun s S=>match s with | (p8,p9)=>S=⟨aS [(4,iV p8)],Vs [(192,Ao r1.Ac.clock r1.Ac.next (Ai 384) r1.Ac.Ae (Ai 385) p9 (Ai 386) r1.Ah r1.An)],[]⟩) e24 _ (Dw (by kernel_rfl)) rfl 0 (fun _=>rfl) ?_ ?_))))))))
 ·rintro S _ hfg ⟨p17,rfl,rfl⟩
  refine Dc _ hfg ?_
  obtain rfl:=sj h0
  exact Cn 10
 ·rintro ⟨p8,p9⟩ o1 _ K1 rfl h1 hx1 hK1 hE1 hR1
  refine Ax 5 (As (Xf rfl (o_ (Ba 2 (aS [(4,iV p8),(11,.bool (decide (p8<(p9.length:Int))))]) (Vs [(192,Ao r1.Ac.clock r1.Ac.next (Ai 384) r1.Ac.Ae (Ai 385) p9 (Ai 386) r1.Ah r1.An)]) (Ch h1 (fun c18 h1=>?_) (fun c18 h1=>?_))))))
  ·refine Ax 7 (As (bb h1 fun y19 e20 h1=>Wa rfl rfl e20 (st (c_ (Bl ⟨tv,tv⟩ rfl tv) (bb h1 fun y21 e22 h1=>gQ (Aj.mk y21.Ay true) rfl rfl e22 (o_ (Ba 2 (aS [(4,iV p8)]) (Vs [(192,Ao r1.Ac.clock r1.Ac.next (Ai 384) r1.Ac.Ae (Ai 385) (p9.set p8.toNat (Aj.mk y21.Ay true)) (Ai 386) r1.Ah r1.An)]) (Ax 4 ?_))))))))
   obtain rfl:=sj h1
   exact kn hK1 rfl rfl
  ·obtain rfl:=sj h1
   obtain rfl:=hx1 _ rfl
   refine Hq rfl ?_
   exact jn hE1 ⟨_,rfl,rfl⟩

/- loop.example/g00149/spec.l09Fate -/
def QP:=[X_ 2 0,i_ 4 0]
def QQ:=[m_ 5 1,f_ 6 2 5,l_ 7 6 1,n_ 8 7,b_ .lss 9 5 8]
def QR:=[f_ 10 2 5,l_ 11 10 1,m_ 12 1,x_ 13 11 12 1,l_ 14 13 1,m_ 4 14]
def QS:=[i_ 4 0]
def c145:Cz:=⟨2,15,[.t 4],sr QP (.seq (sr QQ (iz 9 (rr QR))) (rr QS))⟩
def GO (D:Bj):Prop:=∀a0 a1 r,lO a0 a1=some r→D 145 ⟨[.agg (Am a0),iV a1],[]⟩ ⟨iV r,[],[]⟩
theorem F145:GO (FO C c145):=by
 intro a0 a1 r h0
 refine f0 (Ba 4 [(1,iV a1),(2,.ptr 128 0)] [(128,Am a0)] (Ax 5 (As (Jr rfl (o_ (Ba 2 [(1,iV a1),(2,.ptr 128 0),(9,.bool (decide (a1<(a0.Bu.length:Int))))] [(128,Am a0)] (Ch h0 (fun c1 h0=>?_) (fun c1 h0=>?_))))))))
 ·refine Ax 4 (As (bb h0 fun y2 e3 h0=>Nr rfl rfl e3 (o_ ?_)))
  obtain rfl:=sj h0
  exact Cn 4
 ·obtain rfl:=sj h0
  exact Cn 6

/- loop.example/g00149/spec.l09Issue -/
def OF:=[X_ 2 0,X_ 3 1,a_ 4 (zV 259 260 261),a_ 5 [iV 0,iV 0]]
def OG:=[f_ 11 2 0,L_ 12 11 3,f_ 13 3 2,l_ 14 13 1,f_ 15 3 3,l_ 16 15 1,q_ 17 70 [.t 12,.t 14,.t 16],m_ 10 17,e_ 18 10 0,e_ 19 10 1,e_ 20 10 2,a_ 6 (zT 387),s_ 6 18 3,m_ 7 19,m_ 8 20]
def OH:=[m_ 21 8,B_ .eql 22 21 0,m_ 23 22,fT 23 24 2 3,lT 23 25 24 1 false,pT 23 26 (.len (.t 25)),pT 23 27 (.bin .eql (.t 26) (.c (iV 40))),pa 28 23 27]
def OI:=[i_ 8 9]
def OJ:=[m_ 29 8,B_ .neq 30 29 0]
def OK:List Cd:=[L_ 31 2 6,m_ 32 8,⟨some 33,.p (.build [iV 0,iV 0] [(0,1,.t 32)]),none⟩,s_ 4 31 6,s_ 5 33 2]
def OM:=[L_ 34 2 6,q_ 35 102 [.t 34],a_ 9 (zV 579 580 581),s_ 9 35 6]
def ON:=[f_ 36 6 1,l_ 37 36 1,f_ 38 9 0,f_ 39 38 1,s_ 39 37 1]
def OO:List Cd:=[f_ 40 9 3,l_ 41 40 1,m_ 42 7,⟨some 43,.p (.build [iV 0,.bool false] [(0,1,.t 42)]),none⟩,⟨some 44,.mkS 2 [iV 0,.bool false] 1 [(0,.t 43)],none⟩,⟨some 45,.app 2 16 (.t 41) (.t 44),none⟩,f_ 46 9 3,s_ 46 45 1]
def OP:=[f_ 47 3 6,l_ 48 47 1,B_ .eql 49 48 1]
def uV:List Cd:=[L_ 50 9 6,q_ 51 133 [.t 50],⟨some 52,.p (.build [iV 0,iV 0] [(0,1,.c (iV 15))]),none⟩,s_ 4 51 6,s_ 5 52 2]
def uW:=tk [f_ 54 9 4,l_ 55 54 1,m_ 56 7,L_ 57 3 7] (.alt [m_ 56 7,l_ 55 54 1,f_ 54 9 4] (q_ 58 145 [.t 57,.c (iV 0)]) (.alt [] (q_ 59 86 [.t 55,.t 56,.c (.bool true),.t 58]) (tk [m_ 53 59,e_ 60 53 0,e_ 61 53 1,f_ 62 9 4] (.alt [e_ 61 53 1] (s_ 62 60 1) (tk [m_ 8 61] .fin) .stop)) .stop) .stop)
def uX:=[f_ 63 3 6,l_ 64 63 1,B_ .eql 65 64 2]
def uY:List Cd:=[L_ 66 9 6,q_ 67 133 [.t 66],⟨some 68,.p (.build [iV 0,iV 0] [(0,1,.c (iV 15))]),none⟩,s_ 4 67 6,s_ 5 68 2]
def uZ:=[m_ 69 8,B_ .neq 70 69 0]
def vA:List Cd:=[f_ 71 9 3,l_ 72 71 1,f_ 73 9 3,l_ 74 73 1,n_ 75 74,B_ .sub 76 75 1,x_ 77 72 76 2,f_ 78 77 1,⟨none,.store (.t 78) (.c (.bool true)) 1,none⟩]
def vB:List Cd:=[L_ 79 9 6,m_ 80 8,⟨some 81,.p (.build [iV 0,iV 0] [(0,1,.t 80)]),none⟩,s_ 4 79 6,s_ 5 81 2]
def vC:List Cd:=[f_ 82 9 3,l_ 83 82 1,f_ 84 9 3,l_ 85 84 1,n_ 86 85,B_ .sub 87 86 1,⟨some 88,.p (.slice (.t 83) none (some (.t 87)) 2),none⟩,f_ 89 9 3,s_ 89 88 1]
def vD:=[L_ 90 6 3,f_ 91 9 0,s_ 91 90 3]
def vE:List Cd:=[L_ 92 9 6,m_ 93 7,⟨some 94,.p (.build [iV 0,iV 0] [(1,1,.t 93)]),none⟩,s_ 4 92 6,s_ 5 94 2]
def c132:Cz:=⟨2,95,[.cell 4 6 true,.cell 5 2 true],sr OF (sr OG (.seq (sr OH (iz 28 (.reg OI))) (.seq (sr OJ (iz 30 (rr OK))) (sr OM (sr ON (sr OO (.seq (sr OP (iz 49 (rr uV))) (sd uW (.seq (sr uX (iz 65 (rr uY))) (.seq (sr uZ (iz 70 (sr vA (rr vB)))) (sr vC (sr vD (rr vE)))))))))))))⟩
def K132 (D:Bj):Prop:=∀a0 a1 r,AcW a0 a1=some r→D 132 ⟨[.agg (Au a0),.agg (Am a1)],[]⟩ ⟨.tup [.agg (Au r.1),.agg (Af r.2)],[],[]⟩
abbrev Jl:=fun (r:List (Nat×List V))=>(256,Ao 0 0 (Ai 259) [] (Ai 260) [] (Ai 261) [] false)::(320,[iV 0,iV 0])::r
abbrev Nj:=fun x0 (r:List (Nat×V))=>(4,.ptr 256 0)::(5,.ptr 320 0)::(6,.ptr 384 0)::(7,iV x0)::r
theorem F132 (H70:K70 C) (H86:K86 C) (H102:kS C) (H133:sT C) (H145:GO C):K132 (FO C c132):=by
 intro a0 a1 r h0
 refine f0 (Ba 6 [(2,.ptr 128 0),(3,.ptr 192 0),(4,.ptr 256 0),(5,.ptr 320 0)] (Jl [(128,Au a0),(192,Am a1)]) (Ax 7 (As (bb h0 fun r1 e2 h0=>st (Ci (r:=.tup [.agg (Bb r1.1),iV r1.2.1,iV r1.2.2]) true (H70 a0.Ac a1.ttl a1.Dr r1 e2) ⟨tv,tv,tv,tv⟩ rfl rfl (fun h=>nomatch h) (o_ (Ba 9 (Nj r1.2.1 [(2,.ptr 128 0),(3,.ptr 192 0),(8,iV r1.2.2)]) (Jl [(128,Au a0),(192,Am a1),(384,Bb r1.1)]) (bS 7 (As (st (Bv (u:=iV (a0.Ab.length:Int)) rfl (fun hg=>(Wf (e:=Bq) (l0:=a0.Ab) rfl rfl (fun _=>hg))) (o_ (sR 3 (Nj r1.2.1 [(2,.ptr 128 0),(3,.ptr 192 0),(8,iV r1.2.2),(28,.bool (bif (r1.2.2==0) then ((a0.Ab.length:Int)==40) else false))]) (Jl [(128,Au a0),(192,Am a1),(384,Bb r1.1)]) (Ld (cb:=(bif (r1.2.2==0) then ((a0.Ab.length:Int)==40) else false)) (fun S=>∃p4:Int,S=⟨Nj r1.2.1 [(2,.ptr 128 0),(3,.ptr 192 0),(8,iV p4)],Jl [(128,Au a0),(192,Am a1),(384,Bb r1.1)],[]⟩∧Jv a0 a1 r1 p4=some r) rfl ?_ (fun cP J26=>?_) (fun cP J26=>?_)))))))))))))))
 ·rintro _ ⟨p4,rfl,h0⟩
  refine Ba 6 (Nj r1.2.1 [(2,.ptr 128 0),(3,.ptr 192 0),(8,iV p4),(30,.bool (p4 != 0))]) (Jl [(128,Au a0),(192,Am a1),(384,Bb r1.1)]) (Ch h0 (fun c5 h0=>?_) (fun c5 h0=>?_))
  ·refine Ax 3 (As (st (c_ (v:=.agg [iV p4,iV 0]) (Bl ⟨tv,tv⟩ rfl ⟨⟨rfl,rfl,nl rfl⟩,tv⟩) (o_ ?_))))
   obtain rfl:=sj h0
   exact Cn 4
  ·refine Ax 4 (As (bb h0 fun r6 e7 h0=>Qf (H102 a0 r6 e7) (ar (At rfl (af (af (af (At rfl rfl)))))) (o_ (Ba 11 (Nj r1.2.1 [(3,.ptr 192 0),(9,.ptr 576 0)]) (Jl [(192,Am a1),(384,Bb r1.1),(576,Ao r6.Ac.clock r1.1.next (Ai 2240) r6.Ac.Ae (Ai 2241) r6.Ab (Ai 2242) r6.Ah r6.An)]) (Ax 4 (As (st (c_ (v:=.agg [iV r1.2.1,.bool false]) (Bl ⟨tv,tv⟩ rfl ⟨⟨rfl,rfl,nl rfl⟩,tv⟩) (st (gB ⟨tv,tv⟩ ⟨⟨nl rfl,rfl,rfl⟩,tv⟩ (gg h0 fun c8 h0=>st (Kk (e:=Bq) (l0:=r6.Ab) (l1:=([Aj.mk r1.2.1 false]:List Aj)) rfl rfl tv rfl (by decide) c8 (o_ (Ba 10 (Nj r1.2.1 [(3,.ptr 192 0),(9,.ptr 576 0),(49,.bool (a1.stop==1))]) (Jl [(192,Am a1),(384,Bb r1.1),(576,[iV r6.Ac.clock,iV r1.1.next,Ag 2240 r6.Ac.Ae,Bo 2241 (r6.Ab++([Aj.mk r1.2.1 false]:List Aj)),oI 2242 r6.Ah,.bool r6.An])]) (Ch h0 (fun c9 h0=>?_) (fun c9 h0=>?_))))))))))))))))
   ·refine Ax 2 (As (bb h0 fun r10 e11 h0=>Qf (H133 (Ap.mk (Ar.mk r6.Ac.clock r1.1.next r6.Ac.Ae) (r6.Ab++([Aj.mk r1.2.1 false]:List Aj)) r6.Ah r6.An) r10 e11) (ar (At rfl (af (af (af (At rfl rfl)))))) (st (c_ (v:=.agg [iV 15,iV 0]) (Bl ⟨tv,tv⟩ rfl ⟨⟨rfl,rfl,nl rfl⟩,tv⟩) (o_ ?_)))))
    obtain rfl:=sj h0
    exact Cn 4 [3264,3265,3266]
   ·refine Lr 3 (bb h0 fun r12 e13 h0=>bb h0 fun r14 e15 h0=>Ax 4 (Bd (Gh (H145 a1 0 r12 e13) rfl (dw [(3,.ptr 192 0),(4,.ptr 256 0),(5,.ptr 320 0),(6,.ptr 384 0),(7,iV r1.2.1),(9,.ptr 576 0),(54,.ptr 576 4),(55,oI 2242 r6.Ah),(56,iV r1.2.1),(58,iV r12)] [(192,Am a1),(256,Ao 0 0 (Ai 259) [] (Ai 260) [] (Ai 261) [] false),(320,[iV 0,iV 0]),(384,Bb r1.1),(576,[iV r6.Ac.clock,iV r1.1.next,Ag 2240 r6.Ac.Ae,Bo 2241 (r6.Ab++([Aj.mk r1.2.1 false]:List Aj)),oI 2242 r6.Ah,.bool r6.An])] hB (Az (Ci (r:=.tup [lI r14.1,iV r14.2]) true (H86 r6.Ah r1.2.1 true r12 r14 e15) ⟨tv,tv,tv,tv,tv⟩ rfl rfl (fun h=>nomatch h) (dw [(3,.ptr 192 0),(4,.ptr 256 0),(5,.ptr 320 0),(6,.ptr 384 0),(7,iV r1.2.1),(9,.ptr 576 0),(59,.tup [lI r14.1,iV r14.2])] [(192,Am a1),(256,Ao 0 0 (Ai 259) [] (Ai 260) [] (Ai 261) [] false),(320,[iV 0,iV 0]),(384,Bb r1.1),(576,[iV r6.Ac.clock,iV r1.1.next,Ag 2240 r6.Ac.Ae,Bo 2241 (r6.Ab++([Aj.mk r1.2.1 false]:List Aj)),lI r6.Ah,.bool r6.An])] tv (d_ (Ax 4 (Bd (Az (Cl rfl rfl tv rfl rfl rfl (nl rfl) (d0 hB (d_ (Ba 2 (Nj r1.2.1 [(3,.ptr 192 0),(8,iV r14.2),(9,.ptr 576 0)]) (Jl [(192,Am a1),(384,Bb r1.1),(576,[iV r6.Ac.clock,iV r1.1.next,Ag 2240 r6.Ac.Ae,Bo 2241 (r6.Ab++([Aj.mk r1.2.1 false]:List Aj)),lI r14.1,.bool r6.An])]) (Ax 3 (As ?_)))))) Aq)))))) Aq)) Aq)))
    refine o_ (Ba 3 (Nj r1.2.1 [(8,iV r14.2),(9,.ptr 576 0),(65,.bool (a1.stop==2))]) (Jl [(384,Bb r1.1),(576,[iV r6.Ac.clock,iV r1.1.next,Ag 2240 r6.Ac.Ae,Bo 2241 (r6.Ab++([Aj.mk r1.2.1 false]:List Aj)),lI r14.1,.bool r6.An])]) (Ch h0 (fun c16 h0=>?_) (fun c16 h0=>?_)))
    ·refine Ax 2 (As (bb h0 fun r17 e18 h0=>Qf (H133 (Ap.mk (Ar.mk r6.Ac.clock r1.1.next r6.Ac.Ae) (r6.Ab++([Aj.mk r1.2.1 false]:List Aj)) r14.1 r6.An) r17 e18) (ar (At rfl (af (af (af (At rfl rfl)))))) (st (c_ (v:=.agg [iV 15,iV 0]) (Bl ⟨tv,tv⟩ rfl ⟨⟨rfl,rfl,nl rfl⟩,tv⟩) (o_ ?_)))))
     obtain rfl:=sj h0
     exact Cn 4 [4288,4289,4290]
    ·refine Ba 7 (Nj r1.2.1 [(8,iV r14.2),(9,.ptr 576 0),(70,.bool (r14.2 != 0))]) (Jl [(384,Bb r1.1),(576,[iV r6.Ac.clock,iV r1.1.next,Ag 2240 r6.Ac.Ae,Bo 2241 (r6.Ab++([Aj.mk r1.2.1 false]:List Aj)),lI r14.1,.bool r6.An])]) (Ch h0 (fun yJ h0=>?_) (fun yJ h0=>?_))
     ·refine Ax 5 (As (Xf rfl (st (c_ (Bl t3 rfl tv) (bb h0 fun y20 e21 h0=>Wa rfl rfl e21 (st (c_ (Bl ⟨tv,tv⟩ rfl tv) (bb h0 fun y22 e23 h0=>gQ (Aj.mk y22.Ay true) rfl rfl e23 (o_ (Ba 1 [(4,.ptr 256 0),(5,.ptr 320 0),(8,iV r14.2),(9,.ptr 576 0)] (Jl [(576,[iV r6.Ac.clock,iV r1.1.next,Ag 2240 r6.Ac.Ae,.own 2241 0 2 (((r6.Ab++([Aj.mk r1.2.1 false]:List Aj)).set ((wi (((r6.Ab++([Aj.mk r1.2.1 false]:List Aj)).length:Int)-1)).toNat) (Aj.mk y22.Ay true)).map Bq),lI r14.1,.bool r6.An])]) (Ax 3 (As (st (c_ (v:=.agg [iV r14.2,iV 0]) (Bl ⟨tv,tv⟩ rfl ⟨⟨rfl,rfl,nl rfl⟩,tv⟩) (o_ ?_)))))))))))))))
      obtain rfl:=sj h0
      exact Cn 4 [2240,2241]
     ·refine Ax 7 (As (Xf rfl (st (c_ (Bl t3 rfl tv) (bb h0 fun s24 e25 h0=>st (c_ (Ew (e:=Bq) (y:=s24) rfl rfl tv ⟨tv,tv⟩ rfl rfl e25) (o_ (Ba 9 [(4,.ptr 256 0),(5,.ptr 320 0),(7,iV r1.2.1),(9,.ptr 576 0)] (Jl [(576,Ao r1.1.clock r1.1.next u_ r1.1.Ae (Ai 2241) s24 u_ r14.1 r6.An)]) (Ax 3 (As (st (c_ (v:=.agg [iV 0,iV r1.2.1]) (Bl ⟨tv,tv⟩ rfl ⟨⟨rfl,rfl,nl rfl⟩,tv⟩) (o_ ?_)))))))))))))
      obtain rfl:=sj h0
      exact Cn 4 [2241]
 ·replace h0:=ip cP h0
  refine As (st (DZ tv (Ha ?_)))
  exact jn J26 ⟨_,rfl,h0⟩
 ·replace h0:=aB cP h0
  refine Lc ?_
  exact jn J26 ⟨_,rfl,h0⟩

/- loop.example/g00149/spec.l08Done -/
def c76_r0:=[X_ 2 0,a_ 4 (zT 259),i_ 5 0]
def c76_r1:=[L_ 8 2 3,m_ 9 1,q_ 10 92 [.t 8,.t 9],m_ 6 10]
def c76_r2:=[m_ 11 6,B_ .lss 12 11 0]
def c76_r3:=[L_ 13 2 3,s_ 4 13 3,i_ 5 5]
def c76_r4:=[f_ 14 2 2,l_ 15 14 1,m_ 16 6,x_ 17 15 16 4,f_ 18 17 3,l_ 19 18 1,N_ 20 19]
def c76_r5:=[L_ 21 2 3,s_ 4 21 3,i_ 5 13]
def c76_r6:=[L_ 22 2 3,a_ 7 (zT 451),s_ 7 22 3]
def c76_r7:=tk [f_ 24 2 2,l_ 25 24 1,m_ 26 6,⟨some 27,.p (.slice (.t 25) none (some (.t 26)) 4),none⟩,f_ 29 2 2,l_ 30 29 1,m_ 31 6,B_ .add 32 31 1,⟨some 33,.p (.slice (.t 30) (some (.t 32)) none 4),none⟩] (.alt [⟨some 33,.p (.slice (.t 30) (some (.t 32)) none 4),none⟩,B_ .add 32 31 1,m_ 31 6,l_ 30 29 1,f_ 29 2 2,⟨some 27,.p (.slice (.t 25) none (some (.t 26)) 4),none⟩,m_ 26 6,l_ 25 24 1,f_ 24 2 2] ⟨some 23,.mkS 4 [iV 0,iV 0,iV 0,.bool false] 0 [],none⟩ (.alt [⟨some 33,.p (.slice (.t 30) (some (.t 32)) none 4),none⟩,B_ .add 32 31 1,m_ 31 6,l_ 30 29 1,f_ 29 2 2] ⟨some 28,.app 4 32 (.t 23) (.t 27),none⟩ (.alt [] ⟨some 34,.app 4 32 (.t 28) (.t 33),none⟩ (tk [f_ 35 7 2] (.alt [] (s_ 35 34 1) .fin .stop)) .stop) .stop) .stop)
def c76_r8:=[L_ 36 7 3,s_ 4 36 3,i_ 5 0]
def c76:Cz:=⟨2,37,[.cell 4 3 true,.t 5],sr c76_r0 (sr c76_r1 (.seq (sr c76_r2 (iz 12 (rr c76_r3))) (.seq (sr c76_r4 (iz 20 (rr c76_r5))) (sr c76_r6 (sd c76_r7 (rr c76_r8))))))⟩
def K76 (D:Bj):Prop:=∀a0 a1 r,g76 a0 a1=some r→D 76 ⟨[.agg (Bb a0),iV a1],[]⟩ ⟨.tup [.agg (Bb r.1),iV r.2],[],[]⟩
abbrev pE:=fun x0 (r:List (Nat×List V))=>(128,Bb x0)::(256,Br 0 0 (Ai 259) [])::r
theorem F76 (H92:K92 C):K76 (FO C c76):=by
 intro a0 a1 r h0
 refine f0 (Ba 5 [(1,iV a1),(2,.ptr 128 0),(4,.ptr 256 0)] (pE a0 []) (Bt (As (st (c_ (v:=.agg (Bb a0)) (Bl ⟨tv,tv⟩ rfl (nl rfl)) (st (Cj rfl tv (bb h0 fun r1 e2 h0=>st (Ci (r:=iV r1) false (H92 a0 a1 r1 e2) ⟨tv,tv,tv⟩ rfl rfl (fun _=>rfl) (o_ (Ba 8 [(2,.ptr 128 0),(4,.ptr 256 0),(6,iV r1),(12,.bool (decide (r1<0)))] (pE a0 []) (Ch h0 (fun c3 h0=>?_) (fun c3 h0=>?_)))))))))))))
 ·obtain rfl:=sj h0
  exact Cn 6
 ·refine Lc (eF (Bt (Bt (As (st (c_ (Bl ⟨tv,tv⟩ rfl tv) (st (c_ (Bl ⟨tv,tv⟩ rfl (nl rfl)) (st (Cj rfl tv (bb h0 fun y4 e5 h0=>Nr rfl rfl e5 (o_ (Ba 4 [(2,.ptr 128 0),(4,.ptr 256 0),(6,iV r1),(20,.bool (!y4.Bz))] (pE a0 []) (Ch h0 (fun c6 h0=>?_) (fun c6 h0=>?_)))))))))))))))
  ·obtain rfl:=sj h0
   exact Cn 6
  ·refine Ba 7 [(2,.ptr 128 0),(4,.ptr 256 0),(6,iV r1),(7,.ptr 448 0)] (pE a0 [(448,Bb a0)]) (Bt (bb h0 fun s7 e8 h0=>bb h0 fun s9 e10 h0=>gg h0 fun c11 h0=>gg h0 fun c12 h0=>Bd (Ak tv (c_ (Bl ⟨tv,tv⟩ rfl tv) (⟨tv,Ak tv (c_ (Bl ⟨tv,tv⟩ rfl (nl rfl)) (⟨tv,Ak tv (Cj rfl tv (⟨tv,Ak tv (c_ (Qi (e:=Ad) (y:=s7) rfl rfl tv ⟨tv,tv⟩ rfl rfl e8) (⟨tv,Ak tv (c_ (Bl ⟨tv,tv⟩ rfl tv) (⟨tv,Ak tv (c_ (Bl ⟨tv,tv⟩ rfl (nl rfl)) (⟨tv,Ak tv (Cj rfl tv (⟨tv,Ak tv (c_ (Bl t3 rfl tv) (⟨tv,Ak tv (c_ (Qi (e:=Ad) (y:=s9) rfl rfl tv ⟨tv,tv⟩ rfl rfl e10) (⟨tv,Az (gB tv tv (d0 ⟨⟨.inl tv,Bs (Qi (e:=Ad) (y:=s9) rfl rfl tv ⟨tv,tv⟩ rfl rfl e10) rfl⟩,⟨.inl tv,Bs (Bl t3 rfl tv) rfl⟩,⟨.inl tv,Bs (Dm (v:=iV r1) rfl tv) rfl⟩,⟨.inl tv,Bs (Bl ⟨tv,tv⟩ rfl (nl rfl)) rfl⟩,⟨.inl tv,Bs (Bl ⟨tv,tv⟩ rfl tv) rfl⟩,⟨.inl tv,Bs (Qi (e:=Ad) (y:=s7) rfl rfl tv ⟨tv,tv⟩ rfl rfl e8) rfl⟩,⟨.inl tv,Bs (Dm (v:=iV r1) rfl tv) rfl⟩,⟨.inl tv,Bs (Bl ⟨tv,tv⟩ rfl (nl rfl)) rfl⟩,⟨.inl tv,Bs (Bl ⟨tv,tv⟩ rfl tv) rfl⟩,tv⟩ (Az (Kk (e:=Ad) (l0:=([]:List Aa)) (l1:=s7) rfl rfl tv rfl (by decide) c11 (dw [(2,.ptr 128 0),(4,.ptr 256 0),(6,iV r1),(7,.ptr 448 0),(28,Ag 1472 (([]:List Aa)++s7)),(29,.ptr 128 2),(30,Bp a0.Ae),(31,iV r1),(32,iV (wi (r1+1))),(33,Bp s9)] [(128,Bb a0),(256,Br 0 0 (Ai 259) []),(448,Bb a0)] ⟨⟨.inl tv,Bs (Qi (e:=Ad) (y:=s9) rfl rfl tv ⟨tv,tv⟩ rfl rfl e10) rfl⟩,⟨.inl tv,Bs (Bl t3 rfl tv) rfl⟩,⟨.inl tv,Bs (Dm (v:=iV r1) rfl tv) rfl⟩,⟨.inl tv,Bs (Bl ⟨tv,tv⟩ rfl (nl rfl)) rfl⟩,⟨.inl tv,Bs (Bl ⟨tv,tv⟩ rfl tv) rfl⟩,tv⟩ (Az (Kk (e:=Ad) (l0:=([]:List Aa)++s7) (l1:=s9) rfl rfl tv rfl (by decide) c12 (d0 tv (Ak tv (c_ (Bl ⟨tv,tv⟩ rfl tv) (⟨tv,Az (Cl rfl rfl tv rfl rfl rfl (nl rfl) (d0 tv (d_ (Ba 1 [(4,.ptr 256 0),(7,.ptr 448 0)] [(256,Br 0 0 (Ai 259) []),(448,Br a0.clock a0.next (Ai 1472) ((([]:List Aa)++s7)++s9))] ?_)))) Aq⟩))))) Aq))) Aq))) Aq⟩))⟩))⟩))⟩))⟩))⟩))⟩))⟩))⟩)))))
   obtain rfl:=sj h0
   exact Cn 6 [1472]

/- loop.example/g00149/spec.l09Without -/
def QU:List Cd:=[⟨some 4,.nilS 2,none⟩]
def QV:List Cd:=[⟨some 7,.mkS 2 [iV 0,.bool false] 0 [],none⟩,m_ 5 7]
def QW:=[i_ 6 0]
def QX:=[m_ 8 6,m_ 9 0,n_ 10 9,b_ .lss 11 8 10]
def QY:=[m_ 14 0,m_ 15 6,x_ 16 14 15 2,f_ 17 16 0,l_ 18 17 1,m_ 19 1,b_ .neq 20 18 19]
def QZ:List Cd:=[m_ 21 5,m_ 22 0,m_ 23 6,x_ 24 22 23 2,L_ 25 24 2,⟨some 26,.mkS 2 [iV 0,.bool false] 1 [(0,.t 25)],none⟩,⟨some 27,.app 2 16 (.t 21) (.t 26),none⟩,m_ 5 27]
def RA:=[m_ 12 6,B_ .add 13 12 1,m_ 6 13]
def QT:IR:=(.seq (sr QX (.ite (.t 11) .skip (.exit 0))) (.seq (.block 1 (sr QY (iz 20 (.reg QZ)))) (.reg RA)))
def RE:=[m_ 28 5,m_ 4 28]
def c146:Cz:=⟨2,29,[.t 4],sr QU (sr QV (.seq (sr QW (Ho 0 QT)) (rr RE)))⟩
def K146 (D:Bj):Prop:=∀a0 a1 r,AcZ a0 a1=some r→D 146 ⟨[Bm a0,iV a1],[]⟩ ⟨Bo 0 r,[],[]⟩
theorem F146:K146 (FO C c146):=by
 intro a0 a1 r h0
 refine f0 (Ba 13 [(0,Bm a0),(1,iV a1),(5,Bo 448 []),(6,iV 0)] [] (Cc (bb h0 fun r37 e38 h0=>Cr (R:=(fun S=>∃p21:List Aj,p21=r37∧S=⟨[(5,Bo 448 p21)],[],[]⟩)) (Qr a0 a1) (fun s S=>match s with | (p9,p10)=>S=⟨[(0,Bm a0),(1,iV a1),(5,Bo 448 p9),(6,iV p10)],[],[]⟩) e38 _ (Dw (by kernel_rfl)) rfl 0 (fun _=>rfl) ?_ ?_)))
 ·rintro S _ hfg ⟨p21,rfl,rfl⟩
  refine Dc _ hfg ?_
  obtain rfl:=sj h0
  exact Cn 5
 ·rintro ⟨p9,p10⟩ o1 _ K1 rfl h1 hx1 hK1 hE1 hR1
  refine Ax 4 (As (Jr rfl (o_ (Ba 2 [(0,Bm a0),(1,iV a1),(5,Bo 448 p9),(6,iV p10),(11,.bool (decide (p10<(a0.length:Int))))] [] (Ch h1 (fun c22 h1=>?_) (fun c22 h1=>?_))))))
  ·refine Lr 3 (Jk (fun S=>∃p29:List Aj,S=⟨[(0,Bm a0),(1,iV a1),(5,Bo 448 p29),(6,iV p10)],[],[]⟩∧Xu p10 p29=some o1) ?_ (fun J30=>?_))
   ·rintro _ ⟨p29,rfl,h1⟩
    refine Ax 5 ?_
    obtain rfl:=sj h1
    exact kn hK1 rfl rfl
   ·refine Bt ?_
    refine Ax 2 (As (bb h1 fun y31 e32 h1=>Nr rfl rfl e32 (o_ (Ba 5 [(0,Bm a0),(1,iV a1),(5,Bo 448 p9),(6,iV p10),(20,.bool (y31.Ay != a1))] [] (Ch h1 (fun c33 h1=>?_) (fun c33 h1=>?_))))))
    ·refine Ax 3 (As (bb h1 fun y34 e35 h1=>Nr rfl rfl e35 (o_ (Ax 2 (As (gg h1 fun sP h1=>st (Kk (e:=Bq) (l0:=p9) (l1:=([y34]:List Aj)) rfl rfl tv rfl (by decide) sP (st (Cj rfl tv (Ha (Su ?_)))))))))))
     exact jn J30 ⟨_,rfl,h1⟩
    ·refine Lc (Su ?_)
     exact jn J30 ⟨_,rfl,h1⟩
  ·obtain rfl:=sj h1
   obtain rfl:=hx1 _ rfl
   refine Hq rfl ?_
   exact jn hE1 ⟨_,rfl,rfl⟩

/- loop.example/g00149/spec.l09Sweep -/
def PB:=[X_ 2 0,X_ 3 1,a_ 4 (zV 259 260 261)]
def PC:=[L_ 14 2 6,q_ 15 102 [.t 14],a_ 5 (zV 323 324 325),s_ 5 15 6]
def PD:=[i_ 6 0]
def PE:=[i_ 7 0]
def PF:=[m_ 16 7,f_ 17 2 0,f_ 18 17 2,l_ 19 18 1,n_ 20 19,b_ .lss 21 16 20]
def PG:=[f_ 24 2 0,f_ 25 24 2,l_ 26 25 1,m_ 27 7,x_ 28 26 27 4,f_ 29 28 0,l_ 30 29 1,m_ 8 30]
def PH:=[f_ 31 2 0,f_ 32 31 2,l_ 33 32 1,m_ 34 7,x_ 35 33 34 4,f_ 36 35 3,l_ 37 36 1,N_ 38 37]
def PI:=tk [f_ 40 5 4,l_ 41 40 1,m_ 42 8,L_ 43 3 7,m_ 44 6] (.alt [m_ 42 8,l_ 41 40 1,f_ 40 5 4] (q_ 45 145 [.t 43,.t 44]) (.alt [] (q_ 46 86 [.t 41,.t 42,.c (.bool false),.t 45]) (tk [m_ 39 46,e_ 47 39 0,e_ 48 39 1,m_ 9 47,m_ 10 48] .fin) .stop) .stop)
def PJ:=[m_ 49 6,B_ .add 50 49 1,m_ 6 50]
def PK:=[m_ 51 9,f_ 52 5 4,s_ 52 51 1]
def vF:=[m_ 53 10,B_ .eql 54 53 0]
def vG:=[f_ 56 5 0,L_ 57 56 3,m_ 58 8,q_ 59 76 [.t 57,.t 58],m_ 55 59,e_ 60 55 0,e_ 61 55 1,f_ 62 5 0,s_ 62 60 3]
def vH:=[f_ 63 3 6,l_ 64 63 1,B_ .eql 65 64 2]
def vI:=[L_ 66 5 6,q_ 67 133 [.t 66],s_ 4 67 6]
def vJ:=[m_ 22 7,B_ .add 23 22 1,m_ 7 23]
def OZ:IR:=(.seq (sr PF (.ite (.t 21) .skip (.exit 0))) (.seq (.block 1 (sr PG (.seq (sr PH (iz 38 (.exit 1))) (sd PI (sr PJ (sr PK (.seq (sr vF (iz 54 (.reg vG))) (sr vH (iz 65 (rr vI)))))))))) (.reg vJ)))
def vK:=[i_ 11 0]
def vL:=[m_ 68 11,f_ 69 2 3,l_ 70 69 1,n_ 71 70,b_ .lss 72 68 71]
def vM:=[f_ 75 2 3,l_ 76 75 1,m_ 77 11,x_ 78 76 77 2,f_ 79 78 1,l_ 80 79 1,N_ 81 80]
def vN:=tk [f_ 83 5 4,l_ 84 83 1,f_ 85 2 3,l_ 86 85 1,m_ 87 11,x_ 88 86 87 2,f_ 89 88 0,l_ 90 89 1,L_ 91 3 7,m_ 92 6] (.alt [l_ 90 89 1,f_ 89 88 0,x_ 88 86 87 2,m_ 87 11,l_ 86 85 1,f_ 85 2 3,l_ 84 83 1,f_ 83 5 4] (q_ 93 145 [.t 91,.t 92]) (.alt [] (q_ 94 86 [.t 84,.t 90,.c (.bool false),.t 93]) (tk [m_ 82 94,e_ 95 82 0,e_ 96 82 1,m_ 12 95,m_ 13 96] .fin) .stop) .stop)
def vO:=[m_ 97 6,B_ .add 98 97 1,m_ 6 98]
def vP:=[m_ 99 12,f_ 100 5 4,s_ 100 99 1]
def vQ:=[m_ 101 13,B_ .eql 102 101 0]
def vR:=tk [f_ 103 5 3,l_ 104 103 1,f_ 105 2 3,l_ 106 105 1,m_ 107 11,x_ 108 106 107 2,f_ 109 108 0,l_ 110 109 1] (.alt [] (q_ 111 146 [.t 104,.t 110]) (tk [f_ 112 5 3] (.alt [] (s_ 112 111 1) .fin .stop)) .stop)
def vS:=[f_ 113 3 6,l_ 114 113 1,B_ .eql 115 114 2]
def vT:=[L_ 116 5 6,q_ 117 133 [.t 116],s_ 4 117 6]
def vU:=[m_ 73 11,B_ .add 74 73 1,m_ 11 74]
def PA:IR:=(.seq (sr vL (.ite (.t 72) .skip (.exit 2))) (.seq (.block 3 (.seq (sr vM (iz 81 (.exit 3))) (sd vN (sr vO (sr vP (.seq (sr vQ (iz 102 (.draw vR))) (sr vS (iz 115 (rr vT))))))))) (.reg vU)))
def vV:=[L_ 118 5 6,s_ 4 118 6]
def c134:Cz:=⟨2,119,[.cell 4 6 true],sr PB (sr PC (sr PD (.seq (sr PE (Ho 0 OZ)) (.seq (sr vK (Ho 2 PA)) (rr vV)))))⟩
def K134 (D:Bj):Prop:=∀a0 a1 r,lL a0 a1=some r→D 134 ⟨[.agg (Au a0),.agg (Am a1)],[]⟩ ⟨.agg (Al r u_ (Ai 0) u_),[],[]⟩
abbrev Fe:=fun x0 x1 (r:List (Nat×List V))=>(128,Au x0)::(192,Am x1)::(256,Ao 0 0 (Ai 259) [] (Ai 260) [] (Ai 261) [] false)::r
abbrev Fn:=fun (r:List (Nat×V))=>(2,.ptr 128 0)::(3,.ptr 192 0)::(4,.ptr 256 0)::(5,.ptr 320 0)::r
theorem F134 (H76:K76 C) (H86:K86 C) (H102:kS C) (H133:sT C) (H145:GO C) (H146:K146 C):K134 (FO C c134):=by
 intro a0 a1 r h0
 refine f0 (Ba 5 [(2,.ptr 128 0),(3,.ptr 192 0),(4,.ptr 256 0)] (Fe a0 a1 []) (Bt (As (st (c_ (v:=.agg (Au a0)) (Bl ⟨tv,tv⟩ rfl (nl rfl)) (bb h0 fun r1 e2 h0=>st (Ci (r:=.agg (Al r1 (Ai 0) (Ai 1) (Ai 2))) false (H102 a0 r1 e2) ⟨tv,tv⟩ rfl rfl (fun _=>(ar (At rfl (af (af (af (At rfl rfl))))))) (o_ (Ba 12 (Fn [(6,iV 0),(7,iV 0)]) (Fe a0 a1 [(320,Al r1 (Ai 960) (Ai 961) (Ai 962))]) (Cc (bb h0 fun r115 e116 h0=>Cr (R:=(fun S=>∃p63:Int,∃p64:Int,∃p65:Int,∃p66:List Aa,∃p67:List Int,.inl (p63,p64,p65,p66,p67)=r115∧S=⟨Fn [(6,iV p63)],Fe a0 a1 [(320,Ao p64 p65 u_ p66 (Ai 961) r1.Ab u_ p67 r1.An)],[]⟩)) (Lm a0 a1 r1) (fun s S=>match s with | (p27,p28,p29,p30,p31,p32)=>S=⟨Fn [(6,iV p27),(7,iV p28)],Fe a0 a1 [(320,Ao p29 p30 u_ p31 (Ai 961) r1.Ab u_ p32 r1.An)],[]⟩) e116 ⟨Fn [(6,iV 0),(7,iV 0)],Fe a0 a1 [(320,Al r1 u_ (Ai 961) u_)],[]⟩ (qP [960,962] (by kernel_rfl)) rfl 0 (fun _=>rfl) ?_ ?_)))))))))))
 ·rintro S _ hfg ⟨p63,p64,p65,p66,p67,rfl,rfl⟩
  refine Dc _ hfg (Ba 4 (Fn [(6,iV p63),(11,iV 0)]) (Fe a0 a1 [(320,Ao p64 p65 u_ p66 (Ai 961) r1.Ab u_ p67 r1.An)]) (Cc (bb h0 fun r218 e219 h0=>Cr (R:=(fun S=>∃p169:List Aj,∃p170:List Int,.inl (p169,p170)=r218∧S=⟨[(4,.ptr 256 0),(5,.ptr 320 0)],[(256,Ao 0 0 (Ai 259) [] (Ai 260) [] (Ai 261) [] false),(320,Ao p64 p65 u_ p66 (Ai 961) p169 u_ p170 r1.An)],[]⟩)) (Jb a0 a1 r1 p64 p65 p66) (fun s S=>match s with | (p139,p140,p141,p142)=>S=⟨Fn [(6,iV p139),(11,iV p140)],Fe a0 a1 [(320,Ao p64 p65 u_ p66 (Ai 961) p141 u_ p142 r1.An)],[]⟩) e219 _ (Dw (by kernel_rfl)) rfl 2 (fun _=>rfl) ?_ ?_)))
  ·rintro S _ hfg ⟨p169,p170,rfl,rfl⟩
   refine Dc _ hfg ?_
   obtain rfl:=sj h0
   exact Cn 5
  ·rintro ⟨p139,p140,p141,p142⟩ o1 _ K1 rfl h1 hx1 hK1 hE1 hR1
   refine Bt (Bt (As (st (Cj rfl tv (st (c_ (Bl ⟨tv,tv⟩ rfl tv) (st (c_ (Bl ⟨tv,tv⟩ rfl (nl rfl)) (Jr rfl (o_ (Ba 2 (Fn [(6,iV p139),(11,iV p140),(72,.bool (decide (p140<(a0.Ab.length:Int))))]) (Fe a0 a1 [(320,Ao p64 p65 u_ p66 (Ai 961) p141 u_ p142 r1.An)]) (Ch h1 (fun c171 h1=>?_) (fun c171 h1=>?_)))))))))))))
   ·refine Lr 3 (Jk (fun S=>∃p190:Int,∃p191:List Aj,∃p192:List Int,S=⟨Fn [(6,iV p190),(11,iV p140)],Fe a0 a1 [(320,Ao p64 p65 u_ p66 (Ai 961) p191 u_ p192 r1.An)],[]⟩∧Tf p140 p190 p191 p192=some o1) ?_ (fun J193=>?_))
    ·rintro _ ⟨p190,p191,p192,rfl,h1⟩
     refine eF (As (st (Cj rfl tv (st (c_ (Bl t3 rfl tv) (st (Cj rfl tv (Ha ?_))))))))
     obtain rfl:=sj h1
     exact kn hK1 rfl rfl
    ·refine Bt ?_
     refine Bt (As (st (c_ (Bl ⟨tv,tv⟩ rfl tv) (st (c_ (Bl ⟨tv,tv⟩ rfl (nl rfl)) (st (Cj rfl tv (bb h1 fun y194 e195 h1=>Nr rfl rfl e195 (o_ (Ba 4 (Fn [(6,iV p139),(11,iV p140),(81,.bool (!y194.Ji))]) (Fe a0 a1 [(320,Ao p64 p65 u_ p66 (Ai 961) p141 u_ p142 r1.An)]) (Ch h1 (fun c196 h1=>?_) (fun c196 h1=>?_))))))))))))
     ·refine ex_ rfl ?_
      exact jn J193 ⟨_,_,_,rfl,h1⟩
     ·refine Lr 3 (bb h1 fun y197 e198 h1=>bb h1 fun r199 e200 h1=>bb h1 fun r201 e202 h1=>Bd (Ak tv (c_ (Bl ⟨tv,tv⟩ rfl tv) (⟨tv,Ak tv (c_ (Bl ⟨tv,tv⟩ rfl (nl rfl)) (⟨tv,Ak tv (c_ (Bl ⟨tv,tv⟩ rfl tv) (⟨tv,Ak tv (c_ (Bl ⟨tv,tv⟩ rfl (nl rfl)) (⟨tv,Ak tv (Cj rfl tv (⟨tv,d_ (sI rfl rfl rfl e198 (Bd (Ak tv (c_ (Bl ⟨tv,tv⟩ rfl (nl rfl)) (⟨tv,Ak tv (c_ (Bl ⟨tv,tv⟩ rfl (nl rfl)) (⟨tv,Ak tv (c_ (v:=.agg (Am a1)) (Bl ⟨tv,tv⟩ rfl (nl rfl)) (⟨tv,Ak tv (Cj rfl tv (⟨tv,Gh (H145 a1 p139 r199 e200) rfl (dw [(2,.ptr 128 0),(3,.ptr 192 0),(4,.ptr 256 0),(5,.ptr 320 0),(6,iV p139),(11,iV p140),(83,.ptr 320 4),(84,lI p142),(85,.ptr 128 3),(86,Bm a0.Ab),(87,iV p140),(88,.iptr (Bq y197)),(89,.iptr (Bq y197)),(90,iV y197.Ay),(93,iV r199)] [(128,Au a0),(192,Am a1),(256,Ao 0 0 (Ai 259) [] (Ai 260) [] (Ai 261) [] false),(320,Ao p64 p65 u_ p66 (Ai 961) p141 u_ p142 r1.An)] ⟨⟨.inl tv,Bs (Bl ⟨tv,tv⟩ rfl (nl rfl)) rfl⟩,⟨.inl tv,Bs (Bl ⟨tv,tv⟩ rfl (nl rfl)) rfl⟩,⟨.inl tv,Bs (cj_ rfl rfl e198) rfl⟩,⟨.inl tv,Bs (Dm (v:=iV p140) rfl tv) rfl⟩,⟨.inl tv,Bs (Bl ⟨tv,tv⟩ rfl (nl rfl)) rfl⟩,⟨.inl tv,Bs (Bl ⟨tv,tv⟩ rfl tv) rfl⟩,⟨.inl tv,Bs (Bl ⟨tv,tv⟩ rfl (nl rfl)) rfl⟩,⟨.inl tv,Bs (Bl ⟨tv,tv⟩ rfl tv) rfl⟩,tv⟩ (Az (Ci (r:=.tup [lI r201.1,iV r201.2]) true (H86 p142 y197.Ay false r199 r201 e202) ⟨tv,tv,tv,tv,tv⟩ rfl rfl (fun h=>nomatch h) (dw [(2,.ptr 128 0),(3,.ptr 192 0),(4,.ptr 256 0),(5,.ptr 320 0),(6,iV p139),(11,iV p140),(94,.tup [lI r201.1,iV r201.2])] [(128,Au a0),(192,Am a1),(256,Ao 0 0 (Ai 259) [] (Ai 260) [] (Ai 261) [] false),(320,Ao p64 p65 u_ p66 (Ai 961) p141 u_ p142 r1.An)] tv (Ak tv (Cj rfl tv (⟨tv,Ak tv (c_ (Bl ⟨tv,tv⟩ rfl tv) (⟨tv,Ak tv (c_ (Bl ⟨tv,tv⟩ rfl tv) (⟨tv,?_⟩))⟩))⟩))))) Aq)) Aq⟩))⟩))⟩))⟩)))))⟩))⟩))⟩))⟩))⟩))))
      refine d_ (Ba 21 (Fn [(6,iV (wi (p139+1))),(11,iV p140),(102,.bool (r201.2==0))]) (Fe a0 a1 [(320,Ao p64 p65 u_ p66 (Ai 961) p141 u_ r201.1 r1.An)]) (Ld (cb:=(r201.2==0)) (fun S=>∃p208:List Aj,S=⟨Fn [(6,iV (wi (p139+1))),(11,iV p140)],Fe a0 a1 [(320,Ao p64 p65 u_ p66 (Ai 7104) p208 u_ r201.1 r1.An)],[]⟩∧Qp a1 r1 p64 p65 p66 p139 p140 r201 p208=some o1) rfl ?_ (fun c213 J212=>?_) (fun c213 J212=>?_)))
      ·rintro _ ⟨p208,rfl,h1⟩
       refine Ba 6 (Fn [(6,iV (wi (p139+1))),(11,iV p140),(115,.bool (a1.stop==2))]) (Fe a0 a1 [(320,Ao p64 p65 u_ p66 (Ai 7104) p208 u_ r201.1 r1.An)]) (Ch h1 (fun c209 h1=>?_) (fun c209 h1=>?_))
       ·refine Bt (As (st (c_ (v:=.agg (Ao p64 p65 u_ p66 (Ai 7104) p208 u_ r201.1 r1.An)) (Bl ⟨tv,tv⟩ rfl (nl rfl)) (bb h1 fun r210 e211 h1=>st (Ci (r:=.agg (Al r210 (Ai 0) (Ai 1) (Ai 2))) false (H133 (Ap.mk (Ar.mk p64 p65 p66) p208 r201.1 r1.An) r210 e211) ⟨tv,tv⟩ rfl rfl (fun _=>(ar (At rfl (af (af (af (At rfl rfl))))))) (o_ ?_))))))
        obtain rfl:=sj h1
        obtain rfl:=hx1 _ rfl
        obtain rfl:=sj h0
        exact Wv 3 hR1 [7488,7490]
       ·refine Lc (Su ?_)
        exact J193 _ _ (eV [] [(7104,961)] rfl (by kernel_rfl)) ⟨_,_,_,rfl,h1⟩
      ·replace h1:=ip c213 h1
       refine bb h1 fun y214 e215 h1=>bb h1 fun r216 e217 h1=>Bd (Ak tv (c_ (Bl ⟨tv,tv⟩ rfl tv) (⟨tv,Ak tv (c_ (Bl ⟨tv,tv⟩ rfl (nl rfl)) (⟨tv,Ak tv (c_ (Bl ⟨tv,tv⟩ rfl tv) (⟨tv,Ak tv (c_ (Bl ⟨tv,tv⟩ rfl (nl rfl)) (⟨tv,Ak tv (Cj rfl tv (⟨tv,d_ (sI rfl rfl rfl e215 (Bd (Ak tv (c_ (Bl ⟨tv,tv⟩ rfl (nl rfl)) (⟨tv,Ak tv (c_ (Bl ⟨tv,tv⟩ rfl (nl rfl)) (⟨tv,Gh (H146 p141 y214.Ay r216 e217) (af rfl) (dw [(2,.ptr 128 0),(3,.ptr 192 0),(4,.ptr 256 0),(5,.ptr 320 0),(6,iV (wi (p139+1))),(11,iV p140),(111,Bo 7104 r216)] [(128,Au a0),(192,Am a1),(256,Ao 0 0 (Ai 259) [] (Ai 260) [] (Ai 261) [] false),(320,Ao p64 p65 u_ p66 (Ai 961) p141 u_ r201.1 r1.An)] tv (Ak tv (c_ (Bl ⟨tv,tv⟩ rfl tv) (⟨tv,Az (Cl rfl rfl tv rfl rfl rfl (nl rfl) (d0 tv (Hc ?_))) Aq⟩)))) Aq⟩))⟩)))))⟩))⟩))⟩))⟩))⟩)))
       exact jn J212 ⟨_,rfl,h1⟩
      ·replace h1:=aB c213 h1
       refine Lc ?_
       exact J212 _ _ (eV [] [(961,7104)] rfl (by kernel_rfl)) ⟨_,rfl,h1⟩
   ·obtain rfl:=sj h1
    obtain rfl:=hx1 _ rfl
    refine Hq rfl ?_
    exact jn hE1 ⟨_,_,rfl,rfl⟩
 ·rintro ⟨p27,p28,p29,p30,p31,p32⟩ o1 _ K1 rfl h1 hx1 hK1 hE1 hR1
  refine Bt (Bt (As (st (Cj rfl tv (st (c_ (Bl ⟨tv,tv⟩ rfl tv) (st (c_ (Bl ⟨tv,tv⟩ rfl tv) (st (c_ (Bl ⟨tv,tv⟩ rfl (nl rfl)) (Jr rfl (o_ (Ba 2 (Fn [(6,iV p27),(7,iV p28),(21,.bool (decide (p28<(a0.Ac.Ae.length:Int))))]) (Fe a0 a1 [(320,Ao p29 p30 u_ p31 (Ai 961) r1.Ab u_ p32 r1.An)]) (Ch h1 (fun c68 h1=>?_) (fun c68 h1=>?_)))))))))))))))
  ·refine Lr 3 (Jk (fun S=>∃p87:Int,∃p88:Int,∃p89:Int,∃p90:List Aa,∃p91:List Int,S=⟨Fn [(6,iV p87),(7,iV p28)],Fe a0 a1 [(320,Ao p88 p89 u_ p90 (Ai 961) r1.Ab u_ p91 r1.An)],[]⟩∧Te p28 p87 p88 p89 p90 p91=some o1) ?_ (fun J92=>?_))
   ·rintro _ ⟨p87,p88,p89,p90,p91,rfl,h1⟩
    refine eF (As (st (Cj rfl tv (st (c_ (Bl t3 rfl tv) (st (Cj rfl tv (Ha ?_))))))))
    obtain rfl:=sj h1
    exact kn hK1 rfl rfl
   ·refine Bt ?_
    refine As (st (c_ (Bl ⟨tv,tv⟩ rfl tv) (st (c_ (Bl ⟨tv,tv⟩ rfl tv) (st (c_ (Bl ⟨tv,tv⟩ rfl (nl rfl)) (st (Cj rfl tv (bb h1 fun y93 e94 h1=>Nr rfl rfl e94 (o_ (Ba 4 (Fn [(6,iV p27),(7,iV p28),(8,iV y93.id)]) (Fe a0 a1 [(320,Ao p29 p30 u_ p31 (Ai 961) r1.Ab u_ p32 r1.An)]) (Bt (Bt (As (st (c_ (Bl ⟨tv,tv⟩ rfl tv) (st (c_ (Bl ⟨tv,tv⟩ rfl tv) (st (c_ (Bl ⟨tv,tv⟩ rfl (nl rfl)) (st (Cj rfl tv (bb h1 fun y95 e96 h1=>Nr rfl rfl e96 (o_ (Ba 4 (Fn [(6,iV p27),(7,iV p28),(8,iV y93.id),(38,.bool (!y95.Bz))]) (Fe a0 a1 [(320,Ao p29 p30 u_ p31 (Ai 961) r1.Ab u_ p32 r1.An)]) (Ch h1 (fun c97 h1=>?_) (fun c97 h1=>?_)))))))))))))))))))))))))))
    ·refine ex_ rfl ?_
     exact jn J92 ⟨_,_,_,_,_,rfl,h1⟩
    ·refine Lr 3 (bb h1 fun r98 e99 h1=>bb h1 fun r100 e101 h1=>Bd (Ak tv (c_ (Bl ⟨tv,tv⟩ rfl tv) (⟨tv,Ak tv (c_ (Bl ⟨tv,tv⟩ rfl (nl rfl)) (⟨tv,Ak tv (Cj rfl tv (⟨tv,Ak tv (c_ (v:=.agg (Am a1)) (Bl ⟨tv,tv⟩ rfl (nl rfl)) (⟨tv,Ak tv (Cj rfl tv (⟨tv,Gh (H145 a1 p27 r98 e99) rfl (dw [(2,.ptr 128 0),(3,.ptr 192 0),(4,.ptr 256 0),(5,.ptr 320 0),(6,iV p27),(7,iV p28),(8,iV y93.id),(40,.ptr 320 4),(41,lI p32),(42,iV y93.id),(45,iV r98)] [(128,Au a0),(192,Am a1),(256,Ao 0 0 (Ai 259) [] (Ai 260) [] (Ai 261) [] false),(320,Ao p29 p30 u_ p31 (Ai 961) r1.Ab u_ p32 r1.An)] hB (Az (Ci (r:=.tup [lI r100.1,iV r100.2]) true (H86 p32 y93.id false r98 r100 e101) ⟨tv,tv,tv,tv,tv⟩ rfl rfl (fun h=>nomatch h) (dw [(2,.ptr 128 0),(3,.ptr 192 0),(4,.ptr 256 0),(5,.ptr 320 0),(6,iV p27),(7,iV p28),(8,iV y93.id),(46,.tup [lI r100.1,iV r100.2])] [(128,Au a0),(192,Am a1),(256,Ao 0 0 (Ai 259) [] (Ai 260) [] (Ai 261) [] false),(320,Ao p29 p30 u_ p31 (Ai 961) r1.Ab u_ p32 r1.An)] tv (d_ (Ba 6 (Fn [(6,iV p27),(7,iV p28),(8,iV y93.id),(9,lI r100.1),(10,iV r100.2)]) (Fe a0 a1 [(320,Ao p29 p30 u_ p31 (Ai 961) r1.Ab u_ p32 r1.An)]) (Bt (As (st (Cj rfl tv (st (c_ (Bl t3 rfl tv) ?_)))))))))) Aq)) Aq⟩))⟩))⟩))⟩))⟩))))
     refine o_ (Ba 14 (Fn [(6,iV (wi (p27+1))),(7,iV p28),(8,iV y93.id),(54,.bool (r100.2==0))]) (Fe a0 a1 [(320,Ao p29 p30 u_ p31 (Ai 961) r1.Ab u_ r100.1 r1.An)]) (Ld (cb:=(r100.2==0)) (fun S=>∃p105:Int,∃p106:Int,∃p107:List Aa,S=⟨Fn [(6,iV (wi (p27+1))),(7,iV p28)],Fe a0 a1 [(320,Ao p105 p106 u_ p107 (Ai 961) r1.Ab u_ r100.1 r1.An)],[]⟩∧Qo a1 r1 p27 p28 r100 p105 p106 p107=some o1) rfl ?_ (fun iE J111=>?_) (fun iE J111=>?_)))
     ·rintro _ ⟨p105,p106,p107,rfl,h1⟩
      refine Ba 6 (Fn [(6,iV (wi (p27+1))),(7,iV p28),(65,.bool (a1.stop==2))]) (Fe a0 a1 [(320,Ao p105 p106 u_ p107 (Ai 961) r1.Ab u_ r100.1 r1.An)]) (Ch h1 (fun IS h1=>?_) (fun IS h1=>?_))
      ·refine Bt (As (st (c_ (v:=.agg (Ao p105 p106 u_ p107 (Ai 961) r1.Ab u_ r100.1 r1.An)) (Bl ⟨tv,tv⟩ rfl (nl rfl)) (bb h1 fun r109 e110 h1=>st (Ci (r:=.agg (Al r109 (Ai 0) (Ai 1) (Ai 2))) false (H133 (Ap.mk (Ar.mk p105 p106 p107) r1.Ab r100.1 r1.An) r109 e110) ⟨tv,tv⟩ rfl rfl (fun _=>(ar (At rfl (af (af (af (At rfl rfl))))))) (o_ ?_))))))
       obtain rfl:=sj h1
       obtain rfl:=hx1 _ rfl
       obtain rfl:=sj h0
       exact Wv 3 hR1 [4288,4290]
      ·refine Lc (Su ?_)
       exact jn J92 ⟨_,_,_,_,_,rfl,h1⟩
     ·replace h1:=ip iE h1
      refine As (st (c_ (Bl ⟨tv,tv⟩ rfl tv) (st (c_ (v:=.agg (Br p29 p30 u_ p31)) (Bl ⟨tv,tv⟩ rfl (nl rfl)) (st (Cj rfl tv (bb h1 fun r113 e114 h1=>st (Ci (r:=.tup [.agg (Bb r113.1),iV r113.2]) true (H76 (Ar.mk p29 p30 p31) y93.id r113 e114) ⟨tv,tv,tv⟩ rfl rfl (fun h=>nomatch h) (st (Cj rfl tv (st (c_ (Bl ⟨tv,tv⟩ rfl tv) (st (c_ (Bl ⟨tv,tv⟩ rfl tv) (st (c_ (Bl ⟨tv,tv⟩ rfl tv) (st (Cl rfl rfl tv rfl rfl rfl (nl rfl) (Ha ?_)))))))))))))))))))
      exact jn J111 ⟨_,_,_,rfl,h1⟩
     ·replace h1:=aB iE h1
      refine Lc ?_
      exact jn J111 ⟨_,_,_,rfl,h1⟩
  ·obtain rfl:=sj h1
   obtain rfl:=hx1 _ rfl
   refine Hq rfl ?_
   exact jn hE1 ⟨_,_,_,_,_,rfl,rfl⟩

/- loop.example/g00149/spec.l09Step -/
def HF:=[X_ 2 0,X_ 3 1,a_ 4 (zV 259 260 261),a_ 5 [iV 0,iV 0]]
def HG:=[f_ 11 3 0,l_ 12 11 1,q_ 13 56 [.t 12,.c (iV 1),.c (iV 6)],N_ 14 13,m_ 10 14]
def HH:List Cd:=[L_ 15 2 6,⟨some 16,.p (.build [iV 0,iV 0] [(0,1,.c (iV 16))]),none⟩,s_ 4 15 6,s_ 5 16 2]
def HI:=[f_ 18 2 5,l_ 19 18 1,m_ 20 19,fT 20 21 3 0,lT 20 22 21 1 false,pT 20 23 (.bin .neq (.t 22) (.c (iV 6))),pa 24 20 23,m_ 17 24]
def HJ:List Cd:=[L_ 25 2 6,⟨some 26,.p (.build [iV 0,iV 0] [(0,1,.c (iV 14))]),none⟩,s_ 4 25 6,s_ 5 26 2]
def HK:=[f_ 27 2 0,L_ 28 27 3,a_ 6 (zT 387),s_ 6 28 3]
def HL:=[i_ 7 0]
def HM:=[L_ 29 2 6,q_ 30 102 [.t 29],a_ 8 (zV 515 516 517),s_ 8 30 6]
def HN:=[f_ 31 3 0,l_ 32 31 1]
def HO:=[B_ .eql 34 32 1,m_ 33 34]
def tE:=[L_ 35 2 6,L_ 36 3 7,q_ 37 132 [.t 35,.t 36],e_ 38 37 0,e_ 39 37 1,s_ 4 38 6,s_ 5 39 2]
def tF:=[B_ .eql 41 32 2,m_ 40 41]
def tG:=[f_ 43 2 0,L_ 44 43 3,f_ 45 3 1,l_ 46 45 1,f_ 47 3 2,l_ 48 47 1,q_ 49 79 [.t 44,.t 46,.t 48],m_ 42 49,e_ 50 42 0,e_ 51 42 1,s_ 6 50 3,m_ 7 51]
def tH:=[L_ 52 6 3,f_ 53 8 0,s_ 53 52 3]
def tI:=[B_ .eql 55 32 3,m_ 54 55]
def tJ:=[f_ 57 2 0,L_ 58 57 3,f_ 59 3 1,l_ 60 59 1,q_ 61 74 [.t 58,.t 60],m_ 56 61,e_ 62 56 0,e_ 63 56 1,s_ 6 62 3,m_ 7 63]
def tK:=[L_ 64 6 3,f_ 65 8 0,s_ 65 64 3]
def tL:=[B_ .eql 67 32 4,m_ 66 67]
def tM:=[f_ 69 2 0,L_ 70 69 3,f_ 71 3 4,l_ 72 71 1,q_ 73 81 [.t 70,.t 72],m_ 68 73,e_ 74 68 0,e_ 75 68 1,f_ 76 8 0,s_ 76 74 3]
def tN:=[f_ 77 3 6,l_ 78 77 1,B_ .eql 79 78 1]
def tO:List Cd:=[L_ 80 8 6,q_ 81 133 [.t 80],⟨some 82,.p (.build [iV 0,iV 0] [(0,1,.c (iV 15))]),none⟩,s_ 4 81 6,s_ 5 82 2]
def tP:=[L_ 83 8 6,a_ 9 (zV 579 580 581),s_ 9 83 6]
def tQ:=[L_ 84 8 6,L_ 85 3 7,q_ 86 134 [.t 84,.t 85],s_ 8 86 6]
def tR:=[f_ 87 8 5,l_ 88 87 1,m_ 89 88,fT 89 90 9 5,lT 89 91 90 1 false,pT 89 92 (.un .not (.t 91)),pa 93 89 92]
def tS:List Cd:=[L_ 94 8 6,⟨some 95,.p (.build [iV 0,iV 0] [(0,1,.c (iV 15))]),none⟩,s_ 4 94 6,s_ 5 95 2]
def tT:=[B_ .eql 97 32 5,m_ 96 97]
def tU:List Cd:=[f_ 98 8 5,⟨none,.store (.t 98) (.c (.bool true)) 1,none⟩]
def tV:=[B_ .eql 100 32 6,m_ 99 100]
def tW:List Cd:=[f_ 101 8 5,⟨none,.store (.t 101) (.c (.bool false)) 1,none⟩]
def tX:=[m_ 102 7,B_ .neq 103 102 0]
def tY:List Cd:=[L_ 104 2 6,m_ 105 7,⟨some 106,.p (.build [iV 0,iV 0] [(0,1,.t 105)]),none⟩,s_ 4 104 6,s_ 5 106 2]
def tZ:=[L_ 107 8 6,iQ 108 (.build [iV 0,iV 0] []),s_ 4 107 6,s_ 5 108 2]
def c101:Cz:=⟨2,109,[.cell 4 6 true,.cell 5 2 true],sr HF (.seq (.block 0 (sr HG (.ite (.t 10) (rr HH) (sr HI (iz 17 (rr HJ)))))) (sr HK (sr HL (sr HM (.seq (sr HN (.block 1 (sr HO (.ite (.t 33) (rr tE) (sr tF (.ite (.t 40) (sr tG (.reg tH)) (sr tI (.ite (.t 54) (sr tJ (.reg tK)) (sr tL (.ite (.t 66) (sr tM (.seq (sr tN (iz 79 (rr tO))) (sr tP (sr tQ (sr tR (iz 93 (rr tS))))))) (sr tT (.ite (.t 96) (.reg tU) (sr tV (iz 99 (.reg tW))))))))))))))) (.seq (sr tX (iz 103 (rr tY))) (rr tZ)))))))⟩
def K101 (D:Bj):Prop:=∀a0 a1 r,BY a0 a1=some r→D 101 ⟨[.agg (Au a0),.agg (Am a1)],[]⟩ ⟨.tup [.agg (Au r.1),.agg (Af r.2)],[],[]⟩
abbrev Gg:=fun x0 (r:List (Nat×List V))=>(128,Au x0)::(256,Ao 0 0 (Ai 259) [] (Ai 260) [] (Ai 261) [] false)::(320,[iV 0,iV 0])::r
abbrev Il:=fun (r:List (Nat×V))=>(2,.ptr 128 0)::(4,.ptr 256 0)::(5,.ptr 320 0)::(8,.ptr 512 0)::r
abbrev gC:=fun (r:List (Nat×V))=>(2,.ptr 128 0)::(3,.ptr 192 0)::(4,.ptr 256 0)::(5,.ptr 320 0)::r
theorem F101 (H56:K56 C) (H74:K74 C) (H79:K79 C) (H81:K81 C) (H102:kS C) (H132:K132 C) (H133:sT C) (H134:K134 C):K101 (FO C c101):=by
 intro a0 a1 r h0
 refine f0 (Ba 6 (gC []) (Gg a0 [(192,Am a1)]) (Ax 5 (As (bb h0 fun r1 e2 h0=>Jj (H56 a1.kind 1 6 r1 e2) (o_ (Ba 3 (gC [(10,.bool (!r1))]) (Gg a0 [(192,Am a1)]) (Ch h0 (fun c3 h0=>?_) (fun c3 h0=>?_))))))))
 ·refine Ax 2 (As (st (c_ (v:=.agg [iV 16,iV 0]) (Bl ⟨tv,tv⟩ rfl ⟨⟨rfl,rfl,nl rfl⟩,tv⟩) (o_ ?_))))
  obtain rfl:=sj h0
  exact Cn 4
 ·refine sR 10 (gC [(17,.bool (bif a0.An then (a1.kind != 6) else false))]) (Gg a0 [(192,Am a1)]) (Ch h0 (fun c4 h0=>?_) (fun c4 h0=>?_))
  ·refine Ax 2 (As (st (c_ (v:=.agg [iV 14,iV 0]) (Bl ⟨tv,tv⟩ rfl ⟨⟨rfl,rfl,nl rfl⟩,tv⟩) (o_ ?_))))
   obtain rfl:=sj h0
   exact Cn 4
  ·refine Ba 13 (gC [(6,.ptr 384 0),(7,iV 0)]) (Gg a0 [(192,Am a1),(384,Bb a0.Ac)]) (Ax 2 (As (bb h0 fun r5 e6 h0=>Qf (H102 a0 r5 e6) (ar (At rfl (af (af (af (At rfl rfl)))))) (o_ (Ba 9 (Il [(3,.ptr 192 0),(6,.ptr 384 0),(7,iV 0),(32,iV a1.kind)]) (Gg a0 [(192,Am a1),(384,Bb a0.Ac),(512,Al r5 (Ai 1920) (Ai 1921) (Ai 1922))]) (Jk (fun S=>∃p27:Int,∃p28:Int,∃p29:Int,∃p30:List Aa,∃p31:List Aj,∃p32:List Int,∃p33:Bool,S=⟨Il [(7,iV p27)],Gg a0 [(512,Ao p28 p29 u_ p30 (Ai 1921) p31 u_ p32 p33)],[]⟩∧Hn a0 p27 p28 p29 p30 p31 p32 p33=some r) ?_ (fun J35=>?_)))))))
   ·rintro _ ⟨p27,p28,p29,p30,p31,p32,p33,rfl,h0⟩
    refine Ba 6 (Il [(7,iV p27),(103,.bool (p27 != 0))]) (Gg a0 [(512,Ao p28 p29 u_ p30 (Ai 1921) p31 u_ p32 p33)]) (Ch h0 (fun c34 h0=>?_) (fun c34 h0=>?_))
    ·refine Ax 3 (As (st (c_ (v:=.agg [iV p27,iV 0]) (Bl ⟨tv,tv⟩ rfl ⟨⟨rfl,rfl,nl rfl⟩,tv⟩) (o_ ?_))))
     obtain rfl:=sj h0
     exact Cn 4
    ·obtain rfl:=sj h0
     exact Cn 9 [1921]
   ·refine Bt ?_
    refine Ba 3 (Il [(3,.ptr 192 0),(6,.ptr 384 0),(7,iV 0),(32,iV a1.kind),(33,.bool (a1.kind==1))]) (Gg a0 [(192,Am a1),(384,Bb a0.Ac),(512,Al r5 (Ai 1920) (Ai 1921) (Ai 1922))]) (Ch h0 (fun sP h0=>?_) (fun sP h0=>?_))
    ·refine Ax 3 (As (bb h0 fun r37 e38 h0=>st (Ci (r:=.tup [.agg (Au r37.1),.agg (Af r37.2)]) true (H132 a0 a1 r37 e38) ⟨tv,tv,tv⟩ rfl rfl (fun h=>nomatch h) (o_ ?_))))
     obtain rfl:=sj h0
     exact Cn 6
    ·refine Ba 4 (Il [(3,.ptr 192 0),(6,.ptr 384 0),(7,iV 0),(32,iV a1.kind),(40,.bool (a1.kind==2))]) (Gg a0 [(192,Am a1),(384,Bb a0.Ac),(512,Al r5 (Ai 1920) (Ai 1921) (Ai 1922))]) (Ch h0 (fun c39 h0=>?_) (fun c39 h0=>?_))
     ·refine Ax 7 (As (bb h0 fun r40 e41 h0=>st (Ci (r:=.tup [.agg (Bb r40.1),iV r40.2]) true (H79 a0.Ac a1.id a1.ttl r40 e41) ⟨tv,tv,tv,tv⟩ rfl rfl (fun h=>nomatch h) (o_ (Ba 6 (Il [(6,.ptr 384 0),(7,iV r40.2)]) (Gg a0 [(384,Bb r40.1),(512,Al r5 (Ai 1920) (Ai 1921) (Ai 1922))]) (Ax 5 ?_))))))
      exact J35 _ _ (qP [1922] (by kernel_rfl)) ⟨_,_,_,_,_,_,_,rfl,h0⟩
     ·refine Ba 4 (Il [(3,.ptr 192 0),(6,.ptr 384 0),(7,iV 0),(32,iV a1.kind),(54,.bool (a1.kind==3))]) (Gg a0 [(192,Am a1),(384,Bb a0.Ac),(512,Al r5 (Ai 1920) (Ai 1921) (Ai 1922))]) (Ch h0 (fun c42 h0=>?_) (fun c42 h0=>?_))
      ·refine Ax 5 (As (bb h0 fun r43 e44 h0=>st (Ci (r:=.tup [.agg (Bb r43.1),iV r43.2]) true (H74 a0.Ac a1.id r43 e44) ⟨tv,tv,tv⟩ rfl rfl (fun h=>nomatch h) (o_ (Ba 6 (Il [(6,.ptr 384 0),(7,iV r43.2)]) (Gg a0 [(384,Bb r43.1),(512,Al r5 (Ai 1920) (Ai 1921) (Ai 1922))]) (Ax 5 ?_))))))
       exact J35 _ _ (qP [1922] (by kernel_rfl)) ⟨_,_,_,_,_,_,_,rfl,h0⟩
      ·refine Ba 4 (Il [(3,.ptr 192 0),(7,iV 0),(32,iV a1.kind),(66,.bool (a1.kind==4))]) (Gg a0 [(192,Am a1),(512,Al r5 (Ai 1920) (Ai 1921) (Ai 1922))]) (Ch h0 (fun oC h0=>?_) (fun oC h0=>?_))
       ·refine Ax 5 (As (bb h0 fun r46 e47 h0=>Qf (H81 a0.Ac a1.clock r46 e47) (ar (At rfl (af (af rfl)))) (o_ (Ba 13 (Il [(3,.ptr 192 0),(7,iV 0),(79,.bool (a1.stop==1))]) (Gg a0 [(192,Am a1),(512,Ao r46.1.clock r46.1.next (Ai 4672) r46.1.Ae (Ai 1921) r5.Ab (Ai 1922) r5.Ah r5.An)]) (Ch h0 (fun c48 h0=>?_) (fun c48 h0=>?_))))))
        ·refine Ax 2 (As (bb h0 fun r49 e50 h0=>Qf (H133 (Ap.mk r46.1 r5.Ab r5.Ah r5.An) r49 e50) (ar (At rfl (af (af (af (At rfl rfl)))))) (st (c_ (v:=.agg [iV 15,iV 0]) (Bl ⟨tv,tv⟩ rfl ⟨⟨rfl,rfl,nl rfl⟩,tv⟩) (o_ ?_)))))
         obtain rfl:=sj h0
         exact Cn 4 [5184,5185,5186]
        ·refine Ba 7 (Il [(3,.ptr 192 0),(7,iV 0),(9,.ptr 576 0)]) (Gg a0 [(192,Am a1),(512,Ao r46.1.clock r46.1.next (Ai 4672) r46.1.Ae (Ai 1921) r5.Ab (Ai 1922) r5.Ah r5.An),(576,Ao r46.1.clock r46.1.next (Ai 4672) r46.1.Ae (Ai 1921) r5.Ab (Ai 1922) r5.Ah r5.An)]) (Ax 3 (As (bb h0 fun r51 e52 h0=>st (Ci (r:=.agg (Al r51 u_ (Ai 0) u_)) true (H134 (Ap.mk r46.1 r5.Ab r5.Ah r5.An) a1 r51 e52) ⟨tv,tv,tv⟩ rfl rfl (fun h=>nomatch h) (o_ (sR 12 (Il [(7,iV 0),(93,.bool (bif r51.An then (!r5.An) else false))]) (Gg a0 [(512,Al r51 u_ (Ai 5504) u_)]) (Ch h0 (fun c53 h0=>?_) (fun c53 h0=>?_))))))))
         ·refine Ax 2 (As (st (c_ (v:=.agg [iV 15,iV 0]) (Bl ⟨tv,tv⟩ rfl ⟨⟨rfl,rfl,nl rfl⟩,tv⟩) (o_ ?_))))
          obtain rfl:=sj h0
          exact Cn 4 [5504]
         ·refine Lc (Su ?_)
          exact J35 _ _ (eV [] [(5504,1921)] rfl (by kernel_rfl)) ⟨_,_,_,_,_,_,_,rfl,h0⟩
       ·refine Ba 4 (Il [(7,iV 0),(32,iV a1.kind),(96,.bool (a1.kind==5))]) (Gg a0 [(512,Al r5 (Ai 1920) (Ai 1921) (Ai 1922))]) (Ch h0 (fun c54 h0=>?_) (fun c54 h0=>?_))
        ·refine Ax 4 ?_
         exact J35 _ _ (qP [1920,1922] (by kernel_rfl)) ⟨_,_,_,_,_,_,_,rfl,h0⟩
        ·refine Ba 4 (Il [(7,iV 0),(99,.bool (a1.kind==6))]) (Gg a0 [(512,Al r5 (Ai 1920) (Ai 1921) (Ai 1922))]) (Ch h0 (fun c55 h0=>?_) (fun c55 h0=>?_))
         ·refine Ax 4 ?_
          exact J35 _ _ (qP [1920,1922] (by kernel_rfl)) ⟨_,_,_,_,_,_,_,rfl,h0⟩
         ·refine Lc (Su ?_)
          exact J35 _ _ (qP [1920,1922] (by kernel_rfl)) ⟨_,_,_,_,_,_,_,rfl,h0⟩

/- loop.example/g00149/spec.StepVault -/
def YY:=[X_ 2 0,X_ 3 1,a_ 4 (zV 259 260 261),a_ 5 [iV 0,iV 0],i_ 6 0]
def YZ:List Cd:=[L_ 9 2 6,q_ 10 46 [.t 9],N_ 11 10,m_ 12 11,lF 12 13 3 7 true,⟨some 14,.call 100 [.t 13],some (12,false)⟩,pF 12 15 (.un .not (.t 14)),po 16 12 15]
def ZA:=[iQ 17 (.build (zV 1091 1092 1093) []),iQ 18 (.build [iV 0,iV 0] []),s_ 4 17 6,s_ 5 18 2,i_ 6 1]
def ZB:=[L_ 20 2 6,L_ 21 3 7,q_ 22 101 [.t 20,.t 21],m_ 19 22,e_ 23 19 0,e_ 24 19 1,a_ 7 (zV 451 452 453),a_ 8 [iV 0,iV 0],s_ 7 23 6,s_ 8 24 2]
def ZC:=tk [L_ 25 7 6,L_ 27 8 2] (.alt [L_ 27 8 2] (q_ 26 102 [.t 25]) (.alt [L_ 27 8 2] (s_ 4 26 6) (.alt [] (s_ 5 27 2) (tk [i_ 6 0] .fin) .stop) .stop) .stop)
def c442:Cz:=⟨2,28,[.cell 4 6 true,.cell 5 2 true,.t 6],sr YY (.seq (sr YZ (iz 16 (rr ZA))) (sr ZB (sd ZC .ret)))⟩
def K442 (D:Bj):Prop:=∀a0 a1 r,Adv a0 a1=some r→D 442 ⟨[.agg (Au a0),.agg (Am a1)],[]⟩ ⟨.tup [.agg (Al r.1 (Ai 0) (Ai 1) (Ai 2)),.agg (Af r.2.1),iV r.2.2],[],[]⟩
abbrev mS:=fun (r:List (Nat×List V))=>(256,Ao 0 0 (Ai 259) [] (Ai 260) [] (Ai 261) [] false)::(320,[iV 0,iV 0])::r
theorem F442 (H46:K46 C) (H100:K100 C) (H101:K101 C) (H102:kS C):K442 (FO C c442):=by
 intro a0 a1 r h0
 refine f0 (Ba 7 [(2,.ptr 128 0),(3,.ptr 192 0),(4,.ptr 256 0),(5,.ptr 320 0)] (mS [(128,Au a0),(192,Am a1)]) (Ax 3 (As (bb h0 fun r1 e2 h0=>Jj (H46 a0 r1 e2) (o_ (bS 3 (As (bb h0 fun r3 e4 h0=>st (Eh (r:=.bool r3) rfl false (fun hg=>H100 a1 r3 (ip hg e4)) ⟨(fun hg=>hg),tv⟩ (fun _=>rfl) (fun _=>rfl) (fun _=>rfl) (fun h=>nomatch h) (o_ (sR 3 [(2,.ptr 128 0),(3,.ptr 192 0),(4,.ptr 256 0),(5,.ptr 320 0),(16,.bool (bif (!r1) then true else (!r3)))] (mS [(128,Au a0),(192,Am a1)]) (Ch h0 (fun c5 h0=>?_) (fun c5 h0=>?_)))))))))))))
 ·obtain rfl:=sj h0
  exact Cn 8
 ·refine Ax 5 (As (bb h0 fun r6 e7 h0=>st (Ci (r:=.tup [.agg (Au r6.1),.agg (Af r6.2)]) true (H101 a0 a1 r6 e7) ⟨tv,tv,tv⟩ rfl rfl (fun h=>nomatch h) (o_ (Ba 8 [(4,.ptr 256 0),(5,.ptr 320 0),(7,.ptr 448 0),(8,.ptr 512 0)] (mS [(448,Au r6.1),(512,Af r6.2)]) (Bt (bb h0 fun r8 e9 h0=>Ax 2 (Bd (Gh (H102 r6.1 r8 e9) (ar (At rfl (af (af (af (At rfl rfl)))))) (dw [(4,.ptr 256 0),(5,.ptr 320 0),(8,.ptr 512 0),(26,.agg (Al r8 (Ai 1664) (Ai 1665) (Ai 1666))),(27,.agg (Af r6.2))] [(256,Ao 0 0 (Ai 259) [] (Ai 260) [] (Ai 261) [] false),(320,[iV 0,iV 0]),(512,Af r6.2)] hB (Az (Cl rfl rfl tv rfl rfl rfl (nl rfl) (d0 hB (Az (Cl rfl rfl tv rfl rfl rfl (nl rfl) (d0 tv (d_ (Ba 2 [(4,.ptr 256 0),(5,.ptr 320 0),(6,iV 0)] [(256,Al r8 (Ai 1664) (Ai 1665) (Ai 1666)),(320,Af r6.2)] ?_)))) Aq))) Aq)) Aq)))))))))
  obtain rfl:=sj h0
  exact Ka (Dx rfl rfl rfl rfl rfl tv)

/- loop.example/g00149/laws.szVaultAct -/
def ZD:=[X_ 2 0,i_ 4 0]
def ZE:=[f_ 5 2 5,l_ 6 5 1,m_ 7 1,q_ 8 91 [.t 6,.t 7],m_ 1 8]
def ZF:=[m_ 9 1,B_ .lss 10 9 0]
def ZG:=[i_ 4 (-1)]
def ZH:=[m_ 11 1,m_ 4 11]
def c450:Cz:=⟨2,12,[.t 4],sr ZD (sr ZE (.seq (sr ZF (iz 10 (rr ZG))) (rr ZH)))⟩
def K450 (D:Bj):Prop:=∀a0 a1 r,Adw a0 a1=some r→D 450 ⟨[.agg (Am a0),iV a1],[]⟩ ⟨iV r,[],[]⟩
theorem F450 (H91:K91 C):K450 (FO C c450):=by
 intro a0 a1 r h0
 refine f0 (Ba 4 [(1,iV a1),(2,.ptr 128 0)] [(128,Am a0)] (Ax 4 (As (bb h0 fun r1 e2 h0=>Jj (H91 a0.Bu a1 r1 e2) (o_ (Ba 8 [(1,iV r1),(10,.bool (decide (r1<0)))] [] (Ch h0 (fun c3 h0=>?_) (fun c3 h0=>?_))))))))
 ·obtain rfl:=sj h0
  exact Cn 4
 ·obtain rfl:=sj h0
  exact Cn 7

/- loop.example/g00149/laws.toVaultAct -/
def ZI:=[X_ 1 0,a_ 2 [iV 0,iV 0,iV 0,iV 0,iV 0,.own 134 0 1 [],iV 0]]
def ZJ:=[a_ 3 [iV 0,iV 0,iV 0,iV 0,iV 0,.own 198 0 1 [],iV 0]]
def ZK:=[f_ 4 1 0,l_ 5 4 1,f_ 6 3 0,s_ 6 5 1]
def ZL:=[f_ 7 1 1,l_ 8 7 1,f_ 9 3 1,s_ 9 8 1]
def ZM:=[f_ 10 1 2,l_ 11 10 1,f_ 12 3 2,s_ 12 11 1]
def ZN:=[f_ 13 1 3,l_ 14 13 1,f_ 15 3 3,s_ 15 14 1]
def ZO:=[f_ 16 1 4,l_ 17 16 1,f_ 18 3 4,s_ 18 17 1]
def ZP:=[f_ 19 1 5,l_ 20 19 1,q_ 21 43 [.t 20],f_ 22 3 5,s_ 22 21 1]
def ZQ:=[f_ 23 1 6,l_ 24 23 1,f_ 25 3 6,s_ 25 24 1]
def ZR:=[L_ 26 3 7,s_ 2 26 7]
def c451:Cz:=⟨1,27,[.cell 2 7 true],sr ZI (sr ZJ (sr ZK (sr ZL (sr ZM (sr ZN (sr ZO (sr ZP (sr ZQ (rr ZR)))))))))⟩
def K451 (D:Bj):Prop:=∀a0 r,mB a0=some r→D 451 ⟨[.agg (Am a0)],[]⟩ ⟨.agg (Bi r (Ai 0)),[],[]⟩
theorem F451 (H43:K43 C):K451 (FO C c451):=by
 intro a0 r h0
 refine f0 (Ba 22 [(1,.ptr 64 0),(2,.ptr 128 0),(3,.ptr 192 0)] [(64,Am a0),(128,Iu 0 0 0 0 0 (Ai 134) [] 0),(192,Iu a0.kind a0.id 0 0 0 (Ai 198) [] 0)] (Ax 2 (As ?_)))
 refine o_ (Ba 18 [(1,.ptr 64 0),(2,.ptr 128 0),(3,.ptr 192 0)] [(64,Am a0),(128,Iu 0 0 0 0 0 (Ai 134) [] 0),(192,Iu a0.kind a0.id a0.ttl a0.Dr a0.clock (Ai 198) [] 0)] (Ax 3 (As (bb h0 fun r1 e2 h0=>Qf (H43 a0.Bu r1 e2) (af rfl) (o_ ?_)))))
 obtain rfl:=sj h0
 exact Cn 16

/- loop.example/g00149/laws.eqVaultReply -/
def ZS:=[X_ 2 0,X_ 3 1,k_ 4 (.bool false)]
def ZT:=[f_ 5 2 0,l_ 6 5 1,f_ 7 3 0,l_ 8 7 1,b_ .neq 9 6 8]
def ZU:=[k_ 4 (.bool false)]
def ZV:=[f_ 10 2 1,l_ 11 10 1,f_ 12 3 1,l_ 13 12 1,b_ .neq 14 11 13]
def ZW:=[k_ 4 (.bool false)]
def ZX:=[k_ 4 (.bool true)]
def c452:Cz:=⟨2,15,[.t 4],sr ZS (.seq (sr ZT (iz 9 (rr ZU))) (.seq (sr ZV (iz 14 (rr ZW))) (rr ZX)))⟩
def K452 (D:Bj):Prop:=∀a0 a1 r,rC a0 a1=some r→D 452 ⟨[.agg (Af a0),.agg (Af a1)],[]⟩ ⟨.bool r,[],[]⟩
theorem F452:K452 (FO C c452):=by
 intro a0 a1 r h0
 refine f0 (Ba 14 [(2,.ptr 128 0),(3,.ptr 192 0),(9,.bool (a0.code_ != a1.code_))] [(128,Af a0),(192,Af a1)] (Ch h0 (fun c1 h0=>?_) (fun c1 h0=>?_)))
 ·obtain rfl:=sj h0
  exact Cn 4
 ·refine Ba 10 [(14,.bool (a0.id != a1.id))] [] (Ch h0 (fun c2 h0=>?_) (fun c2 h0=>?_))
  ·obtain rfl:=sj h0
   exact Cn 4
  ·obtain rfl:=sj h0
   exact Cn 6

/- loop.example/g00149/laws.eqVaultAct -/
def ZY:=[X_ 2 0,X_ 3 1,k_ 4 (.bool false)]
def ZZ:=[f_ 5 2 0,l_ 6 5 1,f_ 7 3 0,l_ 8 7 1,b_ .neq 9 6 8]
def Aaa:=[k_ 4 (.bool false)]
def Aab:=[f_ 10 2 1,l_ 11 10 1,f_ 12 3 1,l_ 13 12 1,b_ .neq 14 11 13]
def Aac:=[k_ 4 (.bool false)]
def Aad:=[f_ 15 2 2,l_ 16 15 1,f_ 17 3 2,l_ 18 17 1,b_ .neq 19 16 18]
def Aae:=[k_ 4 (.bool false)]
def Aaf:=[f_ 20 2 3,l_ 21 20 1,f_ 22 3 3,l_ 23 22 1,b_ .neq 24 21 23]
def Aag:=[k_ 4 (.bool false)]
def Aah:=[f_ 25 2 4,l_ 26 25 1,f_ 27 3 4,l_ 28 27 1,b_ .neq 29 26 28]
def zR:=[k_ 4 (.bool false)]
def zS:=[f_ 30 2 5,l_ 31 30 1,f_ 32 3 5,l_ 33 32 1,q_ 34 36 [.t 31,.t 33],N_ 35 34]
def zU:=[k_ 4 (.bool false)]
def zW:=[f_ 36 2 6,l_ 37 36 1,f_ 38 3 6,l_ 39 38 1,b_ .neq 40 37 39]
def zX:=[k_ 4 (.bool false)]
def zY:=[k_ 4 (.bool true)]
def c453:Cz:=⟨2,41,[.t 4],sr ZY (.seq (sr ZZ (iz 9 (rr Aaa))) (.seq (sr Aab (iz 14 (rr Aac))) (.seq (sr Aad (iz 19 (rr Aae))) (.seq (sr Aaf (iz 24 (rr Aag))) (.seq (sr Aah (iz 29 (rr zR))) (.seq (sr zS (iz 35 (rr zU))) (.seq (sr zW (iz 40 (rr zX))) (rr zY))))))))⟩
def K453 (D:Bj):Prop:=∀a0 a1 r,Adx a0 a1=some r→D 453 ⟨[.agg (Am a0),.agg (Am a1)],[]⟩ ⟨.bool r,[],[]⟩
abbrev Vv:=fun x0 x1 (r:List (Nat×List V))=>(128,Am x0)::(192,Am x1)::r
abbrev Vw:=fun (r:List (Nat×V))=>(2,.ptr 128 0)::(3,.ptr 192 0)::r
theorem F453 (H36:K36 C):K453 (FO C c453):=by
 intro a0 a1 r h0
 refine f0 (Ba 14 (Vw [(9,.bool (a0.kind != a1.kind))]) (Vv a0 a1 []) (Ch h0 (fun c1 h0=>?_) (fun c1 h0=>?_)))
 ·obtain rfl:=sj h0
  exact Cn 4
 ·refine Ba 10 (Vw [(14,.bool (a0.id != a1.id))]) (Vv a0 a1 []) (Ch h0 (fun c2 h0=>?_) (fun c2 h0=>?_))
  ·obtain rfl:=sj h0
   exact Cn 4
  ·refine Ba 10 (Vw [(19,.bool (a0.ttl != a1.ttl))]) (Vv a0 a1 []) (Ch h0 (fun c3 h0=>?_) (fun c3 h0=>?_))
   ·obtain rfl:=sj h0
    exact Cn 4
   ·refine Ba 10 (Vw [(24,.bool (a0.Dr != a1.Dr))]) (Vv a0 a1 []) (Ch h0 (fun c4 h0=>?_) (fun c4 h0=>?_))
    ·obtain rfl:=sj h0
     exact Cn 4
    ·refine Ba 10 (Vw [(29,.bool (a0.clock != a1.clock))]) (Vv a0 a1 []) (Ch h0 (fun c5 h0=>?_) (fun c5 h0=>?_))
     ·obtain rfl:=sj h0
      exact Cn 4
     ·refine Ax 8 (As (bb h0 fun r6 e7 h0=>Jj (H36 a0.Bu a1.Bu r6 e7) (o_ (Ba 2 (Vw [(35,.bool (!r6))]) (Vv a0 a1 []) (Ch h0 (fun c8 h0=>?_) (fun c8 h0=>?_))))))
      ·obtain rfl:=sj h0
       exact Cn 4
      ·refine Ba 10 [(40,.bool (a0.stop != a1.stop))] [] (Ch h0 (fun c9 h0=>?_) (fun c9 h0=>?_))
       ·obtain rfl:=sj h0
        exact Cn 4
       ·obtain rfl:=sj h0
        exact Cn 6

/- loop.example/g00149/laws.markVaultAct -/
def Aai:=[X_ 2 0,i_ 4 0]
def Aaj:=[f_ 5 2 5,l_ 6 5 1,m_ 7 1,q_ 8 37 [.t 6,.t 7],m_ 1 8]
def Aak:=[m_ 9 1,m_ 4 9]
def c454:Cz:=⟨2,10,[.t 4],sr Aai (sr Aaj (rr Aak))⟩
def K454 (D:Bj):Prop:=∀a0 a1 r,Ady a0 a1=some r→D 454 ⟨[.agg (Bi a0 (Ai 2097152)),iV a1],[]⟩ ⟨iV r.1,[],[(0,1,r.2.map eI)]⟩
theorem F454 (H37:K37 C):K454 (FO C c454):=by
 intro a0 a1 r h0
 refine f0 (Ba 4 [(0,.agg (Bi a0 (Ai 2097152))),(1,iV a1),(2,.ptr 128 0)] [(128,Bi a0 (Ai 2097152))] (Ax 4 (As (bb h0 fun r1 e2 h0=>gg h0 fun c3 h0=>Xd [] [2097152] [] (H37 a0.Bu a1 r1 e2) (ar (At (Wi (fun _=>rfl)) rfl)) (sw ⟨[(0,.agg (Iu a0.kind a0.id a0.ttl a0.Dr a0.clock (Ai 2097152) r1.2 a0.stop)),(8,iV r1.1)],[],[]⟩ (fg ⟨congrArg (fun z=>some ((.agg [iV a0.kind,iV a0.id,iV a0.ttl,iV a0.Dr,iV a0.clock,z,iV a0.stop]:V))) (Ep c3),rfl,tv⟩ tv) (Cj rfl tv (o_ (Ba 6 [(0,.agg (Iu a0.kind a0.id a0.ttl a0.Dr a0.clock (Ai 2097152) r1.2 a0.stop)),(4,iV r1.1)] [] ?_))))))))
 obtain rfl:=sj h0
 exact Ka (Dx rfl rfl rfl rfl rfl ⟨⟨rfl,Ip (fun _=>rfl)⟩,tv⟩)
end Go.Ev
