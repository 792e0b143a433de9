/- The walks of functions: the code comes to the answers that QgD tells. Written by a program of ours. -/
import Derived.Test.YtnkhjipmmomjoaaGreatQgW2
set_option linter.all false
set_option maxHeartbeats 4000000
set_option linter.unusedVariables false
set_option maxRecDepth 100000
namespace Go.Ev
variable {C:Bi}

/- loop.example/g00149/spec.l08Find -/
def c92_r0:=[X_ 2 0,i_ 4 0]
def c92_r1:=[i_ 5 0]
def c92_r2:=[m_ 6 5,f_ 7 2 2,l_ 8 7 1,n_ 9 8,b_ .lss 10 6 9]
def c92_r3:=[f_ 13 2 2,l_ 14 13 1,m_ 15 5,x_ 16 14 15 4,f_ 17 16 0,l_ 18 17 1,m_ 19 1,b_ .eql 20 18 19]
def c92_r4:=[m_ 21 5,m_ 4 21]
def c92_r5:=[m_ 11 5,B_ .add 12 11 1,m_ 5 12]
def c92_l0:IR:=(.seq (sr c92_r2 (.ite (.t 10) .skip (.exit 0))) (.seq (.block 1 (sr c92_r3 (iz 20 (rr c92_r4)))) (.reg c92_r5)))
def c92_r6:=[i_ 4 (-1)]
def c92:Dj:=⟨2,22,[.t 4],sr c92_r0 (.seq (sr c92_r1 (Ik 0 c92_l0)) (rr c92_r6))⟩
def K92 (D:Bi):Prop:=∀a0 a1 r,FN a0 a1=some r→D 92 ⟨[.agg (Ba a0),iV a1],[]⟩ ⟨iV r,[],[]⟩
theorem F92:K92 (FO C c92):=by
 intro a0 a1 r h0
 refine f0 (Az 9 [(1,iV a1),(2,.ptr 128 0),(5,iV 0)] [(128,Ba a0)] (By (bb h0 fun r15 e16 h0=>Cs (R:=(fun S=>.inl ()=r15∧S=⟨[],[],[]⟩)) (fZ a0 a1) (fun s S=>match s with | p5=>S=⟨[(1,iV a1),(2,.ptr 128 0),(5,iV p5)],[(128,Ba a0)],[]⟩) e16 _ (Dv (by kernel_rfl)) rfl 0 (fun _=>rfl) ?_ ?_)))
 ·rintro S _ hfg ⟨rfl,rfl⟩
  refine Dd _ hfg ?_
  obtain rfl:=sj h0
  exact Cy 4
 ·rintro p5 o1 _ K1 rfl h1 hx1 hK1 hE1 hR1
  refine Ay 5 (Ao (Me rfl (o_ (Az 2 [(1,iV a1),(2,.ptr 128 0),(5,iV p5),(10,.bool (decide (p5<(a0.Ae.length:Int))))] [(128,Ba a0)] (Co h1 (fun c11 h1=>?_) (fun c11 h1=>?_))))))
  ·refine Ay 8 (Ao (bb h1 fun y12 e13 h1=>Tc rfl rfl e13 (o_ (Az 5 [(1,iV a1),(2,.ptr 128 0),(5,iV p5),(20,.bool (y12.id==a1))] [(128,Ba a0)] (Co h1 (fun c14 h1=>?_) (fun c14 h1=>?_))))))
   ·obtain rfl:=sj h1
    obtain rfl:=hx1 _ rfl
    obtain rfl:=sj h0
    exact cJ 5 hR1
   ·refine Ay 7 ?_
    obtain rfl:=sj h1
    exact kn hK1 rfl rfl
  ·obtain rfl:=sj h1
   obtain rfl:=hx1 _ rfl
   refine Iq rfl ?_
   exact jn hE1 ⟨rfl,rfl⟩

/- loop.example/g00149/spec.l09Intent -/
def ME:=[X_ 2 0,i_ 4 0]
def MF:=[i_ 5 0]
def MG:=[m_ 6 5,f_ 7 2 3,l_ 8 7 1,n_ 9 8,b_ .lss 10 6 9]
def MH:=[f_ 13 2 3,l_ 14 13 1,m_ 15 5,x_ 16 14 15 2,f_ 17 16 0,l_ 18 17 1,m_ 19 1,b_ .eql 20 18 19]
def MI:=[m_ 21 5,m_ 4 21]
def MJ:=[m_ 11 5,B_ .add 12 11 1,m_ 5 12]
def MD:IR:=(.seq (sr MG (.ite (.t 10) .skip (.exit 0))) (.seq (.block 1 (sr MH (iz 20 (rr MI)))) (.reg MJ)))
def MK:=[i_ 4 (-1)]
def c124:Dj:=⟨2,22,[.t 4],sr ME (.seq (sr MF (Ik 0 MD)) (rr MK))⟩
def K124 (D:Bi):Prop:=∀a0 a1 r,g124 a0 a1=some r→D 124 ⟨[.agg (Bc a0),iV a1],[]⟩ ⟨iV r,[],[]⟩
theorem F124:K124 (FO C c124):=by
 intro a0 a1 r h0
 refine f0 (Az 9 [(1,iV a1),(2,.ptr 128 0),(5,iV 0)] [(128,Bc a0)] (By (bb h0 fun r15 e16 h0=>Cs (R:=(fun S=>.inl ()=r15∧S=⟨[],[],[]⟩)) (Xx a0 a1) (fun s S=>match s with | p5=>S=⟨[(1,iV a1),(2,.ptr 128 0),(5,iV p5)],[(128,Bc a0)],[]⟩) e16 _ (Dv (by kernel_rfl)) rfl 0 (fun _=>rfl) ?_ ?_)))
 ·rintro S _ hfg ⟨rfl,rfl⟩
  refine Dd _ hfg ?_
  obtain rfl:=sj h0
  exact Cy 4
 ·rintro p5 o1 _ K1 rfl h1 hx1 hK1 hE1 hR1
  refine Ay 5 (Ao (Me rfl (o_ (Az 2 [(1,iV a1),(2,.ptr 128 0),(5,iV p5),(10,.bool (decide (p5<(a0.Ab.length:Int))))] [(128,Bc a0)] (Co h1 (fun c11 h1=>?_) (fun c11 h1=>?_))))))
  ·refine Ay 8 (Ao (bb h1 fun y12 e13 h1=>Tc rfl rfl e13 (o_ (Az 5 [(1,iV a1),(2,.ptr 128 0),(5,iV p5),(20,.bool (y12.Av==a1))] [(128,Bc a0)] (Co h1 (fun c14 h1=>?_) (fun c14 h1=>?_))))))
   ·obtain rfl:=sj h1
    obtain rfl:=hx1 _ rfl
    obtain rfl:=sj h0
    exact cJ 5 hR1
   ·refine Ay 7 ?_
    obtain rfl:=sj h1
    exact kn hK1 rfl rfl
  ·obtain rfl:=sj h1
   obtain rfl:=hx1 _ rfl
   refine Iq rfl ?_
   exact jn hE1 ⟨rfl,rfl⟩

/- loop.example/g00149/spec.l09Lost -/
def c93_r0:=[X_ 1 0,i_ 2 0]
def c93_r1:=[i_ 3 0]
def c93_r2:=[m_ 4 3,f_ 5 1 4,l_ 6 5 1,n_ 7 6,b_ .lss 8 4 7]
def c93_r3:=tk [f_ 11 1 0,L_ 12 11 3,f_ 13 1 4,l_ 14 13 1,m_ 15 3,x_ 16 14 15 1,l_ 17 16 1] (.alt [] (q_ 18 92 [.t 12,.t 17]) (tk [B_ .lss 19 18 0,m_ 20 19,lT 20 21 1 6 true,fT 20 22 1 4,lT 20 23 22 1 false,mT 20 24 3,xT 20 25 23 24 1,lT 20 26 25 1 false] (.alt [] ⟨some 27,.call 124 [.t 21,.t 26],some (20,true)⟩ (tk [pT 20 28 (.bin .lss (.t 27) (.c (iV 0))),pa 29 20 28] .fin) .stop)) .stop)
def c93_r4:=[f_ 30 1 4,l_ 31 30 1,m_ 32 3,x_ 33 31 32 1,l_ 34 33 1,m_ 2 34]
def c93_r5:=[m_ 9 3,B_ .add 10 9 1,m_ 3 10]
def c93_l0:IR:=(.seq (sr c93_r2 (.ite (.t 8) .skip (.exit 0))) (.seq (.block 1 (sd c93_r3 (iz 29 (rr c93_r4)))) (.reg c93_r5)))
def c93_r6:=[i_ 2 0]
def c93:Dj:=⟨1,35,[.t 2],sr c93_r0 (.seq (sr c93_r1 (Ik 0 c93_l0)) (rr c93_r6))⟩
def K93 (D:Bi):Prop:=∀a0 r,g93 a0=some r→D 93 ⟨[.agg (Bc a0)],[]⟩ ⟨iV r,[],[]⟩
theorem F93 (H92:K92 C) (H124:K124 C):K93 (FO C c93):=by
 intro a0 r h0
 refine f0 (Az 9 [(1,.ptr 64 0),(3,iV 0)] [(64,Bc a0)] (By (bb h0 fun r39 e40 h0=>Cs (R:=(fun S=>.inl ()=r39∧S=⟨[],[],[]⟩)) (gA a0) (fun s S=>match s with | p13=>S=⟨[(1,.ptr 64 0),(3,iV p13)],[(64,Bc a0)],[]⟩) e40 _ (Dv (by kernel_rfl)) rfl 0 (fun _=>rfl) ?_ ?_)))
 ·rintro S _ hfg ⟨rfl,rfl⟩
  refine Dd _ hfg ?_
  obtain rfl:=sj h0
  exact Cy 4
 ·rintro p13 o1 _ K1 rfl h1 hx1 hK1 hE1 hR1
  refine Ay 5 (Ao (Me rfl (o_ (Az 2 [(1,.ptr 64 0),(3,iV p13),(8,.bool (decide (p13<(a0.Ah.length:Int))))] [(64,Bc a0)] (Co h1 (fun c27 h1=>?_) (fun c27 h1=>?_))))))
  ·refine Lg 5 (bb h1 fun y28 e29 h1=>bb h1 fun r30 e31 h1=>bb h1 fun y32 e33 h1=>bb h1 fun r34 e35 h1=>Ay 5 (Bg (d_ (nU rfl rfl rfl e29 (Bg (Ag tv (c_ (Ax ⟨tv,tv⟩ rfl (nl rfl)) (⟨tv,Rq (H92 a0.Ad y28 r30 e31) rfl (dw [(1,.ptr 64 0),(3,iV p13),(18,iV r30)] [(64,Bc a0)] tv (d_ (cH 6 (Bg (Ag tv (Bn (u:=.iptr [iV y32]) rfl (fun hg=>(Ob (e:=eI) (y:=y32) rfl rfl (fun _=>hg) rfl rfl (fun _=>hg) (ip hg e33))) (⟨tv,?_⟩))))))) Aw⟩))))))))
   refine Ag tv (Bn (u:=iV y32) rfl (fun hg=>(Ax ⟨(fun _=>hg),tv⟩ rfl (nl rfl))) (⟨tv,Bq (Dy (r:=iV r34) rfl false (fun hg=>H124 a0 y32 r34 (ip hg e35)) ⟨(fun hg=>hg),(fun hg=>hg),tv⟩ (fun _=>rfl) (fun _=>rfl) (fun _=>rfl) (fun h=>nomatch h) (dw [(1,.ptr 64 0),(3,iV p13),(20,.bool (decide (r30<0))),(27,.may ((decide (r30<0))==true) (iV r34))] [(64,Bc a0)] tv (d_ (rO 3 [(1,.ptr 64 0),(3,iV p13),(29,.bool (bif (decide (r30<0)) then (decide (r34<0)) else false))] [(64,Bc a0)] (Co h1 (fun c36 h1=>?_) (fun c36 h1=>?_)))))) Aw⟩))
   ·refine Ay 4 (Ao (bb h1 fun y37 e38 h1=>Tc rfl rfl e38 (o_ ?_)))
    obtain rfl:=sj h1
    obtain rfl:=hx1 _ rfl
    obtain rfl:=sj h0
    exact cJ 4 hR1
   ·refine Ay 7 ?_
    obtain rfl:=sj h1
    exact kn hK1 rfl rfl
  ·obtain rfl:=sj h1
   obtain rfl:=hx1 _ rfl
   refine Iq rfl ?_
   exact jn hE1 ⟨rfl,rfl⟩

/- loop.example/g00149/spec.VaultOK -/
def c46_r0:=[X_ 1 0,k_ 2 (.bool false)]
def c46_r1:List Bv:=[f_ 5 1 0,L_ 6 5 3,q_ 7 18 [.t 6],N_ 8 7,m_ 9 8,fF 9 10 1 3,lF 9 11 10 1 false,pF 9 12 (.len (.t 11)),pF 9 13 (.bin .gtr (.t 12) (.c (iV 40))),po 14 9 13,m_ 15 14,fF 15 16 1 4,lF 15 17 16 1 false,pF 15 18 (.len (.t 17)),pF 15 19 (.bin .gtr (.t 18) (.c (iV 80))),po 20 15 19,m_ 21 20,fF 21 22 1 4,lF 21 23 22 1 false,fF 21 24 1 0,fF 21 25 24 1,lF 21 26 25 1 false,⟨some 27,.call 85 [.t 23,.t 26],some (21,false)⟩,pF 21 28 (.un .not (.t 27)),po 29 21 28]
def c46_r2:=[k_ 2 (.bool false)]
def c46_r3:=[i_ 3 0]
def c46_r4:=[m_ 30 3,f_ 31 1 3,l_ 32 31 1,n_ 33 32,b_ .lss 34 30 33]
def c46_r5:=[f_ 37 1 3,l_ 38 37 1,m_ 39 3,x_ 40 38 39 2,f_ 41 40 0,l_ 42 41 1,m_ 4 42]
def c46_r6:List Bv:=[m_ 43 4,f_ 44 1 0,f_ 45 44 1,l_ 46 45 1,B_ .sub 47 46 1,q_ 48 56 [.t 43,.c (iV 1),.t 47],N_ 49 48,m_ 50 49,mF 50 51 3,pF 50 52 (.bin .gtr (.t 51) (.c (iV 0))),mF 50 53 52,fT 53 54 1 3,lT 53 55 54 1 false,mT 53 56 3,pT 53 57 (.bin .sub (.t 56) (.c (iV 1))),xT 53 58 55 57 2,fT 53 59 58 0,lT 53 60 59 1 false,mT 53 61 4,pT 53 62 (.bin .geq (.t 60) (.t 61)),⟨some 63,.pick (.t 53) (.t 62) (.c (.bool false)),some (50,false)⟩,po 64 50 63,m_ 65 64,fF 65 66 1 0,lF 65 67 66 3 true,mF 65 68 4,⟨some 69,.call 92 [.t 67,.t 68],some (65,false)⟩,pF 65 70 (.bin .geq (.t 69) (.c (iV 0))),po 71 65 70]
def c46_r7:=[k_ 2 (.bool false)]
def c46_r8:=[m_ 35 3,B_ .add 36 35 1,m_ 3 36]
def c46_l0:IR:=(.seq (sr c46_r4 (.ite (.t 34) .skip (.exit 0))) (.seq (.block 1 (sr c46_r5 (sr c46_r6 (iz 71 (rr c46_r7))))) (.reg c46_r8)))
def c46_r9:=[L_ 72 1 6,q_ 73 93 [.t 72],B_ .eql 74 73 0,m_ 2 74]
def c46:Dj:=⟨1,75,[.t 2],sr c46_r0 (.seq (sr c46_r1 (iz 29 (rr c46_r2))) (.seq (sr c46_r3 (Ik 0 c46_l0)) (rr c46_r9)))⟩
def K46 (D:Bi):Prop:=∀a0 r,g46 a0=some r→D 46 ⟨[.agg (Bc a0)],[]⟩ ⟨.bool r,[],[]⟩
theorem F46 (H18:K18 C) (H56:K56 C) (H85:K85 C) (H92:K92 C) (H93:K93 C):K46 (FO C c46):=by
 intro a0 r h0
 refine f0 (Az 4 [(1,.ptr 64 0)] [(64,Bc a0)] (Ay 4 (Ao (bb h0 fun r1 e2 h0=>Om (H18 a0.Ad r1 e2) (o_ (Ay 2 (Ao (st (Bn (u:=.ptr 64 3) rfl (fun hg=>(Ax ⟨tv,tv⟩ rfl tv)) (st (Bn (u:=Cj a0.Ab) rfl (fun hg=>(Ax ⟨(fun _=>hg),tv⟩ rfl (nl rfl))) (st (Bn (u:=iV (a0.Ab.length:Int)) rfl (fun hg=>(Ml (e:=Bw) (l0:=a0.Ab) rfl rfl (fun _=>hg))) (st (Bn (u:=.bool (decide ((a0.Ab.length:Int)>40))) rfl (fun hg=>(Ax ⟨(fun _=>hg),tv,tv⟩ rfl tv)) (st (Cu rfl rfl rfl tv (fun h=>Rl h) rfl (st (Ca rfl tv (st (Bn (u:=.ptr 64 4) rfl (fun hg=>(Ax ⟨tv,tv⟩ rfl tv)) (st (Bn (u:=lI a0.Ah) rfl (fun hg=>(Ax ⟨(fun _=>hg),tv⟩ rfl (nl rfl))) (st (Bn (u:=iV (a0.Ah.length:Int)) rfl (fun hg=>(Ml (e:=eI) (l0:=a0.Ah) rfl rfl (fun _=>hg))) (st (Bn (u:=.bool (decide ((a0.Ah.length:Int)>80))) rfl (fun hg=>(Ax ⟨(fun _=>hg),tv,tv⟩ rfl tv)) (st (Cu rfl rfl rfl tv (fun h=>Rl h) rfl (st (Ca rfl tv (st (Bn (u:=.ptr 64 4) rfl (fun hg=>(Ax ⟨tv,tv⟩ rfl tv)) (st (Bn (u:=lI a0.Ah) rfl (fun hg=>(Ax ⟨(fun _=>hg),tv⟩ rfl (nl rfl))) (st (Bn (u:=.ptr 64 0) rfl (fun hg=>(Ax ⟨tv,tv⟩ rfl tv)) (st (Bn (u:=.ptr 64 1) rfl (fun hg=>(Ax ⟨(fun _=>hg),tv⟩ rfl tv)) (st (Bn (u:=iV a0.Ad.next) rfl (fun hg=>(Ax ⟨(fun _=>hg),tv⟩ rfl (nl rfl))) (bb h0 fun r3 e4 h0=>st (Dy (r:=.bool r3) rfl false (fun hg=>H85 a0.Ah a0.Ad.next r3 (ip hg e4)) ⟨(fun hg=>hg),(fun hg=>hg),tv⟩ (fun _=>rfl) (fun _=>rfl) (fun _=>rfl) (fun h=>nomatch h) (st (Bn (u:=.bool (!r3)) rfl (fun hg=>(Ax ⟨(fun _=>hg),tv⟩ rfl tv)) (st (Cu rfl rfl rfl tv (fun h=>Rl h) rfl (Gr (bv h0 fun v5 e6 h0=>Dd ⟨[(1,.ptr 64 0),(29,.bool v5)],[(64,Bc a0)],[]⟩ (Dv (by subst e6; kernel_rfl)) (Co h0 (fun c7 h0=>?_) (fun c7 h0=>?_)))))))))))))))))))))))))))))))))))))))))))))))))))
 ·obtain rfl:=sj h0
  exact Cy 4
 ·refine Az 6 [(1,.ptr 64 0),(3,iV 0)] [(64,Bc a0)] (By (bb h0 fun r46 e47 h0=>Cs (R:=(fun S=>.inl ()=r46∧S=⟨[(1,.ptr 64 0)],[(64,Bc a0)],[]⟩)) (aD a0) (fun s S=>match s with | p20=>S=⟨[(1,.ptr 64 0),(3,iV p20)],[(64,Bc a0)],[]⟩) e47 _ (Dv (by kernel_rfl)) rfl 0 (fun _=>rfl) ?_ ?_))
  ·rintro S _ hfg ⟨rfl,rfl⟩
   refine Dd _ hfg (Ay 2 (Ao (bb h0 fun r48 e49 h0=>Om (H93 a0 r48 e49) (o_ ?_))))
   obtain rfl:=sj h0
   exact Cy 4
  ·rintro p20 o1 _ K1 rfl h1 hx1 hK1 hE1 hR1
   refine Ay 5 (Ao (Me rfl (o_ (Az 2 [(1,.ptr 64 0),(3,iV p20),(34,.bool (decide (p20<(a0.Ab.length:Int))))] [(64,Bc a0)] (Co h1 (fun c34 h1=>?_) (fun c34 h1=>?_))))))
   ·refine Ay 8 (Ao (bb h1 fun y35 e36 h1=>Tc rfl rfl e36 (o_ (Az 4 [(1,.ptr 64 0),(3,iV p20),(4,iV y35.Av)] [(64,Bc a0)] (Ay 6 (Ao (bb h1 fun r37 e38 h1=>Om (H56 y35.Av 1 (wi (a0.Ad.next-1)) r37 e38) (o_ (Ay 2 (Ao (st (Bn (u:=iV p20) rfl (fun hg=>(Dg (v:=iV p20) rfl tv)) (st (Bn (u:=.bool (decide (p20>0))) rfl (fun hg=>(Ax ⟨(fun _=>hg),tv,tv⟩ rfl tv)) (st (Bn (u:=.bool (decide (p20>0))) rfl (fun hg=>(Dg (v:=.may ((!r37)==false) (.bool (decide (p20>0)))) rfl (fun _=>hg))) (st (Bn (u:=.ptr 64 3) rfl (fun hg=>(Ax ⟨tv,tv⟩ rfl tv)) (st (Bn (u:=Cj a0.Ab) rfl (fun hg=>(Ax ⟨(fun _=>hg),tv⟩ rfl (nl rfl))) (st (Bn (u:=iV p20) rfl (fun hg=>(Dg (v:=iV p20) rfl tv)) (st (Bn (u:=iV (wi (p20-1))) rfl (fun hg=>(Ax ⟨(fun _=>hg),tv,tv⟩ rfl tv)) (bb h1 fun y39 e40 h1=>st (Bn (u:=.iptr (Bw y39)) rfl (fun hg=>(Ob (e:=Bw) (y:=y39) rfl rfl (fun _=>hg) rfl rfl (fun _=>hg) (ip hg e40))) (st (Bn (u:=.iptr (Bw y39)) rfl (fun hg=>(Ax ⟨(fun _=>hg),tv⟩ rfl (nl rfl))) (st (Bn (u:=iV y39.Av) rfl (fun hg=>(Ax ⟨(fun _=>hg),tv⟩ rfl (nl rfl))) (st (Bn (u:=iV y35.Av) rfl (fun hg=>(Dg (v:=iV y35.Av) rfl tv)) (st (Bn (u:=.bool (decide (y39.Av≥y35.Av))) rfl (fun hg=>(Ax ⟨(fun _=>hg),(fun _=>hg),tv⟩ rfl tv)) (st (Nq (u:=.bool (bif (decide (p20>0)) then (decide (y39.Av≥y35.Av)) else false)) rfl (fun hg=>Tl rfl rfl (fun _=>hg) rfl rfl (fun h=>Bf hg (Qm h)) tv rfl) (st (Cu rfl rfl rfl tv (fun h=>Rl h) rfl (st (Ca rfl tv (st (Bn (u:=.ptr 64 0) rfl (fun hg=>(Ax ⟨tv,tv⟩ rfl tv)) (st (Bn (u:=.agg (Ba a0.Ad)) rfl (fun hg=>(Ax ⟨(fun _=>hg),tv⟩ rfl (nl rfl))) (st (Bn (u:=iV y35.Av) rfl (fun hg=>(Dg (v:=iV y35.Av) rfl tv)) (bb h1 fun r41 e42 h1=>st (Dy (r:=iV r41) rfl false (fun hg=>H92 a0.Ad y35.Av r41 (ip hg e42)) ⟨(fun hg=>hg),(fun hg=>hg),tv⟩ (fun _=>rfl) (fun _=>rfl) (fun _=>rfl) (fun h=>nomatch h) (st (Bn (u:=.bool (decide (r41≥0))) rfl (fun hg=>(Ax ⟨(fun _=>hg),tv,tv⟩ rfl tv)) (st (Cu rfl rfl rfl tv (fun h=>Rl h) rfl (Gr (bv h1 fun v43 e44 h1=>Dd ⟨[(1,.ptr 64 0),(3,iV p20),(71,.bool v43)],[(64,Bc a0)],[]⟩ (Dv (by subst e44; kernel_rfl)) (Co h1 (fun c45 h1=>?_) (fun c45 h1=>?_))))))))))))))))))))))))))))))))))))))))))))))))))))))))
    ·obtain rfl:=sj h1
     obtain rfl:=hx1 _ rfl
     obtain rfl:=sj h0
     exact cJ 4 hR1
    ·refine Ay 7 ?_
     obtain rfl:=sj h1
     exact kn hK1 rfl rfl
   ·obtain rfl:=sj h1
    obtain rfl:=hx1 _ rfl
    refine Iq rfl ?_
    exact jn hE1 ⟨rfl,rfl⟩

/- loop.example/g00149/spec.l09Act -/
def GI:=[X_ 1 0,k_ 2 (.bool false)]
def GJ:List Bv:=[f_ 4 1 5,l_ 5 4 1,n_ 6 5,B_ .gtr 7 6 4096,m_ 8 7,fF 8 9 1 6,lF 8 10 9 1 false,⟨some 11,.call 56 [.t 10,.c (iV 0),.c (iV 2)],some (8,false)⟩,pF 8 12 (.un .not (.t 11)),po 13 8 12]
def GK:=[k_ 2 (.bool false)]
def GL:=[i_ 3 0]
def GM:=[m_ 14 3,f_ 15 1 5,l_ 16 15 1,n_ 17 16,b_ .lss 18 14 17]
def GN:=[f_ 21 1 5,l_ 22 21 1,m_ 23 3,x_ 24 22 23 1,l_ 25 24 1,q_ 26 56 [.t 25,.c (iV 0),.c (iV 2)],N_ 27 26]
def GO:=[k_ 2 (.bool false)]
def GP:=[m_ 19 3,B_ .add 20 19 1,m_ 3 20]
def GH:IR:=(.seq (sr GM (.ite (.t 18) .skip (.exit 0))) (.seq (.block 1 (sr GN (iz 27 (rr GO)))) (.reg GP)))
def GQ:=[k_ 2 (.bool true)]
def c100:Dj:=⟨1,28,[.t 2],sr GI (.seq (sr GJ (iz 13 (rr GK))) (.seq (sr GL (Ik 0 GH)) (rr GQ)))⟩
def K100 (D:Bi):Prop:=∀a0 r,g100 a0=some r→D 100 ⟨[.agg (Aq a0)],[]⟩ ⟨.bool r,[],[]⟩
theorem F100 (H56:K56 C):K100 (FO C c100):=by
 intro a0 r h0
 refine f0 (Az 4 [(1,.ptr 64 0)] [(64,Aq a0)] (Ay 4 (Ao (Me rfl (o_ (cH 4 (Ao (bb h0 fun r1 e2 h0=>st (Dy (r:=.bool r1) rfl false (fun hg=>H56 a0.stop 0 2 r1 (ip hg e2)) ⟨(fun hg=>hg),tv,tv,tv⟩ (fun _=>rfl) (fun _=>rfl) (fun _=>rfl) (fun h=>nomatch h) (o_ (rO 3 [(1,.ptr 64 0),(13,.bool (bif (decide ((a0.Ce.length:Int)>4096)) then true else (!r1)))] [(64,Aq a0)] (Co h0 (fun c3 h0=>?_) (fun c3 h0=>?_)))))))))))))
 ·obtain rfl:=sj h0
  exact Cy 4
 ·refine Az 6 [(1,.ptr 64 0),(3,iV 0)] [(64,Aq a0)] (By (bb h0 fun r24 e25 h0=>Cs (R:=(fun S=>.inl ()=r24∧S=⟨[],[],[]⟩)) (Qo a0) (fun s S=>match s with | p10=>S=⟨[(1,.ptr 64 0),(3,iV p10)],[(64,Aq a0)],[]⟩) e25 _ (Dv (by kernel_rfl)) rfl 0 (fun _=>rfl) ?_ ?_))
  ·rintro S _ hfg ⟨rfl,rfl⟩
   refine Dd _ hfg ?_
   obtain rfl:=sj h0
   exact Cy 4
  ·rintro p10 o1 _ K1 rfl h1 hx1 hK1 hE1 hR1
   refine Ay 5 (Ao (Me rfl (o_ (Az 2 [(1,.ptr 64 0),(3,iV p10),(18,.bool (decide (p10<(a0.Ce.length:Int))))] [(64,Aq a0)] (Co h1 (fun c18 h1=>?_) (fun c18 h1=>?_))))))
   ·refine Ay 8 (Ao (bb h1 fun y19 e20 h1=>Tc rfl rfl e20 (st (c_ (Ax ⟨tv,tv⟩ rfl (nl rfl)) (bb h1 fun r21 e22 h1=>Om (H56 y19 0 2 r21 e22) (o_ (Az 2 [(1,.ptr 64 0),(3,iV p10),(27,.bool (!r21))] [(64,Aq a0)] (Co h1 (fun c23 h1=>?_) (fun c23 h1=>?_)))))))))
    ·obtain rfl:=sj h1
     obtain rfl:=hx1 _ rfl
     obtain rfl:=sj h0
     exact cJ 4 hR1
    ·refine Ay 7 ?_
     obtain rfl:=sj h1
     exact kn hK1 rfl rfl
   ·obtain rfl:=sj h1
    obtain rfl:=hx1 _ rfl
    refine Iq rfl ?_
    exact jn hE1 ⟨rfl,rfl⟩

/- loop.example/g00149/spec.l08Copy -/
def JD:=[X_ 1 0,a_ 2 (zT 131)]
def JE:List Bv:=[⟨some 3,.mkS 4 [iV 0,iV 0,iV 0,.bool false] 0 [],none⟩,f_ 4 1 2,l_ 5 4 1,⟨some 6,.app 4 32 (.t 3) (.t 5),none⟩,f_ 7 1 2,s_ 7 6 1]
def JF:=[L_ 8 1 3,s_ 2 8 3]
def c111:Dj:=⟨1,9,[.cell 2 3 true],sr JD (sr JE (rr JF))⟩
def lA (D:Bi):Prop:=∀a0 r,jC a0=some r→D 111 ⟨[.agg (Ba a0)],[]⟩ ⟨.agg (Cn r (An 0)),[],[]⟩
theorem F111:lA (FO C c111):=by
 intro a0 r h0
 refine f0 (Az 4 [(1,.ptr 64 0),(2,.ptr 128 0)] [(64,Ba a0),(128,Bo 0 0 (An 131) [])] (Ay 4 (Ao (gg h0 fun c1 h0=>st (Je (e:=Ac) (l0:=([]:List Aa)) (l1:=a0.Ae) rfl rfl tv rfl (by decide) c1 (o_ ?_))))))
 obtain rfl:=sj h0
 exact Cy 9

/- loop.example/g00149/spec.l08Revoke -/
def c74_r0:=[X_ 2 0,a_ 4 (zT 259),i_ 5 0]
def c74_r1:=[L_ 8 2 3,m_ 9 1,q_ 10 92 [.t 8,.t 9],m_ 6 10]
def c74_r2:=[m_ 11 6,B_ .lss 12 11 0]
def c74_r3:=[L_ 13 2 3,s_ 4 13 3,i_ 5 5]
def c74_r4:=[L_ 14 2 3,q_ 15 111 [.t 14],a_ 7 (zT 451),s_ 7 15 3]
def c74_r5:List Bv:=[f_ 16 7 2,l_ 17 16 1,m_ 18 6,x_ 19 17 18 4,f_ 20 19 3,⟨none,.store (.t 20) (.c (.bool true)) 1,none⟩]
def c74_r6:=[L_ 21 7 3,s_ 4 21 3,i_ 5 0]
def c74:Dj:=⟨2,22,[.cell 4 3 true,.t 5],sr c74_r0 (sr c74_r1 (.seq (sr c74_r2 (iz 12 (rr c74_r3))) (sr c74_r4 (sr c74_r5 (rr c74_r6)))))⟩
def K74 (D:Bi):Prop:=∀a0 a1 r,g74 a0 a1=some r→D 74 ⟨[.agg (Ba a0),iV a1],[]⟩ ⟨.tup [.agg (Ba r.1),iV r.2],[],[]⟩
theorem F74 (H92:K92 C) (H111:lA C):K74 (FO C c74):=by
 intro a0 a1 r h0
 refine f0 (Az 5 [(1,iV a1),(2,.ptr 128 0),(4,.ptr 256 0)] [(128,Ba a0),(256,Bo 0 0 (An 259) [])] (Ay 3 (Ao (bb h0 fun r1 e2 h0=>Om (H92 a0 a1 r1 e2) (o_ (Az 8 [(2,.ptr 128 0),(4,.ptr 256 0),(6,iV r1),(12,.bool (decide (r1<0)))] [(128,Ba a0),(256,Bo 0 0 (An 259) [])] (Co h0 (fun c3 h0=>?_) (fun c3 h0=>?_))))))))
 ·obtain rfl:=sj h0
  exact Cy 6
 ·refine Ay 4 (Ao (bb h0 fun r4 e5 h0=>Ti (H111 a0 r4 e5) (ar (Bf rfl (af rfl))) (o_ (Az 3 [(4,.ptr 256 0),(6,iV r1),(7,.ptr 448 0)] [(256,Bo 0 0 (An 259) []),(448,Cn r4 (An 960))] (Ay 4 (Ao (bb h0 fun y6 e7 h0=>kV rfl rfl e7 (st (c_ (Ax ⟨tv,tv⟩ rfl tv) (bb h0 fun y8 e9 h0=>so_ (Aa.mk y8.id y8.Bl y8.cap true) rfl rfl e9 (o_ ?_)))))))))))
  obtain rfl:=sj h0
  exact Cy 8 [960]

/- loop.example/g00149/spec.l08Later -/
def c53_r0:=[i_ 4 0]
def c53_r1:List Bv:=[m_ 5 0,m_ 6 1,⟨some 7,.p (.bin .sub (.c (iV 9223372036854775807)) (.t 6)),none⟩,b_ .gtr 8 5 7]
def c53_r2:=[i_ 4 9223372036854775807]
def c53_r3:=[m_ 9 0,m_ 10 1,b_ .add 11 9 10,m_ 4 11]
def c53:Dj:=⟨2,12,[.t 4],sr c53_r0 (.seq (sr c53_r1 (iz 8 (rr c53_r2))) (rr c53_r3))⟩
def K53 (D:Bi):Prop:=∀a0 a1 r,g53 a0 a1=some r→D 53 ⟨[iV a0,iV a1],[]⟩ ⟨iV r,[],[]⟩
theorem F53:K53 (FO C c53):=by
 intro a0 a1 r h0
 refine f0 (Az 11 [(0,iV a0),(1,iV a1),(8,.bool (decide (a0>(wi (9223372036854775807-a1)))))] [] (Co h0 (fun c1 h0=>?_) (fun c1 h0=>?_)))
 ·obtain rfl:=sj h0
  exact Cy 4
 ·obtain rfl:=sj h0
  exact Cy 9

/- loop.example/g00149/spec.l08Renew -/
def c79_r0:=[X_ 3 0,a_ 6 (zT 387),i_ 7 0]
def c79_r1:=[L_ 10 3 3,m_ 11 1,q_ 12 92 [.t 10,.t 11],m_ 8 12]
def c79_r2:=[m_ 14 2,B_ .lss 15 14 1,m_ 13 15]
def c79_r3:=[L_ 16 3 3,s_ 6 16 3,i_ 7 4]
def c79_r4:=[m_ 18 8,B_ .lss 19 18 0,m_ 17 19]
def c79_r5:=[L_ 20 3 3,s_ 6 20 3,i_ 7 5]
def c79_r6:=[f_ 22 3 2,l_ 23 22 1,m_ 24 8,x_ 25 23 24 4,f_ 26 25 3,l_ 27 26 1,m_ 21 27]
def c79_r7:=[L_ 28 3 3,s_ 6 28 3,i_ 7 13]
def c79_r8:=[L_ 29 3 3,q_ 30 111 [.t 29],a_ 9 (zT 579),s_ 9 30 3]
def c79_r9:=tk [f_ 31 9 2,l_ 32 31 1,m_ 33 8,f_ 34 9 2,l_ 35 34 1,m_ 36 8,x_ 37 35 36 4,f_ 38 37 2,l_ 39 38 1,f_ 40 3 0,l_ 41 40 1,m_ 42 2] (.alt [l_ 39 38 1,f_ 38 37 2,x_ 37 35 36 4,m_ 36 8,l_ 35 34 1,f_ 34 9 2,m_ 33 8,l_ 32 31 1,f_ 31 9 2] (q_ 43 53 [.t 41,.t 42]) (tk [iQ 44 (.mn (.t 39) (.t 43)),x_ 45 32 33 4,f_ 46 45 1] (.alt [] (s_ 46 44 1) .fin .stop)) .stop)
def AbR:=[L_ 47 9 3,s_ 6 47 3,i_ 7 0]
def c79:Dj:=⟨3,48,[.cell 6 3 true,.t 7],sr c79_r0 (sr c79_r1 (.seq (.block 0 (sr c79_r2 (.ite (.t 13) (rr c79_r3) (sr c79_r4 (.ite (.t 17) (rr c79_r5) (sr c79_r6 (iz 21 (rr c79_r7)))))))) (sr c79_r8 (sd c79_r9 (rr AbR)))))⟩
def K79 (D:Bi):Prop:=∀a0 a1 a2 r,g79 a0 a1 a2=some r→D 79 ⟨[.agg (Ba a0),iV a1,iV a2],[]⟩ ⟨.tup [.agg (Ba r.1),iV r.2],[],[]⟩
abbrev jT:=fun x0 (r:List (Nat×List V))=>(192,Ba x0)::(384,Bo 0 0 (An 387) [])::r
abbrev jU:=fun x0 (r:List (Nat×V))=>(2,iV x0)::(3,.ptr 192 0)::(6,.ptr 384 0)::r
theorem F79 (H53:K53 C) (H92:K92 C) (H111:lA C):K79 (FO C c79):=by
 intro a0 a1 a2 r h0
 refine f0 (Az 5 (jU a2 [(1,iV a1)]) (jT a0 []) (Ay 3 (Ao (bb h0 fun r1 e2 h0=>Om (H92 a0 a1 r1 e2) (o_ (Az 10 (jU a2 [(8,iV r1),(13,.bool (decide (a2<1)))]) (jT a0 []) (Co h0 (fun c3 h0=>?_) (fun c3 h0=>?_))))))))
 ·obtain rfl:=sj h0
  exact Cy 6
 ·refine Az 5 (jU a2 [(8,iV r1),(17,.bool (decide (r1<0)))]) (jT a0 []) (Co h0 (fun c4 h0=>?_) (fun c4 h0=>?_))
  ·obtain rfl:=sj h0
   exact Cy 6
  ·refine Ay 4 (Ao (bb h0 fun y5 e6 h0=>Tc rfl rfl e6 (o_ (Az 4 (jU a2 [(8,iV r1),(21,.bool y5.Ck)]) (jT a0 []) (Co h0 (fun c7 h0=>?_) (fun c7 h0=>?_))))))
   ·obtain rfl:=sj h0
    exact Cy 6
   ·refine Ay 5 (Ao (bb h0 fun r8 e9 h0=>Ti (H111 a0 r8 e9) (ar (Bf rfl (af rfl))) (o_ (Az 3 (jU a2 [(8,iV r1),(9,.ptr 576 0)]) (jT a0 [(576,Cn r8 (An 1920))]) (Bm (bb h0 fun y10 e11 h0=>bb h0 fun y12 e13 h0=>bb h0 fun r14 e15 h0=>Ay 6 (Bg (d_ (Xe rfl rfl rfl e11 (Bg (Ag tv (c_ (Ax ⟨tv,tv⟩ rfl tv) (⟨tv,Cb (c_ (Mx rfl rfl e13) (⟨⟨Ct rfl rfl e13 rfl,tv⟩,Ag tv (c_ (Ax ⟨tv,tv⟩ rfl tv) (⟨⟨Ct rfl rfl e13 rfl,tv⟩,Ag tv (c_ (Ax ⟨tv,tv⟩ rfl (nl rfl)) (⟨⟨Ct rfl rfl e13 rfl,tv⟩,Ag tv (Ca rfl tv (⟨⟨Ct rfl rfl e13 rfl,tv⟩,Bq (De (r:=iV r14) false (H53 a0.clock a2 r14 e15) ⟨tv,tv,tv⟩ rfl rfl (fun _=>rfl) (iZ ⟨[(6,.ptr 384 0),(8,iV r1),(9,.ptr 576 0),(31,.ptr 576 2),(32,Af 1920 r8.Ae),(33,iV r1),(34,.ptr 576 2),(35,Af 1920 r8.Ae),(36,iV r1),(37,.optr 1920 4 (0+r1.toNat) 0),(38,.optr 1920 4 (0+r1.toNat) 2),(39,iV y12.cap),(43,iV r14)],[(384,Bo 0 0 (An 387) []),(576,Cn r8 (An 1920))],[]⟩ (Dv (by kernel_rfl)) ⟨[iQ 39 (.load (.t 38) 1 false)],⟨⟨.inr (.head _),Ct rfl rfl e13 rfl⟩,⟨.inl tv,Bd (Ax ⟨tv,tv⟩ rfl tv) rfl⟩,⟨.inl tv,Bd (Ja rfl rfl e11) rfl⟩,⟨.inl tv,Bd (Dg (v:=iV r1) rfl tv) rfl⟩,⟨.inl tv,Bd (Ax ⟨tv,tv⟩ rfl (nl rfl)) rfl⟩,⟨.inl tv,Bd (Ax ⟨tv,tv⟩ rfl tv) rfl⟩,⟨.inl tv,Bd (Dg (v:=iV r1) rfl tv) rfl⟩,⟨.inl tv,Bd (Ax ⟨tv,tv⟩ rfl (nl rfl)) rfl⟩,⟨.inl tv,Bd (Ax ⟨tv,tv⟩ rfl tv) rfl⟩,tv⟩,⟨Ct rfl rfl e13 rfl,tv⟩,Ag tv (c_ (Ax ⟨tv,tv,tv⟩ rfl rfl) (⟨⟨Ct rfl rfl e13 rfl,tv⟩,Ag tv (c_ (Ja rfl rfl e11) (⟨⟨Ct rfl rfl e13 rfl,tv⟩,?_⟩))⟩))⟩)) Aw⟩))⟩))⟩))⟩))⟩)))))))))))))
    refine Ag tv (c_ (Ax ⟨tv,tv⟩ rfl tv) (⟨⟨Ct rfl rfl e13 rfl,tv⟩,Bq (Hk (y':=(Aa.mk y12.id (if r14<y12.cap then r14 else y12.cap) y12.cap y12.Ck)) rfl rfl tv rfl rfl rfl rfl e13 (nl rfl) rfl rfl rfl rfl (d0 tv (Hb (Dd ⟨[(6,.ptr 384 0),(9,.ptr 576 0)],[(384,Bo 0 0 (An 387) []),(576,Bo r8.clock r8.next (An 1920) (r8.Ae.set r1.toNat (Aa.mk y12.id (if r14<y12.cap then r14 else y12.cap) y12.cap y12.Ck)))],[]⟩ (fg ⟨rfl,rfl,tv⟩ ⟨rfl,congrArg (fun z=>some (([iV r8.clock,iV r8.next,.own 1920 0 4 z]:List V))) Be,tv⟩) (rZ_ 5 [1920] [] [(6,.ptr 384 0),(7,iV 0)] [(384,Bo r8.clock r8.next u_ (r8.Ae.set r1.toNat (Aa.mk y12.id (if r14<y12.cap then r14 else y12.cap) y12.cap y12.Ck)))] ?_))))) Aw⟩))
    obtain rfl:=sj h0
    exact Lf (Eg rfl rfl rfl rfl rfl tv)

/- loop.example/g00149/spec.l08Tick -/
def c81_r0:List Bv:=[X_ 2 0,a_ 4 (zT 259),⟨some 5,.nilS 1,none⟩]
def c81_r1:=[L_ 11 2 3,q_ 12 111 [.t 11],a_ 6 (zT 387),s_ 6 12 3]
def c81_r2:=[f_ 13 2 0,l_ 14 13 1,m_ 15 1,iQ 16 (.mx (.t 14) (.t 15)),f_ 17 6 0,s_ 17 16 1]
def c81_r3:List Bv:=[⟨some 18,.mkS 1 [iV 0] 0 [],none⟩,m_ 7 18]
def c81_r4:=[i_ 8 (-1)]
def c81_r5:=[i_ 9 0]
def c81_r6:=[m_ 19 9,f_ 20 6 2,l_ 21 20 1,n_ 22 21,b_ .lss 23 19 22]
def c81_r7:=[f_ 26 6 2,l_ 27 26 1,m_ 28 9,x_ 29 27 28 4,L_ 30 29 4,a_ 10 [iV 0,iV 0,iV 0,.bool false],s_ 10 30 4]
def c81_r8:=tk [f_ 31 10 3,l_ 32 31 1,N_ 33 32,m_ 34 33,fT 34 35 10 1,lT 34 36 35 1 false,fT 34 37 6 0,lT 34 38 37 1 false,pT 34 39 (.bin .leq (.t 36) (.t 38)),pa 40 34 39,m_ 41 40,mT 41 42 8,pT 41 43 (.bin .lss (.t 42) (.c (iV 0))),mT 41 44 43,fF 44 45 10 1,lF 44 46 45 1 false,fF 44 47 6 2,lF 44 48 47 1 false,mF 44 49 8,xF 44 50 48 49 4,fF 44 51 50 1,lF 44 52 51 1 false,pF 44 53 (.bin .lss (.t 46) (.t 52)),⟨some 54,.pick (.t 44) (.c (.bool true)) (.t 53),some (41,true)⟩,pa 55 41 54] .fin
def c81_r9:=[m_ 56 9,m_ 8 56]
def AbT:=[m_ 24 9,B_ .add 25 24 1,m_ 9 25]
def c81_l0:IR:=(.seq (sr c81_r6 (.ite (.t 23) .skip (.exit 2))) (.seq (.block 3 (sr c81_r7 (sd c81_r8 (iz 55 (.reg c81_r9))))) (.reg AbT)))
def AbU:=[m_ 57 8,B_ .lss 58 57 0]
def AbV:=[L_ 59 6 3,m_ 60 7,s_ 4 59 3,m_ 5 60]
def AbW:List Bv:=[f_ 61 6 2,l_ 62 61 1,m_ 63 8,x_ 64 62 63 4,f_ 65 64 3,⟨none,.store (.t 65) (.c (.bool true)) 1,none⟩]
def AbX:List Bv:=[m_ 66 7,f_ 67 6 2,l_ 68 67 1,m_ 69 8,x_ 70 68 69 4,f_ 71 70 0,l_ 72 71 1,⟨some 73,.mkS 1 [iV 0] 1 [(0,.t 72)],none⟩,⟨some 74,.app 1 8 (.t 66) (.t 73),none⟩,m_ 7 74]
def c81_l1:IR:=(.block 1 (sr c81_r4 (.seq (sr c81_r5 (Ik 2 c81_l0)) (.seq (sr AbU (iz 58 (rr AbV))) (sr AbW (.reg AbX))))))
def c81:Dj:=⟨2,75,[.cell 4 3 true,.t 5],sr c81_r0 (sr c81_r1 (sr c81_r2 (sr c81_r3 (Ik 0 c81_l1))))⟩
def K81 (D:Bi):Prop:=∀a0 a1 r,g81 a0 a1=some r→D 81 ⟨[.agg (Ba a0),iV a1],[]⟩ ⟨.tup [.agg (Cn r.1 (An 0)),oI 1 r.2],[],[]⟩
abbrev Rw:=fun x0 (r:List (Nat×V))=>(4,.ptr 256 0)::(6,.ptr 384 0)::(7,oI 1152 x0)::r
abbrev Od:=fun (r:List (Nat×List V))=>(256,Bo 0 0 (An 259) [])::r
theorem F81 (H111:lA C):K81 (FO C c81):=by
 intro a0 a1 r h0
 refine f0 (Az 5 [(1,iV a1),(2,.ptr 128 0),(4,.ptr 256 0)] (Od [(128,Ba a0)]) (Ay 2 (Ao (bb h0 fun r1 e2 h0=>Ti (H111 a0 r1 e2) (ar (Bf rfl (af rfl))) (o_ (Az 17 [(4,.ptr 256 0),(6,.ptr 384 0),(7,oI 1152 [])] (Od [(384,Bo (if a1>a0.clock then a1 else a0.clock) r1.next (An 768) r1.Ae)]) (By (bb h0 fun r157 e158 h0=>Cs (R:=(fun _=>False)) (fY a0 a1 r1) (fun s S=>match s with | (p44,p45)=>S=⟨Rw p44 [],Od [(384,Bo (if a1>a0.clock then a1 else a0.clock) r1.next (An 768) p45)],[]⟩) e158 _ (Dv (by kernel_rfl)) rfl 0 (fun h=>h.elim fun _ h=>h.elim) ?_ ?_))))))))
 ·exact fun _ _ _ h=>h.elim
 ·rintro ⟨p44,p45⟩ o1 _ K1 rfl h1 hx1 hK1 hE1 hR1
  refine Az 9 (Rw p44 [(8,iV (-1)),(9,iV 0)]) (Od [(384,Bo (if a1>a0.clock then a1 else a0.clock) r1.next (An 768) p45)]) (By (bb h1 fun r145 e146 h1=>Cs (R:=(fun S=>∃p119:Int,p119=r145∧S=⟨Rw p44 [(8,iV p119)],Od [(384,Bo (if a1>a0.clock then a1 else a0.clock) r1.next (An 768) p45)],[]⟩)) (aG a0 a1 p45) (fun s S=>match s with | (p102,p103)=>S=⟨Rw p44 [(8,iV p102),(9,iV p103)],Od [(384,Bo (if a1>a0.clock then a1 else a0.clock) r1.next (An 768) p45)],[]⟩) e146 _ (Dv (by kernel_rfl)) rfl 2 (fun _=>rfl) ?_ ?_))
  ·rintro S _ hfg ⟨p119,rfl,rfl⟩
   refine Dd _ hfg (Az 5 (Rw p44 [(8,iV p119),(58,.bool (decide (p119<0)))]) (Od [(384,Bo (if a1>a0.clock then a1 else a0.clock) r1.next (An 768) p45)]) (Co h1 (fun RJ h1=>?_) (fun RJ h1=>?_)))
   ·obtain rfl:=sj h1
    obtain rfl:=hx1 _ rfl
    obtain rfl:=sj h0
    exact cJ 7 hR1
   ·refine Ay 6 (Ao (bb h1 fun y148 e149 h1=>kV rfl rfl e149 (st (c_ (Ax ⟨tv,tv⟩ rfl tv) (bb h1 fun y150 e151 h1=>so_ (Aa.mk y150.id y150.Bl y150.cap true) rfl rfl e151 (o_ (Az 1 (Rw p44 [(8,iV p119)]) (Od [(384,Bo (if a1>a0.clock then a1 else a0.clock) r1.next (An 768) (p45.set p119.toNat (Aa.mk y150.id y150.Bl y150.cap true)))]) (Ay 4 (Ao (bb h1 fun y152 e153 h1=>kV rfl rfl e153 (st (c_ (Ax ⟨tv,tv⟩ rfl tv) (bb h1 fun y154 e155 h1=>lo_ rfl rfl e155 (st (bF ⟨tv,tv⟩ ⟨⟨nl rfl,rfl,rfl⟩,tv⟩ (gg h1 fun VN h1=>st (Je (e:=eI) (l0:=p44) (l1:=([y154.id]:List Int)) rfl rfl tv rfl (by decide) VN (st (Ca rfl tv (Gr (Rp ?_)))))))))))))))))))))
    obtain rfl:=sj h1
    exact kn hK1 rfl rfl
  ·rintro ⟨p102,p103⟩ o2 _ K2 rfl h2 hx2 hK2 hE2 hR2
   refine Ay 5 (Ao (Yv rfl (o_ (Az 2 (Rw p44 [(8,iV p102),(9,iV p103),(23,.bool (decide (p103<(p45.length:Int))))]) (Od [(384,Bo (if a1>a0.clock then a1 else a0.clock) r1.next (An 768) p45)]) (Co h2 (fun KS h2=>?_) (fun KS h2=>?_))))))
   ·refine Lg 3 (Il (fun S=>∃p132:Int,S=⟨Rw p44 [(8,iV p132),(9,iV p103)],Od [(384,Bo (if a1>a0.clock then a1 else a0.clock) r1.next (An 768) p45)],[]⟩∧Vr p103 p132=some o2) ?_ (fun J133=>?_))
    ·rintro _ ⟨p132,rfl,h2⟩
     refine Ay 5 ?_
     obtain rfl:=sj h2
     exact kn hK2 rfl rfl
    ·refine Bm ?_
     refine Ay 3 (Ao (bb h2 fun y134 e135 h2=>kV rfl rfl e135 (bb h2 fun y136 e137 h2=>lo_ rfl rfl e137 (o_ (Az 3 (Rw p44 [(8,iV p102),(9,iV p103),(10,.ptr 640 0)]) (Od [(384,Bo (if a1>a0.clock then a1 else a0.clock) r1.next (An 768) p45),(640,Ac y136)]) (Bm (bb h2 fun y138 e139 h2=>bb h2 fun y140 e141 h2=>Ay 4 (Bg (Ag tv (Bn (u:=.ptr 640 1) rfl (fun hg=>(Ax ⟨tv,tv⟩ rfl tv)) (⟨tv,Ag tv (Bn (u:=iV y136.Bl) rfl (fun hg=>(Ax ⟨(fun _=>hg),tv⟩ rfl (nl rfl))) (⟨tv,Ag tv (Bn (u:=.ptr 384 0) rfl (fun hg=>(Ax ⟨tv,tv⟩ rfl tv)) (⟨tv,Ag tv (Bn (u:=iV (if a1>a0.clock then a1 else a0.clock)) rfl (fun hg=>(Ax ⟨(fun _=>hg),tv⟩ rfl (nl rfl))) (⟨tv,Ag tv (Bn (u:=.bool (decide (y136.Bl≤(if a1>a0.clock then a1 else a0.clock)))) rfl (fun hg=>(Ax ⟨(fun _=>hg),(fun _=>hg),tv⟩ rfl tv)) (⟨tv,Ag tv (Cu rfl rfl rfl (fun h=>Qm h) tv rfl (⟨tv,Ag tv (Ca rfl tv (⟨tv,Ag tv (Bn (u:=iV p102) rfl (fun hg=>(Dg (v:=iV p102) rfl tv)) (⟨tv,Ag tv (Bn (u:=.bool (decide (p102<0))) rfl (fun hg=>(Ax ⟨(fun _=>hg),tv,tv⟩ rfl tv)) (⟨tv,Ag tv (Bn (u:=.bool (decide (p102<0))) rfl (fun hg=>(Dg (v:=.may ((bif (!y136.Ck) then (decide (y136.Bl≤(if a1>a0.clock then a1 else a0.clock))) else false)==true) (.bool (decide (p102<0)))) rfl (fun _=>hg))) (⟨tv,Ag tv (Bn (u:=.ptr 640 1) rfl (fun hg=>(Ax ⟨tv,tv⟩ rfl tv)) (⟨tv,?_⟩))⟩))⟩))⟩))⟩))⟩))⟩))⟩))⟩))⟩))⟩)))))))))))
     refine Ag tv (Bn (u:=iV y136.Bl) rfl (fun hg=>(Ax ⟨(fun _=>hg),tv⟩ rfl (nl rfl))) (⟨tv,Ag tv (Bn (u:=.ptr 384 2) rfl (fun hg=>(Ax ⟨tv,tv⟩ rfl tv)) (⟨tv,Ag tv (Bn (u:=Af 768 p45) rfl (fun hg=>(Ax ⟨(fun _=>hg),tv⟩ rfl (nl rfl))) (⟨tv,Ag tv (Bn (u:=iV p102) rfl (fun hg=>(Dg (v:=iV p102) rfl tv)) (⟨tv,Ag tv (Bn (u:=.optr 768 4 (0+p102.toNat) 0) rfl (fun hg=>(Hf (e:=Ac) (y:=y138) rfl rfl (fun _=>hg) rfl rfl (fun _=>hg) (ip hg e139))) (⟨tv,Ag tv (Bn (u:=.optr 768 4 (0+p102.toNat) 1) rfl (fun hg=>(Ax ⟨(fun _=>hg),tv⟩ rfl tv)) (⟨tv,Cb (Bn (u:=iV y140.Bl) rfl (fun hg=>(Bk (e:=Ac) (y:=y140) (v:=iV y140.Bl) rfl rfl (fun _=>hg) rfl rfl (ip hg e141) rfl (nl rfl) rfl)) (⟨⟨Br (v:=iV y140.Bl) rfl (fun hg=>(Bk (e:=Ac) (y:=y140) (v:=iV y140.Bl) rfl rfl (fun _=>hg) rfl rfl (ip hg e141) rfl (nl rfl) rfl)) rfl,tv⟩,Ag tv (Bn (u:=.bool (decide (y136.Bl<y140.Bl))) rfl (fun hg=>(Ax ⟨(fun _=>hg),(fun _=>hg),tv⟩ rfl tv)) (⟨⟨Br (v:=iV y140.Bl) rfl (fun hg=>(Bk (e:=Ac) (y:=y140) (v:=iV y140.Bl) rfl rfl (fun _=>hg) rfl rfl (ip hg e141) rfl (nl rfl) rfl)) rfl,tv⟩,Ag tv (Nq (u:=.bool (bif (decide (p102<0)) then true else (decide (y136.Bl<y140.Bl)))) rfl (fun hg=>Tl rfl rfl (fun _=>hg) rfl rfl tv (fun h=>Bf hg (Rl h)) rfl) (⟨⟨Br (v:=iV y140.Bl) rfl (fun hg=>(Bk (e:=Ac) (y:=y140) (v:=iV y140.Bl) rfl rfl (fun _=>hg) rfl rfl (ip hg e141) rfl (nl rfl) rfl)) rfl,tv⟩,Ag tv (Cu rfl rfl rfl (fun h=>Qm h) tv rfl (⟨⟨Br (v:=iV y140.Bl) rfl (fun hg=>(Bk (e:=Ac) (y:=y140) (v:=iV y140.Bl) rfl rfl (fun _=>hg) rfl rfl (ip hg e141) rfl (nl rfl) rfl)) rfl,tv⟩,Hb (bv h2 fun v142 e143 h2=>Dd ⟨Rw p44 [(8,iV p102),(9,iV p103),(55,.bool v142)],Od [(384,Bo (if a1>a0.clock then a1 else a0.clock) r1.next (An 768) p45)],[]⟩ (Dv (by subst e143; kernel_rfl)) (Co h2 (fun QL h2=>?_) (fun QL h2=>?_)))⟩))⟩))⟩))⟩))⟩))⟩))⟩))⟩))⟩))⟩))
     ·refine Ay 4 ?_
      exact jn J133 ⟨_,rfl,h2⟩
     ·refine Js (Rp ?_)
      exact jn J133 ⟨_,rfl,h2⟩
   ·obtain rfl:=sj h2
    obtain rfl:=hx2 _ rfl
    refine Iq rfl ?_
    exact jn hE2 ⟨_,rfl,rfl⟩

/- loop.example/g00149/spec.l09Copy -/
def HB:=[X_ 1 0,a_ 2 (zV 131 132 133)]
def HC:=[f_ 3 1 0,L_ 4 3 3,q_ 5 111 [.t 4],f_ 6 1 0,s_ 6 5 3]
def HD:List Bv:=[⟨some 7,.mkS 2 [iV 0,.bool false] 0 [],none⟩,f_ 8 1 3,l_ 9 8 1,⟨some 10,.app 2 16 (.t 7) (.t 9),none⟩,f_ 11 1 3,s_ 11 10 1]
def HE:List Bv:=[⟨some 12,.mkS 1 [iV 0] 0 [],none⟩,f_ 13 1 4,l_ 14 13 1,⟨some 15,.app 1 8 (.t 12) (.t 14),none⟩,f_ 16 1 4,s_ 16 15 1]
def HF:=[L_ 17 1 6,s_ 2 17 6]
def c102:Dj:=⟨1,18,[.cell 2 6 true],sr HB (sr HC (sr HD (sr HE (rr HF))))⟩
def kZ (D:Bi):Prop:=∀a0 r,cN a0=some r→D 102 ⟨[.agg (Bc a0)],[]⟩ ⟨.agg (Au r (An 0) (An 1) (An 2)),[],[]⟩
abbrev mY:=fun (r:List (Nat×List V))=>(128,At 0 0 (An 131) [] (An 132) [] (An 133) [] false)::r
theorem F102 (H111:lA C):kZ (FO C c102):=by
 intro a0 r h0
 refine f0 (Az 4 [(1,.ptr 64 0),(2,.ptr 128 0)] (mY [(64,Bc a0)]) (Ay 3 (Ao (bb h0 fun r1 e2 h0=>Ti (H111 a0.Ad r1 e2) (ar (Bf rfl (af rfl))) (o_ (Az 3 [(1,.ptr 64 0),(2,.ptr 128 0)] (mY [(64,At r1.clock r1.next (An 320) r1.Ae u_ a0.Ab u_ a0.Ah a0.Am)]) (Ay 4 (Ao (gg h0 fun c3 h0=>st (Je (e:=Bw) (l0:=([]:List Ai)) (l1:=a0.Ab) rfl rfl tv rfl (by decide) c3 (o_ (Az 3 [(1,.ptr 64 0),(2,.ptr 128 0)] (mY [(64,At r1.clock r1.next (An 320) r1.Ae (An 448) (([]:List Ai)++a0.Ab) u_ a0.Ah a0.Am)]) (Ay 4 (Ao (gg h0 fun c4 h0=>st (Je (e:=eI) (l0:=([]:List Int)) (l1:=a0.Ah) rfl rfl tv rfl (by decide) c4 (o_ ?_)))))))))))))))))
 obtain rfl:=sj h0
 exact Cy 9

/- loop.example/g00149/spec.l08Grant -/
def c70_r0:=[X_ 3 0,a_ 6 (zT 387),i_ 7 0,i_ 8 0]
def c70_r1:=[m_ 11 1,B_ .lss 12 11 1,m_ 13 12,mF 13 14 2,mF 13 15 1,pF 13 16 (.bin .lss (.t 14) (.t 15)),po 17 13 16,m_ 10 17]
def c70_r2:=[L_ 18 3 3,s_ 6 18 3,i_ 7 0,i_ 8 4]
def c70_r3:=[f_ 20 3 0,l_ 21 20 1,B_ .eql 22 21 9223372036854775807,m_ 19 22]
def c70_r4:=[L_ 23 3 3,s_ 6 23 3,i_ 7 0,i_ 8 11]
def c70_r5:=[f_ 25 3 2,l_ 26 25 1,n_ 27 26,B_ .eql 28 27 40,m_ 29 28,fF 29 30 3 1,lF 29 31 30 1 false,pF 29 32 (.bin .eql (.t 31) (.c (iV 1000000))),po 33 29 32,m_ 24 33]
def c70_r6:=[L_ 34 3 3,s_ 6 34 3,i_ 7 0,i_ 8 9]
def c70_r7:=[L_ 35 3 3,q_ 36 111 [.t 35],a_ 9 (zT 579),s_ 9 36 3]
def c70_r8:=tk [f_ 37 9 2,l_ 38 37 1,f_ 39 3 1,l_ 40 39 1,f_ 41 3 0,l_ 42 41 1,m_ 43 1,f_ 45 3 0,l_ 46 45 1,m_ 47 2] (.alt [m_ 47 2,l_ 46 45 1,f_ 45 3 0,l_ 40 39 1,f_ 39 3 1,l_ 38 37 1,f_ 37 9 2] (q_ 44 53 [.t 42,.t 43]) (.alt [l_ 40 39 1,f_ 39 3 1,l_ 38 37 1,f_ 37 9 2] (q_ 48 53 [.t 46,.t 47]) (tk [⟨some 49,.p (.build [iV 0,iV 0,iV 0,.bool false] [(0,1,.t 40),(1,1,.t 44),(2,1,.t 48)]),none⟩] (.alt [l_ 38 37 1,f_ 37 9 2] ⟨some 50,.mkS 4 [iV 0,iV 0,iV 0,.bool false] 1 [(0,.t 49)],none⟩ (.alt [] ⟨some 51,.app 4 32 (.t 38) (.t 50),none⟩ (tk [f_ 52 9 2] (.alt [] (s_ 52 51 1) .fin .stop)) .stop) .stop)) .stop) .stop)
def c70_r9:=[f_ 53 9 1,l_ 54 53 1,B_ .add 55 54 1,f_ 56 9 1,s_ 56 55 1]
def AbP:=tk [L_ 57 9 3,f_ 58 3 1,l_ 59 58 1] (.alt [l_ 59 58 1,f_ 58 3 1] (s_ 6 57 3) (tk [m_ 7 59,i_ 8 0] .fin) .stop)
def c70:Dj:=⟨3,60,[.cell 6 3 true,.t 7,.t 8],sr c70_r0 (.seq (.block 0 (sr c70_r1 (.ite (.t 10) (rr c70_r2) (sr c70_r3 (.ite (.t 19) (rr c70_r4) (sr c70_r5 (iz 24 (rr c70_r6)))))))) (sr c70_r7 (sd c70_r8 (sr c70_r9 (sd AbP .ret)))))⟩
def K70 (D:Bi):Prop:=∀a0 a1 a2 r,g70 a0 a1 a2=some r→D 70 ⟨[.agg (Ba a0),iV a1,iV a2],[]⟩ ⟨.tup [.agg (Ba r.1),iV r.2.1,iV r.2.2],[],[]⟩
abbrev jR:=fun x0 (r:List (Nat×List V))=>(192,Ba x0)::(384,Bo 0 0 (An 387) [])::r
abbrev pM:=fun x0 x1 (r:List (Nat×V))=>(1,iV x0)::(2,iV x1)::(3,.ptr 192 0)::(6,.ptr 384 0)::r
theorem F70 (H53:K53 C) (H111:lA C):K70 (FO C c70):=by
 intro a0 a1 a2 r h0
 refine f0 (rO 19 (pM a1 a2 [(10,.bool (bif (decide (a1<1)) then true else (decide (a2<a1))))]) (jR a0 []) (Co h0 (fun c1 h0=>?_) (fun c1 h0=>?_)))
 ·obtain rfl:=sj h0
  exact Cy 7
 ·refine Az 6 (pM a1 a2 [(19,.bool (a0.clock==9223372036854775807))]) (jR a0 []) (Co h0 (fun c2 h0=>?_) (fun c2 h0=>?_))
  ·obtain rfl:=sj h0
   exact Cy 7
  ·refine Ay 3 (Ao (Me rfl (o_ (cH 8 (bv h0 fun v3 e4 h0=>Dd ⟨pM a1 a2 [(24,.bool v3)],jR a0 [],[]⟩ (Dv (by subst e4; kernel_rfl)) (Co h0 (fun c5 h0=>?_) (fun c5 h0=>?_)))))))
   ·obtain rfl:=sj h0
    exact Cy 7
   ·refine Ay 5 (Ao (bb h0 fun r6 e7 h0=>Ti (H111 a0 r6 e7) (ar (Bf rfl (af rfl))) (o_ (Az 3 (pM a1 a2 [(9,.ptr 576 0)]) (jR a0 [(576,Cn r6 (An 2304))]) (Bm (bb h0 fun r8 e9 h0=>bb h0 fun r10 e11 h0=>gg h0 fun c12 h0=>Ay 10 (Bg (Rq (H53 a0.clock a1 r8 e9) rfl (dw [(2,iV a2),(3,.ptr 192 0),(6,.ptr 384 0),(9,.ptr 576 0),(37,.ptr 576 2),(38,Af 2304 r6.Ae),(39,.ptr 192 1),(40,iV a0.next),(44,iV r8),(45,.ptr 192 0),(46,iV a0.clock),(47,iV a2)] [(192,Ba a0),(384,Bo 0 0 (An 387) []),(576,Cn r6 (An 2304))] hB (Rq (H53 a0.clock a2 r10 e11) rfl (dw [(3,.ptr 192 0),(6,.ptr 384 0),(9,.ptr 576 0),(37,.ptr 576 2),(38,Af 2304 r6.Ae),(39,.ptr 192 1),(40,iV a0.next),(44,iV r8),(48,iV r10)] [(192,Ba a0),(384,Bo 0 0 (An 387) []),(576,Cn r6 (An 2304))] hB (Ag tv (c_ (v:=.agg (oK a0.next r8 r10 false)) (Ax ⟨tv,tv,tv,tv⟩ rfl ⟨⟨rfl,rfl,nl rfl⟩,⟨rfl,rfl,nl rfl⟩,⟨rfl,rfl,nl rfl⟩,tv⟩) (⟨tv,Bq (bF ⟨tv,tv⟩ ⟨⟨nl rfl,rfl,rfl⟩,tv⟩ (d0 hB (Bq (Je (e:=Ac) (l0:=r6.Ae) (l1:=([Aa.mk a0.next r8 r10 false]:List Aa)) rfl rfl tv rfl (by decide) c12 (d0 tv ?_)) Aw))) Aw⟩)))) Aw)) Aw))))))))
    refine Ag tv (c_ (Ax ⟨tv,tv⟩ rfl tv) (⟨tv,Bq (Ei rfl rfl tv rfl rfl rfl (nl rfl) (d0 tv (d_ (Az 9 [(3,.ptr 192 0),(6,.ptr 384 0),(9,.ptr 576 0)] (jR a0 [(576,[iV r6.clock,iV (wi (r6.next+1)),Af 2304 (r6.Ae++([Aa.mk a0.next r8 r10 false]:List Aa))])]) (Ay 4 (Bg (Bq (Ei rfl rfl tv rfl rfl rfl (nl rfl) (d0 hB (d_ (rZ_ 3 [2304] [] [(6,.ptr 384 0),(7,iV a0.next),(8,iV 0)] [(384,[iV r6.clock,iV (wi (r6.next+1)),Cg (r6.Ae++([Aa.mk a0.next r8 r10 false]:List Aa))])] ?_)))) Aw))))))) Aw⟩))
    obtain rfl:=sj h0
    exact Lf (Eg rfl rfl rfl rfl rfl tv)

/- loop.example/g00149/spec.l09Call -/
def c86_r0:List Bv:=[⟨some 8,.nilS 1,none⟩,i_ 9 0]
def c86_r1:=[m_ 13 3,B_ .eql 14 13 1]
def c86_r2:=[m_ 15 0,m_ 8 15,i_ 9 13]
def c86_r3:List Bv:=[⟨some 16,.mkS 1 [iV 0] 0 [],none⟩,m_ 10 16]
def c86_r4:=[i_ 11 0]
def c86_r5:=[m_ 17 11,m_ 18 0,n_ 19 18,b_ .lss 20 17 19,m_ 21 20,mT 21 22 0,mT 21 23 11,xT 21 24 22 23 1,lT 21 25 24 1 false,mT 21 26 1,pT 21 27 (.bin .lss (.t 25) (.t 26)),pa 28 21 27]
def c86_r6:List Bv:=[m_ 31 10,m_ 32 0,m_ 33 11,x_ 34 32 33 1,l_ 35 34 1,⟨some 36,.mkS 1 [iV 0] 1 [(0,.t 35)],none⟩,⟨some 37,.app 1 8 (.t 31) (.t 36),none⟩,m_ 10 37]
def c86_r7:=[m_ 29 11,B_ .add 30 29 1,m_ 11 30]
def c86_l0:IR:=(.seq (sr c86_r5 (.ite (.t 28) .skip (.exit 0))) (.seq (.block 1 (.reg c86_r6)) (.reg c86_r7)))
def c86_r8:=[m_ 38 10,n_ 39 38,m_ 12 39]
def c86_r9:=[m_ 40 2]
def Acb:List Bv:=[m_ 41 10,m_ 42 1,⟨some 43,.mkS 1 [iV 0] 1 [(0,.t 42)],none⟩,⟨some 44,.app 1 8 (.t 41) (.t 43),none⟩,m_ 10 44]
def Acc:=[m_ 45 12,m_ 46 0,n_ 47 46,b_ .lss 48 45 47,m_ 49 48,mT 49 50 0,mT 49 51 12,xT 49 52 50 51 1,lT 49 53 52 1 false,mT 49 54 1,pT 49 55 (.bin .eql (.t 53) (.t 54)),pa 56 49 55]
def Acd:=[m_ 57 12,B_ .add 58 57 1,m_ 12 58]
def Ace:List Bv:=[m_ 59 10,m_ 60 0,m_ 61 12,⟨some 62,.p (.slice (.t 60) (some (.t 61)) none 1),none⟩,⟨some 63,.app 1 8 (.t 59) (.t 62),none⟩,m_ 10 63]
def Acf:=[m_ 64 3,B_ .eql 65 64 2]
def Acg:=[m_ 66 10,m_ 8 66,i_ 9 15]
def Ach:=[m_ 67 10,m_ 8 67,i_ 9 0]
def c86:Dj:=⟨4,68,[.t 8,.t 9],sr c86_r0 (.seq (sr c86_r1 (iz 14 (rr c86_r2))) (sr c86_r3 (.seq (sr c86_r4 (Ik 0 c86_l0)) (sr c86_r8 (.seq (sr c86_r9 (iz 40 (.reg Acb))) (.seq (sr Acc (iz 56 (.reg Acd))) (sr Ace (.seq (sr Acf (iz 65 (rr Acg))) (rr Ach)))))))))⟩
def K86 (D:Bi):Prop:=∀a0 a1 a2 a3 r,g86 a0 a1 a2 a3=some r→D 86 ⟨[lI a0,iV a1,.bool a2,iV a3],[]⟩ ⟨.tup [lI r.1,iV r.2],[],[]⟩
abbrev eD:=fun x0 x1 x2 x3 (r:List (Nat×V))=>(0,lI x0)::(1,iV x1)::(2,.bool x2)::(3,iV x3)::r
theorem F86:K86 (FO C c86):=by
 intro a0 a1 a2 a3 r h0
 refine f0 (Az 10 (eD a0 a1 a2 a3 [(14,.bool (a3==1))]) [] (Co h0 (fun c1 h0=>?_) (fun c1 h0=>?_)))
 ·obtain rfl:=sj h0
  exact Cy 6
 ·refine Az 11 (eD a0 a1 a2 a3 [(10,oI 1024 []),(11,iV 0)]) [] (By (bb h0 fun r31 e32 h0=>Cs (R:=(fun S=>∃p22:List Int,p22=r31∧S=⟨eD a0 a1 a2 a3 [(10,oI 1024 p22)],[],[]⟩)) (Vs a0 a1) (fun s S=>match s with | (p10,p11)=>S=⟨eD a0 a1 a2 a3 [(10,oI 1024 p10),(11,iV p11)],[],[]⟩) e32 _ (Dv (by kernel_rfl)) rfl 0 (fun _=>rfl) ?_ ?_))
  ·rintro S _ hfg ⟨p22,rfl,rfl⟩
   refine Dd _ hfg (Bm (Ao (st (Ca rfl tv (Yv rfl (o_ (Az 7 [(0,lI a0),(1,iV a1),(3,iV a3),(10,oI 1024 p22),(12,iV (p22.length:Int)),(40,.bool a2)] [] (Kh (cb:=a2) (fun S=>∃p35:List Int,S=⟨[(0,lI a0),(1,iV a1),(3,iV a3),(10,oI 1024 p35),(12,iV (p22.length:Int))],[],[]⟩∧aJ a0 a1 a3 p22 p35=some r) rfl ?_ (fun c49 J48=>?_) (fun c49 J48=>?_)))))))))
   ·rintro _ ⟨p35,rfl,h0⟩
    refine Ay 5 (Ao (Me rfl (o_ (cH 4 (Ao (bb h0 fun y36 e37 h0=>st (Bn (u:=.iptr [iV y36]) rfl (fun hg=>(Ob (e:=eI) (y:=y36) rfl rfl (fun _=>hg) rfl rfl (fun _=>hg) (ip hg e37))) (o_ (cH 5 (bv h0 fun v38 e39 h0=>Dd ⟨[(0,lI a0),(3,iV a3),(10,oI 1024 p35),(12,iV (p22.length:Int)),(56,.bool v38)],[],[]⟩ (Dv (by subst e39; kernel_rfl)) (Kh (cb:=v38) (fun S=>∃p41:Int,S=⟨[(0,lI a0),(3,iV a3),(10,oI 1024 p35),(12,iV p41)],[],[]⟩∧aK a0 a3 p35 p41=some r) rfl ?_ (fun c47 J46=>?_) (fun c47 J46=>?_))))))))))))
    ·rintro _ ⟨p41,rfl,h0⟩
     refine Ay 5 (Ao (bb h0 fun s42 e43 h0=>st (c_ (Qk (e:=eI) (y:=s42) rfl rfl tv ⟨tv,tv⟩ rfl rfl e43) (gg h0 fun c44 h0=>st (Je (e:=eI) (l0:=p35) (l1:=s42) rfl rfl tv rfl (by decide) c44 (o_ (Az 8 [(10,oI 1024 (p35++s42)),(65,.bool (a3==2))] [] (Co h0 (fun c45 h0=>?_) (fun c45 h0=>?_)))))))))
     ·obtain rfl:=sj h0
      exact Cy 6 [1024]
     ·obtain rfl:=sj h0
      exact Cy 8 [1024]
    ·replace h0:=ip c47 h0
     refine Ay 4 ?_
     exact jn J46 ⟨_,rfl,h0⟩
    ·replace h0:=Xj c47 h0
     refine Js ?_
     exact jn J46 ⟨_,rfl,h0⟩
   ·replace h0:=ip c49 h0
    refine Ay 3 (Ao (gg h0 fun c50 h0=>st (Je (e:=eI) (l0:=p22) (l1:=([a1]:List Int)) rfl rfl tv rfl (by decide) c50 (st (Ca rfl tv (Gr ?_))))))
    exact jn J48 ⟨_,rfl,h0⟩
   ·replace h0:=Xj c49 h0
    refine Js ?_
    exact jn J48 ⟨_,rfl,h0⟩
  ·rintro ⟨p10,p11⟩ o1 _ K1 rfl h1 hx1 hK1 hE1 hR1
   refine Ay 4 (Ao (Me rfl (o_ (cH 4 (Ao (bb h1 fun y23 e24 h1=>st (Bn (u:=.iptr [iV y23]) rfl (fun hg=>(Ob (e:=eI) (y:=y23) rfl rfl (fun _=>hg) rfl rfl (fun _=>hg) (ip hg e24))) (o_ (cH 5 (bv h1 fun v25 e26 h1=>Dd ⟨eD a0 a1 a2 a3 [(10,oI 1024 p10),(11,iV p11),(28,.bool v25)],[],[]⟩ (Dv (by subst e26; kernel_rfl)) (Co h1 (fun c27 h1=>?_) (fun c27 h1=>?_))))))))))))
   ·refine Ay 7 (Ao (bb h1 fun y28 e29 h1=>Tc rfl rfl e29 (o_ (Ay 2 (Ao (gg h1 fun c30 h1=>st (Je (e:=eI) (l0:=p10) (l1:=([y28]:List Int)) rfl rfl tv rfl (by decide) c30 (o_ (Az 3 (eD a0 a1 a2 a3 [(10,oI 1024 (p10++([y28]:List Int))),(11,iV p11)]) [] (Ay 4 ?_))))))))))
    obtain rfl:=sj h1
    exact kn hK1 rfl rfl
   ·obtain rfl:=sj h1
    obtain rfl:=hx1 _ rfl
    refine Iq rfl ?_
    exact jn hE1 ⟨_,rfl,rfl⟩

/- loop.example/g00149/spec.l09Recover -/
def NZ:=[X_ 1 0,a_ 2 (zV 131 132 133)]
def OA:=[L_ 5 1 6,q_ 6 102 [.t 5],a_ 3 (zV 195 196 197),s_ 3 6 6]
def OB:=[i_ 4 0]
def OC:=[m_ 7 4,f_ 8 3 3,l_ 9 8 1,n_ 10 9,b_ .lss 11 7 10]
def OD:List Bv:=[f_ 14 3 3,l_ 15 14 1,m_ 16 4,x_ 17 15 16 2,f_ 18 17 1,⟨none,.store (.t 18) (.c (.bool true)) 1,none⟩]
def OE:=[m_ 12 4,B_ .add 13 12 1,m_ 4 13]
def NY:IR:=(.seq (sr OC (.ite (.t 11) .skip (.exit 0))) (.seq (.block 1 (.reg OD)) (.reg OE)))
def OF:List Bv:=[f_ 19 3 5,⟨none,.store (.t 19) (.c (.bool true)) 1,none⟩]
def OG:=[L_ 20 3 6,s_ 2 20 6]
def c133:Dj:=⟨1,21,[.cell 2 6 true],sr NZ (sr OA (.seq (sr OB (Ik 0 NY)) (sr OF (rr OG))))⟩
def sY (D:Bi):Prop:=∀a0 r,fJ a0=some r→D 133 ⟨[.agg (Bc a0)],[]⟩ ⟨.agg (Au r (An 0) (An 1) (An 2)),[],[]⟩
abbrev Vy:=fun (r:List (Nat×List V))=>(128,At 0 0 (An 131) [] (An 132) [] (An 133) [] false)::r
abbrev bG:=fun (r:List (Nat×V))=>(2,.ptr 128 0)::(3,.ptr 192 0)::r
theorem F133 (H102:kZ C):sY (FO C c133):=by
 intro a0 r h0
 refine f0 (Az 4 [(1,.ptr 64 0),(2,.ptr 128 0)] (Vy [(64,Bc a0)]) (Ay 2 (Ao (bb h0 fun r1 e2 h0=>Ti (H102 a0 r1 e2) (ar (Bf rfl (af (af (af (Bf rfl rfl)))))) (o_ (Az 8 (bG [(4,iV 0)]) (Vy [(192,Au r1 (An 384) (An 385) (An 386))]) (By (bb h0 fun r23 e24 h0=>Cs (R:=(fun S=>∃p17:List Ai,p17=r23∧S=⟨bG [],Vy [(192,At r1.Ad.clock r1.Ad.next (An 384) r1.Ad.Ae (An 385) p17 (An 386) r1.Ah r1.Am)],[]⟩)) (Qr) (fun s S=>match s with | (p8,p9)=>S=⟨bG [(4,iV p8)],Vy [(192,At r1.Ad.clock r1.Ad.next (An 384) r1.Ad.Ae (An 385) p9 (An 386) r1.Ah r1.Am)],[]⟩) e24 _ (Dv (by kernel_rfl)) rfl 0 (fun _=>rfl) ?_ ?_))))))))
 ·rintro S _ hfg ⟨p17,rfl,rfl⟩
  refine Dd _ hfg ?_
  obtain rfl:=sj h0
  exact Cy 10
 ·rintro ⟨p8,p9⟩ o1 _ K1 rfl h1 hx1 hK1 hE1 hR1
  refine Ay 5 (Ao (Yv rfl (o_ (Az 2 (bG [(4,iV p8),(11,.bool (decide (p8<(p9.length:Int))))]) (Vy [(192,At r1.Ad.clock r1.Ad.next (An 384) r1.Ad.Ae (An 385) p9 (An 386) r1.Ah r1.Am)]) (Co h1 (fun c18 h1=>?_) (fun c18 h1=>?_))))))
  ·refine Ay 7 (Ao (bb h1 fun y19 e20 h1=>kV rfl rfl e20 (st (c_ (Ax ⟨tv,tv⟩ rfl tv) (bb h1 fun y21 e22 h1=>so_ (Ai.mk y21.Av true) rfl rfl e22 (o_ (Az 2 (bG [(4,iV p8)]) (Vy [(192,At r1.Ad.clock r1.Ad.next (An 384) r1.Ad.Ae (An 385) (p9.set p8.toNat (Ai.mk y21.Av true)) (An 386) r1.Ah r1.Am)]) (Ay 4 ?_))))))))
   obtain rfl:=sj h1
   exact kn hK1 rfl rfl
  ·obtain rfl:=sj h1
   obtain rfl:=hx1 _ rfl
   refine Iq rfl ?_
   exact jn hE1 ⟨_,rfl,rfl⟩

/- loop.example/g00149/spec.l09Fate -/
def QT:=[X_ 2 0,i_ 4 0]
def QU:=[m_ 5 1,f_ 6 2 5,l_ 7 6 1,n_ 8 7,b_ .lss 9 5 8]
def QV:=[f_ 10 2 5,l_ 11 10 1,m_ 12 1,x_ 13 11 12 1,l_ 14 13 1,m_ 4 14]
def QW:=[i_ 4 0]
def c145:Dj:=⟨2,15,[.t 4],sr QT (.seq (sr QU (iz 9 (rr QV))) (rr QW))⟩
def FX (D:Bi):Prop:=∀a0 a1 r,lW a0 a1=some r→D 145 ⟨[.agg (Aq a0),iV a1],[]⟩ ⟨iV r,[],[]⟩
theorem F145:FX (FO C c145):=by
 intro a0 a1 r h0
 refine f0 (Az 4 [(1,iV a1),(2,.ptr 128 0)] [(128,Aq a0)] (Ay 5 (Ao (Me rfl (o_ (Az 2 [(1,iV a1),(2,.ptr 128 0),(9,.bool (decide (a1<(a0.Ce.length:Int))))] [(128,Aq a0)] (Co h0 (fun c1 h0=>?_) (fun c1 h0=>?_))))))))
 ·refine Ay 4 (Ao (bb h0 fun y2 e3 h0=>Tc rfl rfl e3 (o_ ?_)))
  obtain rfl:=sj h0
  exact Cy 4
 ·obtain rfl:=sj h0
  exact Cy 6

/- loop.example/g00149/spec.l09Issue -/
def NN:=[X_ 2 0,X_ 3 1,a_ 4 (zV 259 260 261),a_ 5 [iV 0,iV 0]]
def NO:=[f_ 11 2 0,L_ 12 11 3,f_ 13 3 2,l_ 14 13 1,f_ 15 3 3,l_ 16 15 1,q_ 17 70 [.t 12,.t 14,.t 16],m_ 10 17,e_ 18 10 0,e_ 19 10 1,e_ 20 10 2,a_ 6 (zT 387),s_ 6 18 3,m_ 7 19,m_ 8 20]
def NP:=[m_ 21 8,B_ .eql 22 21 0,m_ 23 22,fT 23 24 2 3,lT 23 25 24 1 false,pT 23 26 (.len (.t 25)),pT 23 27 (.bin .eql (.t 26) (.c (iV 40))),pa 28 23 27]
def NQ:=[i_ 8 9]
def NS:=[m_ 29 8,B_ .neq 30 29 0]
def NT:List Bv:=[L_ 31 2 6,m_ 32 8,⟨some 33,.p (.build [iV 0,iV 0] [(0,1,.t 32)]),none⟩,s_ 4 31 6,s_ 5 33 2]
def NU:=[L_ 34 2 6,q_ 35 102 [.t 34],a_ 9 (zV 579 580 581),s_ 9 35 6]
def NV:=[f_ 36 6 1,l_ 37 36 1,f_ 38 9 0,f_ 39 38 1,s_ 39 37 1]
def NW:List Bv:=[f_ 40 9 3,l_ 41 40 1,m_ 42 7,⟨some 43,.p (.build [iV 0,.bool false] [(0,1,.t 42)]),none⟩,⟨some 44,.mkS 2 [iV 0,.bool false] 1 [(0,.t 43)],none⟩,⟨some 45,.app 2 16 (.t 41) (.t 44),none⟩,f_ 46 9 3,s_ 46 45 1]
def NX:=[f_ 47 3 6,l_ 48 47 1,B_ .eql 49 48 1]
def vA:List Bv:=[L_ 50 9 6,q_ 51 133 [.t 50],⟨some 52,.p (.build [iV 0,iV 0] [(0,1,.c (iV 15))]),none⟩,s_ 4 51 6,s_ 5 52 2]
def vB:=tk [f_ 54 9 4,l_ 55 54 1,m_ 56 7,L_ 57 3 7] (.alt [m_ 56 7,l_ 55 54 1,f_ 54 9 4] (q_ 58 145 [.t 57,.c (iV 0)]) (.alt [] (q_ 59 86 [.t 55,.t 56,.c (.bool true),.t 58]) (tk [m_ 53 59,e_ 60 53 0,e_ 61 53 1,f_ 62 9 4] (.alt [e_ 61 53 1] (s_ 62 60 1) (tk [m_ 8 61] .fin) .stop)) .stop) .stop)
def vC:=[f_ 63 3 6,l_ 64 63 1,B_ .eql 65 64 2]
def vD:List Bv:=[L_ 66 9 6,q_ 67 133 [.t 66],⟨some 68,.p (.build [iV 0,iV 0] [(0,1,.c (iV 15))]),none⟩,s_ 4 67 6,s_ 5 68 2]
def vE:=[m_ 69 8,B_ .neq 70 69 0]
def vF:List Bv:=[f_ 71 9 3,l_ 72 71 1,f_ 73 9 3,l_ 74 73 1,n_ 75 74,B_ .sub 76 75 1,x_ 77 72 76 2,f_ 78 77 1,⟨none,.store (.t 78) (.c (.bool true)) 1,none⟩]
def vG:List Bv:=[L_ 79 9 6,m_ 80 8,⟨some 81,.p (.build [iV 0,iV 0] [(0,1,.t 80)]),none⟩,s_ 4 79 6,s_ 5 81 2]
def vH:List Bv:=[f_ 82 9 3,l_ 83 82 1,f_ 84 9 3,l_ 85 84 1,n_ 86 85,B_ .sub 87 86 1,⟨some 88,.p (.slice (.t 83) none (some (.t 87)) 2),none⟩,f_ 89 9 3,s_ 89 88 1]
def vI:=[L_ 90 6 3,f_ 91 9 0,s_ 91 90 3]
def vJ:List Bv:=[L_ 92 9 6,m_ 93 7,⟨some 94,.p (.build [iV 0,iV 0] [(1,1,.t 93)]),none⟩,s_ 4 92 6,s_ 5 94 2]
def c132:Dj:=⟨2,95,[.cell 4 6 true,.cell 5 2 true],sr NN (sr NO (.seq (sr NP (iz 28 (.reg NQ))) (.seq (sr NS (iz 30 (rr NT))) (sr NU (sr NV (sr NW (.seq (sr NX (iz 49 (rr vA))) (sd vB (.seq (sr vC (iz 65 (rr vD))) (.seq (sr vE (iz 70 (sr vF (rr vG)))) (sr vH (sr vI (rr vJ)))))))))))))⟩
def K132 (D:Bi):Prop:=∀a0 a1 r,g132 a0 a1=some r→D 132 ⟨[.agg (Bc a0),.agg (Aq a1)],[]⟩ ⟨.tup [.agg (Bc r.1),.agg (Ap r.2)],[],[]⟩
abbrev Jt:=fun (r:List (Nat×List V))=>(256,At 0 0 (An 259) [] (An 260) [] (An 261) [] false)::(320,[iV 0,iV 0])::r
abbrev No:=fun x0 (r:List (Nat×V))=>(4,.ptr 256 0)::(5,.ptr 320 0)::(6,.ptr 384 0)::(7,iV x0)::r
theorem F132 (H70:K70 C) (H86:K86 C) (H102:kZ C) (H133:sY C) (H145:FX C):K132 (FO C c132):=by
 intro a0 a1 r h0
 refine f0 (Az 6 [(2,.ptr 128 0),(3,.ptr 192 0),(4,.ptr 256 0),(5,.ptr 320 0)] (Jt [(128,Bc a0),(192,Aq a1)]) (Ay 7 (Ao (bb h0 fun r1 e2 h0=>st (De (r:=.tup [.agg (Ba r1.1),iV r1.2.1,iV r1.2.2]) true (H70 a0.Ad a1.ttl a1.El r1 e2) ⟨tv,tv,tv,tv⟩ rfl rfl (fun h=>nomatch h) (o_ (Az 9 (No r1.2.1 [(2,.ptr 128 0),(3,.ptr 192 0),(8,iV r1.2.2)]) (Jt [(128,Bc a0),(192,Aq a1),(384,Ba r1.1)]) (cH 7 (Ao (st (Bn (u:=iV (a0.Ab.length:Int)) rfl (fun hg=>(Ml (e:=Bw) (l0:=a0.Ab) rfl rfl (fun _=>hg))) (o_ (rO 3 (No r1.2.1 [(2,.ptr 128 0),(3,.ptr 192 0),(8,iV r1.2.2),(28,.bool (bif (r1.2.2==0) then ((a0.Ab.length:Int)==40) else false))]) (Jt [(128,Bc a0),(192,Aq a1),(384,Ba r1.1)]) (Kh (cb:=(bif (r1.2.2==0) then ((a0.Ab.length:Int)==40) else false)) (fun S=>∃p4:Int,S=⟨No r1.2.1 [(2,.ptr 128 0),(3,.ptr 192 0),(8,iV p4)],Jt [(128,Bc a0),(192,Aq a1),(384,Ba r1.1)],[]⟩∧Kd a0 a1 r1 p4=some r) rfl ?_ (fun c27 J26=>?_) (fun c27 J26=>?_)))))))))))))))
 ·rintro _ ⟨p4,rfl,h0⟩
  refine Az 6 (No r1.2.1 [(2,.ptr 128 0),(3,.ptr 192 0),(8,iV p4),(30,.bool (p4 != 0))]) (Jt [(128,Bc a0),(192,Aq a1),(384,Ba r1.1)]) (Co h0 (fun c5 h0=>?_) (fun c5 h0=>?_))
  ·refine Ay 3 (Ao (st (c_ (v:=.agg [iV p4,iV 0]) (Ax ⟨tv,tv⟩ rfl ⟨⟨rfl,rfl,nl rfl⟩,tv⟩) (o_ ?_))))
   obtain rfl:=sj h0
   exact Cy 4
  ·refine Ay 4 (Ao (bb h0 fun r6 e7 h0=>Ti (H102 a0 r6 e7) (ar (Bf rfl (af (af (af (Bf rfl rfl)))))) (o_ (Az 11 (No r1.2.1 [(3,.ptr 192 0),(9,.ptr 576 0)]) (Jt [(192,Aq a1),(384,Ba r1.1),(576,At r6.Ad.clock r1.1.next (An 2240) r6.Ad.Ae (An 2241) r6.Ab (An 2242) r6.Ah r6.Am)]) (Ay 4 (Ao (st (c_ (v:=.agg [iV r1.2.1,.bool false]) (Ax ⟨tv,tv⟩ rfl ⟨⟨rfl,rfl,nl rfl⟩,tv⟩) (st (bF ⟨tv,tv⟩ ⟨⟨nl rfl,rfl,rfl⟩,tv⟩ (gg h0 fun c8 h0=>st (Je (e:=Bw) (l0:=r6.Ab) (l1:=([Ai.mk r1.2.1 false]:List Ai)) rfl rfl tv rfl (by decide) c8 (o_ (Az 10 (No r1.2.1 [(3,.ptr 192 0),(9,.ptr 576 0),(49,.bool (a1.stop==1))]) (Jt [(192,Aq a1),(384,Ba r1.1),(576,[iV r6.Ad.clock,iV r1.1.next,Af 2240 r6.Ad.Ae,Bx 2241 (r6.Ab++([Ai.mk r1.2.1 false]:List Ai)),oI 2242 r6.Ah,.bool r6.Am])]) (Co h0 (fun c9 h0=>?_) (fun c9 h0=>?_))))))))))))))))
   ·refine Ay 2 (Ao (bb h0 fun r10 e11 h0=>Ti (H133 (Aj.mk (Al.mk r6.Ad.clock r1.1.next r6.Ad.Ae) (r6.Ab++([Ai.mk r1.2.1 false]:List Ai)) r6.Ah r6.Am) r10 e11) (ar (Bf rfl (af (af (af (Bf rfl rfl)))))) (st (c_ (v:=.agg [iV 15,iV 0]) (Ax ⟨tv,tv⟩ rfl ⟨⟨rfl,rfl,nl rfl⟩,tv⟩) (o_ ?_)))))
    obtain rfl:=sj h0
    exact Cy 4 [3264,3265,3266]
   ·refine Lg 3 (bb h0 fun r12 e13 h0=>bb h0 fun r14 e15 h0=>Ay 4 (Bg (Rq (H145 a1 0 r12 e13) rfl (dw [(3,.ptr 192 0),(4,.ptr 256 0),(5,.ptr 320 0),(6,.ptr 384 0),(7,iV r1.2.1),(9,.ptr 576 0),(54,.ptr 576 4),(55,oI 2242 r6.Ah),(56,iV r1.2.1),(58,iV r12)] [(192,Aq a1),(256,At 0 0 (An 259) [] (An 260) [] (An 261) [] false),(320,[iV 0,iV 0]),(384,Ba r1.1),(576,[iV r6.Ad.clock,iV r1.1.next,Af 2240 r6.Ad.Ae,Bx 2241 (r6.Ab++([Ai.mk r1.2.1 false]:List Ai)),oI 2242 r6.Ah,.bool r6.Am])] hB (Bq (De (r:=.tup [lI r14.1,iV r14.2]) true (H86 r6.Ah r1.2.1 true r12 r14 e15) ⟨tv,tv,tv,tv,tv⟩ rfl rfl (fun h=>nomatch h) (dw [(3,.ptr 192 0),(4,.ptr 256 0),(5,.ptr 320 0),(6,.ptr 384 0),(7,iV r1.2.1),(9,.ptr 576 0),(59,.tup [lI r14.1,iV r14.2])] [(192,Aq a1),(256,At 0 0 (An 259) [] (An 260) [] (An 261) [] false),(320,[iV 0,iV 0]),(384,Ba r1.1),(576,[iV r6.Ad.clock,iV r1.1.next,Af 2240 r6.Ad.Ae,Bx 2241 (r6.Ab++([Ai.mk r1.2.1 false]:List Ai)),lI r6.Ah,.bool r6.Am])] tv (d_ (Ay 4 (Bg (Bq (Ei rfl rfl tv rfl rfl rfl (nl rfl) (d0 hB (d_ (Az 2 (No r1.2.1 [(3,.ptr 192 0),(8,iV r14.2),(9,.ptr 576 0)]) (Jt [(192,Aq a1),(384,Ba r1.1),(576,[iV r6.Ad.clock,iV r1.1.next,Af 2240 r6.Ad.Ae,Bx 2241 (r6.Ab++([Ai.mk r1.2.1 false]:List Ai)),lI r14.1,.bool r6.Am])]) (Ay 3 (Ao ?_)))))) Aw)))))) Aw)) Aw)))
    refine o_ (Az 3 (No r1.2.1 [(8,iV r14.2),(9,.ptr 576 0),(65,.bool (a1.stop==2))]) (Jt [(384,Ba r1.1),(576,[iV r6.Ad.clock,iV r1.1.next,Af 2240 r6.Ad.Ae,Bx 2241 (r6.Ab++([Ai.mk r1.2.1 false]:List Ai)),lI r14.1,.bool r6.Am])]) (Co h0 (fun c16 h0=>?_) (fun c16 h0=>?_)))
    ·refine Ay 2 (Ao (bb h0 fun r17 e18 h0=>Ti (H133 (Aj.mk (Al.mk r6.Ad.clock r1.1.next r6.Ad.Ae) (r6.Ab++([Ai.mk r1.2.1 false]:List Ai)) r14.1 r6.Am) r17 e18) (ar (Bf rfl (af (af (af (Bf rfl rfl)))))) (st (c_ (v:=.agg [iV 15,iV 0]) (Ax ⟨tv,tv⟩ rfl ⟨⟨rfl,rfl,nl rfl⟩,tv⟩) (o_ ?_)))))
     obtain rfl:=sj h0
     exact Cy 4 [4288,4289,4290]
    ·refine Az 7 (No r1.2.1 [(8,iV r14.2),(9,.ptr 576 0),(70,.bool (r14.2 != 0))]) (Jt [(384,Ba r1.1),(576,[iV r6.Ad.clock,iV r1.1.next,Af 2240 r6.Ad.Ae,Bx 2241 (r6.Ab++([Ai.mk r1.2.1 false]:List Ai)),lI r14.1,.bool r6.Am])]) (Co h0 (fun c19 h0=>?_) (fun c19 h0=>?_))
     ·refine Ay 5 (Ao (Yv rfl (st (c_ (Ax t3 rfl tv) (bb h0 fun y20 e21 h0=>kV rfl rfl e21 (st (c_ (Ax ⟨tv,tv⟩ rfl tv) (bb h0 fun y22 e23 h0=>so_ (Ai.mk y22.Av true) rfl rfl e23 (o_ (Az 1 [(4,.ptr 256 0),(5,.ptr 320 0),(8,iV r14.2),(9,.ptr 576 0)] (Jt [(576,[iV r6.Ad.clock,iV r1.1.next,Af 2240 r6.Ad.Ae,.own 2241 0 2 (((r6.Ab++([Ai.mk r1.2.1 false]:List Ai)).set ((wi (((r6.Ab++([Ai.mk r1.2.1 false]:List Ai)).length:Int)-1)).toNat) (Ai.mk y22.Av true)).map Bw),lI r14.1,.bool r6.Am])]) (Ay 3 (Ao (st (c_ (v:=.agg [iV r14.2,iV 0]) (Ax ⟨tv,tv⟩ rfl ⟨⟨rfl,rfl,nl rfl⟩,tv⟩) (o_ ?_)))))))))))))))
      obtain rfl:=sj h0
      exact Cy 4 [2240,2241]
     ·refine Ay 7 (Ao (Yv rfl (st (c_ (Ax t3 rfl tv) (bb h0 fun s24 e25 h0=>st (c_ (Ey (e:=Bw) (y:=s24) rfl rfl tv ⟨tv,tv⟩ rfl rfl e25) (o_ (Az 9 [(4,.ptr 256 0),(5,.ptr 320 0),(7,iV r1.2.1),(9,.ptr 576 0)] (Jt [(576,At r1.1.clock r1.1.next u_ r1.1.Ae (An 2241) s24 u_ r14.1 r6.Am)]) (Ay 3 (Ao (st (c_ (v:=.agg [iV 0,iV r1.2.1]) (Ax ⟨tv,tv⟩ rfl ⟨⟨rfl,rfl,nl rfl⟩,tv⟩) (o_ ?_)))))))))))))
      obtain rfl:=sj h0
      exact Cy 4 [2241]
 ·replace h0:=ip c27 h0
  refine Ao (st (DF tv (Gr ?_)))
  exact jn J26 ⟨_,rfl,h0⟩
 ·replace h0:=Xj c27 h0
  refine Js ?_
  exact jn J26 ⟨_,rfl,h0⟩

/- loop.example/g00149/spec.l08Done -/
def c76_r0:=[X_ 2 0,a_ 4 (zT 259),i_ 5 0]
def c76_r1:=[L_ 8 2 3,m_ 9 1,q_ 10 92 [.t 8,.t 9],m_ 6 10]
def c76_r2:=[m_ 11 6,B_ .lss 12 11 0]
def c76_r3:=[L_ 13 2 3,s_ 4 13 3,i_ 5 5]
def c76_r4:=[f_ 14 2 2,l_ 15 14 1,m_ 16 6,x_ 17 15 16 4,f_ 18 17 3,l_ 19 18 1,N_ 20 19]
def c76_r5:=[L_ 21 2 3,s_ 4 21 3,i_ 5 13]
def c76_r6:=[L_ 22 2 3,a_ 7 (zT 451),s_ 7 22 3]
def c76_r7:=tk [f_ 24 2 2,l_ 25 24 1,m_ 26 6,⟨some 27,.p (.slice (.t 25) none (some (.t 26)) 4),none⟩,f_ 29 2 2,l_ 30 29 1,m_ 31 6,B_ .add 32 31 1,⟨some 33,.p (.slice (.t 30) (some (.t 32)) none 4),none⟩] (.alt [⟨some 33,.p (.slice (.t 30) (some (.t 32)) none 4),none⟩,B_ .add 32 31 1,m_ 31 6,l_ 30 29 1,f_ 29 2 2,⟨some 27,.p (.slice (.t 25) none (some (.t 26)) 4),none⟩,m_ 26 6,l_ 25 24 1,f_ 24 2 2] ⟨some 23,.mkS 4 [iV 0,iV 0,iV 0,.bool false] 0 [],none⟩ (.alt [⟨some 33,.p (.slice (.t 30) (some (.t 32)) none 4),none⟩,B_ .add 32 31 1,m_ 31 6,l_ 30 29 1,f_ 29 2 2] ⟨some 28,.app 4 32 (.t 23) (.t 27),none⟩ (.alt [] ⟨some 34,.app 4 32 (.t 28) (.t 33),none⟩ (tk [f_ 35 7 2] (.alt [] (s_ 35 34 1) .fin .stop)) .stop) .stop) .stop)
def c76_r8:=[L_ 36 7 3,s_ 4 36 3,i_ 5 0]
def c76:Dj:=⟨2,37,[.cell 4 3 true,.t 5],sr c76_r0 (sr c76_r1 (.seq (sr c76_r2 (iz 12 (rr c76_r3))) (.seq (sr c76_r4 (iz 20 (rr c76_r5))) (sr c76_r6 (sd c76_r7 (rr c76_r8))))))⟩
def K76 (D:Bi):Prop:=∀a0 a1 r,g76 a0 a1=some r→D 76 ⟨[.agg (Ba a0),iV a1],[]⟩ ⟨.tup [.agg (Ba r.1),iV r.2],[],[]⟩
abbrev pO:=fun x0 (r:List (Nat×List V))=>(128,Ba x0)::(256,Bo 0 0 (An 259) [])::r
theorem F76 (H92:K92 C):K76 (FO C c76):=by
 intro a0 a1 r h0
 refine f0 (Az 5 [(1,iV a1),(2,.ptr 128 0),(4,.ptr 256 0)] (pO a0 []) (Bm (Ao (st (c_ (v:=.agg (Ba a0)) (Ax ⟨tv,tv⟩ rfl (nl rfl)) (st (Ca rfl tv (bb h0 fun r1 e2 h0=>st (De (r:=iV r1) false (H92 a0 a1 r1 e2) ⟨tv,tv,tv⟩ rfl rfl (fun _=>rfl) (o_ (Az 8 [(2,.ptr 128 0),(4,.ptr 256 0),(6,iV r1),(12,.bool (decide (r1<0)))] (pO a0 []) (Co h0 (fun c3 h0=>?_) (fun c3 h0=>?_)))))))))))))
 ·obtain rfl:=sj h0
  exact Cy 6
 ·refine Js (cY (Bm (Bm (Ao (st (c_ (Ax ⟨tv,tv⟩ rfl tv) (st (c_ (Ax ⟨tv,tv⟩ rfl (nl rfl)) (st (Ca rfl tv (bb h0 fun y4 e5 h0=>Tc rfl rfl e5 (o_ (Az 4 [(2,.ptr 128 0),(4,.ptr 256 0),(6,iV r1),(20,.bool (!y4.Ck))] (pO a0 []) (Co h0 (fun c6 h0=>?_) (fun c6 h0=>?_)))))))))))))))
  ·obtain rfl:=sj h0
   exact Cy 6
  ·refine Az 7 [(2,.ptr 128 0),(4,.ptr 256 0),(6,iV r1),(7,.ptr 448 0)] (pO a0 [(448,Ba a0)]) (Bm (bb h0 fun s7 e8 h0=>bb h0 fun s9 e10 h0=>gg h0 fun c11 h0=>gg h0 fun c12 h0=>Bg (Ag tv (c_ (Ax ⟨tv,tv⟩ rfl tv) (⟨tv,Ag tv (c_ (Ax ⟨tv,tv⟩ rfl (nl rfl)) (⟨tv,Ag tv (Ca rfl tv (⟨tv,Ag tv (c_ (Qk (e:=Ac) (y:=s7) rfl rfl tv ⟨tv,tv⟩ rfl rfl e8) (⟨tv,Ag tv (c_ (Ax ⟨tv,tv⟩ rfl tv) (⟨tv,Ag tv (c_ (Ax ⟨tv,tv⟩ rfl (nl rfl)) (⟨tv,Ag tv (Ca rfl tv (⟨tv,Ag tv (c_ (Ax t3 rfl tv) (⟨tv,Ag tv (c_ (Qk (e:=Ac) (y:=s9) rfl rfl tv ⟨tv,tv⟩ rfl rfl e10) (⟨tv,Bq (bF tv tv (d0 ⟨⟨.inl tv,Bd (Qk (e:=Ac) (y:=s9) rfl rfl tv ⟨tv,tv⟩ rfl rfl e10) rfl⟩,⟨.inl tv,Bd (Ax t3 rfl tv) rfl⟩,⟨.inl tv,Bd (Dg (v:=iV r1) rfl tv) rfl⟩,⟨.inl tv,Bd (Ax ⟨tv,tv⟩ rfl (nl rfl)) rfl⟩,⟨.inl tv,Bd (Ax ⟨tv,tv⟩ rfl tv) rfl⟩,⟨.inl tv,Bd (Qk (e:=Ac) (y:=s7) rfl rfl tv ⟨tv,tv⟩ rfl rfl e8) rfl⟩,⟨.inl tv,Bd (Dg (v:=iV r1) rfl tv) rfl⟩,⟨.inl tv,Bd (Ax ⟨tv,tv⟩ rfl (nl rfl)) rfl⟩,⟨.inl tv,Bd (Ax ⟨tv,tv⟩ rfl tv) rfl⟩,tv⟩ (Bq (Je (e:=Ac) (l0:=([]:List Aa)) (l1:=s7) rfl rfl tv rfl (by decide) c11 (dw [(2,.ptr 128 0),(4,.ptr 256 0),(6,iV r1),(7,.ptr 448 0),(28,Af 1472 (([]:List Aa)++s7)),(29,.ptr 128 2),(30,Cg a0.Ae),(31,iV r1),(32,iV (wi (r1+1))),(33,Cg s9)] [(128,Ba a0),(256,Bo 0 0 (An 259) []),(448,Ba a0)] ⟨⟨.inl tv,Bd (Qk (e:=Ac) (y:=s9) rfl rfl tv ⟨tv,tv⟩ rfl rfl e10) rfl⟩,⟨.inl tv,Bd (Ax t3 rfl tv) rfl⟩,⟨.inl tv,Bd (Dg (v:=iV r1) rfl tv) rfl⟩,⟨.inl tv,Bd (Ax ⟨tv,tv⟩ rfl (nl rfl)) rfl⟩,⟨.inl tv,Bd (Ax ⟨tv,tv⟩ rfl tv) rfl⟩,tv⟩ (Bq (Je (e:=Ac) (l0:=([]:List Aa)++s7) (l1:=s9) rfl rfl tv rfl (by decide) c12 (d0 tv (Ag tv (c_ (Ax ⟨tv,tv⟩ rfl tv) (⟨tv,Bq (Ei rfl rfl tv rfl rfl rfl (nl rfl) (d0 tv (d_ (Az 1 [(4,.ptr 256 0),(7,.ptr 448 0)] [(256,Bo 0 0 (An 259) []),(448,Bo a0.clock a0.next (An 1472) ((([]:List Aa)++s7)++s9))] ?_)))) Aw⟩))))) Aw))) Aw))) Aw⟩))⟩))⟩))⟩))⟩))⟩))⟩))⟩))⟩)))))
   obtain rfl:=sj h0
   exact Cy 6 [1472]

/- loop.example/g00149/spec.l09Without -/
def QY:List Bv:=[⟨some 4,.nilS 2,none⟩]
def QZ:List Bv:=[⟨some 7,.mkS 2 [iV 0,.bool false] 0 [],none⟩,m_ 5 7]
def RA:=[i_ 6 0]
def RE:=[m_ 8 6,m_ 9 0,n_ 10 9,b_ .lss 11 8 10]
def RF:=[m_ 14 0,m_ 15 6,x_ 16 14 15 2,f_ 17 16 0,l_ 18 17 1,m_ 19 1,b_ .neq 20 18 19]
def RG:List Bv:=[m_ 21 5,m_ 22 0,m_ 23 6,x_ 24 22 23 2,L_ 25 24 2,⟨some 26,.mkS 2 [iV 0,.bool false] 1 [(0,.t 25)],none⟩,⟨some 27,.app 2 16 (.t 21) (.t 26),none⟩,m_ 5 27]
def RH:=[m_ 12 6,B_ .add 13 12 1,m_ 6 13]
def QX:IR:=(.seq (sr RE (.ite (.t 11) .skip (.exit 0))) (.seq (.block 1 (sr RF (iz 20 (.reg RG)))) (.reg RH)))
def RI:=[m_ 28 5,m_ 4 28]
def c146:Dj:=⟨2,29,[.t 4],sr QY (sr QZ (.seq (sr RA (Ik 0 QX)) (rr RI)))⟩
def K146 (D:Bi):Prop:=∀a0 a1 r,g146 a0 a1=some r→D 146 ⟨[Cj a0,iV a1],[]⟩ ⟨Bx 0 r,[],[]⟩
theorem F146:K146 (FO C c146):=by
 intro a0 a1 r h0
 refine f0 (Az 13 [(0,Cj a0),(1,iV a1),(5,Bx 448 []),(6,iV 0)] [] (By (bb h0 fun r37 e38 h0=>Cs (R:=(fun S=>∃p21:List Ai,p21=r37∧S=⟨[(5,Bx 448 p21)],[],[]⟩)) (Qx a0 a1) (fun s S=>match s with | (p9,p10)=>S=⟨[(0,Cj a0),(1,iV a1),(5,Bx 448 p9),(6,iV p10)],[],[]⟩) e38 _ (Dv (by kernel_rfl)) rfl 0 (fun _=>rfl) ?_ ?_)))
 ·rintro S _ hfg ⟨p21,rfl,rfl⟩
  refine Dd _ hfg ?_
  obtain rfl:=sj h0
  exact Cy 5
 ·rintro ⟨p9,p10⟩ o1 _ K1 rfl h1 hx1 hK1 hE1 hR1
  refine Ay 4 (Ao (Me rfl (o_ (Az 2 [(0,Cj a0),(1,iV a1),(5,Bx 448 p9),(6,iV p10),(11,.bool (decide (p10<(a0.length:Int))))] [] (Co h1 (fun c22 h1=>?_) (fun c22 h1=>?_))))))
  ·refine Lg 3 (Il (fun S=>∃p29:List Ai,S=⟨[(0,Cj a0),(1,iV a1),(5,Bx 448 p29),(6,iV p10)],[],[]⟩∧Yb p10 p29=some o1) ?_ (fun J30=>?_))
   ·rintro _ ⟨p29,rfl,h1⟩
    refine Ay 5 ?_
    obtain rfl:=sj h1
    exact kn hK1 rfl rfl
   ·refine Bm ?_
    refine Ay 2 (Ao (bb h1 fun y31 e32 h1=>Tc rfl rfl e32 (o_ (Az 5 [(0,Cj a0),(1,iV a1),(5,Bx 448 p9),(6,iV p10),(20,.bool (y31.Av != a1))] [] (Co h1 (fun c33 h1=>?_) (fun c33 h1=>?_))))))
    ·refine Ay 3 (Ao (bb h1 fun y34 e35 h1=>Tc rfl rfl e35 (o_ (Ay 2 (Ao (gg h1 fun c36 h1=>st (Je (e:=Bw) (l0:=p9) (l1:=([y34]:List Ai)) rfl rfl tv rfl (by decide) c36 (st (Ca rfl tv (Gr (Rp ?_)))))))))))
     exact jn J30 ⟨_,rfl,h1⟩
    ·refine Js (Rp ?_)
     exact jn J30 ⟨_,rfl,h1⟩
  ·obtain rfl:=sj h1
   obtain rfl:=hx1 _ rfl
   refine Iq rfl ?_
   exact jn hE1 ⟨_,rfl,rfl⟩

/- loop.example/g00149/spec.l09Sweep -/
def OJ:=[X_ 2 0,X_ 3 1,a_ 4 (zV 259 260 261)]
def OK:=[L_ 14 2 6,q_ 15 102 [.t 14],a_ 5 (zV 323 324 325),s_ 5 15 6]
def OM:=[i_ 6 0]
def ON:=[i_ 7 0]
def OO:=[m_ 16 7,f_ 17 2 0,f_ 18 17 2,l_ 19 18 1,n_ 20 19,b_ .lss 21 16 20]
def OP:=[f_ 24 2 0,f_ 25 24 2,l_ 26 25 1,m_ 27 7,x_ 28 26 27 4,f_ 29 28 0,l_ 30 29 1,m_ 8 30]
def OQ:=[f_ 31 2 0,f_ 32 31 2,l_ 33 32 1,m_ 34 7,x_ 35 33 34 4,f_ 36 35 3,l_ 37 36 1,N_ 38 37]
def OR:=tk [f_ 40 5 4,l_ 41 40 1,m_ 42 8,L_ 43 3 7,m_ 44 6] (.alt [m_ 42 8,l_ 41 40 1,f_ 40 5 4] (q_ 45 145 [.t 43,.t 44]) (.alt [] (q_ 46 86 [.t 41,.t 42,.c (.bool false),.t 45]) (tk [m_ 39 46,e_ 47 39 0,e_ 48 39 1,m_ 9 47,m_ 10 48] .fin) .stop) .stop)
def OS:=[m_ 49 6,B_ .add 50 49 1,m_ 6 50]
def OT:=[m_ 51 9,f_ 52 5 4,s_ 52 51 1]
def vK:=[m_ 53 10,B_ .eql 54 53 0]
def vL:=[f_ 56 5 0,L_ 57 56 3,m_ 58 8,q_ 59 76 [.t 57,.t 58],m_ 55 59,e_ 60 55 0,e_ 61 55 1,f_ 62 5 0,s_ 62 60 3]
def vM:=[f_ 63 3 6,l_ 64 63 1,B_ .eql 65 64 2]
def vN:=[L_ 66 5 6,q_ 67 133 [.t 66],s_ 4 67 6]
def vO:=[m_ 22 7,B_ .add 23 22 1,m_ 7 23]
def OH:IR:=(.seq (sr OO (.ite (.t 21) .skip (.exit 0))) (.seq (.block 1 (sr OP (.seq (sr OQ (iz 38 (.exit 1))) (sd OR (sr OS (sr OT (.seq (sr vK (iz 54 (.reg vL))) (sr vM (iz 65 (rr vN)))))))))) (.reg vO)))
def vP:=[i_ 11 0]
def vQ:=[m_ 68 11,f_ 69 2 3,l_ 70 69 1,n_ 71 70,b_ .lss 72 68 71]
def vR:=[f_ 75 2 3,l_ 76 75 1,m_ 77 11,x_ 78 76 77 2,f_ 79 78 1,l_ 80 79 1,N_ 81 80]
def vS:=tk [f_ 83 5 4,l_ 84 83 1,f_ 85 2 3,l_ 86 85 1,m_ 87 11,x_ 88 86 87 2,f_ 89 88 0,l_ 90 89 1,L_ 91 3 7,m_ 92 6] (.alt [l_ 90 89 1,f_ 89 88 0,x_ 88 86 87 2,m_ 87 11,l_ 86 85 1,f_ 85 2 3,l_ 84 83 1,f_ 83 5 4] (q_ 93 145 [.t 91,.t 92]) (.alt [] (q_ 94 86 [.t 84,.t 90,.c (.bool false),.t 93]) (tk [m_ 82 94,e_ 95 82 0,e_ 96 82 1,m_ 12 95,m_ 13 96] .fin) .stop) .stop)
def vT:=[m_ 97 6,B_ .add 98 97 1,m_ 6 98]
def vU:=[m_ 99 12,f_ 100 5 4,s_ 100 99 1]
def vV:=[m_ 101 13,B_ .eql 102 101 0]
def vW:=tk [f_ 103 5 3,l_ 104 103 1,f_ 105 2 3,l_ 106 105 1,m_ 107 11,x_ 108 106 107 2,f_ 109 108 0,l_ 110 109 1] (.alt [] (q_ 111 146 [.t 104,.t 110]) (tk [f_ 112 5 3] (.alt [] (s_ 112 111 1) .fin .stop)) .stop)
def vX:=[f_ 113 3 6,l_ 114 113 1,B_ .eql 115 114 2]
def vY:=[L_ 116 5 6,q_ 117 133 [.t 116],s_ 4 117 6]
def vZ:=[m_ 73 11,B_ .add 74 73 1,m_ 11 74]
def OI:IR:=(.seq (sr vQ (.ite (.t 72) .skip (.exit 2))) (.seq (.block 3 (.seq (sr vR (iz 81 (.exit 3))) (sd vS (sr vT (sr vU (.seq (sr vV (iz 102 (.draw vW))) (sr vX (iz 115 (rr vY))))))))) (.reg vZ)))
def wA:=[L_ 118 5 6,s_ 4 118 6]
def c134:Dj:=⟨2,119,[.cell 4 6 true],sr OJ (sr OK (sr OM (.seq (sr ON (Ik 0 OH)) (.seq (sr vP (Ik 2 OI)) (rr wA)))))⟩
def K134 (D:Bi):Prop:=∀a0 a1 r,lR a0 a1=some r→D 134 ⟨[.agg (Bc a0),.agg (Aq a1)],[]⟩ ⟨.agg (Au r u_ (An 0) u_),[],[]⟩
abbrev Fl:=fun x0 x1 (r:List (Nat×List V))=>(128,Bc x0)::(192,Aq x1)::(256,At 0 0 (An 259) [] (An 260) [] (An 261) [] false)::r
abbrev Fu:=fun (r:List (Nat×V))=>(2,.ptr 128 0)::(3,.ptr 192 0)::(4,.ptr 256 0)::(5,.ptr 320 0)::r
theorem F134 (H76:K76 C) (H86:K86 C) (H102:kZ C) (H133:sY C) (H145:FX C) (H146:K146 C):K134 (FO C c134):=by
 intro a0 a1 r h0
 refine f0 (Az 5 [(2,.ptr 128 0),(3,.ptr 192 0),(4,.ptr 256 0)] (Fl a0 a1 []) (Bm (Ao (st (c_ (v:=.agg (Bc a0)) (Ax ⟨tv,tv⟩ rfl (nl rfl)) (bb h0 fun r1 e2 h0=>st (De (r:=.agg (Au r1 (An 0) (An 1) (An 2))) false (H102 a0 r1 e2) ⟨tv,tv⟩ rfl rfl (fun _=>(ar (Bf rfl (af (af (af (Bf rfl rfl))))))) (o_ (Az 12 (Fu [(6,iV 0),(7,iV 0)]) (Fl a0 a1 [(320,Au r1 (An 960) (An 961) (An 962))]) (By (bb h0 fun r115 e116 h0=>Cs (R:=(fun S=>∃p63:Int,∃p64:Int,∃p65:Int,∃p66:List Aa,∃p67:List Int,.inl (p63,p64,p65,p66,p67)=r115∧S=⟨Fu [(6,iV p63)],Fl a0 a1 [(320,At p64 p65 u_ p66 (An 961) r1.Ab u_ p67 r1.Am)],[]⟩)) (Lo a0 a1 r1) (fun s S=>match s with | (p27,p28,p29,p30,p31,p32)=>S=⟨Fu [(6,iV p27),(7,iV p28)],Fl a0 a1 [(320,At p29 p30 u_ p31 (An 961) r1.Ab u_ p32 r1.Am)],[]⟩) e116 ⟨Fu [(6,iV 0),(7,iV 0)],Fl a0 a1 [(320,Au r1 u_ (An 961) u_)],[]⟩ (qY [960,962] (by kernel_rfl)) rfl 0 (fun _=>rfl) ?_ ?_)))))))))))
 ·rintro S _ hfg ⟨p63,p64,p65,p66,p67,rfl,rfl⟩
  refine Dd _ hfg (Az 4 (Fu [(6,iV p63),(11,iV 0)]) (Fl a0 a1 [(320,At p64 p65 u_ p66 (An 961) r1.Ab u_ p67 r1.Am)]) (By (bb h0 fun r218 e219 h0=>Cs (R:=(fun S=>∃p169:List Ai,∃p170:List Int,.inl (p169,p170)=r218∧S=⟨[(4,.ptr 256 0),(5,.ptr 320 0)],[(256,At 0 0 (An 259) [] (An 260) [] (An 261) [] false),(320,At p64 p65 u_ p66 (An 961) p169 u_ p170 r1.Am)],[]⟩)) (Jl a0 a1 r1 p64 p65 p66) (fun s S=>match s with | (p139,p140,p141,p142)=>S=⟨Fu [(6,iV p139),(11,iV p140)],Fl a0 a1 [(320,At p64 p65 u_ p66 (An 961) p141 u_ p142 r1.Am)],[]⟩) e219 _ (Dv (by kernel_rfl)) rfl 2 (fun _=>rfl) ?_ ?_)))
  ·rintro S _ hfg ⟨p169,p170,rfl,rfl⟩
   refine Dd _ hfg ?_
   obtain rfl:=sj h0
   exact Cy 5
  ·rintro ⟨p139,p140,p141,p142⟩ o1 _ K1 rfl h1 hx1 hK1 hE1 hR1
   refine Bm (Bm (Ao (st (Ca rfl tv (st (c_ (Ax ⟨tv,tv⟩ rfl tv) (st (c_ (Ax ⟨tv,tv⟩ rfl (nl rfl)) (Me rfl (o_ (Az 2 (Fu [(6,iV p139),(11,iV p140),(72,.bool (decide (p140<(a0.Ab.length:Int))))]) (Fl a0 a1 [(320,At p64 p65 u_ p66 (An 961) p141 u_ p142 r1.Am)]) (Co h1 (fun c171 h1=>?_) (fun c171 h1=>?_)))))))))))))
   ·refine Lg 3 (Il (fun S=>∃p190:Int,∃p191:List Ai,∃p192:List Int,S=⟨Fu [(6,iV p190),(11,iV p140)],Fl a0 a1 [(320,At p64 p65 u_ p66 (An 961) p191 u_ p192 r1.Am)],[]⟩∧Tp p140 p190 p191 p192=some o1) ?_ (fun J193=>?_))
    ·rintro _ ⟨p190,p191,p192,rfl,h1⟩
     refine cY (Ao (st (Ca rfl tv (st (c_ (Ax t3 rfl tv) (st (Ca rfl tv (Gr ?_))))))))
     obtain rfl:=sj h1
     exact kn hK1 rfl rfl
    ·refine Bm ?_
     refine Bm (Ao (st (c_ (Ax ⟨tv,tv⟩ rfl tv) (st (c_ (Ax ⟨tv,tv⟩ rfl (nl rfl)) (st (Ca rfl tv (bb h1 fun y194 e195 h1=>Tc rfl rfl e195 (o_ (Az 4 (Fu [(6,iV p139),(11,iV p140),(81,.bool (!y194.Ol))]) (Fl a0 a1 [(320,At p64 p65 u_ p66 (An 961) p141 u_ p142 r1.Am)]) (Co h1 (fun c196 h1=>?_) (fun c196 h1=>?_))))))))))))
     ·refine ex_ rfl ?_
      exact jn J193 ⟨_,_,_,rfl,h1⟩
     ·refine Lg 3 (bb h1 fun y197 e198 h1=>bb h1 fun r199 e200 h1=>bb h1 fun r201 e202 h1=>Bg (Ag tv (c_ (Ax ⟨tv,tv⟩ rfl tv) (⟨tv,Ag tv (c_ (Ax ⟨tv,tv⟩ rfl (nl rfl)) (⟨tv,Ag tv (c_ (Ax ⟨tv,tv⟩ rfl tv) (⟨tv,Ag tv (c_ (Ax ⟨tv,tv⟩ rfl (nl rfl)) (⟨tv,Ag tv (Ca rfl tv (⟨tv,d_ (nU rfl rfl rfl e198 (Bg (Ag tv (c_ (Ax ⟨tv,tv⟩ rfl (nl rfl)) (⟨tv,Ag tv (c_ (Ax ⟨tv,tv⟩ rfl (nl rfl)) (⟨tv,Ag tv (c_ (v:=.agg (Aq a1)) (Ax ⟨tv,tv⟩ rfl (nl rfl)) (⟨tv,Ag tv (Ca rfl tv (⟨tv,Rq (H145 a1 p139 r199 e200) rfl (dw [(2,.ptr 128 0),(3,.ptr 192 0),(4,.ptr 256 0),(5,.ptr 320 0),(6,iV p139),(11,iV p140),(83,.ptr 320 4),(84,lI p142),(85,.ptr 128 3),(86,Cj a0.Ab),(87,iV p140),(88,.iptr (Bw y197)),(89,.iptr (Bw y197)),(90,iV y197.Av),(93,iV r199)] [(128,Bc a0),(192,Aq a1),(256,At 0 0 (An 259) [] (An 260) [] (An 261) [] false),(320,At p64 p65 u_ p66 (An 961) p141 u_ p142 r1.Am)] ⟨⟨.inl tv,Bd (Ax ⟨tv,tv⟩ rfl (nl rfl)) rfl⟩,⟨.inl tv,Bd (Ax ⟨tv,tv⟩ rfl (nl rfl)) rfl⟩,⟨.inl tv,Bd (cj_ rfl rfl e198) rfl⟩,⟨.inl tv,Bd (Dg (v:=iV p140) rfl tv) rfl⟩,⟨.inl tv,Bd (Ax ⟨tv,tv⟩ rfl (nl rfl)) rfl⟩,⟨.inl tv,Bd (Ax ⟨tv,tv⟩ rfl tv) rfl⟩,⟨.inl tv,Bd (Ax ⟨tv,tv⟩ rfl (nl rfl)) rfl⟩,⟨.inl tv,Bd (Ax ⟨tv,tv⟩ rfl tv) rfl⟩,tv⟩ (Bq (De (r:=.tup [lI r201.1,iV r201.2]) true (H86 p142 y197.Av false r199 r201 e202) ⟨tv,tv,tv,tv,tv⟩ rfl rfl (fun h=>nomatch h) (dw [(2,.ptr 128 0),(3,.ptr 192 0),(4,.ptr 256 0),(5,.ptr 320 0),(6,iV p139),(11,iV p140),(94,.tup [lI r201.1,iV r201.2])] [(128,Bc a0),(192,Aq a1),(256,At 0 0 (An 259) [] (An 260) [] (An 261) [] false),(320,At p64 p65 u_ p66 (An 961) p141 u_ p142 r1.Am)] tv (Ag tv (Ca rfl tv (⟨tv,Ag tv (c_ (Ax ⟨tv,tv⟩ rfl tv) (⟨tv,Ag tv (c_ (Ax ⟨tv,tv⟩ rfl tv) (⟨tv,?_⟩))⟩))⟩))))) Aw)) Aw⟩))⟩))⟩))⟩)))))⟩))⟩))⟩))⟩))⟩))))
      refine d_ (Az 21 (Fu [(6,iV (wi (p139+1))),(11,iV p140),(102,.bool (r201.2==0))]) (Fl a0 a1 [(320,At p64 p65 u_ p66 (An 961) p141 u_ r201.1 r1.Am)]) (Kh (cb:=(r201.2==0)) (fun S=>∃p208:List Ai,S=⟨Fu [(6,iV (wi (p139+1))),(11,iV p140)],Fl a0 a1 [(320,At p64 p65 u_ p66 (An 7104) p208 u_ r201.1 r1.Am)],[]⟩∧Qt a1 r1 p64 p65 p66 p139 p140 r201 p208=some o1) rfl ?_ (fun c213 J212=>?_) (fun c213 J212=>?_)))
      ·rintro _ ⟨p208,rfl,h1⟩
       refine Az 6 (Fu [(6,iV (wi (p139+1))),(11,iV p140),(115,.bool (a1.stop==2))]) (Fl a0 a1 [(320,At p64 p65 u_ p66 (An 7104) p208 u_ r201.1 r1.Am)]) (Co h1 (fun c209 h1=>?_) (fun c209 h1=>?_))
       ·refine Bm (Ao (st (c_ (v:=.agg (At p64 p65 u_ p66 (An 7104) p208 u_ r201.1 r1.Am)) (Ax ⟨tv,tv⟩ rfl (nl rfl)) (bb h1 fun r210 e211 h1=>st (De (r:=.agg (Au r210 (An 0) (An 1) (An 2))) false (H133 (Aj.mk (Al.mk p64 p65 p66) p208 r201.1 r1.Am) r210 e211) ⟨tv,tv⟩ rfl rfl (fun _=>(ar (Bf rfl (af (af (af (Bf rfl rfl))))))) (o_ ?_))))))
        obtain rfl:=sj h1
        obtain rfl:=hx1 _ rfl
        obtain rfl:=sj h0
        exact cJ 3 hR1 [7488,7490]
       ·refine Js (Rp ?_)
        exact J193 _ _ (Sk [] [(7104,961)] rfl (by kernel_rfl)) ⟨_,_,_,rfl,h1⟩
      ·replace h1:=ip c213 h1
       refine bb h1 fun y214 e215 h1=>bb h1 fun r216 e217 h1=>Bg (Ag tv (c_ (Ax ⟨tv,tv⟩ rfl tv) (⟨tv,Ag tv (c_ (Ax ⟨tv,tv⟩ rfl (nl rfl)) (⟨tv,Ag tv (c_ (Ax ⟨tv,tv⟩ rfl tv) (⟨tv,Ag tv (c_ (Ax ⟨tv,tv⟩ rfl (nl rfl)) (⟨tv,Ag tv (Ca rfl tv (⟨tv,d_ (nU rfl rfl rfl e215 (Bg (Ag tv (c_ (Ax ⟨tv,tv⟩ rfl (nl rfl)) (⟨tv,Ag tv (c_ (Ax ⟨tv,tv⟩ rfl (nl rfl)) (⟨tv,Rq (H146 p141 y214.Av r216 e217) (af rfl) (dw [(2,.ptr 128 0),(3,.ptr 192 0),(4,.ptr 256 0),(5,.ptr 320 0),(6,iV (wi (p139+1))),(11,iV p140),(111,Bx 7104 r216)] [(128,Bc a0),(192,Aq a1),(256,At 0 0 (An 259) [] (An 260) [] (An 261) [] false),(320,At p64 p65 u_ p66 (An 961) p141 u_ r201.1 r1.Am)] tv (Ag tv (c_ (Ax ⟨tv,tv⟩ rfl tv) (⟨tv,Bq (Ei rfl rfl tv rfl rfl rfl (nl rfl) (d0 tv (Hb ?_))) Aw⟩)))) Aw⟩))⟩)))))⟩))⟩))⟩))⟩))⟩)))
       exact jn J212 ⟨_,rfl,h1⟩
      ·replace h1:=Xj c213 h1
       refine Js ?_
       exact J212 _ _ (Sk [] [(961,7104)] rfl (by kernel_rfl)) ⟨_,rfl,h1⟩
   ·obtain rfl:=sj h1
    obtain rfl:=hx1 _ rfl
    refine Iq rfl ?_
    exact jn hE1 ⟨_,_,rfl,rfl⟩
 ·rintro ⟨p27,p28,p29,p30,p31,p32⟩ o1 _ K1 rfl h1 hx1 hK1 hE1 hR1
  refine Bm (Bm (Ao (st (Ca rfl tv (st (c_ (Ax ⟨tv,tv⟩ rfl tv) (st (c_ (Ax ⟨tv,tv⟩ rfl tv) (st (c_ (Ax ⟨tv,tv⟩ rfl (nl rfl)) (Me rfl (o_ (Az 2 (Fu [(6,iV p27),(7,iV p28),(21,.bool (decide (p28<(a0.Ad.Ae.length:Int))))]) (Fl a0 a1 [(320,At p29 p30 u_ p31 (An 961) r1.Ab u_ p32 r1.Am)]) (Co h1 (fun c68 h1=>?_) (fun c68 h1=>?_)))))))))))))))
  ·refine Lg 3 (Il (fun S=>∃p87:Int,∃p88:Int,∃p89:Int,∃p90:List Aa,∃p91:List Int,S=⟨Fu [(6,iV p87),(7,iV p28)],Fl a0 a1 [(320,At p88 p89 u_ p90 (An 961) r1.Ab u_ p91 r1.Am)],[]⟩∧To p28 p87 p88 p89 p90 p91=some o1) ?_ (fun J92=>?_))
   ·rintro _ ⟨p87,p88,p89,p90,p91,rfl,h1⟩
    refine cY (Ao (st (Ca rfl tv (st (c_ (Ax t3 rfl tv) (st (Ca rfl tv (Gr ?_))))))))
    obtain rfl:=sj h1
    exact kn hK1 rfl rfl
   ·refine Bm ?_
    refine Ao (st (c_ (Ax ⟨tv,tv⟩ rfl tv) (st (c_ (Ax ⟨tv,tv⟩ rfl tv) (st (c_ (Ax ⟨tv,tv⟩ rfl (nl rfl)) (st (Ca rfl tv (bb h1 fun y93 e94 h1=>Tc rfl rfl e94 (o_ (Az 4 (Fu [(6,iV p27),(7,iV p28),(8,iV y93.id)]) (Fl a0 a1 [(320,At p29 p30 u_ p31 (An 961) r1.Ab u_ p32 r1.Am)]) (Bm (Bm (Ao (st (c_ (Ax ⟨tv,tv⟩ rfl tv) (st (c_ (Ax ⟨tv,tv⟩ rfl tv) (st (c_ (Ax ⟨tv,tv⟩ rfl (nl rfl)) (st (Ca rfl tv (bb h1 fun y95 e96 h1=>Tc rfl rfl e96 (o_ (Az 4 (Fu [(6,iV p27),(7,iV p28),(8,iV y93.id),(38,.bool (!y95.Ck))]) (Fl a0 a1 [(320,At p29 p30 u_ p31 (An 961) r1.Ab u_ p32 r1.Am)]) (Co h1 (fun c97 h1=>?_) (fun c97 h1=>?_)))))))))))))))))))))))))))
    ·refine ex_ rfl ?_
     exact jn J92 ⟨_,_,_,_,_,rfl,h1⟩
    ·refine Lg 3 (bb h1 fun r98 e99 h1=>bb h1 fun r100 e101 h1=>Bg (Ag tv (c_ (Ax ⟨tv,tv⟩ rfl tv) (⟨tv,Ag tv (c_ (Ax ⟨tv,tv⟩ rfl (nl rfl)) (⟨tv,Ag tv (Ca rfl tv (⟨tv,Ag tv (c_ (v:=.agg (Aq a1)) (Ax ⟨tv,tv⟩ rfl (nl rfl)) (⟨tv,Ag tv (Ca rfl tv (⟨tv,Rq (H145 a1 p27 r98 e99) rfl (dw [(2,.ptr 128 0),(3,.ptr 192 0),(4,.ptr 256 0),(5,.ptr 320 0),(6,iV p27),(7,iV p28),(8,iV y93.id),(40,.ptr 320 4),(41,lI p32),(42,iV y93.id),(45,iV r98)] [(128,Bc a0),(192,Aq a1),(256,At 0 0 (An 259) [] (An 260) [] (An 261) [] false),(320,At p29 p30 u_ p31 (An 961) r1.Ab u_ p32 r1.Am)] hB (Bq (De (r:=.tup [lI r100.1,iV r100.2]) true (H86 p32 y93.id false r98 r100 e101) ⟨tv,tv,tv,tv,tv⟩ rfl rfl (fun h=>nomatch h) (dw [(2,.ptr 128 0),(3,.ptr 192 0),(4,.ptr 256 0),(5,.ptr 320 0),(6,iV p27),(7,iV p28),(8,iV y93.id),(46,.tup [lI r100.1,iV r100.2])] [(128,Bc a0),(192,Aq a1),(256,At 0 0 (An 259) [] (An 260) [] (An 261) [] false),(320,At p29 p30 u_ p31 (An 961) r1.Ab u_ p32 r1.Am)] tv (d_ (Az 6 (Fu [(6,iV p27),(7,iV p28),(8,iV y93.id),(9,lI r100.1),(10,iV r100.2)]) (Fl a0 a1 [(320,At p29 p30 u_ p31 (An 961) r1.Ab u_ p32 r1.Am)]) (Bm (Ao (st (Ca rfl tv (st (c_ (Ax t3 rfl tv) ?_)))))))))) Aw)) Aw⟩))⟩))⟩))⟩))⟩))))
     refine o_ (Az 14 (Fu [(6,iV (wi (p27+1))),(7,iV p28),(8,iV y93.id),(54,.bool (r100.2==0))]) (Fl a0 a1 [(320,At p29 p30 u_ p31 (An 961) r1.Ab u_ r100.1 r1.Am)]) (Kh (cb:=(r100.2==0)) (fun S=>∃p105:Int,∃p106:Int,∃p107:List Aa,S=⟨Fu [(6,iV (wi (p27+1))),(7,iV p28)],Fl a0 a1 [(320,At p105 p106 u_ p107 (An 961) r1.Ab u_ r100.1 r1.Am)],[]⟩∧Qs a1 r1 p27 p28 r100 p105 p106 p107=some o1) rfl ?_ (fun iK J111=>?_) (fun iK J111=>?_)))
     ·rintro _ ⟨p105,p106,p107,rfl,h1⟩
      refine Az 6 (Fu [(6,iV (wi (p27+1))),(7,iV p28),(65,.bool (a1.stop==2))]) (Fl a0 a1 [(320,At p105 p106 u_ p107 (An 961) r1.Ab u_ r100.1 r1.Am)]) (Co h1 (fun HW h1=>?_) (fun HW h1=>?_))
      ·refine Bm (Ao (st (c_ (v:=.agg (At p105 p106 u_ p107 (An 961) r1.Ab u_ r100.1 r1.Am)) (Ax ⟨tv,tv⟩ rfl (nl rfl)) (bb h1 fun r109 e110 h1=>st (De (r:=.agg (Au r109 (An 0) (An 1) (An 2))) false (H133 (Aj.mk (Al.mk p105 p106 p107) r1.Ab r100.1 r1.Am) r109 e110) ⟨tv,tv⟩ rfl rfl (fun _=>(ar (Bf rfl (af (af (af (Bf rfl rfl))))))) (o_ ?_))))))
       obtain rfl:=sj h1
       obtain rfl:=hx1 _ rfl
       obtain rfl:=sj h0
       exact cJ 3 hR1 [4288,4290]
      ·refine Js (Rp ?_)
       exact jn J92 ⟨_,_,_,_,_,rfl,h1⟩
     ·replace h1:=ip iK h1
      refine Ao (st (c_ (Ax ⟨tv,tv⟩ rfl tv) (st (c_ (v:=.agg (Bo p29 p30 u_ p31)) (Ax ⟨tv,tv⟩ rfl (nl rfl)) (st (Ca rfl tv (bb h1 fun r113 e114 h1=>st (De (r:=.tup [.agg (Ba r113.1),iV r113.2]) true (H76 (Al.mk p29 p30 p31) y93.id r113 e114) ⟨tv,tv,tv⟩ rfl rfl (fun h=>nomatch h) (st (Ca rfl tv (st (c_ (Ax ⟨tv,tv⟩ rfl tv) (st (c_ (Ax ⟨tv,tv⟩ rfl tv) (st (c_ (Ax ⟨tv,tv⟩ rfl tv) (st (Ei rfl rfl tv rfl rfl rfl (nl rfl) (Gr ?_)))))))))))))))))))
      exact jn J111 ⟨_,_,_,rfl,h1⟩
     ·replace h1:=Xj iK h1
      refine Js ?_
      exact jn J111 ⟨_,_,_,rfl,h1⟩
  ·obtain rfl:=sj h1
   obtain rfl:=hx1 _ rfl
   refine Iq rfl ?_
   exact jn hE1 ⟨_,_,_,_,_,rfl,rfl⟩

/- loop.example/g00149/spec.l09Step -/
def GR:=[X_ 2 0,X_ 3 1,a_ 4 (zV 259 260 261),a_ 5 [iV 0,iV 0]]
def GS:=[f_ 11 3 0,l_ 12 11 1,q_ 13 56 [.t 12,.c (iV 1),.c (iV 6)],N_ 14 13,m_ 10 14]
def GT:List Bv:=[L_ 15 2 6,⟨some 16,.p (.build [iV 0,iV 0] [(0,1,.c (iV 16))]),none⟩,s_ 4 15 6,s_ 5 16 2]
def GU:=[f_ 18 2 5,l_ 19 18 1,m_ 20 19,fT 20 21 3 0,lT 20 22 21 1 false,pT 20 23 (.bin .neq (.t 22) (.c (iV 6))),pa 24 20 23,m_ 17 24]
def GV:List Bv:=[L_ 25 2 6,⟨some 26,.p (.build [iV 0,iV 0] [(0,1,.c (iV 14))]),none⟩,s_ 4 25 6,s_ 5 26 2]
def GW:=[f_ 27 2 0,L_ 28 27 3,a_ 6 (zT 387),s_ 6 28 3]
def GX:=[i_ 7 0]
def GY:=[L_ 29 2 6,q_ 30 102 [.t 29],a_ 8 (zV 515 516 517),s_ 8 30 6]
def GZ:=[f_ 31 3 0,l_ 32 31 1]
def HA:=[B_ .eql 34 32 1,m_ 33 34]
def tJ:=[L_ 35 2 6,L_ 36 3 7,q_ 37 132 [.t 35,.t 36],e_ 38 37 0,e_ 39 37 1,s_ 4 38 6,s_ 5 39 2]
def tK:=[B_ .eql 41 32 2,m_ 40 41]
def tL:=[f_ 43 2 0,L_ 44 43 3,f_ 45 3 1,l_ 46 45 1,f_ 47 3 2,l_ 48 47 1,q_ 49 79 [.t 44,.t 46,.t 48],m_ 42 49,e_ 50 42 0,e_ 51 42 1,s_ 6 50 3,m_ 7 51]
def tM:=[L_ 52 6 3,f_ 53 8 0,s_ 53 52 3]
def tN:=[B_ .eql 55 32 3,m_ 54 55]
def tO:=[f_ 57 2 0,L_ 58 57 3,f_ 59 3 1,l_ 60 59 1,q_ 61 74 [.t 58,.t 60],m_ 56 61,e_ 62 56 0,e_ 63 56 1,s_ 6 62 3,m_ 7 63]
def tP:=[L_ 64 6 3,f_ 65 8 0,s_ 65 64 3]
def tQ:=[B_ .eql 67 32 4,m_ 66 67]
def tR:=[f_ 69 2 0,L_ 70 69 3,f_ 71 3 4,l_ 72 71 1,q_ 73 81 [.t 70,.t 72],m_ 68 73,e_ 74 68 0,e_ 75 68 1,f_ 76 8 0,s_ 76 74 3]
def tS:=[f_ 77 3 6,l_ 78 77 1,B_ .eql 79 78 1]
def tT:List Bv:=[L_ 80 8 6,q_ 81 133 [.t 80],⟨some 82,.p (.build [iV 0,iV 0] [(0,1,.c (iV 15))]),none⟩,s_ 4 81 6,s_ 5 82 2]
def tU:=[L_ 83 8 6,a_ 9 (zV 579 580 581),s_ 9 83 6]
def tV:=[L_ 84 8 6,L_ 85 3 7,q_ 86 134 [.t 84,.t 85],s_ 8 86 6]
def tW:=[f_ 87 8 5,l_ 88 87 1,m_ 89 88,fT 89 90 9 5,lT 89 91 90 1 false,pT 89 92 (.un .not (.t 91)),pa 93 89 92]
def tX:List Bv:=[L_ 94 8 6,⟨some 95,.p (.build [iV 0,iV 0] [(0,1,.c (iV 15))]),none⟩,s_ 4 94 6,s_ 5 95 2]
def tY:=[B_ .eql 97 32 5,m_ 96 97]
def tZ:List Bv:=[f_ 98 8 5,⟨none,.store (.t 98) (.c (.bool true)) 1,none⟩]
def uA:=[B_ .eql 100 32 6,m_ 99 100]
def uB:List Bv:=[f_ 101 8 5,⟨none,.store (.t 101) (.c (.bool false)) 1,none⟩]
def uC:=[m_ 102 7,B_ .neq 103 102 0]
def uD:List Bv:=[L_ 104 2 6,m_ 105 7,⟨some 106,.p (.build [iV 0,iV 0] [(0,1,.t 105)]),none⟩,s_ 4 104 6,s_ 5 106 2]
def uE:=[L_ 107 8 6,iQ 108 (.build [iV 0,iV 0] []),s_ 4 107 6,s_ 5 108 2]
def c101:Dj:=⟨2,109,[.cell 4 6 true,.cell 5 2 true],sr GR (.seq (.block 0 (sr GS (.ite (.t 10) (rr GT) (sr GU (iz 17 (rr GV)))))) (sr GW (sr GX (sr GY (.seq (sr GZ (.block 1 (sr HA (.ite (.t 33) (rr tJ) (sr tK (.ite (.t 40) (sr tL (.reg tM)) (sr tN (.ite (.t 54) (sr tO (.reg tP)) (sr tQ (.ite (.t 66) (sr tR (.seq (sr tS (iz 79 (rr tT))) (sr tU (sr tV (sr tW (iz 93 (rr tX))))))) (sr tY (.ite (.t 96) (.reg tZ) (sr uA (iz 99 (.reg uB))))))))))))))) (.seq (sr uC (iz 103 (rr uD))) (rr uE)))))))⟩
def K101 (D:Bi):Prop:=∀a0 a1 r,g101 a0 a1=some r→D 101 ⟨[.agg (Bc a0),.agg (Aq a1)],[]⟩ ⟨.tup [.agg (Bc r.1),.agg (Ap r.2)],[],[]⟩
abbrev Gm:=fun x0 (r:List (Nat×List V))=>(128,Bc x0)::(256,At 0 0 (An 259) [] (An 260) [] (An 261) [] false)::(320,[iV 0,iV 0])::r
abbrev Iv:=fun (r:List (Nat×V))=>(2,.ptr 128 0)::(4,.ptr 256 0)::(5,.ptr 320 0)::(8,.ptr 512 0)::r
abbrev gJ:=fun (r:List (Nat×V))=>(2,.ptr 128 0)::(3,.ptr 192 0)::(4,.ptr 256 0)::(5,.ptr 320 0)::r
theorem F101 (H56:K56 C) (H74:K74 C) (H79:K79 C) (H81:K81 C) (H102:kZ C) (H132:K132 C) (H133:sY C) (H134:K134 C):K101 (FO C c101):=by
 intro a0 a1 r h0
 refine f0 (Az 6 (gJ []) (Gm a0 [(192,Aq a1)]) (Ay 5 (Ao (bb h0 fun r1 e2 h0=>Om (H56 a1.kind 1 6 r1 e2) (o_ (Az 3 (gJ [(10,.bool (!r1))]) (Gm a0 [(192,Aq a1)]) (Co h0 (fun c3 h0=>?_) (fun c3 h0=>?_))))))))
 ·refine Ay 2 (Ao (st (c_ (v:=.agg [iV 16,iV 0]) (Ax ⟨tv,tv⟩ rfl ⟨⟨rfl,rfl,nl rfl⟩,tv⟩) (o_ ?_))))
  obtain rfl:=sj h0
  exact Cy 4
 ·refine rO 10 (gJ [(17,.bool (bif a0.Am then (a1.kind != 6) else false))]) (Gm a0 [(192,Aq a1)]) (Co h0 (fun c4 h0=>?_) (fun c4 h0=>?_))
  ·refine Ay 2 (Ao (st (c_ (v:=.agg [iV 14,iV 0]) (Ax ⟨tv,tv⟩ rfl ⟨⟨rfl,rfl,nl rfl⟩,tv⟩) (o_ ?_))))
   obtain rfl:=sj h0
   exact Cy 4
  ·refine Az 13 (gJ [(6,.ptr 384 0),(7,iV 0)]) (Gm a0 [(192,Aq a1),(384,Ba a0.Ad)]) (Ay 2 (Ao (bb h0 fun r5 e6 h0=>Ti (H102 a0 r5 e6) (ar (Bf rfl (af (af (af (Bf rfl rfl)))))) (o_ (Az 9 (Iv [(3,.ptr 192 0),(6,.ptr 384 0),(7,iV 0),(32,iV a1.kind)]) (Gm a0 [(192,Aq a1),(384,Ba a0.Ad),(512,Au r5 (An 1920) (An 1921) (An 1922))]) (Il (fun S=>∃p27:Int,∃p28:Int,∃p29:Int,∃p30:List Aa,∃p31:List Ai,∃p32:List Int,∃p33:Bool,S=⟨Iv [(7,iV p27)],Gm a0 [(512,At p28 p29 u_ p30 (An 1921) p31 u_ p32 p33)],[]⟩∧Hu a0 p27 p28 p29 p30 p31 p32 p33=some r) ?_ (fun J35=>?_)))))))
   ·rintro _ ⟨p27,p28,p29,p30,p31,p32,p33,rfl,h0⟩
    refine Az 6 (Iv [(7,iV p27),(103,.bool (p27 != 0))]) (Gm a0 [(512,At p28 p29 u_ p30 (An 1921) p31 u_ p32 p33)]) (Co h0 (fun c34 h0=>?_) (fun c34 h0=>?_))
    ·refine Ay 3 (Ao (st (c_ (v:=.agg [iV p27,iV 0]) (Ax ⟨tv,tv⟩ rfl ⟨⟨rfl,rfl,nl rfl⟩,tv⟩) (o_ ?_))))
     obtain rfl:=sj h0
     exact Cy 4
    ·obtain rfl:=sj h0
     exact Cy 9 [1921]
   ·refine Bm ?_
    refine Az 3 (Iv [(3,.ptr 192 0),(6,.ptr 384 0),(7,iV 0),(32,iV a1.kind),(33,.bool (a1.kind==1))]) (Gm a0 [(192,Aq a1),(384,Ba a0.Ad),(512,Au r5 (An 1920) (An 1921) (An 1922))]) (Co h0 (fun c36 h0=>?_) (fun c36 h0=>?_))
    ·refine Ay 3 (Ao (bb h0 fun r37 e38 h0=>st (De (r:=.tup [.agg (Bc r37.1),.agg (Ap r37.2)]) true (H132 a0 a1 r37 e38) ⟨tv,tv,tv⟩ rfl rfl (fun h=>nomatch h) (o_ ?_))))
     obtain rfl:=sj h0
     exact Cy 6
    ·refine Az 4 (Iv [(3,.ptr 192 0),(6,.ptr 384 0),(7,iV 0),(32,iV a1.kind),(40,.bool (a1.kind==2))]) (Gm a0 [(192,Aq a1),(384,Ba a0.Ad),(512,Au r5 (An 1920) (An 1921) (An 1922))]) (Co h0 (fun c39 h0=>?_) (fun c39 h0=>?_))
     ·refine Ay 7 (Ao (bb h0 fun r40 e41 h0=>st (De (r:=.tup [.agg (Ba r40.1),iV r40.2]) true (H79 a0.Ad a1.id a1.ttl r40 e41) ⟨tv,tv,tv,tv⟩ rfl rfl (fun h=>nomatch h) (o_ (Az 6 (Iv [(6,.ptr 384 0),(7,iV r40.2)]) (Gm a0 [(384,Ba r40.1),(512,Au r5 (An 1920) (An 1921) (An 1922))]) (Ay 5 ?_))))))
      exact J35 _ _ (qY [1922] (by kernel_rfl)) ⟨_,_,_,_,_,_,_,rfl,h0⟩
     ·refine Az 4 (Iv [(3,.ptr 192 0),(6,.ptr 384 0),(7,iV 0),(32,iV a1.kind),(54,.bool (a1.kind==3))]) (Gm a0 [(192,Aq a1),(384,Ba a0.Ad),(512,Au r5 (An 1920) (An 1921) (An 1922))]) (Co h0 (fun c42 h0=>?_) (fun c42 h0=>?_))
      ·refine Ay 5 (Ao (bb h0 fun r43 e44 h0=>st (De (r:=.tup [.agg (Ba r43.1),iV r43.2]) true (H74 a0.Ad a1.id r43 e44) ⟨tv,tv,tv⟩ rfl rfl (fun h=>nomatch h) (o_ (Az 6 (Iv [(6,.ptr 384 0),(7,iV r43.2)]) (Gm a0 [(384,Ba r43.1),(512,Au r5 (An 1920) (An 1921) (An 1922))]) (Ay 5 ?_))))))
       exact J35 _ _ (qY [1922] (by kernel_rfl)) ⟨_,_,_,_,_,_,_,rfl,h0⟩
      ·refine Az 4 (Iv [(3,.ptr 192 0),(7,iV 0),(32,iV a1.kind),(66,.bool (a1.kind==4))]) (Gm a0 [(192,Aq a1),(512,Au r5 (An 1920) (An 1921) (An 1922))]) (Co h0 (fun c45 h0=>?_) (fun c45 h0=>?_))
       ·refine Ay 5 (Ao (bb h0 fun r46 e47 h0=>Ti (H81 a0.Ad a1.clock r46 e47) (ar (Bf rfl (af (af rfl)))) (o_ (Az 13 (Iv [(3,.ptr 192 0),(7,iV 0),(79,.bool (a1.stop==1))]) (Gm a0 [(192,Aq a1),(512,At r46.1.clock r46.1.next (An 4672) r46.1.Ae (An 1921) r5.Ab (An 1922) r5.Ah r5.Am)]) (Co h0 (fun c48 h0=>?_) (fun c48 h0=>?_))))))
        ·refine Ay 2 (Ao (bb h0 fun r49 e50 h0=>Ti (H133 (Aj.mk r46.1 r5.Ab r5.Ah r5.Am) r49 e50) (ar (Bf rfl (af (af (af (Bf rfl rfl)))))) (st (c_ (v:=.agg [iV 15,iV 0]) (Ax ⟨tv,tv⟩ rfl ⟨⟨rfl,rfl,nl rfl⟩,tv⟩) (o_ ?_)))))
         obtain rfl:=sj h0
         exact Cy 4 [5184,5185,5186]
        ·refine Az 7 (Iv [(3,.ptr 192 0),(7,iV 0),(9,.ptr 576 0)]) (Gm a0 [(192,Aq a1),(512,At r46.1.clock r46.1.next (An 4672) r46.1.Ae (An 1921) r5.Ab (An 1922) r5.Ah r5.Am),(576,At r46.1.clock r46.1.next (An 4672) r46.1.Ae (An 1921) r5.Ab (An 1922) r5.Ah r5.Am)]) (Ay 3 (Ao (bb h0 fun r51 e52 h0=>st (De (r:=.agg (Au r51 u_ (An 0) u_)) true (H134 (Aj.mk r46.1 r5.Ab r5.Ah r5.Am) a1 r51 e52) ⟨tv,tv,tv⟩ rfl rfl (fun h=>nomatch h) (o_ (rO 12 (Iv [(7,iV 0),(93,.bool (bif r51.Am then (!r5.Am) else false))]) (Gm a0 [(512,Au r51 u_ (An 5504) u_)]) (Co h0 (fun c53 h0=>?_) (fun c53 h0=>?_))))))))
         ·refine Ay 2 (Ao (st (c_ (v:=.agg [iV 15,iV 0]) (Ax ⟨tv,tv⟩ rfl ⟨⟨rfl,rfl,nl rfl⟩,tv⟩) (o_ ?_))))
          obtain rfl:=sj h0
          exact Cy 4 [5504]
         ·refine Js (Rp ?_)
          exact J35 _ _ (Sk [] [(5504,1921)] rfl (by kernel_rfl)) ⟨_,_,_,_,_,_,_,rfl,h0⟩
       ·refine Az 4 (Iv [(7,iV 0),(32,iV a1.kind),(96,.bool (a1.kind==5))]) (Gm a0 [(512,Au r5 (An 1920) (An 1921) (An 1922))]) (Co h0 (fun c54 h0=>?_) (fun c54 h0=>?_))
        ·refine Ay 4 ?_
         exact J35 _ _ (qY [1920,1922] (by kernel_rfl)) ⟨_,_,_,_,_,_,_,rfl,h0⟩
        ·refine Az 4 (Iv [(7,iV 0),(99,.bool (a1.kind==6))]) (Gm a0 [(512,Au r5 (An 1920) (An 1921) (An 1922))]) (Co h0 (fun c55 h0=>?_) (fun c55 h0=>?_))
         ·refine Ay 4 ?_
          exact J35 _ _ (qY [1920,1922] (by kernel_rfl)) ⟨_,_,_,_,_,_,_,rfl,h0⟩
         ·refine Js (Rp ?_)
          exact J35 _ _ (qY [1920,1922] (by kernel_rfl)) ⟨_,_,_,_,_,_,_,rfl,h0⟩

/- loop.example/g00149/spec.StepVault -/
def ZF:=[X_ 2 0,X_ 3 1,a_ 4 (zV 259 260 261),a_ 5 [iV 0,iV 0],i_ 6 0]
def ZG:List Bv:=[L_ 9 2 6,q_ 10 46 [.t 9],N_ 11 10,m_ 12 11,lF 12 13 3 7 true,⟨some 14,.call 100 [.t 13],some (12,false)⟩,pF 12 15 (.un .not (.t 14)),po 16 12 15]
def ZH:=[iQ 17 (.build (zV 1091 1092 1093) []),iQ 18 (.build [iV 0,iV 0] []),s_ 4 17 6,s_ 5 18 2,i_ 6 1]
def ZI:=[L_ 20 2 6,L_ 21 3 7,q_ 22 101 [.t 20,.t 21],m_ 19 22,e_ 23 19 0,e_ 24 19 1,a_ 7 (zV 451 452 453),a_ 8 [iV 0,iV 0],s_ 7 23 6,s_ 8 24 2]
def ZJ:=tk [L_ 25 7 6,L_ 27 8 2] (.alt [L_ 27 8 2] (q_ 26 102 [.t 25]) (.alt [L_ 27 8 2] (s_ 4 26 6) (.alt [] (s_ 5 27 2) (tk [i_ 6 0] .fin) .stop) .stop) .stop)
def c442:Dj:=⟨2,28,[.cell 4 6 true,.cell 5 2 true,.t 6],sr ZF (.seq (sr ZG (iz 16 (rr ZH))) (sr ZI (sd ZJ .ret)))⟩
def K442 (D:Bi):Prop:=∀a0 a1 r,rL a0 a1=some r→D 442 ⟨[.agg (Bc a0),.agg (Aq a1)],[]⟩ ⟨.tup [.agg (Au r.1 (An 0) (An 1) (An 2)),.agg (Ap r.2.1),iV r.2.2],[],[]⟩
abbrev nA:=fun (r:List (Nat×List V))=>(256,At 0 0 (An 259) [] (An 260) [] (An 261) [] false)::(320,[iV 0,iV 0])::r
theorem F442 (H46:K46 C) (H100:K100 C) (H101:K101 C) (H102:kZ C):K442 (FO C c442):=by
 intro a0 a1 r h0
 refine f0 (Az 7 [(2,.ptr 128 0),(3,.ptr 192 0),(4,.ptr 256 0),(5,.ptr 320 0)] (nA [(128,Bc a0),(192,Aq a1)]) (Ay 3 (Ao (bb h0 fun r1 e2 h0=>Om (H46 a0 r1 e2) (o_ (cH 3 (Ao (bb h0 fun r3 e4 h0=>st (Dy (r:=.bool r3) rfl false (fun hg=>H100 a1 r3 (ip hg e4)) ⟨(fun hg=>hg),tv⟩ (fun _=>rfl) (fun _=>rfl) (fun _=>rfl) (fun h=>nomatch h) (o_ (rO 3 [(2,.ptr 128 0),(3,.ptr 192 0),(4,.ptr 256 0),(5,.ptr 320 0),(16,.bool (bif (!r1) then true else (!r3)))] (nA [(128,Bc a0),(192,Aq a1)]) (Co h0 (fun c5 h0=>?_) (fun c5 h0=>?_)))))))))))))
 ·obtain rfl:=sj h0
  exact Cy 8
 ·refine Ay 5 (Ao (bb h0 fun r6 e7 h0=>st (De (r:=.tup [.agg (Bc r6.1),.agg (Ap r6.2)]) true (H101 a0 a1 r6 e7) ⟨tv,tv,tv⟩ rfl rfl (fun h=>nomatch h) (o_ (Az 8 [(4,.ptr 256 0),(5,.ptr 320 0),(7,.ptr 448 0),(8,.ptr 512 0)] (nA [(448,Bc r6.1),(512,Ap r6.2)]) (Bm (bb h0 fun r8 e9 h0=>Ay 2 (Bg (Rq (H102 r6.1 r8 e9) (ar (Bf rfl (af (af (af (Bf rfl rfl)))))) (dw [(4,.ptr 256 0),(5,.ptr 320 0),(8,.ptr 512 0),(26,.agg (Au r8 (An 1664) (An 1665) (An 1666))),(27,.agg (Ap r6.2))] [(256,At 0 0 (An 259) [] (An 260) [] (An 261) [] false),(320,[iV 0,iV 0]),(512,Ap r6.2)] hB (Bq (Ei rfl rfl tv rfl rfl rfl (nl rfl) (d0 hB (Bq (Ei rfl rfl tv rfl rfl rfl (nl rfl) (d0 tv (d_ (Az 2 [(4,.ptr 256 0),(5,.ptr 320 0),(6,iV 0)] [(256,Au r8 (An 1664) (An 1665) (An 1666)),(320,Ap r6.2)] ?_)))) Aw))) Aw)) Aw)))))))))
  obtain rfl:=sj h0
  exact Lf (Eg rfl rfl rfl rfl rfl tv)

/- loop.example/g00149/laws.FnOwned -/
def XY:=[k_ 2 (.bool false)]
def XZ:=[m_ 17 0,n_ 18 17,B_ .gtr 19 18 1048576]
def YA:=[k_ 2 (.bool true)]
def YB:=[m_ 20 0,q_ 21 51 [.t 20],m_ 3 21]
def YC:List Bv:=[⟨some 22,.p (.build (zT 1411) [(1,1,.c (iV 1))]),none⟩,⟨some 23,.p (.build (zV 1475 1476 1477) [(0,3,.t 22)]),none⟩,a_ 4 (zV 259 260 261),s_ 4 23 6]
def YD:=[i_ 5 0]
def YE:=[m_ 24 5,m_ 25 3,n_ 26 25,b_ .lss 27 24 26]
def Zl:DP:=.alt [e_ 39 30 2,e_ 38 30 1] (s_ 6 37 6) (.alt [e_ 39 30 2] (s_ 7 38 2) (tk [m_ 8 39] .fin) .stop) .stop
def iM:DP:=.alt [] (q_ 36 440 [.t 31,.t 35]) (tk [m_ 30 36,e_ 37 30 0,e_ 38 30 1,e_ 39 30 2] Zl) .stop
def iN:DP:=.alt [e_ 39 30 2,e_ 38 30 1,e_ 37 30 0,m_ 30 36] (a_ 7 [iV 0,iV 0]) Zl .stop
def iO:DP:=.alt [e_ 39 30 2,e_ 38 30 1,e_ 37 30 0,m_ 30 36] (a_ 6 (zV 387 388 389)) Zl .stop
def YF:=tk [L_ 31 4 6,m_ 32 3,m_ 33 5,x_ 34 32 33 7,L_ 35 34 7] (.alt [] (q_ 36 440 [.t 31,.t 35]) (tk [m_ 30 36,e_ 37 30 0,e_ 38 30 1,e_ 39 30 2] (.alt [e_ 39 30 2,e_ 38 30 1,e_ 37 30 0,m_ 30 36] (a_ 6 (zV 387 388 389)) iN (.alt [e_ 39 30 2,e_ 38 30 1,e_ 37 30 0,m_ 30 36] (a_ 7 [iV 0,iV 0]) iO .stop))) (.alt [L_ 35 34 7,x_ 34 32 33 7,m_ 33 5,m_ 32 3,L_ 31 4 6] (a_ 6 (zV 387 388 389)) (.alt [] (q_ 36 440 [.t 31,.t 35]) (tk [m_ 30 36,e_ 37 30 0,e_ 38 30 1,e_ 39 30 2] iN) (.alt [L_ 35 34 7,x_ 34 32 33 7,m_ 33 5,m_ 32 3,L_ 31 4 6] (a_ 7 [iV 0,iV 0]) iM .stop)) (.alt [L_ 35 34 7,x_ 34 32 33 7,m_ 33 5,m_ 32 3,L_ 31 4 6] (a_ 7 [iV 0,iV 0]) (.alt [] (q_ 36 440 [.t 31,.t 35]) (tk [m_ 30 36,e_ 37 30 0,e_ 38 30 1,e_ 39 30 2] iO) (.alt [L_ 35 34 7,x_ 34 32 33 7,m_ 33 5,m_ 32 3,L_ 31 4 6] (a_ 6 (zV 387 388 389)) iM .stop)) .stop)))
def Zm:DP:=.alt [e_ 49 40 2,e_ 48 40 1] (s_ 9 47 6) (.alt [e_ 49 40 2] (s_ 10 48 2) (tk [m_ 11 49] .fin) .stop) .stop
def iP:DP:=.alt [] (q_ 46 442 [.t 41,.t 45]) (tk [m_ 40 46,e_ 47 40 0,e_ 48 40 1,e_ 49 40 2] Zm) .stop
def iR:DP:=.alt [e_ 49 40 2,e_ 48 40 1,e_ 47 40 0,m_ 40 46] (a_ 10 [iV 0,iV 0]) Zm .stop
def iS:DP:=.alt [e_ 49 40 2,e_ 48 40 1,e_ 47 40 0,m_ 40 46] (a_ 9 (zV 579 580 581)) Zm .stop
def YG:=tk [L_ 41 4 6,m_ 42 3,m_ 43 5,x_ 44 42 43 7,L_ 45 44 7] (.alt [] (q_ 46 442 [.t 41,.t 45]) (tk [m_ 40 46,e_ 47 40 0,e_ 48 40 1,e_ 49 40 2] (.alt [e_ 49 40 2,e_ 48 40 1,e_ 47 40 0,m_ 40 46] (a_ 9 (zV 579 580 581)) iR (.alt [e_ 49 40 2,e_ 48 40 1,e_ 47 40 0,m_ 40 46] (a_ 10 [iV 0,iV 0]) iS .stop))) (.alt [L_ 45 44 7,x_ 44 42 43 7,m_ 43 5,m_ 42 3,L_ 41 4 6] (a_ 9 (zV 579 580 581)) (.alt [] (q_ 46 442 [.t 41,.t 45]) (tk [m_ 40 46,e_ 47 40 0,e_ 48 40 1,e_ 49 40 2] iR) (.alt [L_ 45 44 7,x_ 44 42 43 7,m_ 43 5,m_ 42 3,L_ 41 4 6] (a_ 10 [iV 0,iV 0]) iP .stop)) (.alt [L_ 45 44 7,x_ 44 42 43 7,m_ 43 5,m_ 42 3,L_ 41 4 6] (a_ 10 [iV 0,iV 0]) (.alt [] (q_ 46 442 [.t 41,.t 45]) (tk [m_ 40 46,e_ 47 40 0,e_ 48 40 1,e_ 49 40 2] iS) (.alt [L_ 45 44 7,x_ 44 42 43 7,m_ 43 5,m_ 42 3,L_ 41 4 6] (a_ 9 (zV 579 580 581)) iP .stop)) .stop)))
def YH:=[L_ 51 6 6,q_ 52 439 [.t 51],m_ 50 52,e_ 53 50 0,e_ 54 50 1,m_ 12 53,m_ 13 54]
def yV:List Bv:=[m_ 55 8,B_ .neq 56 55 0,m_ 57 56,lF 57 58 7 2 true,lF 57 59 10 2 true,pF 57 60 (.eqs true [0,0] (.t 58) (.t 59)),po 61 57 60,m_ 62 61,lF 62 63 6 6 true,lF 62 64 9 6 true,⟨some 65,.call 261 [.t 63,.t 64],some (62,false)⟩,pF 62 66 (.un .not (.t 65)),po 67 62 66,m_ 68 67,mF 68 69 12,pF 68 70 (.bin .neq (.t 69) (.c (iV 0))),po 71 68 70,m_ 72 71,mF 72 73 13,pF 72 74 (.bin .neq (.t 73) (.c (iV 0))),po 75 72 74,m_ 76 75,lF 76 77 6 6 true,⟨some 78,.call 48 [.t 77],some (76,false)⟩,pF 76 79 (.un .not (.t 78)),po 80 76 79]
def yW:=[k_ 2 (.bool false)]
def yX:List Bv:=[f_ 81 7 0,l_ 82 81 1,B_ .neq 83 82 0,m_ 84 83,fT 84 85 7 0,lT 84 86 85 1 false,pT 84 87 (.bin .neq (.t 86) (.c (iV 15))),pa 88 84 87,m_ 89 88,fT 89 90 7 0,lT 89 91 90 1 false,pT 89 92 (.bin .neq (.t 91) (.c (iV 13))),pa 93 89 92,m_ 94 93,lT 94 95 6 6 true,lT 94 96 4 6 true,⟨some 97,.call 261 [.t 95,.t 96],some (94,true)⟩,pT 94 98 (.un .not (.t 97)),pa 99 94 98]
def yY:=[k_ 2 (.bool false)]
def yZ:=[L_ 100 6 6,s_ 4 100 6]
def zA:=[m_ 28 5,B_ .add 29 28 1,m_ 5 29]
def XX:IR:=(.seq (sr YE (.ite (.t 27) .skip (.exit 0))) (.seq (.block 1 (sd YF (sd YG (sr YH (.seq (sr yV (iz 80 (rr yW))) (.seq (sr yX (iz 99 (rr yY))) (.reg yZ))))))) (.reg zA)))
def zB:=[m_ 102 3,q_ 103 438 [.t 102],m_ 101 103,e_ 104 101 0,e_ 105 101 1,e_ 106 101 2,a_ 14 (zV 899 900 901),s_ 14 104 6,m_ 15 105,m_ 16 106]
def zC:List Bv:=[m_ 107 16,B_ .eql 108 107 0,m_ 109 108,lT 109 110 14 6 true,lT 109 111 4 6 true,⟨some 112,.call 261 [.t 110,.t 111],some (109,true)⟩,pa 113 109 112,m_ 114 113,mT 114 115 15,pT 114 116 (.len (.t 115)),mT 114 117 3,pT 114 118 (.len (.t 117)),pT 114 119 (.bin .eql (.t 116) (.t 118)),pa 120 114 119,m_ 2 120]
def c435:Dj:=⟨1,121,[.t 2],sr XY (.seq (sr XZ (iz 19 (rr YA))) (sr YB (sr YC (.seq (sr YD (Ik 0 XX)) (sr zB (rr zC))))))⟩
def K435 (D:Bi):Prop:=∀a0 r,g435 a0=some r→D 435 ⟨[lU8 a0],[]⟩ ⟨.bool r,[],[]⟩
abbrev Pr:=fun x0 x1 x2 x3 x4 x5 x6 (r:List (Nat×List V))=>(256,At x0 x1 (An 1411) x2 (An 1476) x3 (An 1477) x4 x5)::(384,Au x6 (An 2304) (An 2305) (An 2306))::r
abbrev Hw:=fun x0 (r:List (Nat×V))=>(3,Bt 1344 x0)::(4,.ptr 256 0)::r
theorem F435 (H48:K48 C) (H51:K51 C) (H261:K261 C) (H438:K438 C) (H439:K439 C) (H440:K440 C) (H442:K442 C):K435 (FO C c435):=by
 intro a0 r h0
 refine f0 (Az 3 [(0,lU8 a0)] [] (Ay 3 (Ao (Me rfl (o_ (Az 2 [(0,lU8 a0),(19,.bool (decide ((a0.length:Int)>1048576)))] [] (Co h0 (fun c1 h0=>?_) (fun c1 h0=>?_))))))))
 ·obtain rfl:=sj h0
  exact Cy 4
 ·refine Ay 4 (Ao (bb h0 fun r2 e3 h0=>st (De (r:=Bt 0 r2) true (H51 a0 r2 e3) ⟨tv,tv⟩ rfl rfl (fun h=>nomatch h) (o_ (Az 2 [(3,Bt 1344 r2)] [] (Bm (Ao (st (c_ (v:=.agg (Bo 0 1 (An 1411) [])) (Ax ⟨tv,tv⟩ rfl ⟨⟨rfl,rfl,nl rfl⟩,tv⟩) (st (c_ (v:=.agg (At 0 1 (An 1411) [] (An 1476) [] (An 1477) [] false)) (Ax ⟨tv,tv⟩ rfl ⟨⟨rfl,rfl,nl rfl⟩,tv⟩) (o_ (Az 8 (Hw r2 [(5,iV 0)]) [(256,At 0 1 (An 1411) [] (An 1476) [] (An 1477) [] false)] (By (bb h0 fun r111 e112 h0=>Cs (R:=(fun S=>∃p76:Int,∃p77:Int,∃p78:List Aa,∃p79:List Ai,∃p80:List Int,∃p81:Bool,.inl (p76,p77,p78,p79,p80,p81)=r111∧S=⟨Hw r2 [],[(256,At p76 p77 (An 1411) p78 (An 1476) p79 (An 1477) p80 p81)],[]⟩)) (Qy r2) (fun s S=>match s with | (p33,p34,p35,p36,p37,p38,p39)=>S=⟨Hw r2 [(5,iV p33)],[(256,At p34 p35 (An 1411) p36 (An 1476) p37 (An 1477) p38 p39)],[]⟩) e112 _ (Dv (by kernel_rfl)) rfl 0 (fun _=>rfl) ?_ ?_)))))))))))))))
  ·rintro S _ hfg ⟨p76,p77,p78,p79,p80,p81,rfl,rfl⟩
   refine Dd _ hfg (Bm (Ao (st (Ca rfl tv (bb h0 fun r113 e114 h0=>Ti (H438 r2 r113 e114) (ar (Bf rfl (af (af (af (ar (af (Bf rfl rfl)))))))) (o_ (Ay 6 (Ao (sw ⟨Hw r2 [(14,.ptr 896 0),(105,Dw 6595 r113.2.1),(106,iV r113.2.2)],[(256,At p76 p77 (An 1411) p78 (An 1476) p79 (An 1477) p80 p81),(896,Au r113.1 (An 6592) (An 6593) (An 6594))],[]⟩ (Dv (by kernel_rfl)) (Ca rfl tv (o_ (Az 2 (Hw r2 [(14,.ptr 896 0),(15,Dw 6595 r113.2.1),(16,iV r113.2.2)]) [(256,At p76 p77 (An 1411) p78 (An 1476) p79 (An 1477) p80 p81),(896,Au r113.1 (An 6592) (An 6593) (An 6594))] (Ay 4 (Ao (st (Bn (u:=.agg (Au r113.1 (An 6592) (An 6593) (An 6594))) rfl (fun hg=>(Ax ⟨tv,tv⟩ rfl (nl rfl))) (st (Bn (u:=.agg (At p76 p77 (An 1411) p78 (An 1476) p79 (An 1477) p80 p81)) rfl (fun hg=>(Ax ⟨tv,tv⟩ rfl (nl rfl))) (bb h0 fun r115 e116 h0=>st (Dy (r:=.bool r115) rfl false (fun hg=>H261 r113.1 (Aj.mk (Al.mk p76 p77 p78) p79 p80 p81) r115 (ip hg e116)) ⟨(fun hg=>hg),(fun hg=>hg),tv⟩ (fun _=>rfl) (fun _=>rfl) (fun _=>rfl) (fun h=>nomatch h) (st (Cu rfl rfl rfl (fun h=>Qm h) tv rfl (st (Ca rfl tv (st (Bn (u:=Dw 6595 r113.2.1) rfl (fun hg=>(Dg (v:=Dw 6595 r113.2.1) rfl tv)) (st (Bn (u:=iV (r113.2.1.length:Int)) rfl (fun hg=>(oN (e:=Ap) (l0:=r113.2.1) rfl rfl (fun _=>hg))) (st (Bn (u:=Bt 1344 r2) rfl (fun hg=>(Dg (v:=Bt 1344 r2) rfl tv)) (st (Bn (u:=iV (r2.length:Int)) rfl (fun hg=>(oN (e:=Aq) (l0:=r2) rfl rfl (fun _=>hg))) (sw ⟨[(114,.bool (bif (r113.2.2==0) then r115 else false)),(116,.may ((bif (r113.2.2==0) then r115 else false)==true) (iV (r113.2.1.length:Int))),(118,.may ((bif (r113.2.2==0) then r115 else false)==true) (iV (r2.length:Int)))],[],[]⟩ (Dv (by kernel_rfl)) (Bn (u:=.bool ((r113.2.1.length:Int)==(r2.length:Int))) rfl (fun hg=>(Ax ⟨(fun _=>hg),(fun _=>hg),tv⟩ rfl tv)) (st (Cu rfl rfl rfl (fun h=>Qm h) tv rfl (st (Ca rfl tv (Gr (bv h0 fun v117 e118 h0=>Dd ⟨[(2,.bool v117)],[],[]⟩ (Dv (by subst e118; kernel_rfl)) ?_))))))))))))))))))))))))))))))))))))))))
   obtain rfl:=sj h0
   exact Lf (Eg rfl rfl rfl rfl rfl tv)
  ·rintro ⟨p33,p34,p35,p36,p37,p38,p39⟩ o1 _ K1 rfl h1 hx1 hK1 hE1 hR1
   refine Ay 4 (Ao (Yv rfl (o_ (Az 2 (Hw r2 [(5,iV p33),(27,.bool (decide (p33<(r2.length:Int))))]) [(256,At p34 p35 (An 1411) p36 (An 1476) p37 (An 1477) p38 p39)] (Co h1 (fun c82 h1=>?_) (fun c82 h1=>?_))))))
   ·refine Lg 5 (bb h1 fun y83 e84 h1=>bb h1 fun y85 e86 h1=>bb h1 fun r87 e88 h1=>drawJ (fun S=>S=⟨Hw r2 [(5,iV p33),(6,.ptr 384 0),(7,.ptr 448 0),(8,iV r87.2.2)],Pr p34 p35 p36 p37 p38 p39 r87.1 [(448,Ap r87.2.1)],[]⟩) ?_ (fun J89=>?_))
    ·rintro _ rfl
     refine Bm (bb h1 fun y90 e91 h1=>bb h1 fun y92 e93 h1=>bb h1 fun r94 e95 h1=>drawJ (fun S=>S=⟨Hw r2 [(5,iV p33),(6,.ptr 384 0),(7,.ptr 448 0),(8,iV r87.2.2),(9,.ptr 576 0),(10,.ptr 640 0)],Pr p34 p35 p36 p37 p38 p39 r87.1 [(448,Ap r87.2.1),(576,Au r94.1 (An 2944) (An 2945) (An 2946)),(640,Ap r94.2.1)],[]⟩) ?_ (fun J96=>?_))
     ·rintro _ rfl
      refine Ay 2 (Ao (bb h1 fun r97 e98 h1=>Om (H439 r87.1 r97 e98) (o_ (Az 6 (Hw r2 [(5,iV p33),(6,.ptr 384 0),(7,.ptr 448 0),(8,iV r87.2.2),(9,.ptr 576 0),(10,.ptr 640 0),(12,iV r97.1),(13,iV r97.2)]) (Pr p34 p35 p36 p37 p38 p39 r87.1 [(448,Ap r87.2.1),(576,Au r94.1 (An 2944) (An 2945) (An 2946)),(640,Ap r94.2.1)]) (Ay 5 (Ao (st (Bn (u:=.agg (Ap r87.2.1)) rfl (fun hg=>(Ax ⟨tv,tv⟩ rfl (nl rfl))) (st (Bn (u:=.agg (Ap r94.2.1)) rfl (fun hg=>(Ax ⟨tv,tv⟩ rfl (nl rfl))) (st (Bn (u:=.bool (!((r87.2.1.code_==r94.2.1.code_)&&((r87.2.1.id==r94.2.1.id)&&true)))) rfl (fun hg=>(Ax ⟨(fun _=>hg),(fun _=>hg),tv⟩ rfl tv)) (st (Cu rfl rfl rfl tv (fun h=>Rl h) rfl (st (Ca rfl tv (st (Bn (u:=.agg (Au r87.1 (An 2304) (An 2305) (An 2306))) rfl (fun hg=>(Ax ⟨tv,tv⟩ rfl (nl rfl))) (st (Bn (u:=.agg (Au r94.1 (An 2944) (An 2945) (An 2946))) rfl (fun hg=>(Ax ⟨tv,tv⟩ rfl (nl rfl))) (bb h1 fun r99 e100 h1=>sw ⟨Hw r2 [(5,iV p33),(6,.ptr 384 0),(7,.ptr 448 0),(12,iV r97.1),(13,iV r97.2),(62,.bool (bif (r87.2.2 != 0) then true else (!((r87.2.1.code_==r94.2.1.code_)&&((r87.2.1.id==r94.2.1.id)&&true))))),(63,.may ((bif (r87.2.2 != 0) then true else (!((r87.2.1.code_==r94.2.1.code_)&&((r87.2.1.id==r94.2.1.id)&&true))))==false) (.agg (Au r87.1 (An 2304) (An 2305) (An 2306)))),(64,.may ((bif (r87.2.2 != 0) then true else (!((r87.2.1.code_==r94.2.1.code_)&&((r87.2.1.id==r94.2.1.id)&&true))))==false) (.agg (Au r94.1 (An 2944) (An 2945) (An 2946))))],Pr p34 p35 p36 p37 p38 p39 r87.1 [(448,Ap r87.2.1)],[]⟩ (Dv (by kernel_rfl)) (Dy (r:=.bool r99) rfl false (fun hg=>H261 r87.1 r94.1 r99 (ip hg e100)) ⟨(fun hg=>hg),(fun hg=>hg),tv⟩ (fun _=>rfl) (fun _=>rfl) (fun _=>rfl) (fun h=>nomatch h) (st (Bn (u:=.bool (!r99)) rfl (fun hg=>(Ax ⟨(fun _=>hg),tv⟩ rfl tv)) (st (Cu rfl rfl rfl tv (fun h=>Rl h) rfl (st (Ca rfl tv (st (Bn (u:=iV r97.1) rfl (fun hg=>(Dg (v:=iV r97.1) rfl tv)) (st (Bn (u:=.bool (r97.1 != 0)) rfl (fun hg=>(Ax ⟨(fun _=>hg),tv,tv⟩ rfl tv)) (st (Cu rfl rfl rfl tv (fun h=>Rl h) rfl (st (Ca rfl tv (st (Bn (u:=iV r97.2) rfl (fun hg=>(Dg (v:=iV r97.2) rfl tv)) (st (Bn (u:=.bool (r97.2 != 0)) rfl (fun hg=>(Ax ⟨(fun _=>hg),tv,tv⟩ rfl tv)) (st (Cu rfl rfl rfl tv (fun h=>Rl h) rfl (st (Ca rfl tv (sw ⟨Hw r2 [(5,iV p33),(6,.ptr 384 0),(7,.ptr 448 0),(76,.bool (bif (bif (bif (bif (r87.2.2 != 0) then true else (!((r87.2.1.code_==r94.2.1.code_)&&((r87.2.1.id==r94.2.1.id)&&true)))) then true else (!r99)) then true else (r97.1 != 0)) then true else (r97.2 != 0)))],Pr p34 p35 p36 p37 p38 p39 r87.1 [(448,Ap r87.2.1)],[]⟩ (Dv (by kernel_rfl)) (Bn (u:=.agg (Au r87.1 (An 2304) (An 2305) (An 2306))) rfl (fun hg=>(Ax ⟨tv,tv⟩ rfl (nl rfl))) (bb h1 fun r101 e102 h1=>st (Dy (r:=.bool r101) rfl false (fun hg=>H48 r87.1 r101 (ip hg e102)) ⟨(fun hg=>hg),tv⟩ (fun _=>rfl) (fun _=>rfl) (fun _=>rfl) (fun h=>nomatch h) (st (Bn (u:=.bool (!r101)) rfl (fun hg=>(Ax ⟨(fun _=>hg),tv⟩ rfl tv)) (st (Cu rfl rfl rfl tv (fun h=>Rl h) rfl (Gr (bv h1 fun v103 e104 h1=>Dd ⟨Hw r2 [(5,iV p33),(6,.ptr 384 0),(7,.ptr 448 0),(80,.bool v103)],Pr p34 p35 p36 p37 p38 p39 r87.1 [(448,Ap r87.2.1)],[]⟩ (Dv (by subst e104; kernel_rfl)) (Co h1 (fun HR h1=>?_) (fun HR h1=>?_))))))))))))))))))))))))))))))))))))))))))))))))))))))))
      ·obtain rfl:=sj h1
       obtain rfl:=hx1 _ rfl
       obtain rfl:=sj h0
       exact cJ 4 hR1
      ·refine Ay 8 (Ao (st (Bn (u:=.ptr 448 0) rfl (fun hg=>(Ax ⟨tv,tv⟩ rfl tv)) (st (Bn (u:=iV r87.2.1.code_) rfl (fun hg=>(Ax ⟨(fun _=>hg),tv⟩ rfl (nl rfl))) (st (Bn (u:=.bool (r87.2.1.code_ != 15)) rfl (fun hg=>(Ax ⟨(fun _=>hg),tv,tv⟩ rfl tv)) (st (Cu rfl rfl rfl (fun h=>Qm h) tv rfl (st (Ca rfl tv (st (Bn (u:=.ptr 448 0) rfl (fun hg=>(Ax ⟨tv,tv⟩ rfl tv)) (st (Bn (u:=iV r87.2.1.code_) rfl (fun hg=>(Ax ⟨(fun _=>hg),tv⟩ rfl (nl rfl))) (st (Bn (u:=.bool (r87.2.1.code_ != 13)) rfl (fun hg=>(Ax ⟨(fun _=>hg),tv,tv⟩ rfl tv)) (st (Cu rfl rfl rfl (fun h=>Qm h) tv rfl (st (Ca rfl tv (st (Bn (u:=.agg (Au r87.1 (An 2304) (An 2305) (An 2306))) rfl (fun hg=>(Ax ⟨tv,tv⟩ rfl (nl rfl))) (sw ⟨Hw r2 [(5,iV p33),(6,.ptr 384 0),(94,.bool (bif (bif (r87.2.1.code_ != 0) then (r87.2.1.code_ != 15) else false) then (r87.2.1.code_ != 13) else false)),(95,.may ((bif (bif (r87.2.1.code_ != 0) then (r87.2.1.code_ != 15) else false) then (r87.2.1.code_ != 13) else false)==true) (.agg (Au r87.1 (An 2304) (An 2305) (An 2306))))],Pr p34 p35 p36 p37 p38 p39 r87.1 [],[]⟩ (Dv (by kernel_rfl)) (Bn (u:=.agg (At p34 p35 (An 1411) p36 (An 1476) p37 (An 1477) p38 p39)) rfl (fun hg=>(Ax ⟨tv,tv⟩ rfl (nl rfl))) (bb h1 fun r106 e107 h1=>st (Dy (r:=.bool r106) rfl false (fun hg=>H261 r87.1 (Aj.mk (Al.mk p34 p35 p36) p37 p38 p39) r106 (ip hg e107)) ⟨(fun hg=>hg),(fun hg=>hg),tv⟩ (fun _=>rfl) (fun _=>rfl) (fun _=>rfl) (fun h=>nomatch h) (st (Bn (u:=.bool (!r106)) rfl (fun hg=>(Ax ⟨(fun _=>hg),tv⟩ rfl tv)) (st (Cu rfl rfl rfl (fun h=>Qm h) tv rfl (Gr (bv h1 fun v108 e109 h1=>Dd ⟨Hw r2 [(5,iV p33),(6,.ptr 384 0),(99,.bool v108)],Pr p34 p35 p36 p37 p38 p39 r87.1 [],[]⟩ (Dv (by subst e109; kernel_rfl)) (Co h1 (fun IS h1=>?_) (fun IS h1=>?_)))))))))))))))))))))))))))))))))))
       ·obtain rfl:=sj h1
        obtain rfl:=hx1 _ rfl
        obtain rfl:=sj h0
        exact cJ 4 hR1
       ·refine Az 6 (Hw r2 [(5,iV p33)]) [(256,Au r87.1 (An 2304) (An 2305) (An 2306))] (Ay 4 ?_)
        obtain rfl:=sj h1
        exact hK1 _ rfl _ _ (Sk [] [(2304,1411),(2305,1476),(2306,1477)] rfl (by kernel_rfl)) rfl
     ·refine Ag tv (c_ (v:=.agg (At p34 p35 (An 1411) p36 (An 1476) p37 (An 1477) p38 p39)) (Ax ⟨tv,tv⟩ rfl (nl rfl)) ?_)
      refine ⟨tv,d_ (Ay 2 (Bg (d_ (Xe rfl rfl rfl e91 (Bg (Cb (c_ (Mx rfl rfl e93) (⟨⟨Ct rfl rfl e93 rfl,tv⟩,Bq (De (r:=.tup [.agg (Au r94.1 (An 0) (An 1) (An 2)),.agg (Ap r94.2.1),iV r94.2.2]) false (H442 (Aj.mk (Al.mk p34 p35 p36) p37 p38 p39) y92 r94 e95) ⟨tv,tv,tv⟩ rfl rfl (fun _=>(ar (Bf rfl (af (af (af (ar (Bf rfl (ar (Bf rfl rfl)))))))))) ?_) ?_⟩))))))))⟩
      ·refine dw [(3,Bt 1344 r2),(4,.ptr 256 0),(5,iV p33),(6,.ptr 384 0),(7,.ptr 448 0),(8,iV r87.2.2),(46,.tup [.agg (Au r94.1 (An 2944) (An 2945) (An 2946)),.agg (Ap r94.2.1),iV r94.2.2])] [(256,At p34 p35 (An 1411) p36 (An 1476) p37 (An 1477) p38 p39),(384,Au r87.1 (An 2304) (An 2305) (An 2306)),(448,Ap r87.2.1)] tv ?_
       refine d_ (Ay 4 (Bg (Bq (Fc ?_) ?_)))
       ·refine d0 hB ?_
        refine Bq (Fc (d0 hB (Bq (Ei rfl rfl tv rfl rfl rfl (nl rfl) (d0 hB (Bq (Ei rfl rfl tv rfl rfl rfl (nl rfl) (dw [(3,Bt 1344 r2),(4,.ptr 256 0),(5,iV p33),(6,.ptr 384 0),(7,.ptr 448 0),(8,iV r87.2.2),(9,.ptr 576 0),(10,.ptr 640 0),(40,.tup [.agg (Au r94.1 (An 2944) (An 2945) (An 2946)),.agg (Ap r94.2.1),iV r94.2.2]),(49,iV r94.2.2)] [(256,At p34 p35 (An 1411) p36 (An 1476) p37 (An 1477) p38 p39),(384,Au r87.1 (An 2304) (An 2305) (An 2306)),(448,Ap r87.2.1),(576,Au r94.1 (An 2944) (An 2945) (An 2946)),(640,Ap r94.2.1)] hB (d_ (Ay 2 ?_)))) Aw))) Aw))) Aw
        exact jn J96 rfl
       ·refine Bq (Fc ?_) Aw
        refine d0 hB (Bq (Fc (d0 hB (Bq (Ei rfl rfl tv rfl rfl rfl (nl rfl) (d0 hB (Bq (Ei rfl rfl tv rfl rfl rfl (nl rfl) (dw [(3,Bt 1344 r2),(4,.ptr 256 0),(5,iV p33),(6,.ptr 384 0),(7,.ptr 448 0),(8,iV r87.2.2),(9,.ptr 576 0),(10,.ptr 640 0),(40,.tup [.agg (Au r94.1 (An 2944) (An 2945) (An 2946)),.agg (Ap r94.2.1),iV r94.2.2]),(49,iV r94.2.2)] [(256,At p34 p35 (An 1411) p36 (An 1476) p37 (An 1477) p38 p39),(384,Au r87.1 (An 2304) (An 2305) (An 2306)),(448,Ap r87.2.1),(576,Au r94.1 (An 2944) (An 2945) (An 2946)),(640,Ap r94.2.1)] hB (d_ (Ay 2 ?_)))) Aw))) Aw))) Aw)
        exact jn J96 rfl
      ·refine Bq (Fc ?_) ?_
       ·refine dk0 ⟨[iQ 45 (.load (.t 44) 7 true)],⟨⟨.inr (.head _),Ct rfl rfl e93 rfl⟩,⟨.inl tv,Bd (Ja rfl rfl e91) rfl⟩,⟨.inl tv,Bd (Dg (v:=iV p33) rfl tv) rfl⟩,⟨.inl tv,Bd (Dg (v:=Bt 1344 r2) rfl tv) rfl⟩,⟨.inl tv,Bd (Ax ⟨tv,tv⟩ rfl (nl rfl)) rfl⟩,tv⟩,⟨Ct rfl rfl e93 rfl,tv⟩,?_⟩
        refine Bq (De (r:=.tup [.agg (Au r94.1 (An 0) (An 1) (An 2)),.agg (Ap r94.2.1),iV r94.2.2]) false (H442 (Aj.mk (Al.mk p34 p35 p36) p37 p38 p39) y92 r94 e95) ⟨tv,tv,tv⟩ rfl rfl (fun _=>(ar (Bf rfl (af (af (af (ar (Bf rfl (ar (Bf rfl rfl)))))))))) ?_) ?_
        ·refine dw [(3,Bt 1344 r2),(4,.ptr 256 0),(5,iV p33),(6,.ptr 384 0),(7,.ptr 448 0),(8,iV r87.2.2),(9,.ptr 576 0),(46,.tup [.agg (Au r94.1 (An 2944) (An 2945) (An 2946)),.agg (Ap r94.2.1),iV r94.2.2])] [(256,At p34 p35 (An 1411) p36 (An 1476) p37 (An 1477) p38 p39),(384,Au r87.1 (An 2304) (An 2305) (An 2306)),(448,Ap r87.2.1),(576,At 0 0 (An 579) [] (An 580) [] (An 581) [] false)] tv ?_
         refine d_ (Ay 4 (Bg (Bq (Fc (d0 hB (Bq (Ei rfl rfl tv rfl rfl rfl (nl rfl) (d0 hB (Bq (Ei rfl rfl tv rfl rfl rfl (nl rfl) (d0 hB (d_ (Ay 2 ?_)))) Aw))) Aw))) Aw)))
         exact jn J96 rfl
        ·refine Bq (Fc ?_) Aw
         refine dk0 ⟨[iQ 45 (.load (.t 44) 7 true)],⟨⟨.inr (.head _),Ct rfl rfl e93 rfl⟩,⟨.inl tv,Bd (Ja rfl rfl e91) rfl⟩,⟨.inl tv,Bd (Dg (v:=iV p33) rfl tv) rfl⟩,⟨.inl tv,Bd (Dg (v:=Bt 1344 r2) rfl tv) rfl⟩,⟨.inl tv,Bd (Ax ⟨tv,tv⟩ rfl (nl rfl)) rfl⟩,tv⟩,⟨Ct rfl rfl e93 rfl,tv⟩,Rq (H442 (Aj.mk (Al.mk p34 p35 p36) p37 p38 p39) y92 r94 e95) (ar (Bf rfl (af (af (af (ar (Bf rfl (ar (Bf rfl rfl))))))))) (dw [(3,Bt 1344 r2),(4,.ptr 256 0),(5,iV p33),(6,.ptr 384 0),(7,.ptr 448 0),(8,iV r87.2.2),(9,.ptr 576 0),(10,.ptr 640 0),(46,.tup [.agg (Au r94.1 (An 2944) (An 2945) (An 2946)),.agg (Ap r94.2.1),iV r94.2.2])] [(256,At p34 p35 (An 1411) p36 (An 1476) p37 (An 1477) p38 p39),(384,Au r87.1 (An 2304) (An 2305) (An 2306)),(448,Ap r87.2.1),(576,At 0 0 (An 579) [] (An 580) [] (An 581) [] false),(640,[iV 0,iV 0])] tv (d_ (Ay 4 (Bg (Bq (Ei rfl rfl tv rfl rfl rfl (nl rfl) (d0 hB (Bq (Ei rfl rfl tv rfl rfl rfl (nl rfl) (d0 hB (d_ (Ay 2 ?_)))) Aw))) Aw))))) Aw⟩
         exact jn J96 rfl
       ·refine Bq (Fc ?_) Aw
        refine dk0 ⟨[iQ 45 (.load (.t 44) 7 true)],⟨⟨.inr (.head _),Ct rfl rfl e93 rfl⟩,⟨.inl tv,Bd (Ja rfl rfl e91) rfl⟩,⟨.inl tv,Bd (Dg (v:=iV p33) rfl tv) rfl⟩,⟨.inl tv,Bd (Dg (v:=Bt 1344 r2) rfl tv) rfl⟩,⟨.inl tv,Bd (Ax ⟨tv,tv⟩ rfl (nl rfl)) rfl⟩,tv⟩,⟨Ct rfl rfl e93 rfl,tv⟩,Bq (De (r:=.tup [.agg (Au r94.1 (An 0) (An 1) (An 2)),.agg (Ap r94.2.1),iV r94.2.2]) false (H442 (Aj.mk (Al.mk p34 p35 p36) p37 p38 p39) y92 r94 e95) ⟨tv,tv,tv⟩ rfl rfl (fun _=>(ar (Bf rfl (af (af (af (ar (Bf rfl (ar (Bf rfl rfl)))))))))) ?_) ?_⟩
        ·refine dw [(3,Bt 1344 r2),(4,.ptr 256 0),(5,iV p33),(6,.ptr 384 0),(7,.ptr 448 0),(8,iV r87.2.2),(10,.ptr 640 0),(46,.tup [.agg (Au r94.1 (An 2944) (An 2945) (An 2946)),.agg (Ap r94.2.1),iV r94.2.2])] [(256,At p34 p35 (An 1411) p36 (An 1476) p37 (An 1477) p38 p39),(384,Au r87.1 (An 2304) (An 2305) (An 2306)),(448,Ap r87.2.1),(640,[iV 0,iV 0])] tv ?_
         refine d_ (Ay 4 (Bg (Bq (Fc (d0 hB (Bq (Ei rfl rfl tv rfl rfl rfl (nl rfl) (d0 hB (Bq (Ei rfl rfl tv rfl rfl rfl (nl rfl) (d0 hB (d_ (Ay 2 ?_)))) Aw))) Aw))) Aw)))
         exact jn J96 rfl
        ·refine Bq (Fc ?_) Aw
         refine dk0 ⟨[iQ 45 (.load (.t 44) 7 true)],⟨⟨.inr (.head _),Ct rfl rfl e93 rfl⟩,⟨.inl tv,Bd (Ja rfl rfl e91) rfl⟩,⟨.inl tv,Bd (Dg (v:=iV p33) rfl tv) rfl⟩,⟨.inl tv,Bd (Dg (v:=Bt 1344 r2) rfl tv) rfl⟩,⟨.inl tv,Bd (Ax ⟨tv,tv⟩ rfl (nl rfl)) rfl⟩,tv⟩,⟨Ct rfl rfl e93 rfl,tv⟩,Rq (H442 (Aj.mk (Al.mk p34 p35 p36) p37 p38 p39) y92 r94 e95) (ar (Bf rfl (af (af (af (ar (Bf rfl (ar (Bf rfl rfl))))))))) (dw [(3,Bt 1344 r2),(4,.ptr 256 0),(5,iV p33),(6,.ptr 384 0),(7,.ptr 448 0),(8,iV r87.2.2),(9,.ptr 576 0),(10,.ptr 640 0),(46,.tup [.agg (Au r94.1 (An 2944) (An 2945) (An 2946)),.agg (Ap r94.2.1),iV r94.2.2])] [(256,At p34 p35 (An 1411) p36 (An 1476) p37 (An 1477) p38 p39),(384,Au r87.1 (An 2304) (An 2305) (An 2306)),(448,Ap r87.2.1),(576,At 0 0 (An 579) [] (An 580) [] (An 581) [] false),(640,[iV 0,iV 0])] tv (d_ (Ay 4 (Bg (Bq (Ei rfl rfl tv rfl rfl rfl (nl rfl) (d0 hB (Bq (Ei rfl rfl tv rfl rfl rfl (nl rfl) (d0 hB (d_ (Ay 2 ?_)))) Aw))) Aw))))) Aw⟩
         exact jn J96 rfl
    ·refine Ag tv (c_ (v:=.agg (At p34 p35 (An 1411) p36 (An 1476) p37 (An 1477) p38 p39)) (Ax ⟨tv,tv⟩ rfl (nl rfl)) ?_)
     refine ⟨tv,d_ (Ay 2 (Bg (d_ (Xe rfl rfl rfl e84 (Bg (Cb (c_ (Mx rfl rfl e86) (⟨⟨Ct rfl rfl e86 rfl,tv⟩,Bq (De (r:=.tup [.agg (Au r87.1 (An 0) (An 1) (An 2)),.agg (Ap r87.2.1),iV r87.2.2]) false (H440 (Aj.mk (Al.mk p34 p35 p36) p37 p38 p39) y85 r87 e88) ⟨tv,tv,tv⟩ rfl rfl (fun _=>(ar (Bf rfl (af (af (af (ar (Bf rfl (ar (Bf rfl rfl)))))))))) ?_) ?_⟩))))))))⟩
     ·refine dw [(3,Bt 1344 r2),(4,.ptr 256 0),(5,iV p33),(36,.tup [.agg (Au r87.1 (An 2304) (An 2305) (An 2306)),.agg (Ap r87.2.1),iV r87.2.2])] [(256,At p34 p35 (An 1411) p36 (An 1476) p37 (An 1477) p38 p39)] tv ?_
      refine d_ (Ay 4 (Bg (Bq (Fc ?_) ?_)))
      ·refine d0 hB ?_
       refine Bq (Fc (d0 hB (Bq (Ei rfl rfl tv rfl rfl rfl (nl rfl) (d0 hB (Bq (Ei rfl rfl tv rfl rfl rfl (nl rfl) (dw [(3,Bt 1344 r2),(4,.ptr 256 0),(5,iV p33),(6,.ptr 384 0),(7,.ptr 448 0),(30,.tup [.agg (Au r87.1 (An 2304) (An 2305) (An 2306)),.agg (Ap r87.2.1),iV r87.2.2]),(39,iV r87.2.2)] [(256,At p34 p35 (An 1411) p36 (An 1476) p37 (An 1477) p38 p39),(384,Au r87.1 (An 2304) (An 2305) (An 2306)),(448,Ap r87.2.1)] hB (d_ (Ay 2 ?_)))) Aw))) Aw))) Aw
       exact jn J89 rfl
      ·refine Bq (Fc ?_) Aw
       refine d0 hB (Bq (Fc (d0 hB (Bq (Ei rfl rfl tv rfl rfl rfl (nl rfl) (d0 hB (Bq (Ei rfl rfl tv rfl rfl rfl (nl rfl) (dw [(3,Bt 1344 r2),(4,.ptr 256 0),(5,iV p33),(6,.ptr 384 0),(7,.ptr 448 0),(30,.tup [.agg (Au r87.1 (An 2304) (An 2305) (An 2306)),.agg (Ap r87.2.1),iV r87.2.2]),(39,iV r87.2.2)] [(256,At p34 p35 (An 1411) p36 (An 1476) p37 (An 1477) p38 p39),(384,Au r87.1 (An 2304) (An 2305) (An 2306)),(448,Ap r87.2.1)] hB (d_ (Ay 2 ?_)))) Aw))) Aw))) Aw)
       exact jn J89 rfl
     ·refine Bq (Fc ?_) ?_
      ·refine dk0 ⟨[iQ 35 (.load (.t 34) 7 true)],⟨⟨.inr (.head _),Ct rfl rfl e86 rfl⟩,⟨.inl tv,Bd (Ja rfl rfl e84) rfl⟩,⟨.inl tv,Bd (Dg (v:=iV p33) rfl tv) rfl⟩,⟨.inl tv,Bd (Dg (v:=Bt 1344 r2) rfl tv) rfl⟩,⟨.inl tv,Bd (Ax ⟨tv,tv⟩ rfl (nl rfl)) rfl⟩,tv⟩,⟨Ct rfl rfl e86 rfl,tv⟩,?_⟩
       refine Bq (De (r:=.tup [.agg (Au r87.1 (An 0) (An 1) (An 2)),.agg (Ap r87.2.1),iV r87.2.2]) false (H440 (Aj.mk (Al.mk p34 p35 p36) p37 p38 p39) y85 r87 e88) ⟨tv,tv,tv⟩ rfl rfl (fun _=>(ar (Bf rfl (af (af (af (ar (Bf rfl (ar (Bf rfl rfl)))))))))) ?_) ?_
       ·refine dw [(3,Bt 1344 r2),(4,.ptr 256 0),(5,iV p33),(6,.ptr 384 0),(36,.tup [.agg (Au r87.1 (An 2304) (An 2305) (An 2306)),.agg (Ap r87.2.1),iV r87.2.2])] [(256,At p34 p35 (An 1411) p36 (An 1476) p37 (An 1477) p38 p39),(384,At 0 0 (An 387) [] (An 388) [] (An 389) [] false)] tv ?_
        refine d_ (Ay 4 (Bg (Bq (Fc (d0 hB (Bq (Ei rfl rfl tv rfl rfl rfl (nl rfl) (d0 hB (Bq (Ei rfl rfl tv rfl rfl rfl (nl rfl) (d0 hB (d_ (Ay 2 ?_)))) Aw))) Aw))) Aw)))
        exact jn J89 rfl
       ·refine Bq (Fc ?_) Aw
        refine dk0 ⟨[iQ 35 (.load (.t 34) 7 true)],⟨⟨.inr (.head _),Ct rfl rfl e86 rfl⟩,⟨.inl tv,Bd (Ja rfl rfl e84) rfl⟩,⟨.inl tv,Bd (Dg (v:=iV p33) rfl tv) rfl⟩,⟨.inl tv,Bd (Dg (v:=Bt 1344 r2) rfl tv) rfl⟩,⟨.inl tv,Bd (Ax ⟨tv,tv⟩ rfl (nl rfl)) rfl⟩,tv⟩,⟨Ct rfl rfl e86 rfl,tv⟩,Rq (H440 (Aj.mk (Al.mk p34 p35 p36) p37 p38 p39) y85 r87 e88) (ar (Bf rfl (af (af (af (ar (Bf rfl (ar (Bf rfl rfl))))))))) (dw [(3,Bt 1344 r2),(4,.ptr 256 0),(5,iV p33),(6,.ptr 384 0),(7,.ptr 448 0),(36,.tup [.agg (Au r87.1 (An 2304) (An 2305) (An 2306)),.agg (Ap r87.2.1),iV r87.2.2])] [(256,At p34 p35 (An 1411) p36 (An 1476) p37 (An 1477) p38 p39),(384,At 0 0 (An 387) [] (An 388) [] (An 389) [] false),(448,[iV 0,iV 0])] tv (d_ (Ay 4 (Bg (Bq (Ei rfl rfl tv rfl rfl rfl (nl rfl) (d0 hB (Bq (Ei rfl rfl tv rfl rfl rfl (nl rfl) (d0 hB (d_ (Ay 2 ?_)))) Aw))) Aw))))) Aw⟩
        exact jn J89 rfl
      ·refine Bq (Fc ?_) Aw
       refine dk0 ⟨[iQ 35 (.load (.t 34) 7 true)],⟨⟨.inr (.head _),Ct rfl rfl e86 rfl⟩,⟨.inl tv,Bd (Ja rfl rfl e84) rfl⟩,⟨.inl tv,Bd (Dg (v:=iV p33) rfl tv) rfl⟩,⟨.inl tv,Bd (Dg (v:=Bt 1344 r2) rfl tv) rfl⟩,⟨.inl tv,Bd (Ax ⟨tv,tv⟩ rfl (nl rfl)) rfl⟩,tv⟩,⟨Ct rfl rfl e86 rfl,tv⟩,Bq (De (r:=.tup [.agg (Au r87.1 (An 0) (An 1) (An 2)),.agg (Ap r87.2.1),iV r87.2.2]) false (H440 (Aj.mk (Al.mk p34 p35 p36) p37 p38 p39) y85 r87 e88) ⟨tv,tv,tv⟩ rfl rfl (fun _=>(ar (Bf rfl (af (af (af (ar (Bf rfl (ar (Bf rfl rfl)))))))))) ?_) ?_⟩
       ·refine dw [(3,Bt 1344 r2),(4,.ptr 256 0),(5,iV p33),(7,.ptr 448 0),(36,.tup [.agg (Au r87.1 (An 2304) (An 2305) (An 2306)),.agg (Ap r87.2.1),iV r87.2.2])] [(256,At p34 p35 (An 1411) p36 (An 1476) p37 (An 1477) p38 p39),(448,[iV 0,iV 0])] tv ?_
        refine d_ (Ay 4 (Bg (Bq (Fc (d0 hB (Bq (Ei rfl rfl tv rfl rfl rfl (nl rfl) (d0 hB (Bq (Ei rfl rfl tv rfl rfl rfl (nl rfl) (d0 hB (d_ (Ay 2 ?_)))) Aw))) Aw))) Aw)))
        exact jn J89 rfl
       ·refine Bq (Fc ?_) Aw
        refine dk0 ⟨[iQ 35 (.load (.t 34) 7 true)],⟨⟨.inr (.head _),Ct rfl rfl e86 rfl⟩,⟨.inl tv,Bd (Ja rfl rfl e84) rfl⟩,⟨.inl tv,Bd (Dg (v:=iV p33) rfl tv) rfl⟩,⟨.inl tv,Bd (Dg (v:=Bt 1344 r2) rfl tv) rfl⟩,⟨.inl tv,Bd (Ax ⟨tv,tv⟩ rfl (nl rfl)) rfl⟩,tv⟩,⟨Ct rfl rfl e86 rfl,tv⟩,Rq (H440 (Aj.mk (Al.mk p34 p35 p36) p37 p38 p39) y85 r87 e88) (ar (Bf rfl (af (af (af (ar (Bf rfl (ar (Bf rfl rfl))))))))) (dw [(3,Bt 1344 r2),(4,.ptr 256 0),(5,iV p33),(6,.ptr 384 0),(7,.ptr 448 0),(36,.tup [.agg (Au r87.1 (An 2304) (An 2305) (An 2306)),.agg (Ap r87.2.1),iV r87.2.2])] [(256,At p34 p35 (An 1411) p36 (An 1476) p37 (An 1477) p38 p39),(384,At 0 0 (An 387) [] (An 388) [] (An 389) [] false),(448,[iV 0,iV 0])] tv (d_ (Ay 4 (Bg (Bq (Ei rfl rfl tv rfl rfl rfl (nl rfl) (d0 hB (Bq (Ei rfl rfl tv rfl rfl rfl (nl rfl) (d0 hB (d_ (Ay 2 ?_)))) Aw))) Aw))))) Aw⟩
        exact jn J89 rfl
   ·obtain rfl:=sj h1
    obtain rfl:=hx1 _ rfl
    refine Iq rfl ?_
    exact jn hE1 ⟨_,_,_,_,_,_,rfl,rfl⟩
end Go.Ev
