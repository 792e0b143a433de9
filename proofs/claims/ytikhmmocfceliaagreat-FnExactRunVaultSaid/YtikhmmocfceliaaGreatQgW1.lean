/- The walks of functions: the code comes to the answers that QgD tells. Written by a program of ours. -/
import Derived.Test.YtikhmmocfceliaaGreatQgW0
set_option linter.all false
set_option maxHeartbeats 4000000
set_option linter.unusedVariables false
set_option maxRecDepth 100000
namespace Go.Ev
variable {C:Bl}

/- loop.example/g00149/impl.areAll[loop.example/g00149/impl.VaultAct] -/
def Abf:=[X_ 3 1,k_ 4 (.bool false)]
def Abg:=[m_ 5 0,iQ 6 (.fn 462 [.t 3]),q_ 7 461 [.t 5,.t 6],N_ 8 7,m_ 4 8]
def c456:Dv:=⟨2,9,[.t 4],sr Abf (rr Abg)⟩
def K456 (C:Bl) (D:Bl:=C):Prop:=∀(a0:List Ai) (f1:Nat) (k1:List V) (is1:Ai→Option Bool) (hs1:Jh k1) (hf1:∀(x0:Ai) r,is1 x0=some r→C f1 ⟨.agg (Ao x0)::k1,[]⟩ ⟨.bool r,[],[]⟩) (r:Bool),g456 a0 is1=some r→D 456 ⟨[An a0,.clo f1 k1],[]⟩ ⟨.bool r,[],[]⟩
theorem F456 (H461:K461 C) (H462:K462 C):K456 C (FO C c456):=by
 intro a0 f1 k1 is1 hs1 hf1 r h0
 refine f0 (Aw (Ar (st (box_ (iW hs1) tv rfl (o_ (Ba 2 [(0,An a0),(3,.ptr 192 0)] [(192,[.clo f1 k1])] (Bj 3 (Ar (bb h0 fun r1 e2 h0=>st (Cq (r:=.bool r1) false (H461 a0 462 [.iptr [.clo f1 k1]] (fun z462_0=>g462 z462_0 is1) (⟨fun _ _ _ _ _=>rfl,fun _ _ _ _ _=>rfl,rfl,fun _ _ _ n=>by cases n<;>rfl,fun _=>rfl⟩) (fun z462_0 r h=>H462 z462_0 f1 k1 is1 hs1 hf1 r h) r1 e2) ⟨tv,tv,tv⟩ rfl (Bb rfl (Bb (congrArg (fun z=>V.clo 462 [.iptr [.clo f1 z]]) (hs1.2.2.2.1 _ _ _ _)) rfl)) (fun _=>rfl) (o_ ?_)))))))))))
 obtain rfl:=sj h0
 exact Cy 4

/- loop.example/g00149/impl.within -/
def c63_r0:=[k_ 6 (.bool false)]
def c63_r1:=[m_ 7 1,m_ 8 0,b_ .leq 9 7 8,m_ 10 9,mT 10 11 0,mT 10 12 2,pT 10 13 (.bin .leq (.t 11) (.t 12)),pa 14 10 13,m_ 6 14]
def c63:Dv:=⟨3,15,[.t 6],sr c63_r0 (rr c63_r1)⟩
def K63 (D:Bl):Prop:=∀a0 a1 a2 r,g63 a0 a1 a2=some r→D 63 ⟨[iV a0,iV a1,iV a2],[]⟩ ⟨.bool r,[],[]⟩
theorem F63:K63 (FO C c63):=by
 intro a0 a1 a2 r h0
 refine f0 (Ba 3 [(0,iV a0),(1,iV a1),(2,iV a2)] [] (jE 9 (Ar (o_ ?_))))
 obtain rfl:=sj h0
 exact Cy 3

/- loop.example/g00149/impl.isList[int] -/
def c87_r0:=[k_ 2 (.bool false)]
def c87_r1:=[m_ 3 0,n_ 4 3,B_ .leq 5 4 4096,m_ 2 5]
def c87:Dv:=⟨1,6,[.t 2],sr c87_r0 (rr c87_r1)⟩
def K87 (D:Bl):Prop:=∀a0 r,g87 a0=some r→D 87 ⟨[lI a0],[]⟩ ⟨.bool r,[],[]⟩
theorem F87:K87 (FO C c87):=by
 intro a0 r h0
 refine f0 (Ba 3 [(0,lI a0)] [] (Aw (Ar (st (Bm rfl tv (Nh rfl (o_ ?_)))))))
 obtain rfl:=sj h0
 exact Cy 4

/- loop.example/g00149/impl.isFate -/
def c88_r0:=[k_ 2 (.bool false)]
def c88_r1:=[m_ 3 0,q_ 4 63 [.t 3,.c (iV 0),.c (iV 2)],m_ 2 4]
def c88:Dv:=⟨1,5,[.t 2],sr c88_r0 (rr c88_r1)⟩
def K88 (D:Bl):Prop:=∀a0 r,g88 a0=some r→D 88 ⟨[iV a0],[]⟩ ⟨.bool r,[],[]⟩
theorem F88 (H63:K63 C):K88 (FO C c88):=by
 intro a0 r h0
 refine f0 (Ba 3 [(0,iV a0)] [] (Aw (Ar (st (Bm rfl tv (bb h0 fun r1 e2 h0=>Sn (H63 a0 0 2 r1 e2) (o_ ?_)))))))
 obtain rfl:=sj h0
 exact Cy 3

/- slices.IndexFunc[[]int,int] -/
def MR:=[i_ 4 0]
def MS:=[m_ 6 0,n_ 7 6,i_ 8 0]
def MT:=[b_ .lss 9 8 7]
def MU:=[m_ 10 8,m_ 5 10]
def MV:List Cf:=[m_ 11 1,m_ 12 0,m_ 13 5,x_ 14 12 13 1,l_ 15 14 1,⟨some 16,.callv (.t 11) [.t 15],none⟩]
def MW:=[m_ 17 5,m_ 4 17]
def MX:=[B_ .add 18 8 1,m_ 8 18]
def MQ:IR:=(sr MT (.seq (.ite (.t 9) .skip (.exit 0)) (.seq (.block 1 (sr MU (sr MV (iz 16 (rr MW))))) (.reg MX))))
def MY:=[i_ 4 (-1)]
def c127:Dv:=⟨2,19,[.t 4],sr MR (.seq (sr MS (Im 0 MQ)) (rr MY))⟩
def K127 (C:Bl) (D:Bl:=C):Prop:=∀(a0:List Int) (f1:Nat) (k1:List V) (is1:Int→Option Bool) (hs1:Jh k1) (hf1:∀(x0:Int) r,is1 x0=some r→C f1 ⟨iV x0::k1,[]⟩ ⟨.bool r,[],[]⟩) (r:Int),g127 a0 is1=some r→D 127 ⟨[lI a0,.clo f1 k1],[]⟩ ⟨iV r,[],[]⟩
theorem F127:K127 C (FO C c127):=by
 intro a0 f1 k1 is1 hs1 hf1 r h0
 refine f0 (Ba 3 [(0,lI a0),(1,.clo f1 k1)] [] (Bj 3 (Ar (Nh rfl (o_ (Ba 2 [(0,lI a0),(1,.clo f1 k1),(7,iV (a0.length:Int)),(8,iV 0)] [] (Bu (bb h0 fun r21 e22 h0=>Cv (R:=(fun S=>.inl ()=r21∧S=⟨[],[],[]⟩)) (oY a0 is1) (fun s S=>match s with | p7=>S=⟨[(0,lI a0),(1,.clo f1 k1),(7,iV (a0.length:Int)),(8,iV p7)],[],[]⟩) e22 _ (Cj (by kernel_rfl)) rfl 0 (fun _=>rfl) ?_ ?_))))))))
 ·rintro S _ hfg ⟨rfl,rfl⟩
  refine Cb _ hfg ?_
  obtain rfl:=sj h0
  exact Cy 4
 ·rintro p7 o1 _ K1 rfl h1 hx1 hK1 hE1 hR1
  refine Ba 3 [(0,lI a0),(1,.clo f1 k1),(7,iV (a0.length:Int)),(8,iV p7),(9,.bool (decide (p7<(a0.length:Int))))] [] (Aw (Cs h1 (fun c15 h1=>?_) (fun c15 h1=>?_)))
  ·refine Ba 8 [(0,lI a0),(1,.clo f1 k1),(5,iV p7),(7,iV (a0.length:Int)),(8,iV p7)] [] (Bj 4 (Ar (bb h1 fun y16 e17 h1=>Ti rfl rfl e17 (st (c_ (Bn ⟨tv,tv⟩ rfl (nl rfl)) (bb h1 fun r18 e19 h1=>st (He (r:=.bool r18) rfl false (hf1 _ r18 e19) ⟨tv,tv⟩ (Az rfl hs1.2.2.1) (Bb rfl (hs1.2.1 _ _ _ _ _)) (fun _=>rfl) (o_ (Ba 1 [(0,lI a0),(1,.clo f1 k1),(5,iV p7),(7,iV (a0.length:Int)),(8,iV p7),(16,.bool r18)] [] (Cs h1 (fun c20 h1=>?_) (fun c20 h1=>?_)))))))))))
   ·obtain rfl:=sj h1
    obtain rfl:=hx1 _ rfl
    obtain rfl:=sj h0
    exact cR 5 hR1
   ·refine Bj 6 ?_
    obtain rfl:=sj h1
    exact kn hK1 rfl rfl
  ·obtain rfl:=sj h1
   obtain rfl:=hx1 _ rfl
   refine In rfl ?_
   exact jn hE1 ⟨rfl,rfl⟩

/- slices.ContainsFunc[[]int,int] -/
def MZ:=[k_ 4 (.bool false)]
def NA:=[m_ 5 0,m_ 6 1,q_ 7 127 [.t 5,.t 6],B_ .geq 8 7 0,m_ 4 8]
def c129:Dv:=⟨2,9,[.t 4],sr MZ (rr NA)⟩
def K129 (C:Bl) (D:Bl:=C):Prop:=∀(a0:List Int) (f1:Nat) (k1:List V) (is1:Int→Option Bool) (hs1:Jh k1) (hf1:∀(x0:Int) r,is1 x0=some r→C f1 ⟨iV x0::k1,[]⟩ ⟨.bool r,[],[]⟩) (r:Bool),g129 a0 is1=some r→D 129 ⟨[lI a0,.clo f1 k1],[]⟩ ⟨.bool r,[],[]⟩
theorem F129 (H127:K127 C):K129 C (FO C c129):=by
 intro a0 f1 k1 is1 hs1 hf1 r h0
 refine f0 (Ba 3 [(0,lI a0),(1,.clo f1 k1)] [] (Bj 3 (Ar (bb h0 fun r1 e2 h0=>st (Cq (r:=iV r1) false (H127 a0 f1 k1 is1 hs1 hf1 r1 e2) ⟨tv,tv,tv⟩ rfl (Bb rfl (Bb (Ey hs1) rfl)) (fun _=>rfl) (o_ ?_))))))
 obtain rfl:=sj h0
 exact Cy 4

/- loop.example/g00149/impl.areAll[int]$1 -/
def NC:=[k_ 3 (.bool false)]
def ND:List Cf:=[l_ 4 1 1,m_ 5 0,⟨some 6,.callv (.t 4) [.t 5],none⟩,N_ 7 6,m_ 3 7]
def c130:Dv:=⟨2,8,[.t 3],sr NC (rr ND)⟩
def K130 (C:Bl) (D:Bl:=C):Prop:=∀(a0:Int) (f1:Nat) (k1:List V) (is1:Int→Option Bool) (hs1:Jh k1) (hf1:∀(x0:Int) r,is1 x0=some r→C f1 ⟨iV x0::k1,[]⟩ ⟨.bool r,[],[]⟩) (r:Bool),g130 a0 is1=some r→D 130 ⟨[iV a0,.iptr [.clo f1 k1]],[]⟩ ⟨.bool r,[],[]⟩
theorem F130:K130 C (FO C c130):=by
 intro a0 f1 k1 is1 hs1 hf1 r h0
 refine f0 (Ba 3 [(0,iV a0),(1,.iptr [.clo f1 k1])] [] (Bj 3 (Ar (bb h0 fun r1 e2 h0=>st (He (r:=.bool r1) rfl false (hf1 _ r1 e2) ⟨tv,tv⟩ (Az rfl hs1.2.2.1) (Bb rfl (hs1.2.1 _ _ _ _ _)) (fun _=>rfl) (o_ ?_))))))
 obtain rfl:=sj h0
 exact Cy 4

/- loop.example/g00149/impl.areAll[int] -/
def c97_r0:=[X_ 3 1,k_ 4 (.bool false)]
def c97_r1:=[m_ 5 0,iQ 6 (.fn 130 [.t 3]),q_ 7 129 [.t 5,.t 6],N_ 8 7,m_ 4 8]
def c97:Dv:=⟨2,9,[.t 4],sr c97_r0 (rr c97_r1)⟩
def K97 (C:Bl) (D:Bl:=C):Prop:=∀(a0:List Int) (f1:Nat) (k1:List V) (is1:Int→Option Bool) (hs1:Jh k1) (hf1:∀(x0:Int) r,is1 x0=some r→C f1 ⟨iV x0::k1,[]⟩ ⟨.bool r,[],[]⟩) (r:Bool),g97 a0 is1=some r→D 97 ⟨[lI a0,.clo f1 k1],[]⟩ ⟨.bool r,[],[]⟩
theorem F97 (H129:K129 C) (H130:K130 C):K97 C (FO C c97):=by
 intro a0 f1 k1 is1 hs1 hf1 r h0
 refine f0 (Aw (Ar (st (box_ (iW hs1) tv rfl (o_ (Ba 2 [(0,lI a0),(3,.ptr 192 0)] [(192,[.clo f1 k1])] (Bj 3 (Ar (bb h0 fun r1 e2 h0=>st (Cq (r:=.bool r1) false (H129 a0 130 [.iptr [.clo f1 k1]] (fun z130_0=>g130 z130_0 is1) (⟨fun _ _ _ _ _=>rfl,fun _ _ _ _ _=>rfl,rfl,fun _ _ _ n=>by cases n<;>rfl,fun _=>rfl⟩) (fun z130_0 r h=>H130 z130_0 f1 k1 is1 hs1 hf1 r h) r1 e2) ⟨tv,tv,tv⟩ rfl (Bb rfl (Bb (congrArg (fun z=>V.clo 130 [.iptr [.clo f1 z]]) (hs1.2.2.2.1 _ _ _ _)) rfl)) (fun _=>rfl) (o_ ?_)))))))))))
 obtain rfl:=sj h0
 exact Cy 4

/- loop.example/g00149/impl.isAct -/
def Abh:=[X_ 1 0,k_ 2 (.bool false)]
def Abi:List Cf:=[f_ 3 1 5,l_ 4 3 1,q_ 5 87 [.t 4],m_ 6 5,fT 6 7 1 5,lT 6 8 7 1 false,⟨some 9,.call 97 [.t 8,.c (.clo 88 [])],some (6,true)⟩,pa 10 6 9,m_ 11 10,fT 11 12 1 6,lT 11 13 12 1 false,⟨some 14,.call 63 [.t 13,.c (iV 0),.c (iV 2)],some (11,true)⟩,pa 15 11 14,m_ 2 15]
def c457:Dv:=⟨1,16,[.t 2],sr Abh (rr Abi)⟩
def K457 (D:Bl):Prop:=∀a0 r,rR a0=some r→D 457 ⟨[.agg (Ao a0)],[]⟩ ⟨.bool r,[],[]⟩
theorem F457 (H63:K63 C) (H87:K87 C) (H88:K88 C) (H97:K97 C):K457 (FO C c457):=by
 intro a0 r h0
 refine f0 (Ba 4 [(1,.ptr 64 0)] [(64,Ao a0)] (Bj 3 (Ar (bb h0 fun r1 e2 h0=>Sn (H87 a0.Bi r1 e2) (st (Bm rfl tv (st (Cw (u:=.ptr 64 5) rfl (fun hg=>(Bn ⟨tv,tv⟩ rfl tv)) (st (Cw (u:=lI a0.Bi) rfl (fun hg=>(Bn ⟨(fun _=>hg),tv⟩ rfl (nl rfl))) (bb h0 fun r3 e4 h0=>st (Mh (r:=.bool r3) rfl false (fun hg=>H97 a0.Bi 88 [] (fun z88_0=>g88 z88_0) (⟨fun _ _ _ _ _=>rfl,fun _ _ _ _ _=>rfl,rfl,fun _ _ _ n=>by cases n<;>rfl,fun _=>rfl⟩) (fun z88_0 r h=>H88 z88_0 r h) r3 (ip hg e4)) ⟨(fun hg=>hg),tv,tv⟩ (fun _=>rfl) (fun _=>rfl) (fun _=>rfl) (fun h=>nomatch h) (st (Fw rfl rfl rfl (fun h=>fI h) tv rfl (st (Bm rfl tv (st (Cw (u:=.ptr 64 6) rfl (fun hg=>(Bn ⟨tv,tv⟩ rfl tv)) (st (Cw (u:=iV a0.stop) rfl (fun hg=>(Bn ⟨(fun _=>hg),tv⟩ rfl (nl rfl))) (bb h0 fun r5 e6 h0=>st (Mh (r:=.bool r5) rfl false (fun hg=>H63 a0.stop 0 2 r5 (ip hg e6)) ⟨(fun hg=>hg),tv,tv,tv⟩ (fun _=>rfl) (fun _=>rfl) (fun _=>rfl) (fun h=>nomatch h) (st (Fw rfl rfl rfl (fun h=>fI h) tv rfl (o_ ?_)))))))))))))))))))))))))
 obtain rfl:=sj h0
 exact Cy 3

/- loop.example/g00149/impl.emptyVault -/
def Abj:=[a_ 0 (zV 3 4 5)]
def Abk:List Cf:=[⟨some 1,.p (.build (zT 67) [(1,1,.c (iV 1))]),none⟩,⟨some 2,.p (.build (zV 131 132 133) [(0,3,.t 1)]),none⟩,s_ 0 2 6]
def c458:Dv:=⟨0,3,[.cell 0 6 true],sr Abj (rr Abk)⟩
def K458 (D:Bl):Prop:=∀r,g458  = some r→D 458 ⟨[],[]⟩ ⟨.agg (Av r (Aq 0) (Aq 1) (Aq 2)),[],[]⟩
theorem F458:K458 (FO C c458):=by
 intro r h0
 refine f0 (Ba 3 [(0,.ptr 0 0)] [(0,At 0 0 (Aq 3) [] (Aq 4) [] (Aq 5) [] false)] (Aw (Ar (st (c_ (v:=.agg (Bt 0 1 (Aq 67) [])) (Bn ⟨tv,tv⟩ rfl ⟨⟨rfl,rfl,nl rfl⟩,tv⟩) (st (c_ (v:=.agg (At 0 1 (Aq 67) [] (Aq 132) [] (Aq 133) [] false)) (Bn ⟨tv,tv⟩ rfl ⟨⟨rfl,rfl,nl rfl⟩,tv⟩) (o_ ?_))))))))
 obtain rfl:=sj h0
 exact Cy 3

/- slices.BinarySearchFunc[[]loop.example/g00149/impl.Lease,loop.example/g00149/impl.Lease,int] -/
def KK:=[i_ 6 0,k_ 7 (.bool false)]
def KL:=[m_ 12 0,n_ 13 12,m_ 8 13]
def KM:=[m_ 14 8,i_ 9 0,m_ 10 14]
def KN:=[m_ 15 9,m_ 16 10,b_ .lss 17 15 16]
def KO:List Cf:=[m_ 18 9,m_ 19 10,b_ .add 20 18 19,iQ 21 (.conv .u64 (.t 20)),⟨some 22,.p (.bin .shr (.t 21) (.c (.int .u64 1))),none⟩,iQ 23 (.conv .i64 (.t 22)),m_ 11 23]
def KP:List Cf:=[m_ 24 2,m_ 25 0,m_ 26 11,x_ 27 25 26 4,L_ 28 27 4,m_ 29 1,⟨some 30,.callv (.t 24) [.t 28,.t 29],none⟩,B_ .lss 31 30 0]
def KQ:=[m_ 32 11,B_ .add 33 32 1,m_ 9 33]
def KR:=[m_ 34 11,m_ 10 34]
def KJ:IR:=(.seq (sr KN (.ite (.t 17) .skip (.exit 0))) (.block 1 (sr KO (sr KP (.ite (.t 31) (.reg KQ) (.reg KR))))))
def KS:List Cf:=[m_ 35 9,m_ 36 9,m_ 37 8,b_ .lss 38 36 37,m_ 39 38,mT 39 40 2,mT 39 41 0,mT 39 42 9,xT 39 43 41 42 4,lT 39 44 43 4 true,mT 39 45 1,⟨some 46,.callv (.t 40) [.t 44,.t 45],some (39,true)⟩,pT 39 47 (.bin .eql (.t 46) (.c (iV 0))),pa 48 39 47,m_ 6 35,m_ 7 48]
def c113:Dv:=⟨3,49,[.t 6,.t 7],sr KK (sr KL (sr KM (.seq (Im 0 KJ) (rr KS))))⟩
def K113 (C:Bl) (D:Bl:=C):Prop:=∀(a0:List Aa) (a1:Int) (f2:Nat) (k2:List V) (is2:Aa→Int→Option Int) (hs2:Jh k2) (hf2:∀(x0:Aa) (x1:Int) r,is2 x0 x1=some r→C f2 ⟨.agg (Ab x0)::iV x1::k2,[]⟩ ⟨iV r,[],[]⟩) (r:Int×Bool),g113 a0 a1 is2=some r→D 113 ⟨[Cg a0,iV a1,.clo f2 k2],[]⟩ ⟨.tup [iV r.1,.bool r.2],[],[]⟩
abbrev Ta:=fun x0 x1 x2 x3 (r:List (Nat×V))=>(0,Cg x0)::(1,iV x1)::(2,.clo x2 x3)::r
theorem F113:K113 C (FO C c113):=by
 intro a0 a1 f2 k2 is2 hs2 hf2 r h0
 refine f0 (Ba 4 (Ta a0 a1 f2 k2 []) [] (Aw (Ar (st (Bm rfl tv (Nh rfl (o_ (Ba 8 (Ta a0 a1 f2 k2 [(8,iV (a0.length:Int)),(9,iV 0),(10,iV (a0.length:Int))]) [] (Aw (Bu (bb h0 fun r30 e31 h0=>Cv (R:=(fun S=>∃p21:Int,p21=r30∧S=⟨Ta a0 a1 f2 k2 [(8,iV (a0.length:Int)),(9,iV p21)],[],[]⟩)) (Yc a0 a1 is2) (fun s S=>match s with | (p9,p10)=>S=⟨Ta a0 a1 f2 k2 [(8,iV (a0.length:Int)),(9,iV p9),(10,iV p10)],[],[]⟩) e31 _ (Cj (by kernel_rfl)) rfl 0 (fun _=>rfl) ?_ ?_)))))))))))
 ·rintro S _ hfg ⟨p21,rfl,rfl⟩
  refine Cb ⟨Ta a0 a1 f2 k2 [(8,iV (a0.length:Int)),(9,iV p21)],[],[]⟩ (tG hfg ⟨rfl,rfl,rfl,rfl,rfl,tv⟩ tv) (jE 9 (Ar (bb h0 fun y32 e33 h0=>st (Cw (u:=.iptr (Ab y32)) rfl (fun hg=>(Ly (e:=Ab) (y:=y32) rfl rfl (fun _=>hg) rfl rfl (fun _=>hg) (ip hg e33))) (o_ (jE 2 (Ar (bb h0 fun r34 e35 h0=>st (Iu (r:=iV r34) rfl rfl rfl (fun hg=>hg) false (fun hg=>hf2 _ _ r34 (ip hg e35)) ⟨(fun hg=>hg),(fun hg=>hg),tv⟩ (fun _=>(ar (Az rfl hs2.2.2.1))) (fun _=>(Bb rfl (Bb rfl (hs2.2.1 _ _ _ _ _)))) (fun _=>rfl) (fun h=>nomatch h) (o_ (jE 2 (Ar (o_ ?_)))))))))))))
  obtain rfl:=sj h0
  exact Cy 4
 ·rintro ⟨p9,p10⟩ o1 _ K1 rfl h1 hx1 hK1 hE1 hR1
  refine Ba 6 (Ta a0 a1 f2 k2 [(8,iV (a0.length:Int)),(9,iV p9),(10,iV p10),(17,.bool (decide (p9<p10)))]) [] (Cs h1 (fun c22 h1=>?_) (fun c22 h1=>?_))
  ·refine Bj 8 (Ar (st (c_ (Bn ⟨tv,tv,tv⟩ rfl (by decide)) (o_ (Bj 3 (bv h1 fun v23 e24 h1=>Cb ⟨[(0,Cg a0),(1,iV a1),(2,.clo f2 k2),(8,iV (a0.length:Int)),(9,iV p9),(10,iV p10),(11,iV v23)],[],[]⟩ (fg ⟨(by subst e24; rfl),(by subst e24; rfl),(by subst e24; rfl),(by subst e24; rfl),(by subst e24; rfl),(by subst e24; rfl),(by subst e24; rfl),tv⟩ tv) (Bj 4 (Ar (bb h1 fun y25 e26 h1=>Ti rfl rfl e26 (o_ (Bj 2 (Ar (bb h1 fun r27 e28 h1=>st (He (r:=iV r27) rfl false (hf2 _ _ r27 e28) ⟨tv,tv,tv⟩ (ar (Az rfl hs2.2.2.1)) (Bb rfl (Bb rfl (hs2.2.1 _ _ _ _ _))) (fun _=>rfl) (o_ (Ba 2 (Ta a0 a1 f2 k2 [(8,iV (a0.length:Int)),(9,iV p9),(10,iV p10),(11,iV v23),(31,.bool (decide (r27<0)))]) [] (Cs h1 (fun c29 h1=>?_) (fun c29 h1=>?_))))))))))))))))))
   ·refine Bj 5 ?_
    obtain rfl:=sj h1
    exact kn hK1 rfl rfl
   ·refine Bj 4 ?_
    obtain rfl:=sj h1
    exact kn hK1 rfl rfl
  ·obtain rfl:=sj h1
   obtain rfl:=hx1 _ rfl
   refine In rfl ?_
   exact jn hE1 ⟨_,rfl,rfl⟩

/- cmp.isNaN[int] -/
def OS:=[k_ 2 (.bool false)]
def OT:=[m_ 3 0,m_ 4 0,b_ .neq 5 3 4,m_ 2 5]
def c136:Dv:=⟨1,6,[.t 2],sr OS (rr OT)⟩
def HP (D:Bl):Prop:=∀a0 r,jB a0=some r→D 136 ⟨[iV a0],[]⟩ ⟨.bool r,[],[]⟩
theorem F136:HP (FO C c136):=by
 intro a0 r h0
 refine f0 (?_)
 obtain rfl:=sj h0
 exact Cy 11

/- cmp.Compare[int] -/
def JT:=[i_ 4 0]
def JU:=[m_ 7 0,q_ 8 136 [.t 7],m_ 5 8]
def JV:=[m_ 9 1,q_ 10 136 [.t 9],m_ 6 10]
def JW:=[m_ 11 5]
def JX:=[m_ 12 6]
def JY:=[i_ 4 0]
def JZ:=[i_ 4 (-1)]
def KA:=[m_ 13 6]
def KB:=[i_ 4 1]
def KC:=[m_ 14 0,m_ 15 1,b_ .lss 16 14 15]
def uO:=[i_ 4 (-1)]
def uP:=[m_ 17 0,m_ 18 1,b_ .gtr 19 17 18]
def uQ:=[i_ 4 1]
def uR:=[i_ 4 0]
def c110:Dv:=⟨2,20,[.t 4],sr JT (sr JU (sr JV (.seq (sr JW (iz 11 (.seq (sr JX (iz 12 (rr JY))) (rr JZ)))) (.seq (sr KA (iz 13 (rr KB))) (.seq (sr KC (iz 16 (rr uO))) (.seq (sr uP (iz 19 (rr uQ))) (rr uR)))))))⟩
def HN (D:Bl):Prop:=∀a0 a1 r,rH a0 a1=some r→D 110 ⟨[iV a0,iV a1],[]⟩ ⟨iV r,[],[]⟩
theorem F110 (H136:HP C):HN (FO C c110):=by
 intro a0 a1 r h0
 refine f0 (Ba 3 [(0,iV a0),(1,iV a1)] [] (Aw (Ar (st (Bm rfl tv (bb h0 fun r1 e2 h0=>Sn (H136 a0 r1 e2) (o_ (Ba 2 [(0,iV a0),(1,iV a1),(5,.bool r1)] [] (Aw (Ar (st (Bm rfl tv (bb h0 fun r3 e4 h0=>Sn (H136 a1 r3 e4) (o_ (Ba 7 [(0,iV a0),(1,iV a1),(6,.bool r3),(11,.bool r1)] [] (Cs h0 (fun c5 h0=>?_) (fun c5 h0=>?_)))))))))))))))))
 ·refine Ba 4 [(12,.bool r3)] [] (Cs h0 (fun c6 h0=>?_) (fun c6 h0=>?_))
  ·obtain rfl:=sj h0
   exact Cy 4
  ·obtain rfl:=sj h0
   exact Cy 6
 ·refine Ba 6 [(0,iV a0),(1,iV a1),(13,.bool r3)] [] (Cs h0 (fun c7 h0=>?_) (fun c7 h0=>?_))
  ·obtain rfl:=sj h0
   exact Cy 4
  ·refine Ba 8 [(0,iV a0),(1,iV a1),(16,.bool (decide (a0<a1)))] [] (Cs h0 (fun c8 h0=>?_) (fun c8 h0=>?_))
   ·obtain rfl:=sj h0
    exact Cy 4
   ·refine Ba 8 [(19,.bool (decide (a0>a1)))] [] (Cs h0 (fun c9 h0=>?_) (fun c9 h0=>?_))
    ·obtain rfl:=sj h0
     exact Cy 4
    ·obtain rfl:=sj h0
     exact Cy 6

/- (loop.example/g00149/impl.Table).find$1 -/
def KT:=[X_ 2 0,i_ 4 0]
def KU:=[f_ 5 2 0,l_ 6 5 1,m_ 7 1,q_ 8 110 [.t 6,.t 7],m_ 4 8]
def c114:Dv:=⟨2,9,[.t 4],sr KT (rr KU)⟩
def K114 (D:Bl):Prop:=∀a0 a1 r,rI a0 a1=some r→D 114 ⟨[.agg (Ab a0),iV a1],[]⟩ ⟨iV r,[],[]⟩
theorem F114 (H110:HN C):K114 (FO C c114):=by
 intro a0 a1 r h0
 refine f0 (Ba 4 [(1,iV a1),(2,.ptr 128 0)] [(128,Ab a0)] (Bj 4 (Ar (bb h0 fun r1 e2 h0=>Sn (H110 a0.id a1 r1 e2) (o_ ?_)))))
 obtain rfl:=sj h0
 exact Cy 3

/- (loop.example/g00149/impl.Table).find -/
def c77_r0:=[X_ 2 0,i_ 4 0,k_ 5 (.bool false)]
def c77_r1:=[f_ 6 2 2,l_ 7 6 1,m_ 8 1,q_ 9 113 [.t 7,.t 8,.c (.clo 114 [])],e_ 10 9 0,e_ 11 9 1,m_ 4 10,m_ 5 11]
def c77:Dv:=⟨2,12,[.t 4,.t 5],sr c77_r0 (rr c77_r1)⟩
def K77 (D:Bl):Prop:=∀a0 a1 r,g77 a0 a1=some r→D 77 ⟨[.agg (Bk a0),iV a1],[]⟩ ⟨.tup [iV r.1,.bool r.2],[],[]⟩
theorem F77 (H113:K113 C) (H114:K114 C):K77 (FO C c77):=by
 intro a0 a1 r h0
 refine f0 (Ba 5 [(1,iV a1),(2,.ptr 128 0)] [(128,Bk a0)] (Bj 4 (Ar (bb h0 fun r1 e2 h0=>st (Cq (r:=.tup [iV r1.1,.bool r1.2]) false (H113 a0.Af a1 114 [] (fun z114_0 z114_1=>rI z114_0 z114_1) (⟨fun _ _ _ _ _=>rfl,fun _ _ _ _ _=>rfl,rfl,fun _ _ _ n=>by cases n<;>rfl,fun _=>rfl⟩) (fun z114_0 z114_1 r h=>H114 z114_0 z114_1 r h) r1 e2) ⟨tv,tv,tv,tv⟩ rfl rfl (fun _=>rfl) (o_ ?_))))))
 obtain rfl:=sj h0
 exact Cy 6

/- slices.Clone[[]loop.example/g00149/impl.Lease,loop.example/g00149/impl.Lease] -/
def c66_r0:List Cf:=[⟨some 2,.nilS 4,none⟩]
def c66_r1:List Cf:=[m_ 3 0,⟨some 4,.isnil (.t 3) false,none⟩]
def c66_r2:List Cf:=[⟨some 2,.nilS 4,none⟩]
def c66_r3:List Cf:=[⟨some 5,.mkS 4 [iV 0,iV 0,iV 0,.bool false] 0 [],none⟩,m_ 6 0,⟨some 7,.app 4 32 (.t 5) (.t 6),none⟩,m_ 2 7]
def c66:Dv:=⟨1,8,[.t 2],sr c66_r0 (.seq (sr c66_r1 (iz 4 (rr c66_r2))) (rr c66_r3))⟩
def K66 (D:Bl):Prop:=∀a0 r,g66 a0=some r→D 66 ⟨[Cg a0],[]⟩ ⟨Ae 0 r,[],[]⟩
theorem F66:K66 (FO C c66):=by
 intro a0 r h0
 refine f0 ?_
 obtain ⟨hc,h0⟩:=kX h0
 obtain rfl:=sj h0
 refine Ba 3 [(0,Cg a0)] [] (Bj 3 (Ar (st (mX (e:=Ab) (l0:=a0) rfl fun b hb=>(Cz (cK (Gk (cb:=b) rfl (fun h=>?_) (fun h=>?_))))))))
 ·obtain rfl:=hb h
  refine Aw (Ar (st (eA (Cz (cK ?_)))))
  refine Hj (Dk rfl rfl rfl rfl rfl tv)
 ·refine Hb ?_
  refine Ba 0 [(0,Cg a0)] [] (Bj 3 (Ar (st (Lb (e:=Ab) (l0:=([]:List Aa)) (l1:=a0) rfl rfl tv rfl (by decide) ?_ ?_))))
  rotate_left
  refine st (Bm rfl tv (Cz (cK ?_)))
  refine Hj (Dk rfl rfl rfl rfl rfl tv)
  have:=Nat.mul_le_mul_right 32 hc
  exact Nat.le_trans this (by decide)

/- (loop.example/g00149/impl.Table).own -/
def KG:=[X_ 1 0,a_ 2 (zT 131)]
def KH:=[f_ 3 1 2,l_ 4 3 1,q_ 5 66 [.t 4],f_ 6 1 2,s_ 6 5 1]
def KI:=[L_ 7 1 3,s_ 2 7 3]
def iL:Dv:=⟨1,8,[.cell 2 3 true],sr KG (sr KH (rr KI))⟩
def iG (D:Bl):Prop:=∀a0 r,fL a0=some r→D 112 ⟨[.agg (Bk a0)],[]⟩ ⟨.agg (Cp r (Aq 0)),[],[]⟩
theorem F112 (H66:K66 C):iG (FO C iL):=by
 intro a0 r h0
 refine f0 (Ba 4 [(1,.ptr 64 0),(2,.ptr 128 0)] [(64,Bk a0),(128,Bt 0 0 (Aq 131) [])] (Bj 3 (Ar (bb h0 fun r1 e2 h0=>Vp (H66 a0.Af r1 e2) (af rfl) (o_ ?_)))))
 obtain rfl:=sj h0
 exact Cy 9

/- (loop.example/g00149/impl.Table).revoke -/
def c75_r0:=[X_ 2 0,a_ 4 (zT 259),i_ 5 0]
def c75_r1:=[L_ 10 2 3,m_ 11 1,q_ 12 77 [.t 10,.t 11],m_ 9 12,e_ 13 9 0,e_ 14 9 1,m_ 6 13,m_ 7 14]
def c75_r2:=[m_ 15 7,N_ 16 15]
def c75_r3:=[iQ 17 (.build (zT 1091) []),s_ 4 17 3,i_ 5 5]
def c75_r4:=[L_ 18 2 3,q_ 19 112 [.t 18],a_ 8 (zT 515),s_ 8 19 3]
def c75_r5:List Cf:=[f_ 20 8 2,l_ 21 20 1,m_ 22 6,x_ 23 21 22 4,f_ 24 23 3,⟨none,.store (.t 24) (.c (.bool true)) 1,none⟩]
def c75_r6:=[L_ 25 8 3,s_ 4 25 3,i_ 5 0]
def c75:Dv:=⟨2,26,[.cell 4 3 true,.t 5],sr c75_r0 (sr c75_r1 (.seq (sr c75_r2 (iz 16 (rr c75_r3))) (sr c75_r4 (sr c75_r5 (rr c75_r6)))))⟩
def K75 (D:Bl):Prop:=∀a0 a1 r,g75 a0 a1=some r→D 75 ⟨[.agg (Bk a0),iV a1],[]⟩ ⟨.tup [.agg (Cp r.1 (Aq 0)),iV r.2],[],[]⟩
theorem F75 (H77:K77 C) (H112:iG C):K75 (FO C c75):=by
 intro a0 a1 r h0
 refine f0 (Ba 5 [(1,iV a1),(2,.ptr 128 0),(4,.ptr 256 0)] [(128,Bk a0),(256,Bt 0 0 (Aq 259) [])] (Bj 3 (Ar (bb h0 fun r1 e2 h0=>Sn (H77 a0 a1 r1 e2) (o_ (Ba 12 [(2,.ptr 128 0),(4,.ptr 256 0),(6,iV r1.1),(16,.bool (!r1.2))] [(128,Bk a0),(256,Bt 0 0 (Aq 259) [])] (Cs h0 (fun c3 h0=>?_) (fun c3 h0=>?_))))))))
 ·obtain rfl:=sj h0
  exact Cy 6
 ·refine Bj 4 (Ar (bb h0 fun r4 e5 h0=>Vp (H112 a0 r4 e5) (ar (Az rfl (af rfl))) (o_ (Ba 3 [(4,.ptr 256 0),(6,iV r1.1),(8,.ptr 512 0)] [(256,Bt 0 0 (Aq 259) []),(512,Cp r4 (Aq 1216))] (Bj 4 (Ar (bb h0 fun y6 e7 h0=>Zb rfl rfl e7 (st (c_ (Bn ⟨tv,tv⟩ rfl tv) (bb h0 fun y8 e9 h0=>kG (Aa.mk y8.id y8.Bp y8.cap true) rfl rfl e9 (o_ ?_)))))))))))
  obtain rfl:=sj h0
  exact Cy 8

/- loop.example/g00149/impl.later -/
def c54_r0:=[i_ 4 0]
def c54_r1:List Cf:=[m_ 5 0,m_ 6 1,⟨some 7,.p (.bin .sub (.c (iV 9223372036854775807)) (.t 6)),none⟩,b_ .gtr 8 5 7]
def c54_r2:=[i_ 4 9223372036854775807]
def c54_r3:=[m_ 9 0,m_ 10 1,b_ .add 11 9 10,m_ 4 11]
def c54:Dv:=⟨2,12,[.t 4],sr c54_r0 (.seq (sr c54_r1 (iz 8 (rr c54_r2))) (rr c54_r3))⟩
def K54 (D:Bl):Prop:=∀a0 a1 r,g54 a0 a1=some r→D 54 ⟨[iV a0,iV a1],[]⟩ ⟨iV r,[],[]⟩
theorem F54:K54 (FO C c54):=by
 intro a0 a1 r h0
 refine f0 (Ba 11 [(0,iV a0),(1,iV a1),(8,.bool (decide (a0>(wi (9223372036854775807-a1)))))] [] (Cs h0 (fun c1 h0=>?_) (fun c1 h0=>?_)))
 ·obtain rfl:=sj h0
  exact Cy 4
 ·obtain rfl:=sj h0
  exact Cy 9

/- (loop.example/g00149/impl.Table).renew -/
def c80_r0:=[X_ 3 0,a_ 6 (zT 387),i_ 7 0]
def c80_r1:=[L_ 12 3 3,m_ 13 1,q_ 14 77 [.t 12,.t 13],m_ 11 14,e_ 15 11 0,e_ 16 11 1,m_ 8 15,m_ 9 16]
def c80_r2:=[m_ 18 2,B_ .lss 19 18 1,m_ 17 19]
def c80_r3:=[iQ 20 (.build (zT 1283) []),s_ 6 20 3,i_ 7 4]
def c80_r4:=[m_ 22 9,N_ 23 22,m_ 21 23]
def c80_r5:=[iQ 24 (.build (zT 1539) []),s_ 6 24 3,i_ 7 5]
def c80_r6:=[f_ 26 3 2,l_ 27 26 1,m_ 28 8,x_ 29 27 28 4,f_ 30 29 3,l_ 31 30 1,m_ 25 31]
def c80_r7:=[iQ 32 (.build (zT 2051) []),s_ 6 32 3,i_ 7 13]
def c80_r8:=[L_ 33 3 3,q_ 34 112 [.t 33],a_ 10 (zT 643),s_ 10 34 3]
def c80_r9:=tk [f_ 35 10 2,l_ 36 35 1,m_ 37 8,f_ 38 3 0,l_ 39 38 1,m_ 40 2,f_ 42 10 2,l_ 43 42 1,m_ 44 8,x_ 45 43 44 4,f_ 46 45 2,l_ 47 46 1] (.alt [l_ 47 46 1,f_ 46 45 2,x_ 45 43 44 4,m_ 44 8,l_ 43 42 1,f_ 42 10 2,m_ 37 8,l_ 36 35 1,f_ 35 10 2] (q_ 41 54 [.t 39,.t 40]) (tk [iQ 48 (.mn (.t 41) (.t 47)),x_ 49 36 37 4,f_ 50 49 1] (.alt [] (s_ 50 48 1) .fin .stop)) .stop)
def AdB:=[L_ 51 10 3,s_ 6 51 3,i_ 7 0]
def c80:Dv:=⟨3,52,[.cell 6 3 true,.t 7],sr c80_r0 (sr c80_r1 (.seq (.block 0 (sr c80_r2 (.ite (.t 17) (rr c80_r3) (sr c80_r4 (.ite (.t 21) (rr c80_r5) (sr c80_r6 (iz 25 (rr c80_r7)))))))) (sr c80_r8 (sd c80_r9 (rr AdB)))))⟩
def K80 (D:Bl):Prop:=∀a0 a1 a2 r,g80 a0 a1 a2=some r→D 80 ⟨[.agg (Bk a0),iV a1,iV a2],[]⟩ ⟨.tup [.agg (Cp r.1 (Aq 0)),iV r.2],[],[]⟩
abbrev jS:=fun x0 (r:List (Nat×List V))=>(192,Bk x0)::(384,Bt 0 0 (Aq 387) [])::r
abbrev jT:=fun x0 (r:List (Nat×V))=>(2,iV x0)::(3,.ptr 192 0)::(6,.ptr 384 0)::r
theorem F80 (H54:K54 C) (H77:K77 C) (H112:iG C):K80 (FO C c80):=by
 intro a0 a1 a2 r h0
 refine f0 (Ba 5 (jT a2 [(1,iV a1)]) (jS a0 []) (Bj 3 (Ar (bb h0 fun r1 e2 h0=>Sn (H77 a0 a1 r1 e2) (o_ (Ba 14 (jT a2 [(8,iV r1.1),(9,.bool r1.2),(17,.bool (decide (a2<1)))]) (jS a0 []) (Cs h0 (fun c3 h0=>?_) (fun c3 h0=>?_))))))))
 ·obtain rfl:=sj h0
  exact Cy 6
 ·refine Ba 5 (jT a2 [(8,iV r1.1),(21,.bool (!r1.2))]) (jS a0 []) (Cs h0 (fun c4 h0=>?_) (fun c4 h0=>?_))
  ·obtain rfl:=sj h0
   exact Cy 6
  ·refine Bj 4 (Ar (bb h0 fun y5 e6 h0=>Ti rfl rfl e6 (o_ (Ba 4 (jT a2 [(8,iV r1.1),(25,.bool y5.Cl)]) (jS a0 []) (Cs h0 (fun c7 h0=>?_) (fun c7 h0=>?_))))))
   ·obtain rfl:=sj h0
    exact Cy 6
   ·refine Bj 5 (Ar (bb h0 fun r8 e9 h0=>Vp (H112 a0 r8 e9) (ar (Az rfl (af rfl))) (o_ (Ba 3 (jT a2 [(8,iV r1.1),(10,.ptr 640 0)]) (jS a0 [(640,Cp r8 (Aq 2176))]) (Aw (bb h0 fun y10 e11 h0=>bb h0 fun y12 e13 h0=>bb h0 fun r14 e15 h0=>Bj 9 (Bq (d_ (Zc rfl rfl rfl e11 (Bq (Al tv (c_ (Bn ⟨tv,tv⟩ rfl tv) (⟨tv,Ci (c_ (Ol rfl rfl e13) (⟨⟨Df rfl rfl e13 rfl,tv⟩,Ck (Cq (r:=iV r14) false (H54 a0.clock a2 r14 e15) ⟨tv,tv,tv⟩ rfl rfl (fun _=>rfl) (fG ⟨[(6,.ptr 384 0),(8,iV r1.1),(10,.ptr 640 0),(35,.ptr 640 2),(36,Ae 2176 r8.Af),(37,iV r1.1),(41,iV r14),(42,.ptr 640 2),(43,Ae 2176 r8.Af),(44,iV r1.1),(45,.optr 2176 4 (0+r1.1.toNat) 0),(46,.optr 2176 4 (0+r1.1.toNat) 2),(47,iV y12.cap)],[(384,Bt 0 0 (Aq 387) []),(640,Cp r8 (Aq 2176))],[]⟩ (Cj (by kernel_rfl)) ⟨[iQ 47 (.load (.t 46) 1 false)],⟨⟨.inr (.head _),Df rfl rfl e13 rfl⟩,⟨.inl tv,Bf (Bn ⟨tv,tv⟩ rfl tv) rfl⟩,⟨.inl tv,Bf (Kp rfl rfl e11) rfl⟩,⟨.inl tv,Bf (Eb (v:=iV r1.1) rfl tv) rfl⟩,⟨.inl tv,Bf (Bn ⟨tv,tv⟩ rfl (nl rfl)) rfl⟩,⟨.inl tv,Bf (Bn ⟨tv,tv⟩ rfl tv) rfl⟩,⟨.inl tv,Bf (Eb (v:=iV r1.1) rfl tv) rfl⟩,⟨.inl tv,Bf (Bn ⟨tv,tv⟩ rfl (nl rfl)) rfl⟩,⟨.inl tv,Bf (Bn ⟨tv,tv⟩ rfl tv) rfl⟩,tv⟩,⟨Df rfl rfl e13 rfl,tv⟩,Al tv (c_ (Bn ⟨tv,tv,tv⟩ rfl rfl) (⟨⟨Df rfl rfl e13 rfl,tv⟩,Al tv (c_ (Kp rfl rfl e11) (⟨⟨Df rfl rfl e13 rfl,tv⟩,?_⟩))⟩))⟩)) Bg⟩))⟩)))))))))))))
    refine Al tv (c_ (Bn ⟨tv,tv⟩ rfl tv) (⟨⟨Df rfl rfl e13 rfl,tv⟩,Ck (Hc (y':=(Aa.mk y12.id (if y12.cap<r14 then y12.cap else r14) y12.cap y12.Cl)) rfl rfl tv rfl rfl rfl rfl e13 (nl rfl) rfl rfl rfl rfl (d0 tv (Gf (Cb ⟨[(6,.ptr 384 0),(10,.ptr 640 0)],[(384,Bt 0 0 (Aq 387) []),(640,Bt r8.clock r8.next (Aq 2176) (r8.Af.set r1.1.toNat (Aa.mk y12.id (if y12.cap<r14 then y12.cap else r14) y12.cap y12.Cl)))],[]⟩ (fg ⟨rfl,rfl,tv⟩ ⟨rfl,congrArg (fun z=>some (([iV r8.clock,iV r8.next,.own 2176 0 4 z]:List V))) Ay,tv⟩) (Bj 5 (bv h0 fun v16 e17 h0=>Cb ⟨[(6,.ptr 384 0),(7,iV 0)],[(384,Bt r8.clock r8.next (Aq 2176) v16)],[]⟩ (Cj (by subst e17; kernel_rfl)) ?_)))))) Bg⟩))
    obtain rfl:=sj h0
    exact Hj (Dk rfl rfl rfl rfl rfl tv)

/- slices.Clone[[]int,int] -/
def LH:List Cf:=[⟨some 2,.nilS 1,none⟩]
def LI:List Cf:=[m_ 3 0,⟨some 4,.isnil (.t 3) false,none⟩]
def LJ:List Cf:=[⟨some 2,.nilS 1,none⟩]
def LK:List Cf:=[⟨some 5,.mkS 1 [iV 0] 0 [],none⟩,m_ 6 0,⟨some 7,.app 1 8 (.t 5) (.t 6),none⟩,m_ 2 7]
def LG:Dv:=⟨1,8,[.t 2],sr LH (.seq (sr LI (iz 4 (rr LJ))) (rr LK))⟩
def HO (D:Bl):Prop:=∀a0 r,lW a0=some r→D 120 ⟨[lI a0],[]⟩ ⟨oI 0 r,[],[]⟩
theorem F120:HO (FO C LG):=by
 intro a0 r h0
 refine f0 ?_
 obtain ⟨hc,h0⟩:=kX h0
 obtain rfl:=sj h0
 refine Ba 3 [(0,lI a0)] [] (Bj 3 (Ar (st (mX (e:=eI) (l0:=a0) rfl fun b hb=>(Cz (cK (Gk (cb:=b) rfl (fun h=>?_) (fun h=>?_))))))))
 ·obtain rfl:=hb h
  refine Aw (Ar (st (eA (Cz (cK ?_)))))
  refine Hj (Dk rfl rfl rfl rfl rfl tv)
 ·refine Hb ?_
  refine Ba 0 [(0,lI a0)] [] (Bj 3 (Ar (st (Lb (e:=eI) (l0:=([]:List Int)) (l1:=a0) rfl rfl tv rfl (by decide) ?_ ?_))))
  rotate_left
  refine st (Bm rfl tv (Cz (cK ?_)))
  refine Hj (Dk rfl rfl rfl rfl rfl tv)
  have:=Nat.mul_le_mul_right 8 hc
  exact Nat.le_trans this (by decide)

/- slices.Clone[[]loop.example/g00149/impl.Intent,loop.example/g00149/impl.Intent] -/
def Acn:List Cf:=[⟨some 2,.nilS 2,none⟩]
def Aco:List Cf:=[m_ 3 0,⟨some 4,.isnil (.t 3) false,none⟩]
def Acp:List Cf:=[⟨some 2,.nilS 2,none⟩]
def Acq:List Cf:=[⟨some 5,.mkS 2 [iV 0,.bool false] 0 [],none⟩,m_ 6 0,⟨some 7,.app 2 16 (.t 5) (.t 6),none⟩,m_ 2 7]
def c469:Dv:=⟨1,8,[.t 2],sr Acn (.seq (sr Aco (iz 4 (rr Acp))) (rr Acq))⟩
def HT (D:Bl):Prop:=∀a0 r,mP a0=some r→D 469 ⟨[Ce a0],[]⟩ ⟨Bs 0 r,[],[]⟩
theorem F469:HT (FO C c469):=by
 intro a0 r h0
 refine f0 ?_
 obtain ⟨hc,h0⟩:=kX h0
 obtain rfl:=sj h0
 refine Ba 3 [(0,Ce a0)] [] (Bj 3 (Ar (st (mX (e:=Ca) (l0:=a0) rfl fun b hb=>(Cz (cK (Gk (cb:=b) rfl (fun h=>?_) (fun h=>?_))))))))
 ·obtain rfl:=hb h
  refine Aw (Ar (st (eA (Cz (cK ?_)))))
  refine Hj (Dk rfl rfl rfl rfl rfl tv)
 ·refine Hb ?_
  refine Ba 0 [(0,Ce a0)] [] (Bj 3 (Ar (st (Lb (e:=Ca) (l0:=([]:List Ag)) (l1:=a0) rfl rfl tv rfl (by decide) ?_ ?_))))
  rotate_left
  refine st (Bm rfl tv (Cz (cK ?_)))
  refine Hj (Dk rfl rfl rfl rfl rfl tv)
  have:=Nat.mul_le_mul_right 16 hc
  exact Nat.le_trans this (by decide)

/- (loop.example/g00149/impl.Vault).own -/
def Abz:=[X_ 1 0,a_ 2 (zV 131 132 133)]
def AbA:=tk [f_ 3 1 0,L_ 4 3 3,f_ 6 1 3,l_ 7 6 1,f_ 9 1 4,l_ 10 9 1,f_ 12 1 5,l_ 13 12 1] (.alt [l_ 13 12 1,f_ 12 1 5,l_ 10 9 1,f_ 9 1 4,l_ 7 6 1,f_ 6 1 3] (q_ 5 112 [.t 4]) (.alt [l_ 13 12 1,f_ 12 1 5,l_ 10 9 1,f_ 9 1 4] (q_ 8 469 [.t 7]) (.alt [l_ 13 12 1,f_ 12 1 5] (q_ 11 120 [.t 10]) (tk [⟨some 14,.p (.build (zV 899 900 901) [(0,3,.t 5),(3,1,.t 8),(4,1,.t 11),(5,1,.t 13)]),none⟩] (.alt [] (s_ 2 14 6) .fin .stop)) .stop) .stop) .stop)
def c463:Dv:=⟨1,15,[.cell 2 6 true],sr Abz (sd AbA .ret)⟩
def K463 (D:Bl):Prop:=∀a0 r,g463 a0=some r→D 463 ⟨[.agg (Bv a0)],[]⟩ ⟨.agg (Av r (Aq 0) (Aq 1) (Aq 2)),[],[]⟩
theorem F463 (H112:iG C) (H120:HO C) (H469:HT C):K463 (FO C c463):=by
 intro a0 r h0
 refine f0 (Ba 4 [(1,.ptr 64 0),(2,.ptr 128 0)] [(64,Bv a0),(128,At 0 0 (Aq 131) [] (Aq 132) [] (Aq 133) [] false)] (Aw (bb h0 fun r1 e2 h0=>bb h0 fun r3 e4 h0=>bb h0 fun r5 e6 h0=>Bj 8 (Bq (cG (H112 a0.Ac r1 e2) (ar (Az rfl (af rfl))) (dw [(1,.ptr 64 0),(2,.ptr 128 0),(5,.agg (Cp r1 (Aq 320))),(6,.ptr 64 3),(7,Ce a0.Ad),(9,.ptr 64 4),(10,lI a0.Aj),(12,.ptr 64 5),(13,.bool a0.Am)] [(64,Bv a0),(128,At 0 0 (Aq 131) [] (Aq 132) [] (Aq 133) [] false)] hB (cG (H469 a0.Ad r3 e4) (af rfl) (dw [(1,.ptr 64 0),(2,.ptr 128 0),(5,.agg (Cp r1 (Aq 320))),(8,Bs 512 r3),(9,.ptr 64 4),(10,lI a0.Aj),(12,.ptr 64 5),(13,.bool a0.Am)] [(64,Bv a0),(128,At 0 0 (Aq 131) [] (Aq 132) [] (Aq 133) [] false)] hB (cG (H120 a0.Aj r5 e6) (af rfl) (dw [(1,.ptr 64 0),(2,.ptr 128 0),(5,.agg (Cp r1 (Aq 320))),(8,Bs 512 r3),(11,oI 704 r5),(12,.ptr 64 5),(13,.bool a0.Am)] [(64,Bv a0),(128,At 0 0 (Aq 131) [] (Aq 132) [] (Aq 133) [] false)] hB (Al tv (c_ (v:=.agg (At r1.clock r1.next (Aq 320) r1.Af (Aq 512) r3 (Aq 704) r5 a0.Am)) (Bn ⟨tv,tv,tv,tv,tv⟩ rfl ⟨⟨rfl,rfl,nl rfl⟩,⟨rfl,rfl,nl rfl⟩,⟨rfl,rfl,nl rfl⟩,⟨rfl,rfl,nl rfl⟩,tv⟩) (⟨tv,Ck (Gm rfl rfl tv rfl rfl rfl (nl rfl) (d0 tv (d_ (Ba 1 [(2,.ptr 128 0)] [(128,At r1.clock r1.next (Aq 320) r1.Af (Aq 512) r3 (Aq 704) r5 a0.Am)] ?_)))) Bg⟩)))) Bg)) Bg)) Bg)))))
 obtain rfl:=sj h0
 exact Hj (Dk rfl rfl rfl rfl rfl tv)

/- (loop.example/g00149/impl.Vault).refused -/
def AbB:=[X_ 2 0,a_ 4 (zV 259 260 261),a_ 5 [iV 0,iV 0]]
def AbC:List Cf:=[L_ 6 2 6,m_ 7 1,⟨some 8,.p (.build [iV 0,iV 0] [(0,1,.t 7)]),none⟩,s_ 4 6 6,s_ 5 8 2]
def c464:Dv:=⟨2,9,[.cell 4 6 true,.cell 5 2 true],sr AbB (rr AbC)⟩
def tJ (D:Bl):Prop:=∀a0 a1 r,cN a0 a1=some r→D 464 ⟨[.agg (Av a0 (Aq 1024000) (Aq 1024001) (Aq 1024002)),iV a1],[]⟩ ⟨.tup [.agg (Av r.1 (Aq 0) (Aq 1) (Aq 2)),.agg (Ax r.2)],[],[]⟩
theorem F464:tJ (FO C c464):=by
 intro a0 a1 r h0
 refine f0 (Ba 5 [(1,iV a1),(2,.ptr 128 0),(4,.ptr 256 0),(5,.ptr 320 0)] [(128,Av a0 (Aq 1024000) (Aq 1024001) (Aq 1024002)),(256,At 0 0 (Aq 259) [] (Aq 260) [] (Aq 261) [] false),(320,[iV 0,iV 0])] (Bj 3 (Ar (st (c_ (v:=.agg [iV a1,iV 0]) (Bn ⟨tv,tv⟩ rfl ⟨⟨rfl,rfl,nl rfl⟩,tv⟩) (o_ ?_))))))
 obtain rfl:=sj h0
 exact Cy 4

/- (loop.example/g00149/impl.Table).grant -/
def c71_r0:=[X_ 3 0,a_ 6 (zT 387),i_ 7 0,i_ 8 0]
def c71_r1:=[m_ 11 1,B_ .lss 12 11 1,m_ 13 12,mF 13 14 2,mF 13 15 1,pF 13 16 (.bin .lss (.t 14) (.t 15)),po 17 13 16,m_ 10 17]
def c71_r2:=[iQ 18 (.build (zT 1155) []),s_ 6 18 3,i_ 7 0,i_ 8 4]
def c71_r3:=[f_ 20 3 0,l_ 21 20 1,B_ .eql 22 21 9223372036854775807,m_ 19 22]
def c71_r4:=[iQ 23 (.build (zT 1475) []),s_ 6 23 3,i_ 7 0,i_ 8 11]
def c71_r5:=[f_ 25 3 2,l_ 26 25 1,n_ 27 26,B_ .eql 28 27 40,m_ 29 28,fF 29 30 3 1,lF 29 31 30 1 false,pF 29 32 (.bin .eql (.t 31) (.c (iV 1000000))),po 33 29 32,m_ 24 33]
def c71_r6:=[iQ 34 (.build (zT 2179) []),s_ 6 34 3,i_ 7 0,i_ 8 9]
def c71_r7:=[L_ 35 3 3,q_ 36 112 [.t 35],a_ 9 (zT 579),s_ 9 36 3]
def c71_r8:=tk [f_ 37 9 2,l_ 38 37 1,f_ 39 3 1,l_ 40 39 1,f_ 41 3 0,l_ 42 41 1,m_ 43 1,f_ 45 3 0,l_ 46 45 1,m_ 47 2] (.alt [m_ 47 2,l_ 46 45 1,f_ 45 3 0,l_ 40 39 1,f_ 39 3 1,l_ 38 37 1,f_ 37 9 2] (q_ 44 54 [.t 42,.t 43]) (.alt [l_ 40 39 1,f_ 39 3 1,l_ 38 37 1,f_ 37 9 2] (q_ 48 54 [.t 46,.t 47]) (tk [⟨some 49,.p (.build [iV 0,iV 0,iV 0,.bool false] [(0,1,.t 40),(1,1,.t 44),(2,1,.t 48)]),none⟩] (.alt [l_ 38 37 1,f_ 37 9 2] ⟨some 50,.mkS 4 [iV 0,iV 0,iV 0,.bool false] 1 [(0,.t 49)],none⟩ (.alt [] ⟨some 51,.app 4 32 (.t 38) (.t 50),none⟩ (tk [f_ 52 9 2] (.alt [] (s_ 52 51 1) .fin .stop)) .stop) .stop)) .stop) .stop)
def c71_r9:=[f_ 53 9 1,l_ 54 53 1,B_ .add 55 54 1,f_ 56 9 1,s_ 56 55 1]
def Adp:=tk [L_ 57 9 3,f_ 58 3 1,l_ 59 58 1] (.alt [l_ 59 58 1,f_ 58 3 1] (s_ 6 57 3) (tk [m_ 7 59,i_ 8 0] .fin) .stop)
def c71:Dv:=⟨3,60,[.cell 6 3 true,.t 7,.t 8],sr c71_r0 (.seq (.block 0 (sr c71_r1 (.ite (.t 10) (rr c71_r2) (sr c71_r3 (.ite (.t 19) (rr c71_r4) (sr c71_r5 (iz 24 (rr c71_r6)))))))) (sr c71_r7 (sd c71_r8 (sr c71_r9 (sd Adp .ret)))))⟩
def K71 (D:Bl):Prop:=∀a0 a1 a2 r,g71 a0 a1 a2=some r→D 71 ⟨[.agg (Bk a0),iV a1,iV a2],[]⟩ ⟨.tup [.agg (Cp r.1 (Aq 0)),iV r.2.1,iV r.2.2],[],[]⟩
abbrev jP:=fun x0 (r:List (Nat×List V))=>(192,Bk x0)::(384,Bt 0 0 (Aq 387) [])::r
abbrev pS:=fun x0 x1 (r:List (Nat×V))=>(1,iV x0)::(2,iV x1)::(3,.ptr 192 0)::(6,.ptr 384 0)::r
theorem F71 (H54:K54 C) (H112:iG C):K71 (FO C c71):=by
 intro a0 a1 a2 r h0
 refine f0 (gK_ 19 (pS a1 a2 [(10,.bool (bif (decide (a1<1)) then true else (decide (a2<a1))))]) (jP a0 []) (Cs h0 (fun c1 h0=>?_) (fun c1 h0=>?_)))
 ·obtain rfl:=sj h0
  exact Cy 7
 ·refine Ba 6 (pS a1 a2 [(19,.bool (a0.clock==9223372036854775807))]) (jP a0 []) (Cs h0 (fun c2 h0=>?_) (fun c2 h0=>?_))
  ·obtain rfl:=sj h0
   exact Cy 7
  ·refine Bj 3 (Ar (Nh rfl (o_ (jE 8 (bv h0 fun v3 e4 h0=>Cb ⟨pS a1 a2 [(24,.bool v3)],jP a0 [],[]⟩ (Cj (by subst e4; kernel_rfl)) (Cs h0 (fun c5 h0=>?_) (fun c5 h0=>?_)))))))
   ·obtain rfl:=sj h0
    exact Cy 7
   ·refine Bj 5 (Ar (bb h0 fun r6 e7 h0=>Vp (H112 a0 r6 e7) (ar (Az rfl (af rfl))) (o_ (Ba 3 (pS a1 a2 [(9,.ptr 576 0)]) (jP a0 [(576,Cp r6 (Aq 2304))]) (Aw (bb h0 fun r8 e9 h0=>bb h0 fun r10 e11 h0=>gg h0 fun c12 h0=>Bj 10 (Bq (cG (H54 a0.clock a1 r8 e9) rfl (dw [(2,iV a2),(3,.ptr 192 0),(6,.ptr 384 0),(9,.ptr 576 0),(37,.ptr 576 2),(38,Ae 2304 r6.Af),(39,.ptr 192 1),(40,iV a0.next),(44,iV r8),(45,.ptr 192 0),(46,iV a0.clock),(47,iV a2)] [(192,Bk a0),(384,Bt 0 0 (Aq 387) []),(576,Cp r6 (Aq 2304))] hB (cG (H54 a0.clock a2 r10 e11) rfl (dw [(3,.ptr 192 0),(6,.ptr 384 0),(9,.ptr 576 0),(37,.ptr 576 2),(38,Ae 2304 r6.Af),(39,.ptr 192 1),(40,iV a0.next),(44,iV r8),(48,iV r10)] [(192,Bk a0),(384,Bt 0 0 (Aq 387) []),(576,Cp r6 (Aq 2304))] hB (Al tv (c_ (v:=.agg (oP a0.next r8 r10 false)) (Bn ⟨tv,tv,tv,tv⟩ rfl ⟨⟨rfl,rfl,nl rfl⟩,⟨rfl,rfl,nl rfl⟩,⟨rfl,rfl,nl rfl⟩,tv⟩) (⟨tv,Ck (gH ⟨tv,tv⟩ ⟨⟨nl rfl,rfl,rfl⟩,tv⟩ (d0 hB (Ck (Lb (e:=Ab) (l0:=r6.Af) (l1:=([Aa.mk a0.next r8 r10 false]:List Aa)) rfl rfl tv rfl (by decide) c12 (d0 tv ?_)) Bg))) Bg⟩)))) Bg)) Bg))))))))
    refine Al tv (c_ (Bn ⟨tv,tv⟩ rfl tv) (⟨tv,Ck (Gm rfl rfl tv rfl rfl rfl (nl rfl) (d0 tv (d_ (Ba 9 [(3,.ptr 192 0),(6,.ptr 384 0),(9,.ptr 576 0)] (jP a0 [(576,[iV r6.clock,iV (wi (r6.next+1)),Ae 2304 (r6.Af++([Aa.mk a0.next r8 r10 false]:List Aa))])]) (Bj 4 (Bq (Ck (Gm rfl rfl tv rfl rfl rfl (nl rfl) (d0 hB (d_ (Ba 3 [(6,.ptr 384 0),(7,iV a0.next),(8,iV 0)] [(384,[iV r6.clock,iV (wi (r6.next+1)),Ae 2304 (r6.Af++([Aa.mk a0.next r8 r10 false]:List Aa))])] ?_)))) Bg))))))) Bg⟩))
    obtain rfl:=sj h0
    exact Hj (Dk rfl rfl rfl rfl rfl tv)

/- (loop.example/g00149/impl.Vault).crashed -/
def Acs:=[X_ 1 0,a_ 2 (zV 131 132 133),a_ 3 [iV 0,iV 0]]
def Acu:=[f_ 5 1 3,l_ 6 5 1,n_ 7 6,i_ 8 0]
def Acv:=[b_ .lss 9 8 7]
def Acw:=[m_ 10 8,m_ 4 10]
def Acx:List Cf:=[f_ 11 1 3,l_ 12 11 1,m_ 13 4,x_ 14 12 13 2,f_ 15 14 1,⟨none,.store (.t 15) (.c (.bool true)) 1,none⟩]
def Acy:=[B_ .add 16 8 1,m_ 8 16]
def Acr:IR:=(sr Acv (.seq (.ite (.t 9) .skip (.exit 0)) (.seq (.block 1 (sr Acw (.reg Acx))) (.reg Acy))))
def Acz:List Cf:=[f_ 17 1 5,⟨none,.store (.t 17) (.c (.bool true)) 1,none⟩]
def AcA:List Cf:=[L_ 18 1 6,⟨some 19,.p (.build [iV 0,iV 0] [(0,1,.c (iV 15))]),none⟩,s_ 2 18 6,s_ 3 19 2]
def c470:Dv:=⟨1,20,[.cell 2 6 true,.cell 3 2 true],sr Acs (.seq (sr Acu (Im 0 Acr)) (sr Acz (rr AcA)))⟩
def HU (D:Bl):Prop:=∀a0 r,fV a0=some r→D 470 ⟨[.agg (Av a0 (Aq 1024000) (Aq 1024001) (Aq 1024002))],[]⟩ ⟨.tup [.agg (Av r.1 (Aq 0) (Aq 1) (Aq 2)),.agg (Ax r.2)],[],[]⟩
abbrev Qd:=fun (r:List (Nat×List V))=>(128,At 0 0 (Aq 131) [] (Aq 132) [] (Aq 133) [] false)::(192,[iV 0,iV 0])::r
abbrev Qe:=fun (r:List (Nat×V))=>(1,.ptr 64 0)::(2,.ptr 128 0)::(3,.ptr 192 0)::r
theorem F470:HU (FO C c470):=by
 intro a0 r h0
 refine f0 (Ba 5 (Qe []) (Qd [(64,Av a0 (Aq 1024000) (Aq 1024001) (Aq 1024002))]) (Bj 4 (Ar (bJ rfl (o_ (Ba 2 (Qe [(7,iV (a0.Ad.length:Int)),(8,iV 0)]) (Qd [(64,Av a0 (Aq 1024000) (Aq 1024001) (Aq 1024002))]) (Bu (bb h0 fun r21 e22 h0=>Cv (R:=(fun S=>∃p15:List Ag,p15=r21∧S=⟨Qe [],Qd [(64,At a0.Ac.clock a0.Ac.next (Aq 1024000) a0.Ac.Af (Aq 1024001) p15 (Aq 1024002) a0.Aj a0.Am)],[]⟩)) (Ri a0) (fun s S=>match s with | (p6,p7)=>S=⟨Qe [(7,iV (a0.Ad.length:Int)),(8,iV p6)],Qd [(64,At a0.Ac.clock a0.Ac.next (Aq 1024000) a0.Ac.Af (Aq 1024001) p7 (Aq 1024002) a0.Aj a0.Am)],[]⟩) e22 _ (Cj (by kernel_rfl)) rfl 0 (fun _=>rfl) ?_ ?_))))))))
 ·rintro S _ hfg ⟨p15,rfl,rfl⟩
  refine Cb _ hfg (Ba 4 (Qe []) (Qd [(64,At a0.Ac.clock a0.Ac.next (Aq 1024000) a0.Ac.Af (Aq 1024001) p15 (Aq 1024002) a0.Aj true)]) (Bj 2 (Ar (st (c_ (v:=.agg [iV 15,iV 0]) (Bn ⟨tv,tv⟩ rfl ⟨⟨rfl,rfl,nl rfl⟩,tv⟩) (o_ ?_))))))
  obtain rfl:=sj h0
  exact Cy 4
 ·rintro ⟨p6,p7⟩ o1 _ K1 rfl h1 hx1 hK1 hE1 hR1
  refine Ba 3 (Qe [(7,iV (a0.Ad.length:Int)),(8,iV p6),(9,.bool (decide (p6<(a0.Ad.length:Int))))]) (Qd [(64,At a0.Ac.clock a0.Ac.next (Aq 1024000) a0.Ac.Af (Aq 1024001) p7 (Aq 1024002) a0.Aj a0.Am)]) (Aw (Cs h1 (fun c16 h1=>?_) (fun c16 h1=>?_)))
  ·refine Ba 8 (Qe [(4,iV p6),(7,iV (a0.Ad.length:Int)),(8,iV p6)]) (Qd [(64,At a0.Ac.clock a0.Ac.next (Aq 1024000) a0.Ac.Af (Aq 1024001) p7 (Aq 1024002) a0.Aj a0.Am)]) (Bj 3 (Ar (bb h1 fun y17 e18 h1=>Zb rfl rfl e18 (st (c_ (Bn ⟨tv,tv⟩ rfl tv) (bb h1 fun y19 e20 h1=>kG (Ag.mk y19.Br true) rfl rfl e20 (o_ (Ba 2 (Qe [(7,iV (a0.Ad.length:Int)),(8,iV p6)]) (Qd [(64,At a0.Ac.clock a0.Ac.next (Aq 1024000) a0.Ac.Af (Aq 1024001) (p7.set p6.toNat (Ag.mk y19.Br true)) (Aq 1024002) a0.Aj a0.Am)]) (Bj 3 ?_)))))))))
   obtain rfl:=sj h1
   exact kn hK1 rfl rfl
  ·obtain rfl:=sj h1
   obtain rfl:=hx1 _ rfl
   refine In rfl ?_
   exact jn hE1 ⟨_,rfl,rfl⟩

/- cmp.Less[int] -/
def PJ:=[k_ 4 (.bool false)]
def PK:List Cf:=[m_ 5 0,q_ 6 136 [.t 5],m_ 7 6,mT 7 8 1,⟨some 9,.call 136 [.t 8],some (7,true)⟩,pT 7 10 (.un .not (.t 9)),pa 11 7 10,m_ 12 11,mF 12 13 0,mF 12 14 1,pF 12 15 (.bin .lss (.t 13) (.t 14)),po 16 12 15,m_ 4 16]
def c140:Dv:=⟨2,17,[.t 4],sr PJ (rr PK)⟩
def K140 (D:Bl):Prop:=∀a0 a1 r,g140 a0 a1=some r→D 140 ⟨[iV a0,iV a1],[]⟩ ⟨.bool r,[],[]⟩
theorem F140 (H136:HP C):K140 (FO C c140):=by
 intro a0 a1 r h0
 refine f0 (Ba 3 [(0,iV a0),(1,iV a1)] [] (Aw (Ar (st (Bm rfl tv (bb h0 fun r1 e2 h0=>Sn (H136 a0 r1 e2) (o_ (jE 2 (Ar (bb h0 fun r3 e4 h0=>st (Mh (r:=.bool r3) rfl false (fun hg=>H136 a1 r3 (ip hg e4)) ⟨(fun hg=>hg),tv⟩ (fun _=>rfl) (fun _=>rfl) (fun _=>rfl) (fun h=>nomatch h) (o_ (jE 9 (bv h0 fun v5 e6 h0=>Cb ⟨[(4,.bool v5)],[],[]⟩ (Cj (by subst e6; kernel_rfl)) ?_))))))))))))))
 obtain rfl:=sj h0
 exact Hj (Dk rfl rfl rfl rfl rfl tv)

/- slices.isNaN[int] -/
def PL:=[k_ 2 (.bool false)]
def PM:=[m_ 3 0,m_ 4 0,b_ .neq 5 3 4,m_ 2 5]
def c141:Dv:=⟨1,6,[.t 2],sr PL (rr PM)⟩
def K141 (D:Bl):Prop:=∀a0 r,DI a0=some r→D 141 ⟨[iV a0],[]⟩ ⟨.bool r,[],[]⟩
theorem F141:K141 (FO C c141):=by
 intro a0 r h0
 refine f0 (?_)
 obtain rfl:=sj h0
 exact Cy 11

/- slices.BinarySearch[[]int,int] -/
def LN:=[i_ 4 0,k_ 5 (.bool false)]
def LO:=[m_ 10 0,n_ 11 10,m_ 6 11]
def LP:=[m_ 12 6,i_ 7 0,m_ 8 12]
def LQ:=[m_ 13 7,m_ 14 8,b_ .lss 15 13 14]
def LS:List Cf:=[m_ 16 7,m_ 17 8,b_ .add 18 16 17,iQ 19 (.conv .u64 (.t 18)),⟨some 20,.p (.bin .shr (.t 19) (.c (.int .u64 1))),none⟩,iQ 21 (.conv .i64 (.t 20)),m_ 9 21]
def LT:=[m_ 22 0,m_ 23 9,x_ 24 22 23 1,l_ 25 24 1,m_ 26 1,q_ 27 140 [.t 25,.t 26]]
def LU:=[m_ 28 9,B_ .add 29 28 1,m_ 7 29]
def LV:=[m_ 30 9,m_ 8 30]
def LL:IR:=(.seq (sr LQ (.ite (.t 15) .skip (.exit 0))) (.block 1 (sr LS (sr LT (.ite (.t 27) (.reg LU) (.reg LV))))))
def LW:List Cf:=[m_ 31 7,m_ 32 7,m_ 33 6,b_ .lss 34 32 33,m_ 35 34,mT 35 36 0,mT 35 37 7,xT 35 38 36 37 1,lT 35 39 38 1 false,mT 35 40 1,pT 35 41 (.bin .eql (.t 39) (.t 40)),mT 35 42 41,mF 42 43 0,mF 42 44 7,xF 42 45 43 44 1,lF 42 46 45 1 false,⟨some 47,.call 141 [.t 46],some (42,false)⟩,mF 42 48 47,mT 48 49 1,⟨some 50,.call 141 [.t 49],some (48,true)⟩,⟨some 51,.pick (.t 48) (.t 50) (.c (.bool false)),some (42,false)⟩,⟨some 52,.pick (.t 42) (.c (.bool true)) (.t 51),some (35,true)⟩,pa 53 35 52,m_ 4 31,m_ 5 53]
def qR:Dv:=⟨2,54,[.t 4,.t 5],sr LN (sr LO (sr LP (.seq (Im 0 LL) (rr LW))))⟩
def K121 (D:Bl):Prop:=∀a0 a1 r,g121 a0 a1=some r→D 121 ⟨[lI a0,iV a1],[]⟩ ⟨.tup [iV r.1,.bool r.2],[],[]⟩
theorem F121 (H140:K140 C) (H141:K141 C):K121 (FO C qR):=by
 intro a0 a1 r h0
 refine f0 (Ba 4 [(0,lI a0),(1,iV a1)] [] (Aw (Ar (st (Bm rfl tv (Nh rfl (o_ (Ba 8 [(0,lI a0),(1,iV a1),(6,iV (a0.length:Int)),(7,iV 0),(8,iV (a0.length:Int))] [] (Aw (Bu (bb h0 fun r30 e31 h0=>Cv (R:=(fun S=>∃p21:Int,p21=r30∧S=⟨[(0,lI a0),(1,iV a1),(6,iV (a0.length:Int)),(7,iV p21)],[],[]⟩)) (Yd a0 a1) (fun s S=>match s with | (p9,p10)=>S=⟨[(0,lI a0),(1,iV a1),(6,iV (a0.length:Int)),(7,iV p9),(8,iV p10)],[],[]⟩) e31 _ (Cj (by kernel_rfl)) rfl 0 (fun _=>rfl) ?_ ?_)))))))))))
 ·rintro S _ hfg ⟨p21,rfl,rfl⟩
  refine Cb _ hfg (Bj 6 (Ar (st (Cw (u:=lI a0) rfl (fun hg=>(Eb (v:=lI a0) rfl tv)) (st (Cw (u:=iV p21) rfl (fun hg=>(Eb (v:=iV p21) rfl tv)) (bb h0 fun y32 e33 h0=>st (Cw (u:=.iptr [iV y32]) rfl (fun hg=>(Ly (e:=eI) (y:=y32) rfl rfl (fun _=>hg) rfl rfl (fun _=>hg) (ip hg e33))) (st (Cw (u:=iV y32) rfl (fun hg=>(Bn ⟨(fun _=>hg),tv⟩ rfl (nl rfl))) (st (Cw (u:=iV a1) rfl (fun hg=>(Eb (v:=iV a1) rfl tv)) (st (Cw (u:=.bool (y32==a1)) rfl (fun hg=>(Bn ⟨(fun _=>hg),(fun _=>hg),tv⟩ rfl tv)) (st (Cw (u:=.bool (y32==a1)) rfl (fun hg=>(Eb (v:=.may ((decide (p21<(a0.length:Int)))==true) (.bool (y32==a1))) rfl (fun _=>hg))) (st (Cw (u:=lI a0) rfl (fun hg=>(Eb (v:=lI a0) rfl tv)) (st (Cw (u:=iV p21) rfl (fun hg=>(Eb (v:=iV p21) rfl tv)) (bb h0 fun y34 e35 h0=>st (Cw (u:=.iptr [iV y34]) rfl (fun hg=>(Ly (e:=eI) (y:=y34) rfl rfl (fun _=>hg) rfl rfl (fun _=>hg) (ip hg e35))) (st (Cw (u:=iV y34) rfl (fun hg=>(Bn ⟨(fun _=>hg),tv⟩ rfl (nl rfl))) (bb h0 fun r36 e37 h0=>st (Mh (r:=.bool r36) rfl false (fun hg=>H141 y34 r36 (ip hg e37)) ⟨(fun hg=>hg),tv⟩ (fun _=>rfl) (fun _=>rfl) (fun _=>rfl) (fun h=>nomatch h) (st (Cw (u:=.bool r36) rfl (fun hg=>(Eb (v:=.may (((decide (p21<(a0.length:Int)))==true)&&((y32==a1)==false)) (.bool r36)) rfl (fun _=>hg))) (st (Cw (u:=iV a1) rfl (fun hg=>(Eb (v:=iV a1) rfl tv)) (bb h0 fun r38 e39 h0=>st (Mh (r:=.bool r38) rfl false (fun hg=>H141 a1 r38 (ip hg e39)) ⟨(fun hg=>hg),tv⟩ (fun _=>rfl) (fun _=>rfl) (fun _=>rfl) (fun h=>nomatch h) (st (nF (u:=.bool (bif r36 then r38 else false)) rfl (fun hg=>CS rfl rfl (fun _=>hg) rfl rfl (fun h=>Az hg (fI h)) tv rfl) (st (nF (u:=.bool (bif (y32==a1) then true else (bif r36 then r38 else false))) rfl (fun hg=>CS rfl rfl (fun _=>hg) rfl rfl tv (fun h=>Az hg (HJ h)) rfl) (st (Fw rfl rfl rfl (fun h=>fI h) tv rfl (o_ (Bj 3 (bv h0 fun v40 e41 h0=>Cb ⟨[(4,iV p21),(5,.bool v40)],[],[]⟩ (Cj (by subst e41; kernel_rfl)) ?_)))))))))))))))))))))))))))))))))))))))))
  obtain rfl:=sj h0
  exact Hj (Dk rfl rfl rfl rfl rfl tv)
 ·rintro ⟨p9,p10⟩ o1 _ K1 rfl h1 hx1 hK1 hE1 hR1
  refine Ba 6 [(0,lI a0),(1,iV a1),(6,iV (a0.length:Int)),(7,iV p9),(8,iV p10),(15,.bool (decide (p9<p10)))] [] (Cs h1 (fun c22 h1=>?_) (fun c22 h1=>?_))
  ·refine Bj 8 (Ar (st (c_ (Bn ⟨tv,tv,tv⟩ rfl (by decide)) (o_ (Bj 3 (bv h1 fun v23 e24 h1=>Cb ⟨[(0,lI a0),(1,iV a1),(6,iV (a0.length:Int)),(7,iV p9),(8,iV p10),(9,iV v23)],[],[]⟩ (Cj (by subst e24; kernel_rfl)) (Bj 3 (Ar (bb h1 fun y25 e26 h1=>Ti rfl rfl e26 (o_ (Bj 2 (Ar (bb h1 fun r27 e28 h1=>Sn (H140 y25 a1 r27 e28) (o_ (Ba 1 [(0,lI a0),(1,iV a1),(6,iV (a0.length:Int)),(7,iV p9),(8,iV p10),(9,iV v23),(27,.bool r27)] [] (Cs h1 (fun c29 h1=>?_) (fun c29 h1=>?_)))))))))))))))))
   ·refine Bj 5 ?_
    obtain rfl:=sj h1
    exact kn hK1 rfl rfl
   ·refine Bj 4 ?_
    obtain rfl:=sj h1
    exact kn hK1 rfl rfl
  ·obtain rfl:=sj h1
   obtain rfl:=hx1 _ rfl
   refine In rfl ?_
   exact jn hE1 ⟨_,rfl,rfl⟩

/- slices.Insert[[]int,int] -/
def LY:List Cf:=[⟨some 6,.nilS 1,none⟩]
def LZ:List Cf:=[m_ 10 0,m_ 11 1,⟨some 12,.p (.slice (.t 10) (some (.t 11)) none 1),none⟩]
def MA:=[m_ 13 2,n_ 14 13,m_ 7 14]
def MB:=[m_ 15 7,B_ .eql 16 15 0]
def MC:=[m_ 17 0,m_ 6 17]
def MD:=[m_ 18 0,n_ 19 18,m_ 8 19]
def ME:=[m_ 20 1,m_ 21 8,b_ .eql 22 20 21]
def MF:List Cf:=[m_ 23 0,m_ 24 2,⟨some 25,.app 1 8 (.t 23) (.t 24),none⟩,m_ 6 25]
def MG:List Cf:=[m_ 26 8,m_ 27 7,b_ .add 28 26 27,m_ 29 0,⟨some 30,.cap (.t 29),none⟩,b_ .gtr 31 28 30]
def MH:List Cf:=[m_ 32 0,m_ 33 1,⟨some 34,.p (.slice (.t 32) none (some (.t 33)) 1),none⟩,m_ 35 8,m_ 36 7,b_ .add 37 35 36,m_ 38 1,b_ .sub 39 37 38,⟨some 40,.appz 1 8 [iV 0] (.t 34) (.t 39),none⟩,m_ 9 40]
def uS:List Cf:=[m_ 41 9,m_ 42 1,⟨some 43,.p (.slice (.t 41) (some (.t 42)) none 1),none⟩,m_ 44 2,⟨some 45,.copy 1 (.t 43) (.t 44),none⟩]
def uT:=tk [m_ 46 9,m_ 47 1,m_ 48 7,b_ .add 49 47 48,⟨some 50,.p (.slice (.t 46) (some (.t 49)) none 1),none⟩,m_ 51 0,m_ 52 1,⟨some 53,.p (.slice (.t 51) (some (.t 52)) none 1),none⟩] (.alt [] ⟨some 54,.copy 1 (.t 50) (.t 53),none⟩ .fin .stop)
def uU:=[m_ 55 9,m_ 6 55]
def uV:List Cf:=[m_ 56 0,m_ 57 8,m_ 58 7,b_ .add 59 57 58,⟨some 60,.p (.slice (.t 56) none (some (.t 59)) 1),none⟩,m_ 0 60]
def uW:List Cf:=[m_ 61 2,m_ 62 0,m_ 63 1,m_ 64 7,b_ .add 65 63 64,⟨some 66,.p (.slice (.t 62) (some (.t 65)) none 1),none⟩,iQ 67 (.ovl (.t 61) (.t 66)),N_ 68 67]
def uX:=tk [m_ 69 0,m_ 70 1,m_ 71 7,b_ .add 72 70 71,⟨some 73,.p (.slice (.t 69) (some (.t 72)) none 1),none⟩,m_ 74 0,m_ 75 1,⟨some 76,.p (.slice (.t 74) (some (.t 75)) none 1),none⟩] (.alt [] ⟨some 77,.copy 1 (.t 73) (.t 76),none⟩ .fin .stop)
def uY:List Cf:=[m_ 78 0,m_ 79 1,⟨some 80,.p (.slice (.t 78) (some (.t 79)) none 1),none⟩,m_ 81 2,⟨some 82,.copy 1 (.t 80) (.t 81),none⟩]
def uZ:=[m_ 83 0,m_ 6 83]
def vA:List Cf:=[m_ 84 0,m_ 85 8,⟨some 86,.p (.slice (.t 84) (some (.t 85)) none 1),none⟩,m_ 87 2,⟨some 88,.copy 1 (.t 86) (.t 87),none⟩]
def vB:List Cf:=[m_ 89 0,m_ 90 1,⟨some 91,.p (.slice (.t 89) (some (.t 90)) none 1),none⟩,m_ 92 7,q_ 93 143 [.t 91,.t 92]]
def vC:=[m_ 94 0,m_ 6 94]
def LX:Dv:=⟨3,95,[.t 6],sr LY (sr LZ (sr MA (.seq (sr MB (iz 16 (rr MC))) (sr MD (.seq (sr ME (iz 22 (rr MF))) (.seq (sr MG (iz 31 (sr MH (sr uS (sd uT (rr uU)))))) (sr uV (.seq (sr uW (iz 68 (sd uX (sr uY (rr uZ))))) (sr vA (sr vB (rr vC)))))))))))⟩
def K122 (D:Bl):Prop:=∀a0 a1 a2 r,g122 a0 a1 a2=some r→D 122 ⟨[oI 1024000 a0,iV a1,oI 2097152 a2],[]⟩ ⟨oI 0 r.1,[],[(0,1,r.2.map eI)]⟩
abbrev Tb:=fun x0 x1 (r:List (Nat×V))=>(0,oI 1024000 x0)::(2,oI 2097152 x1)::r
theorem F122:K122 (FO C LX):=by
 intro a0 a1 a2 r h0
 refine f0 ?_
 obtain ⟨⟨hb,hpos,hl⟩,h0⟩:=kX h0
 obtain rfl:=sj h0
 obtain ⟨i,rfl⟩:=Int.eq_ofNat_of_zero_le hb.1
 have hi:i≤a0.length:=by omega
 rw [show ((i:Nat):Int).toNat=i from rfl]
 have hbyte:(a0.length+a2.length)*8≤140737488355328:=Nat.le_trans (Nat.mul_le_mul_right 8 hl) (by decide)
 have hsm:a0.length+a2.length≤140737488355328:=by omega
 have w1:wi ((a0.length:Int)+(a2.length:Int))=((a0.length+a2.length:Nat):Int):=GV _ (by omega) (by omega)
 have w2:wi ((i:Int)+(a2.length:Int))=((i+a2.length:Nat):Int):=GV _ (by omega) (by omega)
 have w3:wi (((a0.length+a2.length:Nat):Int)-(i:Int))=((a0.length+a2.length-i:Nat):Int):=GV _ (by omega) (by omega)
 refine Ba 3 (Tb a0 a2 [(1,iV i)]) [] (Bj 3 (Ar (st (c_ (Fk (e:=eI) (y:=a0.drop i) rfl rfl tv ⟨tv,tv⟩ rfl rfl (cX a0 i hi)) (o_ (Ba 1 (Tb a0 a2 [(1,iV i)]) [] (Aw (Ar (st (Bm rfl tv (bJ rfl (o_ (Ba 2 (Tb a0 a2 [(1,iV i),(7,iV (a2.length:Int))]) [] (Bj 6 (Gk (cb:=(a2.length:Int)==0) rfl (fun h=>absurd (eq_of_beq h) (by omega)) (fun _=>(Ba 1 (Tb a0 a2 [(1,iV i),(7,iV (a2.length:Int))]) [] (Aw (Ar ?_)))))))))))))))))))
 refine st (Bm rfl tv (bJ rfl (o_ (Ba 2 (Tb a0 a2 [(1,iV i),(7,iV (a2.length:Int)),(8,iV (a0.length:Int))]) [] (Bj 7 (Gk (cb:=(i:Int)==(a0.length:Int)) rfl (fun h=>?_) (fun h=>?_)))))))
 ·have e1:i=a0.length:=by have:=eq_of_beq h; omega
  subst e1
  rw [List.take_length,List.drop_length,List.append_nil]
  refine Bj 3 (Ar (st (Lb (e:=eI) (l0:=a0) (l1:=a2) rfl rfl tv rfl (show (1024000:Nat)<1048576 by decide) hbyte (o_ (Ba 2 [(6,oI 1024000 (a0++a2)),(2,oI 2097152 a2)] [] ?_)))))
  exact Hj (Dk rfl rfl rfl rfl rfl ⟨⟨rfl,Jc (fun _=>rfl)⟩,tv⟩)
 have hlt:i<a0.length:=by
  have:(i:Int)≠(a0.length:Int):=fun h1=>by rw [h1] at h; simp at h
  omega
 have hemp:a0.map eI≠[]:=fun e1=>by
  have:=congrArg List.length e1
  simp at this
  subst this
  simp at hlt
 have hemp2:a2.map eI≠[]:=fun e1=>by
  have:=congrArg List.length e1
  simp at this
  subst this
  simp at hpos
 refine Ba 1 (Tb a0 a2 [(1,iV i),(7,iV (a2.length:Int)),(8,iV (a0.length:Int))]) [] (Bj 4 (Ar (st (c_ (Bn (v:=iV ((a0.length+a2.length:Nat):Int)) ⟨tv,tv,tv⟩ (congrArg (fun z=>some (True,V.int .i64 z)) w1) tv) (st (Bm rfl tv (st (cap_ (e:=eI) (l0:=a0) rfl fun c hc _ _=>(o_ (Bj 2 ?_))))))))))
 refine Cb ⟨[(31,.bool (decide (((a0.length+a2.length:Nat):Int)>(c:Int)))),(0,oI 1024000 a0),(1,iV i),(2,oI 2097152 a2),(7,iV (a2.length:Int)),(8,iV (a0.length:Int))],[],[(0,Fm+(c:Int))]⟩
  (fgc ⟨rfl,rfl,rfl,rfl,rfl,rfl,tv⟩ tv ⟨.inr (.inr ⟨29,Fm+(c:Int),_,_,0,_,0,_,rfl,rfl,hemp,rfl,hemp,by decide,.inr ⟨rfl,rfl⟩⟩),tv⟩) ?_
 refine Gk (cb:=decide (((a0.length+a2.length:Nat):Int)>(c:Int))) rfl (fun hgt=>?_) (fun hle=>?_)
 ·have hgt':c<a0.length+a2.length:=by have:=of_decide_eq_true hgt; omega
  refine Bj 3 (Ar (st (c_ (Fk (e:=eI) (y:=a0.take i) rfl rfl tv ⟨tv,tv⟩ rfl rfl (by rw [show (none:Option Int).getD 0=((0:Nat):Int) from rfl]; exact slcN a0 0 i (by omega) (by omega))) (o_ (Bj 2 (Ar (st (c_ (Bn (v:=iV ((a0.length+a2.length:Nat):Int)) ⟨tv,tv,tv⟩ (congrArg (fun z=>some (True,V.int .i64 z)) w1) tv) (st (Bm rfl tv (st (c_ (Bn (v:=iV ((a0.length+a2.length-i:Nat):Int)) ⟨tv,tv,tv⟩ (congrArg (fun z=>some (True,V.int .i64 z)) w3) tv) (st (appzx_ (e:=eI) (l0:=a0.take i) (c:=Fm+(c:Int)-0) (t:=1024000) (default:Int) rfl rfl rfl (by decide) (Int.natCast_nonneg _) ?_ rfl (by omega) ?_ ?_))))))))))))))
  ·have e1:(a0.take i).length+(a0.length+a2.length-i)=a0.length+a2.length:=by simp; omega
   have:=Int.ofNat_le.2 hbyte
   rw [Int.natCast_mul] at this
   rw [←Int.natCast_add,e1]
   exact this
  ·have e1:(a0.take i).length=i:=by simp; omega
   rw [e1]; omega
  rw [show ((a0.length+a2.length-i:Nat):Int).toNat=a0.length+a2.length-i from rfl]
  refine o_ (Ba 2 (Tb a0 a2 [(9,oI 2560 (a0.take i++List.replicate (a0.length+a2.length-i) (default:Int))),(1,iV i),(7,iV (a2.length:Int))]) [] ?_)
  generalize hR:a0.take i++List.replicate (a0.length+a2.length-i) (default:Int)=R
  have hRl:R.length=a0.length+a2.length:=by rw [←hR]; simp; omega
  have hRt:R.take i=a0.take i:=by rw [←hR,List.take_append_of_le_length (by simp; omega),List.take_take,Nat.min_self]
  refine Bj 3 (Ar (st (c_ (Fk (e:=eI) (y:=R.drop i) rfl rfl tv ⟨tv,tv⟩ rfl rfl (cX R i (by omega))) (st (Bm rfl tv (st (copy_ (e:=eI) (l0:=R.drop i) (l1:=a2) (t:=2560) rfl rfl tv rfl (Cz (Cb ⟨[(9,oI 2560 (ovl R i (a2.take (R.drop i).length))),(0,oI 1024000 a0),(1,iV i),(2,oI 2097152 a2),(7,iV (a2.length:Int))],[],[]⟩ (fg ⟨congrArg (fun z=>some (V.own 2560 0 1 z)) (Jv (off:=0)),rfl,rfl,rfl,rfl,tv⟩ tv) ?_)))))))))
  have hR2l:(ovl R i (a2.take (R.drop i).length)).length=a0.length+a2.length:=by rw [gO,hRl]
  generalize hR2:ovl R i (a2.take (R.drop i).length)=R2 at hR2l
  refine Bj 4 (Bq (Al tv (c_ (Bn (v:=iV ((i+a2.length:Nat):Int)) ⟨tv,tv,tv⟩ (congrArg (fun z=>some (True,V.int .i64 z)) w2) tv) (⟨tv,Al tv (c_ (Fk (e:=eI) (y:=R2.drop (i+a2.length)) rfl rfl tv ⟨tv,tv⟩ rfl rfl (cX R2 (i+a2.length) (by omega))) (⟨tv,d_ (Bj 2 (Bq (Al tv (c_ (Fk (e:=eI) (y:=a0.drop i) rfl rfl tv ⟨tv,tv⟩ rfl rfl (cX a0 i hi)) (⟨tv,Ck (copy_ (e:=eI) (l0:=R2.drop (i+a2.length)) (l1:=a0.drop i) (t:=2560) rfl rfl tv rfl (d0 tv (Gf ?_))) Bg⟩)))))⟩))⟩))))
  have hfin:ovl R2 (i+a2.length) ((a0.drop i).take (R2.drop (i+a2.length)).length)=a0.take i++a2++a0.drop i:=by
   rw [←hR2]
   exact ovl_ins hRl hRt hi
  refine Cb ⟨[(9,oI 2560 (a0.take i++a2++a0.drop i)),(2,oI 2097152 a2)],[],[]⟩ (fg ⟨(congrArg (fun z=>some (V.own 2560 0 1 z)) (Jv (off:=0))).trans (congrArg (fun z=>some (V.own 2560 0 1 (z.map eI))) hfin),rfl,tv⟩ tv) (Bj 5 ?_)
  exact Hj (Dk rfl rfl rfl rfl rfl ⟨⟨rfl,Jc (fun _=>rfl)⟩,tv⟩)
 ·have hle':a0.length+a2.length≤c:=by have:=of_decide_eq_false hle; omega
  refine Hb ?_
  refine Cb ⟨[(0,oI 1024000 a0),(1,iV i),(2,oI 2097152 a2),(7,iV (a2.length:Int)),(8,iV (a0.length:Int))],[],[(0,Fm+(c:Int))]⟩
   (fgc ⟨rfl,rfl,rfl,rfl,rfl,tv⟩ tv ⟨.inl ⟨_,rfl,.inl rfl⟩,tv⟩) ?_
  refine Bj 4 (Ar (st (c_ (Bn (v:=iV ((a0.length+a2.length:Nat):Int)) ⟨tv,tv,tv⟩ (congrArg (fun z=>some (True,V.int .i64 z)) w1) tv) (st (c_ (sliceUp (e:=eI) (l0:=a0) (t:=1024000) (sz:=1) (H:=a0.length+a2.length) (c:=Fm+(c:Int)) rfl rfl (Nat.le_add_right _ _) (show (0:Nat)<1 by decide) rfl (by rw [gG]; omega)) (st (Bm rfl tv (Cz ?_))))))))
  rw [Nat.add_sub_cancel_left]
  have hA0:(a0.map some++List.replicate a2.length none).length=a0.length+a2.length:=by simp
  have hA1:(a0.map some++List.replicate a2.length none).take i=(a0.take i).map some:=by rw [List.take_append_of_le_length (by simpa using hi),List.map_take]
  have hA2:((a0.map some++List.replicate a2.length none).drop i).take (a0.length-i)=(a0.drop i).map some:=by
   rw [List.drop_append_of_le_length (by simpa using hi),←List.map_drop,List.take_append_of_le_length (by simp),List.take_of_length_le (by simp)]
  generalize (a0.map some++List.replicate a2.length none:List (Option (Int)))=A at hA0 hA1 hA2
  refine Ba 0 [(0,.own 1024000 0 1 (A.map (eo eI 1))),(1,iV i),(2,oI 2097152 a2),(7,iV (a2.length:Int)),(8,iV (a0.length:Int))] [] (Bj 6 (Ar (st (c_ (Bn (v:=iV ((i+a2.length:Nat):Int)) ⟨tv,tv,tv⟩ (congrArg (fun z=>some (True,V.int .i64 z)) w2) tv) (st (c_ (Fk (e:=eo eI 1) (y:=A.drop (i+a2.length)) rfl rfl tv ⟨tv,tv⟩ rfl rfl (cX A (i+a2.length) (by omega))) (st (c_ (covl rfl rfl (by decide) hemp2 (fun e1=>?_)) ?_))))))))
  ·have:=congrArg List.length e1
   simp at this
   omega
  refine o_ (Ba 2 [(68,.bool true),(0,.own 1024000 0 1 (A.map (eo eI 1))),(1,iV i),(2,oI 2097152 a2),(7,iV (a2.length:Int)),(8,iV (a0.length:Int))] [] (Gk (cb:=true) rfl (fun _=>(Bj 4 (Bq (Al tv (c_ (Bn (v:=iV ((i+a2.length:Nat):Int)) ⟨tv,tv,tv⟩ (congrArg (fun z=>some (True,V.int .i64 z)) w2) tv) (⟨tv,Al tv (c_ (Fk (e:=eo eI 1) (y:=A.drop (i+a2.length)) rfl rfl tv ⟨tv,tv⟩ rfl rfl (cX A (i+a2.length) (by omega))) (⟨tv,d_ (Bj 2 (Bq (Al tv (c_ (Fk (e:=eo eI 1) (y:=A.drop i) rfl rfl tv ⟨tv,tv⟩ rfl rfl (cX A i (by omega))) (⟨tv,Ck (copy_ (e:=eo eI 1) (l0:=A.drop (i+a2.length)) (l1:=A.drop i) (t:=1024000) rfl rfl tv rfl (d0 tv (Gf ?_))) Bg⟩)))))⟩))⟩)))))) (fun h=>by cases h)))
  have hB:(A.drop i).take (A.drop (i+a2.length)).length=(a0.drop i).map some:=by
   rw [←hA2]; congr 1; simp; omega
  rw [hB]
  refine Cb ⟨[(0,.own 1024000 0 1 ((ovl A (i+a2.length) ((a0.drop i).map some)).map (eo eI 1))),(1,iV i),(2,oI 2097152 a2)],[],[]⟩ (fg ⟨congrArg (fun z=>some (V.own 1024000 0 1 z)) (Jv (off:=0)),rfl,rfl,tv⟩ tv) ?_
  have hR2l:(ovl A (i+a2.length) ((a0.drop i).map some)).length=a0.length+a2.length:=by rw [gO,hA0]
  have hfin:ovl (ovl A (i+a2.length) ((a0.drop i).map some)) i (a2.map some)=(a0.take i++a2++a0.drop i).map some:=FE hA0 hA1 hi
  generalize ovl A (i+a2.length) ((a0.drop i).map some)=R2 at hR2l hfin
  refine Bj 3 (Ar (st (c_ (Fk (e:=eo eI 1) (y:=R2.drop i) rfl rfl tv ⟨tv,tv⟩ rfl rfl (cX R2 i (by omega))) (st (Bm rfl tv (st (copy_ (e:=eo eI 1) (l0:=R2.drop i) (l1:=a2.map some) (t:=1024000) rfl rfl tv (congrArg (fun z=>some (1,z)) (fH a2)) (Cz ?_))))))))
  have hT:(a2.map some).take (R2.drop i).length=a2.map some:=List.take_of_length_le (by simp; omega)
  rw [hT]
  refine Cb ⟨[(0,oI 1024000 (a0.take i++a2++a0.drop i)),(2,oI 2097152 a2)],[],[]⟩
   (fg ⟨(congrArg (fun z=>some (V.own 1024000 0 1 z)) (Jv (off:=0))).trans (congrArg (fun z=>some (V.own 1024000 0 1 z)) ((congrArg (List.map (eo eI 1)) hfin).trans (fH _).symm)),rfl,tv⟩ tv) ?_
  refine Bj 5 ?_
  exact Hj (Dk rfl rfl rfl rfl rfl ⟨⟨rfl,Jc (fun _=>rfl)⟩,tv⟩)


/- slices.Delete[[]int,int] -/
def MI:List Cf:=[⟨some 6,.nilS 1,none⟩]
def MJ:List Cf:=[m_ 8 0,m_ 9 1,m_ 10 2,m_ 11 0,n_ 12 11,⟨some 13,.chk3 (.t 8) (.t 9) (.t 10) (.t 12),none⟩]
def MK:=[m_ 14 1,m_ 15 2,b_ .eql 16 14 15]
def ML:=[m_ 17 0,m_ 6 17]
def MM:=[m_ 18 0,n_ 19 18,m_ 7 19]
def MN:=tk [m_ 20 0,m_ 21 1,⟨some 22,.p (.slice (.t 20) none (some (.t 21)) 1),none⟩,m_ 23 0,m_ 24 2,⟨some 25,.p (.slice (.t 23) (some (.t 24)) none 1),none⟩] (.alt [] ⟨some 26,.app 1 8 (.t 22) (.t 25),none⟩ (.alt [] (m_ 0 26) .fin .stop) .stop)
def MO:List Cf:=[m_ 27 0,m_ 28 0,n_ 29 28,m_ 30 7,⟨some 31,.p (.slice (.t 27) (some (.t 29)) (some (.t 30)) 1),none⟩,⟨none,.clear 1 [iV 0] (.t 31),none⟩]
def MP:=[m_ 32 0,m_ 6 32]
def c123:Dv:=⟨3,33,[.t 6],sr MI (sr MJ (.seq (sr MK (iz 16 (rr ML))) (sr MM (sd MN (sr MO (rr MP))))))⟩
def K123 (D:Bl):Prop:=∀a0 a1 a2 r,g123 a0 a1 a2=some r→D 123 ⟨[oI 1024000 a0,iV a1,iV a2],[]⟩ ⟨oI 0 r,[],[]⟩
theorem F123:K123 (FO C c123):=by
 intro a0 a1 a2 r h0
 refine f0 ?_
 obtain ⟨⟨hb,hl⟩,h0⟩:=kX h0
 obtain rfl:=sj h0
 obtain ⟨i,rfl⟩:=Int.eq_ofNat_of_zero_le hb.1
 obtain ⟨j,rfl⟩:=Int.eq_ofNat_of_zero_le (Int.le_trans hb.1 hb.2.1)
 have hij:i≤j:=by omega
 have hx63:(a0.length:Int)<Fm:=by have:=hl; simp only [Fm]; omega
 have hj:j≤a0.length:=by omega
 rw [show ((i:Nat):Int).toNat=i from rfl,show ((j:Nat):Int).toNat=j from rfl]
 refine Ba 3 [(0,oI 1024000 a0),(1,iV i),(2,iV j)] [] (Aw (Ar (st (Bm rfl tv (st (Bm rfl tv (st (Bm rfl tv (st (Bm rfl tv (bJ rfl (st (chk3O (e:=eI) (l0:=a0) rfl rfl rfl rfl ⟨by omega,by omega,by omega,Int.le_refl _⟩ (o_ (Ba 1 [(0,oI 1024000 a0),(1,iV i),(2,iV j)] [] (Aw (Aw (Ar (st (Bm rfl tv (st (Bm rfl tv (st (c_ (Bn t3 rfl tv) (Cz (cK (Gk (cb:=(i:Int)==(j:Int)) rfl (fun h=>?_) (fun h=>?_))))))))))))))))))))))))))))
 ·have e1:i=j:=by have:=eq_of_beq h; omega
  subst e1
  rw [List.take_append_drop]
  refine Aw (Ar (st (Bm rfl tv (st (Bm rfl tv (Cz (cK ?_)))))))
  exact Hj (Dk rfl rfl rfl rfl rfl tv)
 ·have hne:i≠j:=fun e1=>by subst e1; simp at h
  have hemp:a0.map eI≠[]:=fun e1=>by
   have:=congrArg List.length e1
   simp at this
   subst this
   simp at hj
   omega
  refine Ba 1 [(0,oI 1024000 a0),(1,iV i),(2,iV j)] [] (Aw (Ar (st (Bm rfl tv (bJ rfl (st (Bm rfl tv (Cz (Cb ⟨[(0,oI 1024000 a0),(1,iV i),(2,iV j),(7,iV (a0.length:Int))],[],[(0,(a0.length:Int))]⟩ (fgc ⟨rfl,rfl,rfl,rfl,tv⟩ tv ⟨.inr (.inl ⟨_,_,_,_,rfl,hemp,by simp,hx63,by decide⟩),tv⟩) (Aw (Bq (Al tv (Bm rfl tv (⟨tv,Al tv (Bm rfl tv (⟨tv,Al tv (c_ (Fk (e:=eI) (y:=a0.take i) rfl rfl tv ⟨tv,tv⟩ rfl rfl (by rw [show (none:Option Int).getD 0=((0:Nat):Int) from rfl]; exact slcN a0 0 i (by omega) (by omega))) (⟨tv,Al tv (Bm rfl tv (⟨tv,Al tv (Bm rfl tv (⟨tv,Al tv (c_ (Fk (e:=eI) (y:=a0.drop j) rfl rfl tv ⟨tv,tv⟩ rfl rfl (cX a0 j hj)) (⟨tv,Ck (appc_ (e:=eI) (l0:=a0.take i) (l1:=a0.drop j) (t:=1024000) (sz:=1) (vy:=.own 1024000 (0+j) 1 ((a0.drop j).map eI)) (c:=(a0.length:Int)-0) rfl rfl tv rfl (show (1024000:Nat)<1048576 by decide) ?_ rfl ?_ ?_) Bg⟩))⟩))⟩))⟩))⟩))⟩))))))))))))))
  ·have:(a0.take i).length+(a0.drop j).length≤a0.length:=by simp; omega
   exact Nat.le_trans (Nat.mul_le_mul_right 8 this) (Nat.le_trans (Nat.mul_le_mul_right 8 hl) (by decide))
  ·rw [Mf (show (a0.length:Int)-0<Fm by omega)]; simp; omega
  refine d0 tv (Ck (Bm rfl tv (d0 tv (Gf ?_))) Bg)
  generalize hR:a0.take i++a0.drop j=R
  have hRl:R.length≤a0.length:=by rw [←hR]; simp; omega
  refine Cb ⟨[(0,oI 1024000 R),(7,iV (a0.length:Int))],[],[(0,(a0.length:Int)-0)]⟩ (fgc ⟨rfl,rfl,tv⟩ tv ⟨.inl ⟨_,rfl,.inl rfl⟩,tv⟩) (Aw (Ar (st (Bm rfl tv (st (Bm rfl tv (bJ rfl (st (Bm rfl tv (st (c_ (eK (e:=eI) (R:=R) (t:=1024000) (sz:=1) (L:=R.length) (H:=a0.length) (c:=(a0.length:Int)-0) rfl rfl rfl rfl hRl (show (0:Nat)<1 by decide) rfl (by rw [Mf (show (a0.length:Int)-0<Fm by omega)]; omega)) (st (iS rfl (Cz (Cb ⟨[(0,oI 1024000 R)],[],[]⟩ (fg ⟨past1 (Nat.le_refl _),tv⟩ tv) (Aw (Ar (st (Bm rfl tv (st (Bm rfl tv (Cz (cK ?_)))))))))))))))))))))))
  exact Hj (Dk rfl rfl rfl rfl rfl tv)

/- loop.example/g00149/impl.call -/
def c89_r0:List Cf:=[⟨some 8,.nilS 1,none⟩,i_ 9 0]
def c89_r1:=[m_ 13 0,q_ 14 120 [.t 13],m_ 10 14]
def c89_r2:=[m_ 15 3,B_ .eql 16 15 1]
def c89_r3:=[m_ 17 10,m_ 8 17,i_ 9 13]
def c89_r4:=[m_ 19 10,m_ 20 1,q_ 21 121 [.t 19,.t 20],m_ 18 21,e_ 22 18 0,e_ 23 18 1,m_ 11 22,m_ 12 23]
def c89_r5:=[m_ 25 2,m_ 26 25,mT 26 27 12,pT 26 28 (.un .not (.t 27)),pa 29 26 28,m_ 24 29]
def c89_r6:List Cf:=[m_ 30 10,m_ 31 11,m_ 32 1,⟨some 33,.mkS 1 [iV 0] 1 [(0,.t 32)],none⟩,q_ 34 122 [.t 30,.t 31,.t 33],m_ 10 34]
def c89_r7:=[m_ 36 2,N_ 37 36,m_ 38 37,mT 38 39 12,pa 40 38 39,m_ 35 40]
def c89_r8:=[m_ 41 10,m_ 42 11,m_ 43 11,B_ .add 44 43 1,q_ 45 123 [.t 41,.t 42,.t 44],m_ 10 45]
def c89_r9:=[m_ 46 3,B_ .eql 47 46 2]
def AdR:=[m_ 48 10,m_ 8 48,i_ 9 15]
def AdS:=[m_ 49 10,m_ 8 49,i_ 9 0]
def c89:Dv:=⟨4,50,[.t 8,.t 9],sr c89_r0 (sr c89_r1 (.seq (sr c89_r2 (iz 16 (rr c89_r3))) (sr c89_r4 (.seq (.block 0 (sr c89_r5 (.ite (.t 24) (.reg c89_r6) (sr c89_r7 (iz 35 (.reg c89_r8)))))) (.seq (sr c89_r9 (iz 47 (rr AdR))) (rr AdS))))))⟩
def K89 (D:Bl):Prop:=∀a0 a1 a2 a3 r,g89 a0 a1 a2 a3=some r→D 89 ⟨[lI a0,iV a1,.bool a2,iV a3],[]⟩ ⟨.tup [oI 0 r.1,iV r.2],[],[]⟩
theorem F89 (H120:HO C) (H121:K121 C) (H122:K122 C) (H123:K123 C):K89 (FO C c89):=by
 intro a0 a1 a2 a3 r h0
 refine f0 (Ba 4 [(0,lI a0),(1,iV a1),(2,.bool a2),(3,iV a3)] [] (Aw (Ar (st (Bm rfl tv (bb h0 fun r1 e2 h0=>Vp (H120 a0 r1 e2) (af rfl) (o_ (Ba 8 [(1,iV a1),(2,.bool a2),(3,iV a3),(10,oI 896 r1),(16,.bool (a3==1))] [] (Cs h0 (fun c3 h0=>?_) (fun c3 h0=>?_))))))))))
 ·obtain rfl:=sj h0
  exact Cy 6
 ·refine Bj 5 (Ar (bb h0 fun r4 e5 h0=>Sn (H121 r1 a1 r4 e5) (o_ (Ba 6 [(1,iV a1),(2,.bool a2),(3,iV a3),(10,oI 896 r1),(11,iV r4.1),(12,.bool r4.2)] [] (Aw (Lc (fun S=>∃p13:List Int,S=⟨[(3,iV a3),(10,oI 2176 p13)],[],[]⟩∧Wi a3 p13=some r) ?_ (fun J15=>?_)))))))
  ·rintro _ ⟨p13,rfl,h0⟩
   refine Ba 6 [(10,oI 2176 p13),(47,.bool (a3==2))] [] (Cs h0 (fun c14 h0=>?_) (fun c14 h0=>?_))
   ·obtain rfl:=sj h0
    exact Cy 6
   ·obtain rfl:=sj h0
    exact Cy 8
  ·refine Aw ?_
   refine gK_ 7 [(1,iV a1),(2,.bool a2),(3,iV a3),(10,oI 896 r1),(11,iV r4.1),(12,.bool r4.2),(24,.bool (bif a2 then (!r4.2) else false))] [] (Cs h0 (fun c16 h0=>?_) (fun c16 h0=>?_))
   ·refine Bj 4 (Ar (bb h0 fun r17 e18 h0=>gg h0 fun c19 h0=>dG [] [2112] [896] (H122 r1 r4.1 ([a1]:List Int) r17 e18) (Az (af rfl) (Az (cH (fun _=>rfl)) rfl)) (st (Bm rfl tv (Cz (Qq ?_))))))
    exact jn J15 ⟨_,rfl,h0⟩
   ·refine gK_ 8 [(3,iV a3),(10,oI 896 r1),(11,iV r4.1),(35,.bool (bif (!a2) then r4.2 else false))] [] (Cs h0 (fun c20 h0=>?_) (fun c20 h0=>?_))
    ·refine Bj 4 (Ar (bb h0 fun r21 e22 h0=>dG [] [] [896] (H123 r1 r4.1 (wi (r4.1+1)) r21 e22) (Az (af rfl) rfl) (st (Bm rfl tv (Cz (Qq ?_))))))
     exact J15 _ _ (Zw [] [(2880,2176)] rfl (by kernel_rfl)) ⟨_,rfl,h0⟩
    ·refine Hb (Qq ?_)
     exact J15 _ _ (Zw [] [(896,2176)] rfl (by kernel_rfl)) ⟨_,rfl,h0⟩

/- (*loop.example/g00149/impl.runner).call -/
def AcB:=[i_ 6 0]
def AcC:=[i_ 7 0]
def AcD:=tk [m_ 10 0,iQ 11 (.nilc (.t 10)),f_ 12 11 13,l_ 13 12 1,m_ 14 0,iQ 15 (.nilc (.t 14)),f_ 16 15 6,f_ 17 16 5,l_ 18 17 1,n_ 19 18,b_ .lss 20 13 19] .fin
def AcE:=tk [m_ 21 0,iQ 22 (.nilc (.t 21)),f_ 23 22 6,f_ 24 23 5,l_ 25 24 1,m_ 26 0,iQ 27 (.nilc (.t 26)),f_ 28 27 13,l_ 29 28 1,x_ 30 25 29 1,l_ 31 30 1,m_ 7 31] .fin
def AcF:=[m_ 32 0,iQ 33 (.nilc (.t 32)),f_ 34 33 13,l_ 35 34 1,B_ .add 36 35 1,iQ 37 (.nilc (.t 32)),f_ 38 37 13,s_ 38 36 1]
def AcG:=[m_ 40 0,iQ 41 (.nilc (.t 40)),f_ 42 41 0,f_ 43 42 4,l_ 44 43 1,m_ 45 1,m_ 46 2,m_ 47 7,q_ 48 89 [.t 44,.t 45,.t 46,.t 47],m_ 39 48,e_ 49 39 0,e_ 50 39 1,m_ 8 49,m_ 9 50]
def AcH:=[m_ 51 0,m_ 52 8,iQ 53 (.nilc (.t 51)),f_ 54 53 0,f_ 55 54 4,s_ 55 52 1]
def AcI:=[m_ 56 9,m_ 6 56]
def c471:Dv:=⟨3,57,[.t 6],sr AcB (sr AcC (.seq (sd AcD (iz 20 (.draw AcE))) (sr AcF (sr AcG (sr AcH (rr AcI))))))⟩
def HV (D:Bl):Prop:=∀a0 a1 a2 r,fW a0 a1 a2=some r→D 471 ⟨[.ptr 1048576 0,iV a1,.bool a2],[Fq a0 (Aq 1024000) (Aq 1024001) (Aq 1024002) u_]⟩ ⟨iV r.1,[Fq r.2 (Aq 0) (Aq 1) (Aq 2) u_],[]⟩
abbrev nE:=fun x0 (r:List (Nat×List V))=>(1048576,Fq x0 (Aq 1024000) (Aq 1024001) (Aq 1024002) u_)::r
theorem F471 (H89:K89 C):HV (FO C c471):=by
 intro a0 a1 a2 r h0
 refine f0 (Ba 7 [(0,.ptr 1048576 0),(1,iV a1),(2,.bool a2),(7,iV 0)] (nE a0 []) (Bj 10 (Bq (Al tv (c_ (Bn ⟨tv,tv⟩ rfl (nl rfl)) ?_)))))
 refine ⟨tv,Al tv (c_ (Mv (e:=eI) (l0:=a0.a.Bi) rfl rfl tv) (⟨tv,d_ (Ba 2 [(0,.ptr 1048576 0),(1,iV a1),(2,.bool a2),(7,iV 0),(20,.bool (decide (a0.Gu<(a0.a.Bi.length:Int))))] (nE a0 []) (Lw (cb:=(decide (a0.Gu<(a0.a.Bi.length:Int)))) (fun S=>∃p4:Int,S=⟨[(0,.ptr 1048576 0),(1,iV a1),(2,.bool a2),(7,iV p4)],nE a0 [],[]⟩∧Uq a0 a1 a2 p4=some r) rfl ?_ (fun c8 J7=>?_) (fun c8 J7=>?_)))⟩))⟩
 ·rintro _ ⟨p4,rfl,h0⟩
  refine Ba 11 [(0,.ptr 1048576 0),(1,iV a1),(2,.bool a2),(7,iV p4)] [(1048576,Da a0.v.Ac.clock a0.v.Ac.next (Aq 1024000) a0.v.Ac.Af (Aq 1024001) a0.v.Ad (Aq 1024002) a0.v.Aj a0.v.Am a0.a.kind a0.a.id a0.a.ttl a0.a.Db a0.a.clock u_ a0.a.Bi a0.a.stop (wi (a0.Gu+1)))] (Bj 9 (Ar (bb h0 fun r5 e6 h0=>Vp (H89 a0.v.Aj a1 a2 p4 r5 e6) (af (Az rfl rfl)) (o_ ?_))))
  obtain rfl:=sj h0
  exact Cy 21
 ·replace h0:=ip c8 h0
  refine bb h0 fun y9 e10 h0=>Bj 9 (Bq (d_ (tH rfl rfl rfl e10 (Bj 3 ?_))))
  exact jn J7 ⟨_,rfl,h0⟩
 ·replace h0:=Kn c8 h0
  refine Hb ?_
  exact jn J7 ⟨_,rfl,h0⟩

/- (loop.example/g00149/impl.Vault).issue -/
def AbD:=[X_ 2 0,X_ 3 1,a_ 4 (zV 259 260 261),a_ 5 [iV 0,iV 0]]
def AbE:=[f_ 12 2 0,L_ 13 12 3,f_ 14 3 2,l_ 15 14 1,f_ 16 3 3,l_ 17 16 1,q_ 18 71 [.t 13,.t 15,.t 17],m_ 11 18,e_ 19 11 0,e_ 20 11 1,e_ 21 11 2,a_ 6 (zT 387),s_ 6 19 3,m_ 7 20,m_ 8 21]
def AbF:=[m_ 22 8,B_ .eql 23 22 0,m_ 24 23,fT 24 25 2 3,lT 24 26 25 1 false,pT 24 27 (.len (.t 26)),pT 24 28 (.bin .eql (.t 27) (.c (iV 40))),pa 29 24 28]
def AbG:=[i_ 8 9]
def AbH:=[m_ 30 8,B_ .neq 31 30 0]
def AbI:=[L_ 32 2 6,m_ 33 8,q_ 34 464 [.t 32,.t 33],e_ 35 34 0,e_ 36 34 1,s_ 4 35 6,s_ 5 36 2]
def AbJ:List Cf:=[L_ 37 2 6,L_ 38 3 7,⟨some 39,.p (.build [iV 0,iV 0,.own 2499 0 4 [],.own 2500 0 2 [],.own 2501 0 1 [],.bool false,iV 0,iV 0,iV 0,iV 0,iV 0,.own 2508 0 1 [],iV 0,iV 0] [(0,6,.t 37),(6,7,.t 38)]),none⟩,X_ 40 39,m_ 9 40]
def AbK:=[m_ 41 9,iQ 42 (.nilc (.t 41)),f_ 43 42 0,f_ 44 43 0,f_ 45 44 1,l_ 46 45 1,B_ .add 47 46 1,iQ 48 (.nilc (.t 41)),f_ 49 48 0,f_ 50 49 0,f_ 51 50 1,s_ 51 47 1]
def AbL:List Cf:=[m_ 52 9,m_ 53 9,iQ 54 (.nilc (.t 53)),f_ 55 54 0,f_ 56 55 3,l_ 57 56 1,m_ 58 7,⟨some 59,.p (.build [iV 0,.bool false] [(0,1,.t 58)]),none⟩,⟨some 60,.mkS 2 [iV 0,.bool false] 1 [(0,.t 59)],none⟩,⟨some 61,.app 2 16 (.t 57) (.t 60),none⟩,iQ 62 (.nilc (.t 52)),f_ 63 62 0,f_ 64 63 3,s_ 64 61 1]
def AbM:=[f_ 65 3 6,l_ 66 65 1,B_ .eql 67 66 1]
def BE:=[m_ 68 9,iQ 69 (.nilc (.t 68)),f_ 70 69 0,L_ 71 70 6,q_ 72 470 [.t 71],e_ 73 72 0,e_ 74 72 1,s_ 4 73 6,s_ 5 74 2]
def BF:=[m_ 75 9,m_ 76 7,q_ 77 471 [.t 75,.t 76,.c (.bool true)],m_ 8 77]
def BG:=[f_ 78 3 6,l_ 79 78 1,B_ .eql 80 79 2]
def BH:=[m_ 81 9,iQ 82 (.nilc (.t 81)),f_ 83 82 0,L_ 84 83 6,q_ 85 470 [.t 84],e_ 86 85 0,e_ 87 85 1,s_ 4 86 6,s_ 5 87 2]
def BI:=[m_ 88 9,iQ 89 (.nilc (.t 88)),f_ 90 89 0,f_ 91 90 3,l_ 92 91 1,n_ 93 92,B_ .sub 94 93 1,m_ 10 94]
def BJ:=[m_ 95 8,B_ .neq 96 95 0]
def BK:List Cf:=[m_ 97 9,iQ 98 (.nilc (.t 97)),f_ 99 98 0,f_ 100 99 3,l_ 101 100 1,m_ 102 10,x_ 103 101 102 2,f_ 104 103 1,⟨none,.store (.t 104) (.c (.bool true)) 1,none⟩]
def BL:=[m_ 105 9,iQ 106 (.nilc (.t 105)),f_ 107 106 0,L_ 108 107 6,m_ 109 8,q_ 110 464 [.t 108,.t 109],e_ 111 110 0,e_ 112 110 1,s_ 4 111 6,s_ 5 112 2]
def BM:List Cf:=[m_ 113 9,m_ 114 9,iQ 115 (.nilc (.t 114)),f_ 116 115 0,f_ 117 116 3,l_ 118 117 1,m_ 119 10,⟨some 120,.p (.slice (.t 118) none (some (.t 119)) 2),none⟩,iQ 121 (.nilc (.t 113)),f_ 122 121 0,f_ 123 122 3,s_ 123 120 1]
def BN:=[m_ 124 9,L_ 125 6 3,iQ 126 (.nilc (.t 124)),f_ 127 126 0,f_ 128 127 0,s_ 128 125 3]
def BO:List Cf:=[m_ 129 9,iQ 130 (.nilc (.t 129)),f_ 131 130 0,L_ 132 131 6,m_ 133 7,⟨some 134,.p (.build [iV 0,iV 0] [(1,1,.t 133)]),none⟩,s_ 4 132 6,s_ 5 134 2]
def c465:Dv:=⟨2,135,[.cell 4 6 true,.cell 5 2 true],sr AbD (sr AbE (.seq (sr AbF (iz 29 (.reg AbG))) (.seq (sr AbH (iz 31 (rr AbI))) (sr AbJ (sr AbK (sr AbL (.seq (sr AbM (iz 67 (rr BE))) (sr BF (.seq (sr BG (iz 80 (rr BH))) (sr BI (.seq (sr BJ (iz 96 (sr BK (rr BL)))) (sr BM (sr BN (rr BO))))))))))))))⟩
def K465 (D:Bl):Prop:=∀a0 a1 r,g465 a0 a1=some r→D 465 ⟨[.agg (Av a0 (Aq 1024000) (Aq 1024001) (Aq 1024002)),.agg (Ao a1)],[]⟩ ⟨.tup [.agg (Av r.1 (Aq 0) (Aq 1) (Aq 2)),.agg (Ax r.2)],[],[]⟩
abbrev Lp:=fun (r:List (Nat×List V))=>(256,At 0 0 (Aq 259) [] (Aq 260) [] (Aq 261) [] false)::(320,[iV 0,iV 0])::r
abbrev Qc:=fun x0 (r:List (Nat×V))=>(4,.ptr 256 0)::(5,.ptr 320 0)::(6,.ptr 384 0)::(7,iV x0)::r
theorem F465 (H71:K71 C) (H464:tJ C) (H470:HU C) (H471:HV C):K465 (FO C c465):=by
 intro a0 a1 r h0
 refine f0 (Ba 6 [(2,.ptr 128 0),(3,.ptr 192 0),(4,.ptr 256 0),(5,.ptr 320 0)] (Lp [(128,Av a0 (Aq 1024000) (Aq 1024001) (Aq 1024002)),(192,Ao a1)]) (Bj 7 (Ar (bb h0 fun r1 e2 h0=>Vp (H71 a0.Ac a1.ttl a1.Db r1 e2) (ar (Az rfl (af (ar (Az rfl rfl))))) (o_ (Ba 9 (Qc r1.2.1 [(2,.ptr 128 0),(3,.ptr 192 0),(8,iV r1.2.2)]) (Lp [(128,Av a0 (Aq 1024000) (Aq 1024001) (Aq 1024002)),(192,Ao a1),(384,Cp r1.1 (Aq 1152))]) (Bj 5 (Ar (st (Cw (u:=.ptr 128 3) rfl (fun hg=>(Bn ⟨tv,tv⟩ rfl tv)) (st (Cw (u:=Bs 1024001 a0.Ad) rfl (fun hg=>(Bn ⟨(fun _=>hg),tv⟩ rfl (nl rfl))) (st (Cw (u:=iV (a0.Ad.length:Int)) rfl (fun hg=>(CO (e:=Ca) (l0:=a0.Ad) rfl rfl (fun _=>hg))) (st (Cw (u:=.bool ((a0.Ad.length:Int)==40)) rfl (fun hg=>(Bn ⟨(fun _=>hg),tv,tv⟩ rfl tv)) (st (Fw rfl rfl rfl (fun h=>fI h) tv rfl (o_ (Ba 1 (Qc r1.2.1 [(2,.ptr 128 0),(3,.ptr 192 0),(8,iV r1.2.2),(29,.bool (bif (r1.2.2==0) then ((a0.Ad.length:Int)==40) else false))]) (Lp [(128,Av a0 (Aq 1024000) (Aq 1024001) (Aq 1024002)),(192,Ao a1),(384,Cp r1.1 (Aq 1152))]) (Lw (cb:=(bif (r1.2.2==0) then ((a0.Ad.length:Int)==40) else false)) (fun S=>∃p4:Int,S=⟨Qc r1.2.1 [(2,.ptr 128 0),(3,.ptr 192 0),(8,iV p4)],Lp [(128,Av a0 (Aq 1024000) (Aq 1024001) (Aq 1024002)),(192,Ao a1),(384,Cp r1.1 (Aq 1152))],[]⟩∧Kl a0 a1 r1 p4=some r) rfl ?_ (fun Xz J26=>?_) (fun Xz J26=>?_))))))))))))))))))))))
 ·rintro _ ⟨p4,rfl,h0⟩
  refine Ba 6 (Qc r1.2.1 [(2,.ptr 128 0),(3,.ptr 192 0),(8,iV p4),(31,.bool (p4 != 0))]) (Lp [(128,Av a0 (Aq 1024000) (Aq 1024001) (Aq 1024002)),(192,Ao a1),(384,Cp r1.1 (Aq 1152))]) (Cs h0 (fun c5 h0=>?_) (fun c5 h0=>?_))
  ·refine Bj 3 (Ar (bb h0 fun r6 e7 h0=>dG [] [] [1024000,1024001,1024002] (H464 a0 p4 r6 e7) (Az (ar (Az rfl (af (af (af (ar (Az rfl (Az rfl rfl)))))))) rfl) (o_ ?_)))
   obtain rfl:=sj h0
   exact Cy 6
  ·refine Bj 5 (Ar (st (c_ (v:=.agg (Da a0.Ac.clock a0.Ac.next (Aq 1024000) a0.Ac.Af (Aq 1024001) a0.Ad (Aq 1024002) a0.Aj a0.Am a1.kind a1.id a1.ttl a1.Db a1.clock u_ a1.Bi a1.stop 0)) (Bn ⟨tv,tv,tv⟩ rfl ⟨⟨rfl,rfl,nl rfl⟩,⟨rfl,rfl,nl rfl⟩,tv⟩) (o_ (Ba 18 (Qc r1.2.1 [(3,.ptr 192 0),(9,.ptr 2560 0)]) (Lp [(192,Ao a1),(384,Cp r1.1 (Aq 1152)),(2560,Da a0.Ac.clock (wi (a0.Ac.next+1)) (Aq 1024000) a0.Ac.Af (Aq 1024001) a0.Ad (Aq 1024002) a0.Aj a0.Am a1.kind a1.id a1.ttl a1.Db a1.clock u_ a1.Bi a1.stop 0)]) (Bj 3 (Ar ?_)))))))
   refine o_ (Bj 5 (Ar (st (c_ (v:=.agg [iV r1.2.1,.bool false]) (Bn ⟨tv,tv⟩ rfl ⟨⟨rfl,rfl,nl rfl⟩,tv⟩) (st (gH ⟨tv,tv⟩ ⟨⟨nl rfl,rfl,rfl⟩,tv⟩ (gg h0 fun c8 h0=>st (Lb (e:=Ca) (l0:=a0.Ad) (l1:=([Ag.mk r1.2.1 false]:List Ag)) rfl rfl tv rfl (by decide) c8 (o_ (Ba 12 (Qc r1.2.1 [(3,.ptr 192 0),(9,.ptr 2560 0),(67,.bool (a1.stop==1))]) (Lp [(192,Ao a1),(384,Cp r1.1 (Aq 1152)),(2560,[iV a0.Ac.clock,iV (wi (a0.Ac.next+1)),Ae 1024000 a0.Ac.Af,Bs 1024001 (a0.Ad++([Ag.mk r1.2.1 false]:List Ag)),oI 1024002 a0.Aj,.bool a0.Am,iV a1.kind,iV a1.id,iV a1.ttl,iV a1.Db,iV a1.clock,lI a1.Bi,iV a1.stop,iV 0])]) (Cs h0 (fun c9 h0=>?_) (fun c9 h0=>?_))))))))))))
   ·refine Bj 5 (Ar (bb h0 fun r10 e11 h0=>dG [] [] [1024000,1024001,1024002] (H470 (Ap.mk (As.mk a0.Ac.clock (wi (a0.Ac.next+1)) a0.Ac.Af) (a0.Ad++([Ag.mk r1.2.1 false]:List Ag)) a0.Aj a0.Am) r10 e11) (Az (ar (Az rfl (af (af (af (ar (Az rfl (Az rfl rfl)))))))) rfl) (o_ ?_)))
    obtain rfl:=sj h0
    exact Cy 6
   ·refine Bj 5 (Ar (bb h0 fun r12 e13 h0=>c2_ [2560] [] [1024000,1024001,1024002] (H471 (Dd.mk (Ap.mk (As.mk a0.Ac.clock (wi (a0.Ac.next+1)) a0.Ac.Af) (a0.Ad++([Ag.mk r1.2.1 false]:List Ag)) a0.Aj a0.Am) a1 0) r1.2.1 true r12 e13) (o_ (Ba 9 (Qc r1.2.1 [(8,iV r12.1),(9,.ptr 2560 0),(80,.bool (a1.stop==2))]) (Lp [(384,Cp r1.1 (Aq 1152)),(2560,Fq r12.2 (Aq 4928) (Aq 4929) (Aq 4930) u_)]) (Cs h0 (fun c14 h0=>?_) (fun c14 h0=>?_))))))
    ·refine Bj 5 (Ar (bb h0 fun r15 e16 h0=>dG [] [] [4928,4929,4930] (H470 r12.2.v r15 e16) (Az (ar (Az rfl (af (af (af (ar (Az rfl (Az rfl rfl)))))))) rfl) (o_ ?_)))
     obtain rfl:=sj h0
     exact Cy 6
    ·refine Bj 8 (Ar (bJ rfl (o_ (Ba 9 (Qc r1.2.1 [(8,iV r12.1),(9,.ptr 2560 0),(10,iV (wi ((r12.2.v.Ad.length:Int)-1))),(96,.bool (r12.1 != 0))]) (Lp [(384,Cp r1.1 (Aq 1152)),(2560,Fq r12.2 (Aq 4928) (Aq 4929) (Aq 4930) u_)]) (Cs h0 (fun c17 h0=>?_) (fun c17 h0=>?_))))))
     ·refine Bj 7 (Ar (bb h0 fun y18 e19 h0=>Zb rfl rfl e19 (st (c_ (Bn ⟨tv,tv⟩ rfl tv) (bb h0 fun y20 e21 h0=>kG (Ag.mk y20.Br true) rfl rfl e21 (o_ (Ba 1 [(4,.ptr 256 0),(5,.ptr 320 0),(8,iV r12.1),(9,.ptr 2560 0)] (Lp [(2560,Da r12.2.v.Ac.clock r12.2.v.Ac.next (Aq 4928) r12.2.v.Ac.Af (Aq 4929) (r12.2.v.Ad.set ((wi ((r12.2.v.Ad.length:Int)-1)).toNat) (Ag.mk y20.Br true)) (Aq 4930) r12.2.v.Aj r12.2.v.Am r12.2.a.kind r12.2.a.id r12.2.a.ttl r12.2.a.Db r12.2.a.clock u_ r12.2.a.Bi r12.2.a.stop r12.2.Gu)]) (Bj 6 (Ar (bb h0 fun r22 e23 h0=>dG [] [] [4928,4929,4930] (H464 (Ap.mk r12.2.v.Ac (r12.2.v.Ad.set ((wi ((r12.2.v.Ad.length:Int)-1)).toNat) (Ag.mk y20.Br true)) r12.2.v.Aj r12.2.v.Am) r12.1 r22 e23) (Az (ar (Az rfl (af (af (af (ar (Az rfl (Az rfl rfl)))))))) rfl) (o_ ?_)))))))))))
      obtain rfl:=sj h0
      exact Cy 6
     ·refine Bj 10 (Ar (bb h0 fun s24 e25 h0=>st (c_ (Fk (e:=Ca) (y:=s24) rfl rfl tv ⟨tv,tv⟩ rfl rfl e25) (o_ (Ba 14 [(4,.ptr 256 0),(5,.ptr 320 0),(7,iV r1.2.1),(9,.ptr 2560 0)] (Lp [(2560,Da r1.1.clock r1.1.next (Aq 1152) r1.1.Af (Aq 4929) s24 (Aq 4930) r12.2.v.Aj r12.2.v.Am r12.2.a.kind r12.2.a.id r12.2.a.ttl r12.2.a.Db r12.2.a.clock u_ r12.2.a.Bi r12.2.a.stop r12.2.Gu)]) (Bj 6 (Ar (st (c_ (v:=.agg [iV 0,iV r1.2.1]) (Bn ⟨tv,tv⟩ rfl ⟨⟨rfl,rfl,nl rfl⟩,tv⟩) (o_ ?_))))))))))
      obtain rfl:=sj h0
      exact Cy 4
 ·replace h0:=ip Xz h0
  refine Ar (st (Ff tv (Cz ?_)))
  exact jn J26 ⟨_,rfl,h0⟩
 ·replace h0:=Kn Xz h0
  refine Hb ?_
  exact jn J26 ⟨_,rfl,h0⟩

/- (loop.example/g00149/impl.Vault).turned -/
def AbN:=[X_ 3 0,X_ 4 1,a_ 6 (zV 387 388 389),a_ 7 [iV 0,iV 0]]
def AbO:=[m_ 8 2,B_ .neq 9 8 0]
def AbP:=[L_ 10 3 6,m_ 11 2,q_ 12 464 [.t 10,.t 11],e_ 13 12 0,e_ 14 12 1,s_ 6 13 6,s_ 7 14 2]
def AbQ:=[L_ 15 4 3,f_ 16 3 0,s_ 16 15 3]
def AbR:=[L_ 17 3 6,iQ 18 (.build [iV 0,iV 0] []),s_ 6 17 6,s_ 7 18 2]
def c466:Dv:=⟨3,19,[.cell 6 6 true,.cell 7 2 true],sr AbN (.seq (sr AbO (iz 9 (rr AbP))) (sr AbQ (rr AbR)))⟩
def K466 (D:Bl):Prop:=∀a0 a1 a2 r,DS a0 a1 a2=some r→D 466 ⟨[.agg (Av a0 (Aq 1024000) (Aq 1024001) (Aq 1024002)),.agg (Cp a1 (Aq 1024003)),iV a2],[]⟩ ⟨.tup [.agg (Av r.1 (Aq 0) (Aq 1) (Aq 2)),.agg (Ax r.2)],[],[]⟩
theorem F466 (H464:tJ C):K466 (FO C c466):=by
 intro a0 a1 a2 r h0
 refine f0 (Ba 12 [(2,iV a2),(3,.ptr 192 0),(4,.ptr 256 0),(6,.ptr 384 0),(7,.ptr 448 0),(9,.bool (a2 != 0))] [(192,Av a0 (Aq 1024000) (Aq 1024001) (Aq 1024002)),(256,Cp a1 (Aq 1024003)),(384,At 0 0 (Aq 387) [] (Aq 388) [] (Aq 389) [] false),(448,[iV 0,iV 0])] (Cs h0 (fun c1 h0=>?_) (fun c1 h0=>?_)))
 ·refine Bj 3 (Ar (bb h0 fun r2 e3 h0=>dG [] [] [1024000,1024001,1024002] (H464 a0 a2 r2 e3) (Az (ar (Az rfl (af (af (af (ar (Az rfl (Az rfl rfl)))))))) rfl) (o_ ?_)))
  obtain rfl:=sj h0
  exact Cy 6
 ·obtain rfl:=sj h0
  exact Cy 15

/- slices.Delete[[]loop.example/g00149/impl.Lease,loop.example/g00149/impl.Lease] -/
def KV:List Cf:=[⟨some 6,.nilS 4,none⟩]
def KW:List Cf:=[m_ 8 0,m_ 9 1,m_ 10 2,m_ 11 0,n_ 12 11,⟨some 13,.chk3 (.t 8) (.t 9) (.t 10) (.t 12),none⟩]
def KX:=[m_ 14 1,m_ 15 2,b_ .eql 16 14 15]
def KY:=[m_ 17 0,m_ 6 17]
def KZ:=[m_ 18 0,n_ 19 18,m_ 7 19]
def LA:=tk [m_ 20 0,m_ 21 1,⟨some 22,.p (.slice (.t 20) none (some (.t 21)) 4),none⟩,m_ 23 0,m_ 24 2,⟨some 25,.p (.slice (.t 23) (some (.t 24)) none 4),none⟩] (.alt [] ⟨some 26,.app 4 32 (.t 22) (.t 25),none⟩ (.alt [] (m_ 0 26) .fin .stop) .stop)
def LC:List Cf:=[m_ 27 0,m_ 28 0,n_ 29 28,m_ 30 7,⟨some 31,.p (.slice (.t 27) (some (.t 29)) (some (.t 30)) 4),none⟩,⟨none,.clear 4 [iV 0,iV 0,iV 0,.bool false] (.t 31),none⟩]
def LD:=[m_ 32 0,m_ 6 32]
def c115:Dv:=⟨3,33,[.t 6],sr KV (sr KW (.seq (sr KX (iz 16 (rr KY))) (sr KZ (sd LA (sr LC (rr LD))))))⟩
def K115 (D:Bl):Prop:=∀a0 a1 a2 r,g115 a0 a1 a2=some r→D 115 ⟨[Ae 1024000 a0,iV a1,iV a2],[]⟩ ⟨Ae 0 r,[],[]⟩
theorem F115:K115 (FO C c115):=by
 intro a0 a1 a2 r h0
 refine f0 ?_
 obtain ⟨⟨hb,hl⟩,h0⟩:=kX h0
 obtain rfl:=sj h0
 obtain ⟨i,rfl⟩:=Int.eq_ofNat_of_zero_le hb.1
 obtain ⟨j,rfl⟩:=Int.eq_ofNat_of_zero_le (Int.le_trans hb.1 hb.2.1)
 have hij:i≤j:=by omega
 have hx63:(a0.length:Int)<Fm:=by have:=hl; simp only [Fm]; omega
 have hj:j≤a0.length:=by omega
 rw [show ((i:Nat):Int).toNat=i from rfl,show ((j:Nat):Int).toNat=j from rfl]
 refine Ba 3 [(0,Ae 1024000 a0),(1,iV i),(2,iV j)] [] (Aw (Ar (st (Bm rfl tv (st (Bm rfl tv (st (Bm rfl tv (st (Bm rfl tv (bJ rfl (st (chk3O (e:=Ab) (l0:=a0) rfl rfl rfl rfl ⟨by omega,by omega,by omega,Int.le_refl _⟩ (o_ (Ba 1 [(0,Ae 1024000 a0),(1,iV i),(2,iV j)] [] (Aw (Aw (Ar (st (Bm rfl tv (st (Bm rfl tv (st (c_ (Bn t3 rfl tv) (Cz (cK (Gk (cb:=(i:Int)==(j:Int)) rfl (fun h=>?_) (fun h=>?_))))))))))))))))))))))))))))
 ·have e1:i=j:=by have:=eq_of_beq h; omega
  subst e1
  rw [List.take_append_drop]
  refine Aw (Ar (st (Bm rfl tv (st (Bm rfl tv (Cz (cK ?_)))))))
  exact Hj (Dk rfl rfl rfl rfl rfl tv)
 ·have hne:i≠j:=fun e1=>by subst e1; simp at h
  have hemp:a0.map Ab≠[]:=fun e1=>by
   have:=congrArg List.length e1
   simp at this
   subst this
   simp at hj
   omega
  refine Ba 1 [(0,Ae 1024000 a0),(1,iV i),(2,iV j)] [] (Aw (Ar (st (Bm rfl tv (bJ rfl (st (Bm rfl tv (Cz (Cb ⟨[(0,Ae 1024000 a0),(1,iV i),(2,iV j),(7,iV (a0.length:Int))],[],[(0,(a0.length:Int))]⟩ (fgc ⟨rfl,rfl,rfl,rfl,tv⟩ tv ⟨.inr (.inl ⟨_,_,_,_,rfl,hemp,by simp,hx63,by decide⟩),tv⟩) (Aw (Bq (Al tv (Bm rfl tv (⟨tv,Al tv (Bm rfl tv (⟨tv,Al tv (c_ (Fk (e:=Ab) (y:=a0.take i) rfl rfl tv ⟨tv,tv⟩ rfl rfl (by rw [show (none:Option Int).getD 0=((0:Nat):Int) from rfl]; exact slcN a0 0 i (by omega) (by omega))) (⟨tv,Al tv (Bm rfl tv (⟨tv,Al tv (Bm rfl tv (⟨tv,Al tv (c_ (Fk (e:=Ab) (y:=a0.drop j) rfl rfl tv ⟨tv,tv⟩ rfl rfl (cX a0 j hj)) (⟨tv,Ck (appc_ (e:=Ab) (l0:=a0.take i) (l1:=a0.drop j) (t:=1024000) (sz:=4) (vy:=.own 1024000 (0+j) 4 ((a0.drop j).map Ab)) (c:=(a0.length:Int)-0) rfl rfl tv rfl (show (1024000:Nat)<1048576 by decide) ?_ rfl ?_ ?_) Bg⟩))⟩))⟩))⟩))⟩))⟩))))))))))))))
  ·have:(a0.take i).length+(a0.drop j).length≤a0.length:=by simp; omega
   exact Nat.le_trans (Nat.mul_le_mul_right 32 this) (Nat.le_trans (Nat.mul_le_mul_right 32 hl) (by decide))
  ·rw [Mf (show (a0.length:Int)-0<Fm by omega)]; simp; omega
  refine d0 tv (Ck (Bm rfl tv (d0 tv (Gf ?_))) Bg)
  generalize hR:a0.take i++a0.drop j=R
  have hRl:R.length≤a0.length:=by rw [←hR]; simp; omega
  refine Cb ⟨[(0,Ae 1024000 R),(7,iV (a0.length:Int))],[],[(0,(a0.length:Int)-0)]⟩ (fgc ⟨rfl,rfl,tv⟩ tv ⟨.inl ⟨_,rfl,.inl rfl⟩,tv⟩) (Aw (Ar (st (Bm rfl tv (st (Bm rfl tv (bJ rfl (st (Bm rfl tv (st (c_ (eK (e:=Ab) (R:=R) (t:=1024000) (sz:=4) (L:=R.length) (H:=a0.length) (c:=(a0.length:Int)-0) rfl rfl rfl rfl hRl (show (0:Nat)<4 by decide) rfl (by rw [Mf (show (a0.length:Int)-0<Fm by omega)]; omega)) (st (iS rfl (Cz (Cb ⟨[(0,Ae 1024000 R)],[],[]⟩ (fg ⟨past1 (Nat.le_refl _),tv⟩ tv) (Aw (Ar (st (Bm rfl tv (st (Bm rfl tv (Cz (cK ?_)))))))))))))))))))))))
  exact Hj (Dk rfl rfl rfl rfl rfl tv)

/- (loop.example/g00149/impl.Table).without -/
def c78_r0:=[X_ 2 0,a_ 4 (zT 259)]
def c78_r1:=[L_ 6 2 3,q_ 7 112 [.t 6],a_ 5 (zT 323),s_ 5 7 3]
def c78_r2:=[f_ 8 5 2,l_ 9 8 1,m_ 10 1,m_ 11 1,B_ .add 12 11 1,q_ 13 115 [.t 9,.t 10,.t 12],f_ 14 5 2,s_ 14 13 1]
def c78_r3:=[L_ 15 5 3,s_ 4 15 3]
def c78:Dv:=⟨2,16,[.cell 4 3 true],sr c78_r0 (sr c78_r1 (sr c78_r2 (rr c78_r3)))⟩
def K78 (D:Bl):Prop:=∀a0 a1 r,g78 a0 a1=some r→D 78 ⟨[.agg (Bk a0),iV a1],[]⟩ ⟨.agg (Cp r (Aq 0)),[],[]⟩
theorem F78 (H112:iG C) (H115:K115 C):K78 (FO C c78):=by
 intro a0 a1 r h0
 refine f0 (Ba 4 [(1,iV a1),(2,.ptr 128 0),(4,.ptr 256 0)] [(128,Bk a0),(256,Bt 0 0 (Aq 259) [])] (Bj 2 (Ar (bb h0 fun r1 e2 h0=>Vp (H112 a0 r1 e2) (ar (Az rfl (af rfl))) (o_ (Ba 3 [(1,iV a1),(4,.ptr 256 0),(5,.ptr 320 0)] [(256,Bt 0 0 (Aq 259) []),(320,Cp r1 (Aq 448))] (Bj 6 (Ar (bb h0 fun r3 e4 h0=>dG [] [] [448] (H115 r1.Af a1 (wi (a1+1)) r3 e4) (Az (af rfl) rfl) (o_ ?_))))))))))
 obtain rfl:=sj h0
 exact Cy 9

/- (loop.example/g00149/impl.Table).ids -/
def c60_r0:List Cf:=[X_ 1 0,⟨some 2,.nilS 1,none⟩]
def c60_r1:List Cf:=[⟨some 3,.nilS 1,none⟩]
def c60_r2:=[f_ 6 1 2,l_ 7 6 1,n_ 8 7,i_ 9 0]
def c60_r3:=[b_ .lss 10 9 8]
def c60_r4:=[x_ 11 7 9 4,L_ 12 11 4,a_ 5 [iV 0,iV 0,iV 0,.bool false],s_ 5 12 4]
def c60_r5:List Cf:=[m_ 13 3,f_ 14 5 0,l_ 15 14 1,⟨some 16,.mkS 1 [iV 0] 1 [(0,.t 15)],none⟩,⟨some 17,.app 1 8 (.t 13) (.t 16),none⟩,m_ 3 17]
def c60_r6:=[B_ .add 18 9 1,m_ 9 18]
def c60_l0:IR:=(sr c60_r3 (.seq (.ite (.t 10) .skip (.exit 0)) (.seq (.block 1 (sr c60_r4 (.reg c60_r5))) (.reg c60_r6))))
def c60_r7:=[m_ 19 3,m_ 2 19]
def c60:Dv:=⟨1,20,[.t 2],sr c60_r0 (sr c60_r1 (.seq (sr c60_r2 (Im 0 c60_l0)) (rr c60_r7)))⟩
def K60 (D:Bl):Prop:=∀a0 r,g60 a0=some r→D 60 ⟨[.agg (Bk a0)],[]⟩ ⟨oI 0 r,[],[]⟩
theorem F60:K60 (FO C c60):=by
 intro a0 r h0
 refine f0 (Ba 8 [(1,.ptr 64 0),(3,.own 192 0 1 ([].map eI))] [(64,Bk a0)] (Bj 4 (Ar (Nh rfl (o_ (Ba 2 [(3,.own 192 0 1 ([].map eI)),(7,Cg a0.Af),(8,iV (a0.Af.length:Int)),(9,iV 0)] [] (Bu (bb h0 fun r18 e19 h0=>Cv (R:=(fun S=>∃p13:List Int,p13=r18∧S=⟨[(3,oI 192 p13)],[],[]⟩)) (Wd a0) (fun s S=>match s with | (p5,p6)=>S=⟨[(3,oI 192 p5),(7,Cg a0.Af),(8,iV (a0.Af.length:Int)),(9,iV p6)],[],[]⟩) e19 _ (Cj (by kernel_rfl)) rfl 0 (fun _=>rfl) ?_ ?_))))))))
 ·rintro S _ hfg ⟨p13,rfl,rfl⟩
  refine Cb _ hfg ?_
  obtain rfl:=sj h0
  exact Cy 5
 ·rintro ⟨p5,p6⟩ o1 _ K1 rfl h1 hx1 hK1 hE1 hR1
  refine Ba 3 [(3,oI 192 p5),(7,Cg a0.Af),(8,iV (a0.Af.length:Int)),(9,iV p6),(10,.bool (decide (p6<(a0.Af.length:Int))))] [] (Aw (Cs h1 (fun c14 h1=>?_) (fun c14 h1=>?_)))
  ·refine Ot 5 (Ar (bb h1 fun y15 e16 h1=>Ti rfl rfl e16 (o_ (Ba 4 [(3,oI 192 p5),(5,.ptr 320 0),(7,Cg a0.Af),(8,iV (a0.Af.length:Int)),(9,iV p6)] [(320,Ab y15)] (Bj 4 (Ar (gg h1 fun c17 h1=>st (Lb (e:=eI) (l0:=p5) (l1:=([y15.id]:List Int)) rfl rfl tv rfl (by decide) c17 (o_ (Ba 3 [(3,oI 192 (p5++([y15.id]:List Int))),(7,Cg a0.Af),(8,iV (a0.Af.length:Int)),(9,iV p6)] [] (Bj 3 ?_)))))))))))
   obtain rfl:=sj h1
   exact kn hK1 rfl rfl
  ·obtain rfl:=sj h1
   obtain rfl:=hx1 _ rfl
   refine In rfl ?_
   exact jn hE1 ⟨_,rfl,rfl⟩

/- cmp.Or[int] -/
def JK:=[i_ 2 0]
def JL:=[i_ 3 0]
def JM:=[m_ 6 0,n_ 7 6,i_ 8 0]
def JN:=[b_ .lss 9 8 7]
def JO:=[x_ 10 6 8 1,l_ 11 10 1,m_ 5 11]
def JP:=[m_ 12 5,m_ 13 3,b_ .neq 14 12 13]
def JQ:=[m_ 15 5,m_ 2 15]
def JR:=[B_ .add 16 8 1,m_ 8 16]
def JJ:IR:=(sr JN (.seq (.ite (.t 9) .skip (.exit 0)) (.seq (.block 1 (sr JO (sr JP (iz 14 (rr JQ))))) (.reg JR))))
def JS:=[m_ 17 3,m_ 2 17]
def c109:Dv:=⟨1,18,[.t 2],sr JK (sr JL (.seq (sr JM (Im 0 JJ)) (rr JS)))⟩
def K109 (D:Bl):Prop:=∀a0 r,g109 a0=some r→D 109 ⟨[lI a0],[]⟩ ⟨iV r,[],[]⟩
theorem F109:K109 (FO C c109):=by
 intro a0 r h0
 refine f0 (Ba 7 [(0,lI a0),(3,iV 0)] [] (Bj 3 (Ar (Nh rfl (o_ (Ba 2 [(3,iV 0),(6,lI a0),(7,iV (a0.length:Int)),(8,iV 0)] [] (Bu (bb h0 fun r15 e16 h0=>Cv (R:=(fun S=>.inl ()=r15∧S=⟨[(3,iV 0)],[],[]⟩)) (Tt a0) (fun s S=>match s with | p5=>S=⟨[(3,iV 0),(6,lI a0),(7,iV (a0.length:Int)),(8,iV p5)],[],[]⟩) e16 _ (Cj (by kernel_rfl)) rfl 0 (fun _=>rfl) ?_ ?_))))))))
 ·rintro S _ hfg ⟨rfl,rfl⟩
  refine Cb _ hfg ?_
  obtain rfl:=sj h0
  exact Cy 5
 ·rintro p5 o1 _ K1 rfl h1 hx1 hK1 hE1 hR1
  refine Ba 3 [(3,iV 0),(6,lI a0),(7,iV (a0.length:Int)),(8,iV p5),(9,.bool (decide (p5<(a0.length:Int))))] [] (Aw (Cs h1 (fun c11 h1=>?_) (fun c11 h1=>?_)))
  ·refine Ot 5 (Ar (bb h1 fun y12 e13 h1=>Ti rfl rfl e13 (o_ (Ba 9 [(3,iV 0),(5,iV y12),(6,lI a0),(7,iV (a0.length:Int)),(8,iV p5),(14,.bool (y12 != 0))] [] (Cs h1 (fun c14 h1=>?_) (fun c14 h1=>?_))))))
   ·obtain rfl:=sj h1
    obtain rfl:=hx1 _ rfl
    obtain rfl:=sj h0
    exact cR 5 hR1
   ·refine Bj 6 ?_
    obtain rfl:=sj h1
    exact kn hK1 rfl rfl
  ·obtain rfl:=sj h1
   obtain rfl:=hx1 _ rfl
   refine In rfl ?_
   exact jn hE1 ⟨rfl,rfl⟩

/- loop.example/g00149/impl.byTime -/
def c69_r0:=[X_ 2 0,X_ 3 1,i_ 4 0]
def c69_r1:=tk [f_ 5 2 1,l_ 6 5 1,f_ 7 3 1,l_ 8 7 1,f_ 10 2 0,l_ 11 10 1,f_ 12 3 0,l_ 13 12 1] (.alt [l_ 13 12 1,f_ 12 3 0,l_ 11 10 1,f_ 10 2 0] (q_ 9 110 [.t 6,.t 8]) (.alt [] (q_ 14 110 [.t 11,.t 13]) (.alt [] ⟨some 15,.mkS 1 [iV 0] 2 [(0,.t 9),(1,.t 14)],none⟩ (.alt [] (q_ 16 109 [.t 15]) (tk [m_ 4 16] .fin) .stop) .stop) .stop) .stop)
def c69:Dv:=⟨2,17,[.t 4],sr c69_r0 (sd c69_r1 .ret)⟩
def K69 (D:Bl):Prop:=∀a0 a1 r,g69 a0 a1=some r→D 69 ⟨[.agg (Ab a0),.agg (Ab a1)],[]⟩ ⟨iV r,[],[]⟩
theorem F69 (H109:K109 C) (H110:HN C):K69 (FO C c69):=by
 intro a0 a1 r h0
 refine f0 (Ba 5 [(2,.ptr 128 0),(3,.ptr 192 0)] [(128,Ab a0),(192,Ab a1)] (Aw (bb h0 fun r1 e2 h0=>bb h0 fun r3 e4 h0=>bb h0 fun r5 e6 h0=>Bj 8 (Bq (cG (H110 a0.Bp a1.Bp r1 e2) rfl (dw [(2,.ptr 128 0),(3,.ptr 192 0),(9,iV r1),(10,.ptr 128 0),(11,iV a0.id),(12,.ptr 192 0),(13,iV a1.id)] [(128,Ab a0),(192,Ab a1)] hB (cG (H110 a0.id a1.id r3 e4) rfl (dw [(9,iV r1),(14,iV r3)] [] tv (Ck (gH ⟨tv,tv,tv⟩ ⟨⟨nl rfl,rfl,rfl⟩,⟨nl rfl,rfl,rfl⟩,tv⟩ (d0 tv (cG (H109 ([r1,r3]:List Int) r5 e6) rfl (dw [(16,iV r5)] [] tv (d_ (Ba 2 [(4,iV r5)] [] ?_))) Bg))) Bg)) Bg)) Bg)))))
 obtain rfl:=sj h0
 exact Hj (Dk rfl rfl rfl rfl rfl tv)

/- slices.insertionSortCmpFunc[loop.example/g00149/impl.Lease] -/
def QD:=[m_ 10 1,B_ .add 11 10 1,m_ 8 11]
def QE:=[m_ 12 8,m_ 13 2,b_ .lss 14 12 13]
def QF:=[m_ 17 8,m_ 9 17]
def QG:=tk [m_ 18 9,m_ 19 1,b_ .gtr 20 18 19,m_ 21 20,mT 21 22 3,mT 21 23 0,mT 21 24 9,xT 21 25 23 24 4,lT 21 26 25 4 true,mT 21 27 0,mT 21 28 9,pT 21 29 (.bin .sub (.t 28) (.c (iV 1))),xT 21 30 27 29 4,lT 21 31 30 4 true] (.alt [] ⟨some 32,.callv (.t 22) [.t 26,.t 31],some (21,true)⟩ (tk [pT 21 33 (.bin .lss (.t 32) (.c (iV 0))),pa 34 21 33] .fin) .stop)
def QH:=tk [m_ 37 0,m_ 38 9,m_ 39 0,m_ 40 9,B_ .sub 41 40 1,m_ 42 0,m_ 43 9,B_ .sub 44 43 1,x_ 45 42 44 4,L_ 46 45 4,m_ 47 0,m_ 48 9,x_ 49 47 48 4,L_ 50 49 4,x_ 51 37 38 4] (.alt [B_ .sub 41 40 1,m_ 40 9,m_ 39 0] (s_ 51 46 4) (tk [x_ 52 39 41 4] (.alt [] (s_ 52 50 4) .fin .stop)) .stop)
def QI:=[m_ 35 9,B_ .sub 36 35 1,m_ 9 36]
def QB:IR:=(.seq (sd QG (.ite (.t 34) .skip (.exit 2))) (.seq (.block 3 (.draw QH)) (.reg QI)))
def QJ:=[m_ 15 8,B_ .add 16 15 1,m_ 8 16]
def QC:IR:=(.seq (sr QE (.ite (.t 14) .skip (.exit 0))) (.seq (.block 1 (sr QF (Im 2 QB))) (.reg QJ)))
def c148:Dv:=⟨4,53,[],sr QD (Im 0 QC)⟩
def K148 (C:Bl) (D:Bl:=C):Prop:=∀(a0:List Aa) (a1:Int) (a2:Int) (f3:Nat) (k3:List V) (is3:Aa→Aa→Option Int) (hs3:Jh k3) (hf3:∀(x0:Aa) (x1:Aa) r,is3 x0 x1=some r→C f3 ⟨.agg (Ab x0) :: .agg (Ab x1)::k3,[]⟩ ⟨iV r,[],[]⟩) (r:(List Aa)),g148 a0 a1 a2 is3=some r→D 148 ⟨[Ae 2097152 a0,iV a1,iV a2,.clo f3 k3],[]⟩ ⟨.tup [],[],[(0,4,r.map Ab)]⟩
abbrev Tc:=fun x0 x1 x2 x3 x4 (r:List (Nat×V))=>(1,iV x0)::(2,iV x1)::(3,.clo x2 x3)::(8,iV x4)::r
theorem F148:K148 C (FO C c148):=by
 intro a0 a1 a2 f3 k3 is3 hs3 hf3 r h0
 refine f0 (Ba 5 [(0,Ae 2097152 a0),(1,iV a1),(2,iV a2),(3,.clo f3 k3),(8,iV (wi (a1+1)))] [] (Bu (bb h0 fun r189 e190 h0=>Cv (R:=(fun S=>∃p111:List Aa,p111=r189∧S=⟨[(0,Ae 2097152 p111)],[],[]⟩)) (Yf a1 a2 is3) (fun s S=>match s with | (p55,p56)=>S=⟨Tc a1 a2 f3 k3 p56 [(0,Ae 2097152 p55)],[],[]⟩) e190 _ (Cj (by kernel_rfl)) rfl 0 (fun _=>rfl) ?_ ?_)))
 ·rintro S _ hfg ⟨p111,rfl,rfl⟩
  obtain rfl:=sj h0
  exact bV (bU hfg (Dk rfl rfl rfl rfl rfl ⟨⟨rfl,Jc (fun _=>rfl)⟩,tv⟩))
 ·rintro ⟨p55,p56⟩ o1 _ K1 rfl h1 hx1 hK1 hE1 hR1
  refine Ba 6 (Tc a1 a2 f3 k3 p56 [(0,Ae 2097152 p55),(14,.bool (decide (p56<a2)))]) [] (Cs h1 (fun iL h1=>?_) (fun iL h1=>?_))
  ·refine Ba 8 (Tc a1 a2 f3 k3 p56 [(0,Ae 2097152 p55),(9,iV p56)]) [] (Bu (bb h1 fun r187 e188 h1=>Cv (R:=(fun S=>∃p163:List Aa,p163=r187∧S=⟨Tc a1 a2 f3 k3 p56 [(0,Ae 2097152 p163)],[],[]⟩)) (Yg a1 is3) (fun s S=>match s with | (p136,p137)=>S=⟨Tc a1 a2 f3 k3 p56 [(0,Ae 2097152 p136),(9,iV p137)],[],[]⟩) e188 _ (Cj (by kernel_rfl)) rfl 2 (fun _=>rfl) ?_ ?_))
   ·rintro S _ hfg ⟨p163,rfl,rfl⟩
    refine Qq (Cb ⟨Tc a1 a2 f3 k3 p56 [(0,Ae 2097152 p163)],[],[]⟩ (tG hfg ⟨rfl,rfl,rfl,rfl,rfl,tv⟩ tv) (Bj 4 ?_))
    obtain rfl:=sj h1
    exact kn hK1 rfl rfl
   ·rintro ⟨p136,p137⟩ o2 _ K2 rfl h2 hx2 hK2 hE2 hR2
    refine Aw (Aw (bb h2 fun y164 e165 h2=>bb h2 fun y166 e167 h2=>bb h2 fun y168 e169 h2=>bb h2 fun y170 e171 h2=>bb h2 fun r172 e173 h2=>Bj 4 (Bq (Al tv (Cw (u:=.clo f3 k3) rfl (fun hg=>(Eb (v:=.clo f3 k3) rfl tv)) (⟨tv,Al tv (Cw (u:=Ae 2097152 p136) rfl (fun hg=>(Eb (v:=Ae 2097152 p136) rfl tv)) (⟨tv,Al tv (Cw (u:=iV p137) rfl (fun hg=>(Eb (v:=iV p137) rfl tv)) (⟨tv,Al tv (Cw (u:=.optr 2097152 4 (0+p137.toNat) 0) rfl (fun hg=>(Fb (e:=Ab) (y:=y164) rfl rfl (fun _=>hg) rfl rfl (fun _=>hg) (ip hg e165))) (⟨tv,Ci (Cw (u:=.agg (Ab y166)) rfl (fun hg=>(Bo (e:=Ab) (y:=y166) (v:=.agg (Ab y166)) rfl rfl (fun _=>hg) rfl rfl (ip hg e167) rfl (nl rfl) rfl)) (⟨⟨Bx (v:=.agg (Ab y166)) rfl (fun hg=>(Bo (e:=Ab) (y:=y166) (v:=.agg (Ab y166)) rfl rfl (fun _=>hg) rfl rfl (ip hg e167) rfl (nl rfl) rfl)) rfl,tv⟩,Al tv (Cw (u:=Ae 2097152 p136) rfl (fun hg=>(Eb (v:=Ae 2097152 p136) rfl tv)) (⟨⟨Bx (v:=.agg (Ab y166)) rfl (fun hg=>(Bo (e:=Ab) (y:=y166) (v:=.agg (Ab y166)) rfl rfl (fun _=>hg) rfl rfl (ip hg e167) rfl (nl rfl) rfl)) rfl,tv⟩,Al tv (Cw (u:=iV p137) rfl (fun hg=>(Eb (v:=iV p137) rfl tv)) (⟨⟨Bx (v:=.agg (Ab y166)) rfl (fun hg=>(Bo (e:=Ab) (y:=y166) (v:=.agg (Ab y166)) rfl rfl (fun _=>hg) rfl rfl (ip hg e167) rfl (nl rfl) rfl)) rfl,tv⟩,Al tv (Cw (u:=iV (wi (p137-1))) rfl (fun hg=>(Bn ⟨(fun _=>hg),tv,tv⟩ rfl tv)) (⟨⟨Bx (v:=.agg (Ab y166)) rfl (fun hg=>(Bo (e:=Ab) (y:=y166) (v:=.agg (Ab y166)) rfl rfl (fun _=>hg) rfl rfl (ip hg e167) rfl (nl rfl) rfl)) rfl,tv⟩,Al tv (Cw (u:=.optr 2097152 4 (0+((wi (p137-1)).toNat)) 0) rfl (fun hg=>(Fb (e:=Ab) (y:=y168) rfl rfl (fun _=>hg) rfl rfl (fun _=>hg) (ip hg e169))) (⟨⟨Bx (v:=.agg (Ab y166)) rfl (fun hg=>(Bo (e:=Ab) (y:=y166) (v:=.agg (Ab y166)) rfl rfl (fun _=>hg) rfl rfl (ip hg e167) rfl (nl rfl) rfl)) rfl,tv⟩,Ci (Cw (u:=.agg (Ab y170)) rfl (fun hg=>(Bo (e:=Ab) (y:=y170) (v:=.agg (Ab y170)) rfl rfl (fun _=>hg) rfl rfl (ip hg e171) rfl (nl rfl) rfl)) (⟨⟨Bx (v:=.agg (Ab y170)) rfl (fun hg=>(Bo (e:=Ab) (y:=y170) (v:=.agg (Ab y170)) rfl rfl (fun _=>hg) rfl rfl (ip hg e171) rfl (nl rfl) rfl)) rfl,Bx (v:=.agg (Ab y166)) rfl (fun hg=>(Bo (e:=Ab) (y:=y166) (v:=.agg (Ab y166)) rfl rfl (fun _=>hg) rfl rfl (ip hg e167) rfl (nl rfl) rfl)) rfl,tv⟩,Ck (Iu (r:=iV r172) rfl rfl rfl (fun hg=>hg) false (fun hg=>hf3 _ _ r172 (ip hg e173)) ⟨(fun hg=>hg),(fun hg=>hg),tv⟩ (fun _=>(ar (Az rfl hs3.2.2.1))) (fun _=>(Bb rfl (Bb rfl (hs3.2.1 _ _ _ _ _)))) (fun _=>rfl) (fun h=>nomatch h) (dw [(0,Ae 2097152 p136),(1,iV a1),(2,iV a2),(3,.clo f3 k3),(8,iV p56),(9,iV p137),(21,.bool (decide (p137>a1))),(32,.may ((decide (p137>a1))==true) (iV r172))] [] tv ?_)) Bg⟩))⟩))⟩))⟩))⟩))⟩))⟩))⟩))⟩))⟩))))))
    refine Al tv (Cw (u:=.bool (decide (r172<0))) rfl (fun hg=>(Bn ⟨(fun _=>hg),tv,tv⟩ rfl tv)) (⟨tv,Al tv (Fw rfl rfl rfl (fun h=>fI h) tv rfl (⟨tv,d_ (Ba 1 (Tc a1 a2 f3 k3 p56 [(0,Ae 2097152 p136),(9,iV p137),(34,.bool (bif (decide (p137>a1)) then (decide (r172<0)) else false))]) [] (Cs h2 (fun c174 h2=>?_) (fun c174 h2=>?_)))⟩))⟩))
    ·refine Ot 4 (bb h2 fun y175 e176 h2=>bb h2 fun y177 e178 h2=>bb h2 fun y179 e180 h2=>bb h2 fun y181 e182 h2=>bb h2 fun y183 e184 h2=>bb h2 fun y185 e186 h2=>Bj 8 (Bq (d_ (Zc rfl rfl rfl e176 (Bq (Ci (c_ (Ol rfl rfl e178) (⟨⟨Df rfl rfl e178 rfl,tv⟩,Al tv (Bm rfl tv (⟨⟨Df rfl rfl e178 rfl,tv⟩,Al tv (Bm rfl tv (⟨⟨Df rfl rfl e178 rfl,tv⟩,Al tv (c_ (Kp rfl rfl e180) (⟨⟨Df rfl rfl e178 rfl,tv⟩,Ci (c_ (Ol rfl rfl e182) (⟨⟨Df rfl rfl e182 rfl,Df rfl rfl e178 rfl,tv⟩,Al tv (c_ (Kp rfl rfl e180) (⟨⟨Df rfl rfl e182 rfl,Df rfl rfl e178 rfl,tv⟩,?_⟩))⟩))⟩))⟩))⟩))⟩))))))))
     refine Ck (Hc (y':=y177) rfl rfl tv rfl rfl rfl rfl e182 (nl rfl) rfl rfl rfl rfl (fG ⟨[(0,Ae 2097152 (p136.set p137.toNat y177)),(1,iV a1),(2,iV a2),(3,.clo f3 k3),(8,iV p56),(9,iV p137),(39,Ae 2097152 (p136.set p137.toNat y177)),(40,iV p137),(41,iV (wi (p137-1))),(50,.agg (Ab y181))],[],[]⟩ (fg ⟨congrArg (fun z=>some ((.own 2097152 0 4 z:V))) Ay,rfl,rfl,rfl,rfl,rfl,congrArg (fun z=>some ((.own 2097152 0 4 z:V))) Ay,rfl,rfl,rfl,tv⟩ tv) ⟨[],⟨⟨.inl tv,Bf (Bn t3 rfl tv) rfl⟩,⟨.inl tv,Bf (Eb (v:=iV p137) rfl tv) rfl⟩,⟨.inl tv,Bf (Eb (v:=Ae 2097152 (p136.set p137.toNat y177)) rfl tv) rfl⟩,tv⟩,tv,d_ (Zc rfl rfl rfl e184 (Bq (Ck (Hc (y':=y181) rfl rfl tv rfl rfl rfl rfl e186 (nl rfl) rfl rfl rfl rfl (d0 tv (Gf (Qq (Cb ⟨[(0,Ae 2097152 ((p136.set p137.toNat y177).set ((wi (p137-1)).toNat) y181)),(1,iV a1),(2,iV a2),(3,.clo f3 k3),(8,iV p56),(9,iV p137)],[],[]⟩ (fg ⟨congrArg (fun z=>some ((.own 2097152 0 4 z:V))) Ay,rfl,rfl,rfl,rfl,rfl,tv⟩ tv) (Bj 4 ?_)))))) Bg)))⟩)) Bg
     obtain rfl:=sj h2
     exact kn hK2 rfl rfl
    ·obtain rfl:=sj h2
     obtain rfl:=hx2 _ rfl
     refine In rfl ?_
     exact jn hE2 ⟨_,rfl,rfl⟩
  ·obtain rfl:=sj h1
   obtain rfl:=hx1 _ rfl
   refine In rfl ?_
   exact jn hE1 ⟨_,rfl,rfl⟩

/- slices.siftDownCmpFunc[loop.example/g00149/impl.Lease] -/
def UU:=[m_ 12 1,m_ 10 12]
def UV:List Cf:=[m_ 13 10,⟨some 14,.p (.bin .mul (.c (iV 2)) (.t 13)),none⟩,B_ .add 15 14 1,m_ 11 15]
def UW:=[m_ 16 11,m_ 17 2,b_ .geq 18 16 17]
def UX:=tk [m_ 19 11,B_ .add 20 19 1,m_ 21 2,b_ .lss 22 20 21,m_ 23 22,mT 23 24 4,mT 23 25 0,mT 23 26 3,mT 23 27 11,pT 23 28 (.bin .add (.t 26) (.t 27)),xT 23 29 25 28 4,lT 23 30 29 4 true,mT 23 31 0,mT 23 32 3,mT 23 33 11,pT 23 34 (.bin .add (.t 32) (.t 33)),pT 23 35 (.bin .add (.t 34) (.c (iV 1))),xT 23 36 31 35 4,lT 23 37 36 4 true] (.alt [] ⟨some 38,.callv (.t 24) [.t 30,.t 37],some (23,true)⟩ (tk [pT 23 39 (.bin .lss (.t 38) (.c (iV 0))),pa 40 23 39] .fin) .stop)
def UY:=[m_ 41 11,B_ .add 42 41 1,m_ 11 42]
def UZ:=tk [m_ 43 4,m_ 44 0,m_ 45 3,m_ 46 10,b_ .add 47 45 46,x_ 48 44 47 4,L_ 49 48 4,m_ 50 0,m_ 51 3,m_ 52 11,b_ .add 53 51 52,x_ 54 50 53 4,L_ 55 54 4] (.alt [] ⟨some 56,.callv (.t 43) [.t 49,.t 55],none⟩ (tk [B_ .lss 57 56 0,N_ 58 57] .fin) .stop)
def VA:=tk [m_ 59 0,m_ 60 3,m_ 61 10,b_ .add 62 60 61,m_ 63 0,m_ 64 3,m_ 65 11,b_ .add 66 64 65,m_ 67 0,m_ 68 3,m_ 69 11,b_ .add 70 68 69,x_ 71 67 70 4,L_ 72 71 4,m_ 73 0,m_ 74 3,m_ 75 10,b_ .add 76 74 75,x_ 77 73 76 4,L_ 78 77 4,x_ 79 59 62 4] (.alt [b_ .add 66 64 65,m_ 65 11,m_ 64 3,m_ 63 0] (s_ 79 72 4) (tk [x_ 80 63 66 4] (.alt [] (s_ 80 78 4) .fin .stop)) .stop)
def VB:=[m_ 81 11,m_ 10 81]
def UT:IR:=(.block 1 (sr UV (.seq (sr UW (iz 18 (.exit 0))) (.seq (sd UX (iz 40 (.reg UY))) (.seq (sd UZ (iz 58 .ret)) (sd VA (.reg VB)))))))
def c159:Dv:=⟨5,82,[],sr UU (Im 0 UT)⟩
def K159 (C:Bl) (D:Bl:=C):Prop:=∀(a0:List Aa) (a1:Int) (a2:Int) (a3:Int) (f4:Nat) (k4:List V) (is4:Aa→Aa→Option Int) (hs4:Jh k4) (hf4:∀(x0:Aa) (x1:Aa) r,is4 x0 x1=some r→C f4 ⟨.agg (Ab x0) :: .agg (Ab x1)::k4,[]⟩ ⟨iV r,[],[]⟩) (r:(List Aa)),DK a0 a1 a2 a3 is4=some r→D 159 ⟨[Ae 2097152 a0,iV a1,iV a2,iV a3,.clo f4 k4],[]⟩ ⟨.tup [],[],[(0,4,r.map Ab)]⟩
abbrev gK:=fun x0 x1 x2 x3 x4 x5 (r:List (Nat×V))=>(0,Ae 2097152 x0)::(2,iV x1)::(3,iV x2)::(4,.clo x3 x4)::(10,iV x5)::r
theorem F159:K159 C (FO C c159):=by
 intro a0 a1 a2 a3 f4 k4 is4 hs4 hf4 r h0
 refine f0 (Ba 4 [(0,Ae 2097152 a0),(2,iV a2),(3,iV a3),(4,.clo f4 k4),(10,iV a1)] [] (Bu (bb h0 fun r122 e123 h0=>Cv (R:=(fun S=>∃p81:List Aa,.inl p81=r122∧S=⟨[(0,Ae 2097152 p81)],[],[]⟩)) (Yu a2 a3 is4) (fun s S=>match s with | (p39,p40)=>S=⟨gK p39 a2 a3 f4 k4 p40 [],[],[]⟩) e123 _ (Cj (by kernel_rfl)) rfl 0 (fun _=>rfl) ?_ ?_)))
 ·rintro S _ hfg ⟨p81,rfl,rfl⟩
  obtain rfl:=sj h0
  exact bV (bU hfg (Dk rfl rfl rfl rfl rfl ⟨⟨rfl,Jc (fun _=>rfl)⟩,tv⟩))
 ·rintro ⟨p39,p40⟩ o1 _ K1 rfl h1 hx1 hK1 hE1 hR1
  refine Ba 14 (gK p39 a2 a3 f4 k4 p40 [(11,iV (wi ((wi (2*p40))+1))),(18,.bool (decide ((wi ((wi (2*p40))+1))≥a2)))]) [] (Cs h1 (fun c82 h1=>?_) (fun c82 h1=>?_))
  ·obtain rfl:=sj h1
   obtain rfl:=hx1 _ rfl
   refine In rfl ?_
   exact jn hE1 ⟨_,rfl,rfl⟩
  ·refine Ot 4 (bb h1 fun y83 e84 h1=>bb h1 fun y85 e86 h1=>bb h1 fun y87 e88 h1=>bb h1 fun y89 e90 h1=>bb h1 fun r91 e92 h1=>Bj 5 (Bq (Al tv (Cw (u:=.clo f4 k4) rfl (fun hg=>(Eb (v:=.clo f4 k4) rfl tv)) (⟨tv,Al tv (Cw (u:=Ae 2097152 p39) rfl (fun hg=>(Eb (v:=Ae 2097152 p39) rfl tv)) (⟨tv,Al tv (Cw (u:=iV a3) rfl (fun hg=>(Eb (v:=iV a3) rfl tv)) (⟨tv,Al tv (Cw (u:=iV (wi ((wi (2*p40))+1))) rfl (fun hg=>(Eb (v:=iV (wi ((wi (2*p40))+1))) rfl tv)) (⟨tv,Al tv (Cw (u:=iV (wi (a3+(wi ((wi (2*p40))+1))))) rfl (fun hg=>(Bn ⟨(fun _=>hg),(fun _=>hg),tv⟩ rfl tv)) (⟨tv,Al tv (Cw (u:=.optr 2097152 4 (0+((wi (a3+(wi ((wi (2*p40))+1)))).toNat)) 0) rfl (fun hg=>(Fb (e:=Ab) (y:=y83) rfl rfl (fun _=>hg) rfl rfl (fun _=>hg) (ip hg e84))) (⟨tv,Ci (Cw (u:=.agg (Ab y85)) rfl (fun hg=>(Bo (e:=Ab) (y:=y85) (v:=.agg (Ab y85)) rfl rfl (fun _=>hg) rfl rfl (ip hg e86) rfl (nl rfl) rfl)) (⟨⟨Bx (v:=.agg (Ab y85)) rfl (fun hg=>(Bo (e:=Ab) (y:=y85) (v:=.agg (Ab y85)) rfl rfl (fun _=>hg) rfl rfl (ip hg e86) rfl (nl rfl) rfl)) rfl,tv⟩,Al tv (Cw (u:=Ae 2097152 p39) rfl (fun hg=>(Eb (v:=Ae 2097152 p39) rfl tv)) (⟨⟨Bx (v:=.agg (Ab y85)) rfl (fun hg=>(Bo (e:=Ab) (y:=y85) (v:=.agg (Ab y85)) rfl rfl (fun _=>hg) rfl rfl (ip hg e86) rfl (nl rfl) rfl)) rfl,tv⟩,Al tv (Cw (u:=iV a3) rfl (fun hg=>(Eb (v:=iV a3) rfl tv)) (⟨⟨Bx (v:=.agg (Ab y85)) rfl (fun hg=>(Bo (e:=Ab) (y:=y85) (v:=.agg (Ab y85)) rfl rfl (fun _=>hg) rfl rfl (ip hg e86) rfl (nl rfl) rfl)) rfl,tv⟩,Al tv (Cw (u:=iV (wi ((wi (2*p40))+1))) rfl (fun hg=>(Eb (v:=iV (wi ((wi (2*p40))+1))) rfl tv)) (⟨⟨Bx (v:=.agg (Ab y85)) rfl (fun hg=>(Bo (e:=Ab) (y:=y85) (v:=.agg (Ab y85)) rfl rfl (fun _=>hg) rfl rfl (ip hg e86) rfl (nl rfl) rfl)) rfl,tv⟩,?_⟩))⟩))⟩))⟩))⟩))⟩))⟩))⟩))⟩))⟩)))))
   refine Al tv (Cw (u:=iV (wi (a3+(wi ((wi (2*p40))+1))))) rfl (fun hg=>(Bn ⟨(fun _=>hg),(fun _=>hg),tv⟩ rfl tv)) (⟨⟨Bx (v:=.agg (Ab y85)) rfl (fun hg=>(Bo (e:=Ab) (y:=y85) (v:=.agg (Ab y85)) rfl rfl (fun _=>hg) rfl rfl (ip hg e86) rfl (nl rfl) rfl)) rfl,tv⟩,Al tv (Cw (u:=iV (wi ((wi (a3+(wi ((wi (2*p40))+1))))+1))) rfl (fun hg=>(Bn ⟨(fun _=>hg),tv,tv⟩ rfl tv)) (⟨⟨Bx (v:=.agg (Ab y85)) rfl (fun hg=>(Bo (e:=Ab) (y:=y85) (v:=.agg (Ab y85)) rfl rfl (fun _=>hg) rfl rfl (ip hg e86) rfl (nl rfl) rfl)) rfl,tv⟩,Al tv (Cw (u:=.optr 2097152 4 (0+((wi ((wi (a3+(wi ((wi (2*p40))+1))))+1)).toNat)) 0) rfl (fun hg=>(Fb (e:=Ab) (y:=y87) rfl rfl (fun _=>hg) rfl rfl (fun _=>hg) (ip hg e88))) (⟨⟨Bx (v:=.agg (Ab y85)) rfl (fun hg=>(Bo (e:=Ab) (y:=y85) (v:=.agg (Ab y85)) rfl rfl (fun _=>hg) rfl rfl (ip hg e86) rfl (nl rfl) rfl)) rfl,tv⟩,Ci (Cw (u:=.agg (Ab y89)) rfl (fun hg=>(Bo (e:=Ab) (y:=y89) (v:=.agg (Ab y89)) rfl rfl (fun _=>hg) rfl rfl (ip hg e90) rfl (nl rfl) rfl)) (⟨⟨Bx (v:=.agg (Ab y89)) rfl (fun hg=>(Bo (e:=Ab) (y:=y89) (v:=.agg (Ab y89)) rfl rfl (fun _=>hg) rfl rfl (ip hg e90) rfl (nl rfl) rfl)) rfl,Bx (v:=.agg (Ab y85)) rfl (fun hg=>(Bo (e:=Ab) (y:=y85) (v:=.agg (Ab y85)) rfl rfl (fun _=>hg) rfl rfl (ip hg e86) rfl (nl rfl) rfl)) rfl,tv⟩,Ck (Iu (r:=iV r91) rfl rfl rfl (fun hg=>hg) false (fun hg=>hf4 _ _ r91 (ip hg e92)) ⟨(fun hg=>hg),(fun hg=>hg),tv⟩ (fun _=>(ar (Az rfl hs4.2.2.1))) (fun _=>(Bb rfl (Bb rfl (hs4.2.1 _ _ _ _ _)))) (fun _=>rfl) (fun h=>nomatch h) (dw [(0,Ae 2097152 p39),(2,iV a2),(3,iV a3),(4,.clo f4 k4),(10,iV p40),(11,iV (wi ((wi (2*p40))+1))),(23,.bool (decide ((wi ((wi ((wi (2*p40))+1))+1))<a2))),(38,.may ((decide ((wi ((wi ((wi (2*p40))+1))+1))<a2))==true) (iV r91))] [] tv (Al tv (Cw (u:=.bool (decide (r91<0))) rfl (fun hg=>(Bn ⟨(fun _=>hg),tv,tv⟩ rfl tv)) (⟨tv,Al tv (Fw rfl rfl rfl (fun h=>fI h) tv rfl (⟨tv,Gf (bv h1 fun v93 e94 h1=>Cb ⟨[(0,Ae 2097152 p39),(2,iV a2),(3,iV a3),(4,.clo f4 k4),(10,iV p40),(11,iV (wi ((wi (2*p40))+1))),(40,.bool v93)],[],[]⟩ (fg ⟨(by subst e94; rfl),(by subst e94; rfl),(by subst e94; rfl),(by subst e94; rfl),(by subst e94; rfl),(by subst e94; rfl),(by subst e94; rfl),tv⟩ tv) (Lw (cb:=v93) (fun S=>∃p96:Int,S=⟨gK p39 a2 a3 f4 k4 p40 [(11,iV p96)],[],[]⟩∧Nq a3 is4 p39 p40 p96=some o1) rfl ?_ (fun qR J120=>?_) (fun qR J120=>?_)))⟩))⟩))))) Bg⟩))⟩))⟩))⟩))
   ·rintro _ ⟨p96,rfl,h1⟩
    refine Ot 3 (bb h1 fun y97 e98 h1=>bb h1 fun y99 e100 h1=>bb h1 fun y101 e102 h1=>bb h1 fun y103 e104 h1=>bb h1 fun r105 e106 h1=>Bj 5 (Bq (d_ (Zc rfl rfl rfl e98 (Bq (Ci (c_ (Ol rfl rfl e100) (⟨⟨Df rfl rfl e100 rfl,tv⟩,Al tv (Bm rfl tv (⟨⟨Df rfl rfl e100 rfl,tv⟩,Al tv (Bm rfl tv (⟨⟨Df rfl rfl e100 rfl,tv⟩,Al tv (Bm rfl tv (⟨⟨Df rfl rfl e100 rfl,tv⟩,Al tv (c_ (Bn t3 rfl tv) (⟨⟨Df rfl rfl e100 rfl,tv⟩,Al tv (c_ (Kp rfl rfl e102) (⟨⟨Df rfl rfl e100 rfl,tv⟩,Ci (c_ (Ol rfl rfl e104) (⟨⟨Df rfl rfl e104 rfl,Df rfl rfl e100 rfl,tv⟩,Ck (He (r:=iV r105) rfl false (hf4 _ _ r105 e106) ⟨tv,tv,tv⟩ (ar (Az rfl hs4.2.2.1)) (Bb rfl (Bb rfl (hs4.2.1 _ _ _ _ _))) (fun _=>rfl) (dw [(0,Ae 2097152 p39),(2,iV a2),(3,iV a3),(4,.clo f4 k4),(10,iV p40),(11,iV p96),(56,iV r105)] [] tv (Al tv (c_ (Bn t3 rfl tv) (⟨tv,?_⟩))))) Bg⟩))⟩))⟩))⟩))⟩))⟩))⟩))))))))
    refine d_ (Ba 2 (gK p39 a2 a3 f4 k4 p40 [(11,iV p96),(58,.bool (!(decide (r105<0))))]) [] (Cs h1 (fun IY h1=>?_) (fun IY h1=>?_)))
    ·obtain rfl:=sj h1
     obtain rfl:=hx1 _ rfl
     obtain rfl:=sj h0
     exact Hj (hR1 _ (Dk rfl rfl rfl rfl rfl ⟨⟨rfl,Jc (fun _=>rfl)⟩,tv⟩))
    ·refine Ot 3 (bb h1 fun y108 e109 h1=>bb h1 fun y110 e111 h1=>bb h1 fun y112 e113 h1=>bb h1 fun y114 e115 h1=>bb h1 fun y116 e117 h1=>bb h1 fun y118 e119 h1=>Bj 12 (Bq (d_ (Zc rfl rfl rfl e109 (Bq (Ci (c_ (Ol rfl rfl e111) (⟨⟨Df rfl rfl e111 rfl,tv⟩,Al tv (Bm rfl tv (⟨⟨Df rfl rfl e111 rfl,tv⟩,?_⟩))⟩))))))))
     refine Al tv (Bm rfl tv (⟨⟨Df rfl rfl e111 rfl,tv⟩,Al tv (Bm rfl tv (⟨⟨Df rfl rfl e111 rfl,tv⟩,Al tv (c_ (Bn t3 rfl tv) (⟨⟨Df rfl rfl e111 rfl,tv⟩,Al tv (c_ (Kp rfl rfl e113) (⟨⟨Df rfl rfl e111 rfl,tv⟩,Ci (c_ (Ol rfl rfl e115) (⟨⟨Df rfl rfl e115 rfl,Df rfl rfl e111 rfl,tv⟩,Al tv (c_ (Kp rfl rfl e113) (⟨⟨Df rfl rfl e115 rfl,Df rfl rfl e111 rfl,tv⟩,Ck (Hc (y':=y110) rfl rfl tv rfl rfl rfl rfl e115 (nl rfl) rfl rfl rfl rfl (fG ⟨[(0,Ae 2097152 (p39.set ((wi (a3+p40)).toNat) y110)),(2,iV a2),(3,iV a3),(4,.clo f4 k4),(11,iV p96),(63,Ae 2097152 (p39.set ((wi (a3+p40)).toNat) y110)),(64,iV a3),(65,iV p96),(66,iV (wi (a3+p96))),(78,.agg (Ab y114))],[],[]⟩ (fg ⟨congrArg (fun z=>some ((.own 2097152 0 4 z:V))) Ay,rfl,rfl,rfl,rfl,congrArg (fun z=>some ((.own 2097152 0 4 z:V))) Ay,rfl,rfl,rfl,rfl,tv⟩ tv) ⟨[],⟨⟨.inl tv,Bf (Bn t3 rfl tv) rfl⟩,⟨.inl tv,Bf (Eb (v:=iV p96) rfl tv) rfl⟩,⟨.inl tv,Bf (Eb (v:=iV a3) rfl tv) rfl⟩,⟨.inl tv,Bf (Eb (v:=Ae 2097152 (p39.set ((wi (a3+p40)).toNat) y110)) rfl tv) rfl⟩,tv⟩,tv,Al tv (c_ (Kp rfl rfl e117) (⟨tv,Ck (Hc (y':=y114) rfl rfl tv rfl rfl rfl rfl e119 (nl rfl) rfl rfl rfl rfl (d0 tv (Gf (Cb ⟨[(0,.own 2097152 0 4 (((p39.set ((wi (a3+p40)).toNat) y110).set ((wi (a3+p96)).toNat) y114).map Ab)),(2,iV a2),(3,iV a3),(4,.clo f4 k4),(11,iV p96)],[],[]⟩ (fg ⟨congrArg (fun z=>some ((.own 2097152 0 4 z:V))) Ay,rfl,rfl,rfl,rfl,tv⟩ tv) (Ar (st (Bm rfl tv (st (Bm rfl tv (Cz (Qq ?_))))))))))) Bg⟩))⟩)) Bg⟩))⟩))⟩))⟩))⟩))⟩))
     obtain rfl:=sj h1
     exact kn hK1 rfl rfl
   ·replace h1:=ip qR h1
    refine Bj 4 ?_
    exact jn J120 ⟨_,rfl,h1⟩
   ·replace h1:=Kn qR h1
    refine Hb ?_
    exact jn J120 ⟨_,rfl,h1⟩

/- slices.heapSortCmpFunc[loop.example/g00149/impl.Lease] -/
def QM:=[m_ 13 1,m_ 8 13]
def QN:=[i_ 9 0]
def QO:=[m_ 14 2,m_ 15 1,b_ .sub 16 14 15,m_ 10 16]
def QP:=[m_ 17 10,B_ .sub 18 17 1,B_ .quo 19 18 2,m_ 11 19]
def QQ:=[m_ 20 11,B_ .geq 21 20 0]
def QR:=[m_ 24 0,m_ 25 11,m_ 26 10,m_ 27 8,m_ 28 3,q_ 29 159 [.t 24,.t 25,.t 26,.t 27,.t 28]]
def QS:=[m_ 22 11,B_ .sub 23 22 1,m_ 11 23]
def QK:IR:=(.seq (sr QQ (.ite (.t 21) .skip (.exit 0))) (.seq (.block 1 (.reg QR)) (.reg QS)))
def QT:=[m_ 30 10,B_ .sub 31 30 1,m_ 12 31]
def QU:=[m_ 32 12,B_ .geq 33 32 0]
def QV:=tk [m_ 36 0,m_ 37 8,m_ 38 0,m_ 39 8,m_ 40 12,b_ .add 41 39 40,m_ 42 0,m_ 43 8,m_ 44 12,b_ .add 45 43 44,x_ 46 42 45 4,L_ 47 46 4,m_ 48 0,m_ 49 8,x_ 50 48 49 4,L_ 51 50 4,x_ 52 36 37 4] (.alt [b_ .add 41 39 40,m_ 40 12,m_ 39 8,m_ 38 0] (s_ 52 47 4) (tk [x_ 53 38 41 4] (.alt [] (s_ 53 51 4) .fin .stop)) .stop)
def wZ:=[m_ 54 0,m_ 55 9,m_ 56 12,m_ 57 8,m_ 58 3,q_ 59 159 [.t 54,.t 55,.t 56,.t 57,.t 58]]
def xA:=[m_ 34 12,B_ .sub 35 34 1,m_ 12 35]
def QL:IR:=(.seq (sr QU (.ite (.t 33) .skip (.exit 2))) (.seq (.block 3 (sd QV (.reg wZ))) (.reg xA)))
def c149:Dv:=⟨4,60,[],sr QM (sr QN (sr QO (.seq (sr QP (Im 0 QK)) (sr QT (Im 2 QL)))))⟩
def K149 (C:Bl) (D:Bl:=C):Prop:=∀(a0:List Aa) (a1:Int) (a2:Int) (f3:Nat) (k3:List V) (is3:Aa→Aa→Option Int) (hs3:Jh k3) (hf3:∀(x0:Aa) (x1:Aa) r,is3 x0 x1=some r→C f3 ⟨.agg (Ab x0) :: .agg (Ab x1)::k3,[]⟩ ⟨iV r,[],[]⟩) (r:(List Aa)),g149 a0 a1 a2 is3=some r→D 149 ⟨[Ae 2097152 a0,iV a1,iV a2,.clo f3 k3],[]⟩ ⟨.tup [],[],[(0,4,r.map Ab)]⟩
abbrev Qa:=fun x0 x1 x2 (r:List (Nat×V))=>(3,.clo x0 x1)::(8,iV x2)::(9,iV 0)::r
theorem F149 (H159:K159 C):K149 C (FO C c149):=by
 intro a0 a1 a2 f3 k3 is3 hs3 hf3 r h0
 refine f0 (Ba 15 (Qa f3 k3 a1 [(0,Ae 2097152 a0),(10,iV (wi (a2-a1)))]) [] (Aw (Aw (Ar (st (Bm rfl tv (st (c_ (Bn t3 rfl tv) (st (c_ (Bn ⟨tv,tv,tv⟩ rfl (by decide)) (st (Bm rfl tv (Cz (bv h0 fun v1 e2 h0=>Cb ⟨[(0,Ae 2097152 a0),(3,.clo f3 k3),(8,iV a1),(9,iV 0),(10,iV (wi (a2-a1))),(11,iV v1)],[],[]⟩ (fg ⟨(by subst e2; rfl),(by subst e2; rfl),(by subst e2; rfl),(by subst e2; rfl),(by subst e2; rfl),(by subst e2; rfl),tv⟩ tv) (Bu (bb h0 fun r20 e21 h0=>Cv (R:=(fun S=>∃p15:List Aa,p15=r20∧S=⟨Qa f3 k3 a1 [(0,Ae 2097152 p15),(10,iV (wi (a2-a1)))],[],[]⟩)) (Yh a1 a2 is3) (fun s S=>match s with | (p7,p8)=>S=⟨Qa f3 k3 a1 [(0,Ae 2097152 p7),(10,iV (wi (a2-a1))),(11,iV p8)],[],[]⟩) e21 _ (Cj (by kernel_rfl)) rfl 0 (fun _=>rfl) ?_ ?_))))))))))))))))
 ·rintro S _ hfg ⟨p15,rfl,rfl⟩
  refine Cb ⟨Qa f3 k3 a1 [(0,Ae 2097152 p15),(10,iV (wi (a2-a1)))],[],[]⟩ (tG hfg ⟨rfl,rfl,rfl,rfl,rfl,tv⟩ tv) (Ba 5 (Qa f3 k3 a1 [(0,Ae 2097152 p15),(12,iV (wi ((wi (a2-a1))-1)))]) [] (Bu (bb h0 fun r75 e76 h0=>Cv (R:=(fun S=>∃p58:List Aa,p58=r75∧S=⟨[(0,Ae 2097152 p58)],[],[]⟩)) (Yi a1 is3) (fun s S=>match s with | (p38,p39)=>S=⟨Qa f3 k3 a1 [(0,Ae 2097152 p38),(12,iV p39)],[],[]⟩) e76 _ (Cj (by kernel_rfl)) rfl 2 (fun _=>rfl) ?_ ?_)))
  ·rintro S _ hfg ⟨p58,rfl,rfl⟩
   obtain rfl:=sj h0
   exact bV (bU hfg (Dk rfl rfl rfl rfl rfl ⟨⟨rfl,Jc (fun _=>rfl)⟩,tv⟩))
  ·rintro ⟨p38,p39⟩ o1 _ K1 rfl h1 hx1 hK1 hE1 hR1
   refine Ba 5 (Qa f3 k3 a1 [(0,Ae 2097152 p38),(12,iV p39),(33,.bool (decide (p39≥0)))]) [] (Cs h1 (fun c59 h1=>?_) (fun c59 h1=>?_))
   ·refine Ot 5 (bb h1 fun y60 e61 h1=>bb h1 fun y62 e63 h1=>bb h1 fun y64 e65 h1=>bb h1 fun y66 e67 h1=>bb h1 fun y68 e69 h1=>bb h1 fun y70 e71 h1=>Bq (Al tv (Bm rfl tv (⟨tv,Al tv (Bm rfl tv (⟨tv,Al tv (Bm rfl tv (⟨tv,Al tv (Bm rfl tv (⟨tv,Al tv (Bm rfl tv (⟨tv,Al tv (c_ (Bn t3 rfl tv) (⟨tv,Al tv (Bm rfl tv (⟨tv,Al tv (Bm rfl tv (⟨tv,Al tv (Bm rfl tv (⟨tv,Al tv (c_ (Bn t3 rfl tv) (⟨tv,d_ (Zc rfl rfl rfl e61 (Bq (Ci (c_ (Ol rfl rfl e63) (⟨⟨Df rfl rfl e63 rfl,tv⟩,Al tv (Bm rfl tv (⟨⟨Df rfl rfl e63 rfl,tv⟩,Al tv (Bm rfl tv (⟨⟨Df rfl rfl e63 rfl,tv⟩,Al tv (c_ (Kp rfl rfl e65) (⟨⟨Df rfl rfl e63 rfl,tv⟩,?_⟩))⟩))⟩))⟩)))))⟩))⟩))⟩))⟩))⟩))⟩))⟩))⟩))⟩))⟩))))
    refine Ci (c_ (Ol rfl rfl e67) (⟨⟨Df rfl rfl e67 rfl,Df rfl rfl e63 rfl,tv⟩,Al tv (c_ (Kp rfl rfl e65) (⟨⟨Df rfl rfl e67 rfl,Df rfl rfl e63 rfl,tv⟩,Ck (Hc (y':=y62) rfl rfl tv rfl rfl rfl rfl e67 (nl rfl) rfl rfl rfl rfl (fG ⟨[(0,Ae 2097152 (p38.set a1.toNat y62)),(3,.clo f3 k3),(8,iV a1),(9,iV 0),(12,iV p39),(38,Ae 2097152 (p38.set a1.toNat y62)),(39,iV a1),(40,iV p39),(41,iV (wi (a1+p39))),(51,.agg (Ab y66))],[],[]⟩ (fg ⟨congrArg (fun z=>some ((.own 2097152 0 4 z:V))) Ay,rfl,rfl,rfl,rfl,congrArg (fun z=>some ((.own 2097152 0 4 z:V))) Ay,rfl,rfl,rfl,rfl,tv⟩ tv) ⟨[],⟨⟨.inl tv,Bf (Bn t3 rfl tv) rfl⟩,⟨.inl tv,Bf (Eb (v:=iV p39) rfl tv) rfl⟩,⟨.inl tv,Bf (Eb (v:=iV a1) rfl tv) rfl⟩,⟨.inl tv,Bf (Eb (v:=Ae 2097152 (p38.set a1.toNat y62)) rfl tv) rfl⟩,tv⟩,tv,Al tv (c_ (Kp rfl rfl e69) (⟨tv,Ck (Hc (y':=y66) rfl rfl tv rfl rfl rfl rfl e71 (nl rfl) rfl rfl rfl rfl (d0 tv (Gf (Cb ⟨[(0,Ae 2097152 ((p38.set a1.toNat y62).set ((wi (a1+p39)).toNat) y66)),(3,.clo f3 k3),(8,iV a1),(9,iV 0),(12,iV p39)],[],[]⟩ (fg ⟨congrArg (fun z=>some ((.own 2097152 0 4 z:V))) Ay,rfl,rfl,rfl,rfl,tv⟩ tv) (Ar (st (Bm rfl tv (st (Bm rfl tv (st (Bm rfl tv (st (Bm rfl tv (st (Bm rfl tv (bb h1 fun r72 e73 h1=>gg h1 fun c74 h1=>st (Ef [] [2097152] [] false (H159 ((p38.set a1.toNat y62).set ((wi (a1+p39)).toNat) y66) 0 p39 a1 f3 k3 is3 hs3 hf3 r72 e73) ⟨tv,tv,tv,tv,tv,tv⟩ (by kernel_rfl) (congrArg (fun z=>Gq.mk z []) (Bb rfl (Bb rfl (Bb rfl (Bb rfl (Bb (Ey hs3) rfl)))))) (by kernel_rfl) (by kernel_rfl) (fun _=>Az rfl (Az (cH (fun _=>rfl)) rfl)) (Cz (Qq (Cb ⟨[(0,Ae 2097152 r72),(3,.clo f3 k3),(8,iV a1),(9,iV 0),(12,iV p39)],[],[]⟩ (fg ⟨congrArg (fun z=>some ((z:V))) (Fa c74),rfl,rfl,rfl,rfl,tv⟩ tv) (Ar (st (Bm rfl tv (st (c_ (Bn t3 rfl tv) (st (Bm rfl tv (Cz ?_)))))))))))))))))))))))))))) Bg⟩))⟩)) Bg⟩))⟩))
    obtain rfl:=sj h1
    exact kn hK1 rfl rfl
   ·obtain rfl:=sj h1
    obtain rfl:=hx1 _ rfl
    refine In rfl ?_
    exact jn hE1 ⟨_,rfl,rfl⟩
 ·rintro ⟨p7,p8⟩ o1 _ K1 rfl h1 hx1 hK1 hE1 hR1
  refine Ba 5 (Qa f3 k3 a1 [(0,Ae 2097152 p7),(10,iV (wi (a2-a1))),(11,iV p8),(21,.bool (decide (p8≥0)))]) [] (Cs h1 (fun c16 h1=>?_) (fun c16 h1=>?_))
  ·refine Hb (cK (Aw (Bu (Ar (st (Bm rfl tv (st (Bm rfl tv (st (Bm rfl tv (st (Bm rfl tv (st (Bm rfl tv (bb h1 fun r17 e18 h1=>gg h1 fun c19 h1=>st (Ef [] [2097152] [] false (H159 p7 p8 (wi (a2-a1)) a1 f3 k3 is3 hs3 hf3 r17 e18) ⟨tv,tv,tv,tv,tv,tv⟩ (by kernel_rfl) (congrArg (fun z=>Gq.mk z []) (Bb rfl (Bb rfl (Bb rfl (Bb rfl (Bb (Ey hs3) rfl)))))) (by kernel_rfl) (by kernel_rfl) (fun _=>Az rfl (Az (cH (fun _=>rfl)) rfl)) (Cz (Qq (Cb ⟨[(0,Ae 2097152 r17),(3,.clo f3 k3),(8,iV a1),(9,iV 0),(10,iV (wi (a2-a1))),(11,iV p8)],[],[]⟩ (fg ⟨congrArg (fun z=>some ((z:V))) (Fa c19),rfl,rfl,rfl,rfl,rfl,tv⟩ tv) (Ar (st (Bm rfl tv (st (c_ (Bn t3 rfl tv) (st (Bm rfl tv (Cz ?_)))))))))))))))))))))))))))
   obtain rfl:=sj h1
   exact kn hK1 rfl rfl
  ·obtain rfl:=sj h1
   obtain rfl:=hx1 _ rfl
   refine In rfl ?_
   exact jn hE1 ⟨_,rfl,rfl⟩

/- math/bits.Len32 -/
def UB:=[i_ 2 0]
def UC:List Cf:=[m_ 3 0,⟨some 4,.p (.bin .geq (.t 3) (.c (.int .u32 65536))),none⟩]
def UD:List Cf:=[m_ 5 0,⟨some 6,.p (.bin .shr (.t 5) (.c (.int .u64 16))),none⟩,m_ 0 6]
def UE:=[i_ 2 16]
def UF:List Cf:=[m_ 7 0,⟨some 8,.p (.bin .geq (.t 7) (.c (.int .u32 256))),none⟩]
def UG:List Cf:=[m_ 9 0,⟨some 10,.p (.bin .shr (.t 9) (.c (.int .u64 8))),none⟩,m_ 0 10]
def UH:=[m_ 11 2,B_ .add 12 11 8,m_ 2 12]
def UI:List Cf:=[m_ 13 2,m_ 14 0,iQ 15 (.conv .u8 (.t 14)),⟨some 16,.p (.idxStr (.c (.str [0,1,2,2,3,3,3,3,4,4,4,4,4,4,4,4,5,5,5,5,5,5,5,5,5,5,5,5,5,5,5,5,6,6,6,6,6,6,6,6,6,6,6,6,6,6,6,6,6,6,6,6,6,6,6,6,6,6,6,6,6,6,6,6,7,7,7,7,7,7,7,7,7,7,7,7,7,7,7,7,7,7,7,7,7,7,7,7,7,7,7,7,7,7,7,7,7,7,7,7,7,7,7,7,7,7,7,7,7,7,7,7,7,7,7,7,7,7,7,7,7,7,7,7,7,7,7,7,8,8,8,8,8,8,8,8,8,8,8,8,8,8,8,8,8,8,8,8,8,8,8,8,8,8,8,8,8,8,8,8,8,8,8,8,8,8,8,8,8,8,8,8,8,8,8,8,8,8,8,8,8,8,8,8,8,8,8,8,8,8,8,8,8,8,8,8,8,8,8,8,8,8,8,8,8,8,8,8,8,8,8,8,8,8,8,8,8,8,8,8,8,8,8,8,8,8,8,8,8,8,8,8,8,8,8,8,8,8,8,8,8,8,8,8,8,8,8,8,8,8,8,8,8,8,8,8])) (.t 15)),none⟩,iQ 17 (.conv .i64 (.t 16)),b_ .add 18 13 17,m_ 2 18]
def UA:Dv:=⟨1,19,[.t 2],sr UB (.seq (sr UC (iz 4 (sr UD (.reg UE)))) (.seq (sr UF (iz 8 (sr UG (.reg UH)))) (rr UI)))⟩
def K156 (D:Bl):Prop:=∀a0 r,g156 a0=some r→D 156 ⟨[.int .u32 a0],[]⟩ ⟨iV r,[],[]⟩
theorem F156:K156 (FO C UA):=by
 intro a0 r h0
 refine f0 (Ba 9 [(0,.int .u32 a0),(2,iV 0),(4,.bool (decide (a0≥65536)))] [] (Lw (cb:=(decide (a0≥65536))) (fun S=>∃p2:Int,∃p3:Int,S=⟨[(0,.int .u32 p2),(2,iV p3)],[],[]⟩∧fP p2 p3=some r) rfl ?_ (fun c12 J11=>?_) (fun c12 J11=>?_)))
 ·rintro _ ⟨p2,p3,rfl,h0⟩
  refine Ba 6 [(0,.int .u32 p2),(2,iV p3),(8,.bool (decide (p2≥256)))] [] (Lw (cb:=(decide (p2≥256))) (fun S=>∃p5:Int,∃p6:Int,S=⟨[(0,.int .u32 p5),(2,iV p6)],[],[]⟩∧fQ p5 p6=some r) rfl ?_ (fun c10 J9=>?_) (fun c10 J9=>?_))
  ·rintro _ ⟨p5,p6,rfl,h0⟩
   refine Bj 4 (Ar (st (c_ (cb8 (Bn ⟨tv,tv⟩ rfl tv)) (bb h0 fun y7 e8 h0=>st (c_ (cidxS (y:=y7) rfl rfl tv rfl rfl tv e8) (o_ ?_))))))
   obtain rfl:=sj h0
   exact Cy 5
  ·replace h0:=ip c10 h0
   refine Aw (Ar (st (Bm rfl tv (st (c_ (Bn ⟨tv,tv,tv⟩ rfl (by decide)) (o_ (Ba 2 [(0,.int .u32 (Nu .u32 p2 8)),(2,iV p3)] [] (Bj 4 ?_))))))))
   exact jn J9 ⟨_,_,rfl,h0⟩
  ·replace h0:=Kn c10 h0
   refine Hb ?_
   exact jn J9 ⟨_,_,rfl,h0⟩
 ·replace h0:=ip c12 h0
  refine Aw (Ar (st (Bm rfl tv (st (c_ (Bn ⟨tv,tv,tv⟩ rfl (by decide)) (o_ (Ba 2 [(0,.int .u32 (Nu .u32 a0 16))] [] (Ar (st (Ff tv (Cz ?_)))))))))))
  exact jn J11 ⟨_,_,rfl,h0⟩
 ·replace h0:=Kn c12 h0
  refine Hb ?_
  exact jn J11 ⟨_,_,rfl,h0⟩

/- math/bits.Len64 -/
def UJ:=[i_ 2 0]
def UK:List Cf:=[m_ 3 0,⟨some 4,.p (.bin .geq (.t 3) (.c (.int .u64 4294967296))),none⟩]
def UL:List Cf:=[m_ 5 0,⟨some 6,.p (.bin .shr (.t 5) (.c (.int .u64 32))),none⟩,m_ 0 6]
def UM:=[i_ 2 32]
def UN:List Cf:=[m_ 7 0,⟨some 8,.p (.bin .geq (.t 7) (.c (.int .u64 65536))),none⟩]
def UO:List Cf:=[m_ 9 0,⟨some 10,.p (.bin .shr (.t 9) (.c (.int .u64 16))),none⟩,m_ 0 10]
def UP:=[m_ 11 2,B_ .add 12 11 16,m_ 2 12]
def UQ:List Cf:=[m_ 13 0,⟨some 14,.p (.bin .geq (.t 13) (.c (.int .u64 256))),none⟩]
def UR:List Cf:=[m_ 15 0,⟨some 16,.p (.bin .shr (.t 15) (.c (.int .u64 8))),none⟩,m_ 0 16]
def US:=[m_ 17 2,B_ .add 18 17 8,m_ 2 18]
def yQ:List Cf:=[m_ 19 2,m_ 20 0,iQ 21 (.conv .u8 (.t 20)),⟨some 22,.p (.idxStr (.c (.str [0,1,2,2,3,3,3,3,4,4,4,4,4,4,4,4,5,5,5,5,5,5,5,5,5,5,5,5,5,5,5,5,6,6,6,6,6,6,6,6,6,6,6,6,6,6,6,6,6,6,6,6,6,6,6,6,6,6,6,6,6,6,6,6,7,7,7,7,7,7,7,7,7,7,7,7,7,7,7,7,7,7,7,7,7,7,7,7,7,7,7,7,7,7,7,7,7,7,7,7,7,7,7,7,7,7,7,7,7,7,7,7,7,7,7,7,7,7,7,7,7,7,7,7,7,7,7,7,8,8,8,8,8,8,8,8,8,8,8,8,8,8,8,8,8,8,8,8,8,8,8,8,8,8,8,8,8,8,8,8,8,8,8,8,8,8,8,8,8,8,8,8,8,8,8,8,8,8,8,8,8,8,8,8,8,8,8,8,8,8,8,8,8,8,8,8,8,8,8,8,8,8,8,8,8,8,8,8,8,8,8,8,8,8,8,8,8,8,8,8,8,8,8,8,8,8,8,8,8,8,8,8,8,8,8,8,8,8,8,8,8,8,8,8,8,8,8,8,8,8,8,8,8,8,8,8])) (.t 21)),none⟩,iQ 23 (.conv .i64 (.t 22)),b_ .add 24 19 23,m_ 2 24]
def c157:Dv:=⟨1,25,[.t 2],sr UJ (.seq (sr UK (iz 4 (sr UL (.reg UM)))) (.seq (sr UN (iz 8 (sr UO (.reg UP)))) (.seq (sr UQ (iz 14 (sr UR (.reg US)))) (rr yQ))))⟩
def K157 (D:Bl):Prop:=∀a0 r,g157 a0=some r→D 157 ⟨[.int .u64 a0],[]⟩ ⟨iV r,[],[]⟩
theorem F157:K157 (FO C c157):=by
 intro a0 r h0
 refine f0 (Ba 9 [(0,.int .u64 a0),(2,iV 0),(4,.bool (decide (a0≥4294967296)))] [] (Lw (cb:=(decide (a0≥4294967296))) (fun S=>∃p2:Int,∃p3:Int,S=⟨[(0,.int .u64 p2),(2,iV p3)],[],[]⟩∧Yt p2 p3=some r) rfl ?_ (fun c17 J16=>?_) (fun c17 J16=>?_)))
 ·rintro _ ⟨p2,p3,rfl,h0⟩
  refine Ba 6 [(0,.int .u64 p2),(2,iV p3),(8,.bool (decide (p2≥65536)))] [] (Lw (cb:=(decide (p2≥65536))) (fun S=>∃p5:Int,∃p6:Int,S=⟨[(0,.int .u64 p5),(2,iV p6)],[],[]⟩∧Uf p5 p6=some r) rfl ?_ (fun c15 J14=>?_) (fun c15 J14=>?_))
  ·rintro _ ⟨p5,p6,rfl,h0⟩
   refine Ba 6 [(0,.int .u64 p5),(2,iV p6),(14,.bool (decide (p5≥256)))] [] (Lw (cb:=(decide (p5≥256))) (fun S=>∃p8:Int,∃p9:Int,S=⟨[(0,.int .u64 p8),(2,iV p9)],[],[]⟩∧Ug p8 p9=some r) rfl ?_ (fun c13 J12=>?_) (fun c13 J12=>?_))
   ·rintro _ ⟨p8,p9,rfl,h0⟩
    refine Bj 4 (Ar (st (c_ (cb8 (Bn ⟨tv,tv⟩ rfl tv)) (bb h0 fun y10 e11 h0=>st (c_ (cidxS (y:=y10) rfl rfl tv rfl rfl tv e11) (o_ ?_))))))
    obtain rfl:=sj h0
    exact Cy 5
   ·replace h0:=ip c13 h0
    refine Aw (Ar (st (Bm rfl tv (st (c_ (Bn ⟨tv,tv,tv⟩ rfl (by decide)) (o_ (Ba 2 [(0,.int .u64 (Nu .u64 p5 8)),(2,iV p6)] [] (Bj 4 ?_))))))))
    exact jn J12 ⟨_,_,rfl,h0⟩
   ·replace h0:=Kn c13 h0
    refine Hb ?_
    exact jn J12 ⟨_,_,rfl,h0⟩
  ·replace h0:=ip c15 h0
   refine Aw (Ar (st (Bm rfl tv (st (c_ (Bn ⟨tv,tv,tv⟩ rfl (by decide)) (o_ (Ba 2 [(0,.int .u64 (Nu .u64 p2 16)),(2,iV p3)] [] (Bj 4 ?_))))))))
   exact jn J14 ⟨_,_,rfl,h0⟩
  ·replace h0:=Kn c15 h0
   refine Hb ?_
   exact jn J14 ⟨_,_,rfl,h0⟩
 ·replace h0:=ip c17 h0
  refine Aw (Ar (st (Bm rfl tv (st (c_ (Bn ⟨tv,tv,tv⟩ rfl (by decide)) (o_ (Ba 2 [(0,.int .u64 (Nu .u64 a0 32))] [] (Ar (st (Ff tv (Cz ?_)))))))))))
  exact jn J16 ⟨_,_,rfl,h0⟩
 ·replace h0:=Kn c17 h0
  refine Hb ?_
  exact jn J16 ⟨_,_,rfl,h0⟩

/- math/bits.Len -/
def PG:=[i_ 2 0]
def PH:=[m_ 3 0,iQ 4 (.conv .u32 (.t 3)),q_ 5 156 [.t 4],m_ 2 5]
def PI:=[m_ 6 0,q_ 7 157 [.t 6],m_ 2 7]
def PF:Dv:=⟨1,8,[.t 2],sr PG (.seq (.ite (.c (.bool false)) (rr PH) .skip) (rr PI))⟩
def HQ (D:Bl):Prop:=∀a0 r,DH a0=some r→D 138 ⟨[.int .u64 a0],[]⟩ ⟨iV r,[],[]⟩
theorem F138 (H156:K156 C) (H157:K157 C):HQ (FO C PF):=by
 intro a0 r h0
 refine f0 (Ba 3 [(0,.int .u64 a0)] [] (Aw (Cs h0 (fun c1 h0=>?_) (fun c1 h0=>?_))))
 ·refine Bj 3 (Ar (bb h0 fun r2 e3 h0=>Sn (H156 (IntKind.u32.wrap a0) r2 e3) (o_ ?_)))
  obtain rfl:=sj h0
  exact Cy 3
 ·refine Bj 4 (Ar (bb h0 fun r4 e5 h0=>Sn (H157 a0 r4 e5) (o_ ?_)))
  obtain rfl:=sj h0
  exact Cy 3

/- slices.nextPowerOfTwo -/
def VC:=[k_ 2 (.int .u64 0)]
def VD:List Cf:=[m_ 3 0,iQ 4 (.conv .u64 (.t 3)),q_ 5 138 [.t 4],⟨some 6,.p (.bin .shl (.c (.int .u64 1)) (.t 5)),none⟩,m_ 2 6]
def c160:Dv:=⟨1,7,[.t 2],sr VC (rr VD)⟩
def K160 (D:Bl):Prop:=∀a0 r,g160 a0=some r→D 160 ⟨[iV a0],[]⟩ ⟨.int .u64 r,[],[]⟩
theorem F160 (H138:HQ C):K160 (FO C c160):=by
 intro a0 r h0
 refine f0 (Ba 3 [(0,iV a0)] [] (Bj 3 (Ar (bb h0 fun r1 e2 h0=>Sn (H138 (IntKind.u64.wrap a0) r1 e2) (gg h0 fun c3 h0=>st (c_ (Bn ⟨tv,tv,tv⟩ rfl c3) (o_ ?_)))))))
 obtain rfl:=sj h0
 exact Cy 3

/- (*slices.xorshift).Next -/
def VE:=[k_ 2 (.int .u64 0)]
def VF:=tk [m_ 3 0,iQ 4 (.nilc (.t 3)),l_ 5 4 1,m_ 6 0,iQ 7 (.nilc (.t 6)),l_ 8 7 1,⟨some 9,.p (.bin .shl (.t 8) (.c (.int .u64 13))),none⟩,b_ .xor 10 5 9,iQ 11 (.nilc (.t 3))] (.alt [] (s_ 11 10 1) .fin .stop)
def VG:=tk [m_ 12 0,iQ 13 (.nilc (.t 12)),l_ 14 13 1,m_ 15 0,iQ 16 (.nilc (.t 15)),l_ 17 16 1,⟨some 18,.p (.bin .shr (.t 17) (.c (.int .u64 7))),none⟩,b_ .xor 19 14 18,iQ 20 (.nilc (.t 12))] (.alt [] (s_ 20 19 1) .fin .stop)
def VH:=tk [m_ 21 0,iQ 22 (.nilc (.t 21)),l_ 23 22 1,m_ 24 0,iQ 25 (.nilc (.t 24)),l_ 26 25 1,⟨some 27,.p (.bin .shl (.t 26) (.c (.int .u64 17))),none⟩,b_ .xor 28 23 27,iQ 29 (.nilc (.t 21))] (.alt [] (s_ 29 28 1) .fin .stop)
def VI:=[m_ 30 0,iQ 31 (.nilc (.t 30)),l_ 32 31 1,m_ 2 32]
def c161:Dv:=⟨1,33,[.t 2],sr VE (sd VF (sd VG (sd VH (rr VI))))⟩
def K161 (D:Bl):Prop:=∀a0 r,g161 a0=some r→D 161 ⟨[.ptr 1048576 0],[[.int .u64 a0]]⟩ ⟨.int .u64 r.1,[[.int .u64 r.2]],[]⟩
theorem F161:K161 (FO C c161):=by
 intro a0 r h0
 refine f0 (Ba 3 [(0,.ptr 1048576 0)] [(1048576,[.int .u64 a0])] (Aw (Bq (Al tv (Bm rfl tv (⟨tv,Al tv (c_ (Bn ⟨tv,tv⟩ rfl tv) (⟨tv,Al tv (c_ (Bn ⟨tv,tv⟩ rfl (nl rfl)) (⟨tv,Al tv (Bm rfl tv (⟨tv,Al tv (c_ (Bn ⟨tv,tv⟩ rfl tv) (⟨tv,Al tv (c_ (Bn ⟨tv,tv⟩ rfl (nl rfl)) (⟨tv,Al tv (c_ (Bn ⟨tv,tv,tv⟩ rfl (by decide)) (⟨tv,Al tv (c_ (Bn t3 rfl tv) (⟨tv,Al tv (c_ (Bn ⟨tv,tv⟩ rfl tv) (⟨tv,Ck (Gm rfl rfl tv rfl rfl rfl (nl rfl) (d0 tv (d_ (Ba 1 [(0,.ptr 1048576 0)] [(1048576,[.int .u64 (cP .u64 a0 (gE .u64 a0 13))])] (Aw ?_))))) Bg⟩))⟩))⟩))⟩))⟩))⟩))⟩))⟩))⟩))))))
 refine Bq (Al tv (Bm rfl tv (⟨tv,Al tv (c_ (Bn ⟨tv,tv⟩ rfl tv) (⟨tv,Al tv (c_ (Bn ⟨tv,tv⟩ rfl (nl rfl)) (⟨tv,Al tv (Bm rfl tv (⟨tv,Al tv (c_ (Bn ⟨tv,tv⟩ rfl tv) (⟨tv,Al tv (c_ (Bn ⟨tv,tv⟩ rfl (nl rfl)) (⟨tv,Al tv (c_ (Bn ⟨tv,tv,tv⟩ rfl (by decide)) (⟨tv,Al tv (c_ (Bn t3 rfl tv) (⟨tv,Al tv (c_ (Bn ⟨tv,tv⟩ rfl tv) (⟨tv,Ck (Gm rfl rfl tv rfl rfl rfl (nl rfl) (d0 tv (Gf (bv h0 fun v1 e2 h0=>Cb ⟨[(0,.ptr 1048576 0)],[(1048576,[.int .u64 v1])],[]⟩ (Cj (by subst e2; kernel_rfl)) (Aw (Bq (Al tv (Bm rfl tv (⟨tv,Al tv (c_ (Bn ⟨tv,tv⟩ rfl tv) (⟨tv,Al tv (c_ (Bn ⟨tv,tv⟩ rfl (nl rfl)) (⟨tv,Al tv (Bm rfl tv (⟨tv,Al tv (c_ (Bn ⟨tv,tv⟩ rfl tv) (⟨tv,Al tv (c_ (Bn ⟨tv,tv⟩ rfl (nl rfl)) (⟨tv,Al tv (c_ (Bn ⟨tv,tv,tv⟩ rfl (by decide)) (⟨tv,Al tv (c_ (Bn t3 rfl tv) (⟨tv,Al tv (c_ (Bn ⟨tv,tv⟩ rfl tv) (⟨tv,Ck (Gm rfl rfl tv rfl rfl rfl (nl rfl) (d0 tv (d_ (Ba 1 [(0,.ptr 1048576 0)] [(1048576,[.int .u64 (cP .u64 v1 (gE .u64 v1 17))])] (Aw (Ar (st (Bm rfl tv (st (c_ (Bn ⟨tv,tv⟩ rfl tv) (st (c_ (Bn ⟨tv,tv⟩ rfl (nl rfl)) (st (Bm rfl tv ?_)))))))))))))) Bg⟩))⟩))⟩))⟩))⟩))⟩))⟩))⟩))⟩))))))))) Bg⟩))⟩))⟩))⟩))⟩))⟩))⟩))⟩))⟩)))
 refine o_ ?_
 obtain rfl:=sj h0
 exact Cy 2
end Go.Ev
