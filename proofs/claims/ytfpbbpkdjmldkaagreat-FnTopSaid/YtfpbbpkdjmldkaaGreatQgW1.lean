/- The walks of functions: the code comes to the answers that QgD tells. Written by a program of ours. -/
import Derived.Test.YtfpbbpkdjmldkaaGreatQgW0
set_option linter.all false
set_option maxHeartbeats 4000000
set_option linter.unusedVariables false
set_option maxRecDepth 100000
namespace Go.Ev
variable {C:Ba}

/- (loop.example/g00149/impl.Device).own -/
def Aen:=[X_ 1 0,a_ 2 [.own 129 0 1 [],.own 130 0 2 []]]
def Aeo:List Bj:=[f_ 6 1 0,l_ 7 6 1,q_ 8 325 [.t 7],⟨some 9,.p (.build [.own 577 0 1 [],.own 578 0 2 []] [(0,1,.t 8)]),none⟩,a_ 3 [.own 193 0 1 [],.own 194 0 2 []],s_ 3 9 2]
def Aep:=[f_ 10 1 1,l_ 11 10 1,n_ 12 11,i_ 13 0]
def Aeq:=[b_ .lss 14 13 12]
def Aer:=[x_ 15 11 13 2,L_ 16 15 2,a_ 5 [iV 0,.own 322 0 1 []],s_ 5 16 2]
def Aes:=tk [f_ 17 3 1,l_ 18 17 1,f_ 19 5 0,l_ 20 19 1,f_ 21 5 1,l_ 22 21 1] (.alt [l_ 20 19 1,f_ 19 5 0,l_ 18 17 1,f_ 17 3 1] (q_ 23 325 [.t 22]) (tk [⟨some 24,.p (.build [iV 0,.own 1538 0 1 []] [(0,1,.t 20),(1,1,.t 23)]),none⟩] (.alt [l_ 18 17 1,f_ 17 3 1] ⟨some 25,.mkS 2 [iV 0,.lst 1 []] 1 [(0,.t 24)],none⟩ (.alt [] ⟨some 26,.app 2 32 (.t 18) (.t 25),none⟩ (tk [f_ 27 3 1] (.alt [] (s_ 27 26 1) .fin .stop)) .stop) .stop)) .stop)
def Aet:=[B_ .add 28 13 1,m_ 13 28]
def Aem:IR:=(sr Aeq (.seq (.ite (.t 14) .skip (.exit 0)) (.seq (.block 1 (sr Aer (.draw Aes))) (.reg Aet))))
def Aeu:=[L_ 29 3 2,s_ 2 29 2]
def c366:De:=⟨1,30,[.cell 2 2 true],sr Aen (sr Aeo (.seq (sr Aep (Jc 0 Aem)) (rr Aeu)))⟩
def K366 (D:Ba):Prop:=∀a0 r,AlD a0=some r→D 366 ⟨[.agg (Ch a0)],[]⟩ ⟨.agg (By r (Al 0) (Al 1)),[],[]⟩
abbrev Ri:=fun (r:List (Nat×List V))=>(128,[Eo 129 [],Bo 130 []])::r
abbrev Vj:=fun (r:List (Nat×V))=>(2,.ptr 128 0)::(3,.ptr 192 0)::r
theorem F366 (H325:pI C):K366 (FO C c366):=by
 intro a0 r h0
 refine f0 (As 4 [(1,.ptr 64 0),(2,.ptr 128 0)] (Ri [(64,Ch a0)]) (At 3 (Ah (bb h0 fun r1 e2 h0=>Ji (H325 a0.held r1 e2) (af rfl) (st (c_ (v:=.agg [Eo 512 r1,Bo 578 []]) (Bw ⟨tv,tv⟩ rfl ⟨⟨rfl,rfl,nl rfl⟩,tv⟩) (o_ (As 3 (Vj [(1,.ptr 64 0)]) (Ri [(64,Ch a0),(192,[Eo 512 r1,Bo 578 []])]) (At 4 (Ah (Hf rfl (o_ (As 2 (Vj [(11,Cr a0.Av),(12,iV (a0.Av.length:Int)),(13,iV 0)]) (Ri [(192,[Eo 512 r1,Bo 578 []])]) (Ci (bb h0 fun r26 e27 h0=>Df (R:=(fun S=>∃p19:List Aw,p19=r26∧S=⟨Vj [],Ri [(192,[Eo 512 r1,Bo 578 p19])],[]⟩)) (Ta a0) (fun s S=>match s with | (p9,p10)=>S=⟨Vj [(11,Cr a0.Av),(12,iV (a0.Av.length:Int)),(13,iV p9)],Ri [(192,[Eo 512 r1,Bo 578 p10])],[]⟩) e27 _ (Er (by kernel_rfl)) rfl 0 (fun _=>rfl) ?_ ?_)))))))))))))))
 ·rintro S _ hfg ⟨p19,rfl,rfl⟩
  refine Dy _ hfg ?_
  obtain rfl:=sj h0
  exact Cs 5
 ·rintro ⟨p9,p10⟩ o1 _ K1 rfl h1 hx1 hK1 hE1 hR1
  refine As 3 (Vj [(11,Cr a0.Av),(12,iV (a0.Av.length:Int)),(13,iV p9),(14,.bool (decide (p9<(a0.Av.length:Int))))]) (Ri [(192,[Eo 512 r1,Bo 578 p10])]) (Bk (Cw h1 (fun eZ h1=>?_) (fun eZ h1=>?_)))
  ·refine Mm 5 (Ah (bb h1 fun y21 e22 h1=>Ns rfl rfl e22 (o_ (As 4 (Vj [(5,.ptr 320 0),(11,Cr a0.Av),(12,iV (a0.Av.length:Int)),(13,iV p9)]) (Ri [(192,[Eo 512 r1,Bo 578 p10]),(320,Du y21)]) (bb h1 fun r23 e24 h1=>gg h1 fun c25 h1=>At 6 (Bm (Oo (H325 y21.data r23 e24) (af rfl) (dw [(2,.ptr 128 0),(3,.ptr 192 0),(5,.ptr 320 0),(11,Cr a0.Av),(12,iV (a0.Av.length:Int)),(13,iV p9),(17,.ptr 192 1),(18,Bo 578 p10),(19,.ptr 320 0),(20,iV y21.at_),(23,Eo 1472 r23)] [(128,[Eo 129 [],Bo 130 []]),(192,[Eo 512 r1,Bo 578 p10]),(320,Du y21)] hB (Au tv (c_ (v:=.agg [iV y21.at_,Eo 1472 r23]) (Bw ⟨tv,tv,tv⟩ rfl ⟨⟨rfl,rfl,nl rfl⟩,⟨rfl,rfl,nl rfl⟩,tv⟩) (⟨tv,Cb (Ky ⟨tv,tv⟩ ⟨⟨nl rfl,rfl,rfl⟩,tv⟩ (d0 hB (Cb (Fp (e:=Du) (l0:=p10) (l1:=([Aw.mk y21.at_ r23]:List Aw)) rfl rfl tv rfl (by decide) c25 (d0 tv (Au tv (c_ (Bw ⟨tv,tv⟩ rfl tv) (⟨tv,Cb (Gc rfl rfl tv rfl rfl rfl (nl rfl) (d0 tv (d_ (As 2 (Vj [(11,Cr a0.Av),(12,iV (a0.Av.length:Int)),(13,iV p9)]) (Ri [(192,[Eo 512 r1,Bo 578 (p10++([Aw.mk y21.at_ r23]:List Aw))])]) (At 2 (Ah ?_)))))) Az⟩))))) Az))) Az⟩)))) Az)))))))
   refine In ?_
   obtain rfl:=sj h1
   exact kn hK1 rfl rfl
  ·obtain rfl:=sj h1
   obtain rfl:=hx1 _ rfl
   refine Iw rfl ?_
   exact jn hE1 ⟨_,rfl,rfl⟩

/- (loop.example/g00149/impl.Device).write -/
def AcM:=[X_ 3 0,a_ 6 [.own 385 0 1 [],.own 386 0 2 []]]
def AcN:=[L_ 13 3 2,q_ 14 366 [.t 13],a_ 7 [.own 449 0 1 [],.own 450 0 2 []],s_ 7 14 2]
def AcO:=[m_ 15 2,n_ 16 15,B_ .eql 17 16 0]
def AcP:=[L_ 18 7 2,s_ 6 18 2]
def AcQ:=[L_ 19 3 2,q_ 20 263 [.t 19],m_ 8 20]
def AcR:=[m_ 21 1,m_ 22 2,n_ 23 22,b_ .add 24 21 23,m_ 9 24]
def AcS:=[m_ 25 9,B_ .sub 26 25 1,B_ .quo 27 26 32,m_ 10 27]
def AcT:List Bj:=[m_ 28 10,B_ .add 29 28 1,⟨some 30,.p (.bin .mul (.c (iV 32)) (.t 29)),none⟩,m_ 11 30]
def AcU:=[m_ 31 8,n_ 32 31,m_ 33 11,b_ .lss 34 32 33]
def AcV:List Bj:=[m_ 35 8,m_ 36 11,m_ 37 8,n_ 38 37,b_ .sub 39 36 38,⟨some 40,.appz 1 1 [.int .u8 0] (.t 35) (.t 39),none⟩,m_ 8 40]
def DD:List Bj:=[m_ 41 8,m_ 42 1,⟨some 43,.p (.slice (.t 41) (some (.t 42)) none 1),none⟩,m_ 44 2,⟨some 45,.copy 1 (.t 43) (.t 44),none⟩]
def DE:=[m_ 46 1,B_ .quo 47 46 32,m_ 12 47]
def DF:=[m_ 48 12,m_ 49 10,b_ .leq 50 48 49]
def DG:=tk [f_ 53 7 1,l_ 54 53 1,m_ 55 12,m_ 56 8,m_ 57 12,⟨some 58,.p (.bin .mul (.c (iV 32)) (.t 57)),none⟩,m_ 59 12,B_ .add 60 59 1,⟨some 61,.p (.bin .mul (.c (iV 32)) (.t 60)),none⟩,⟨some 62,.p (.slice (.t 56) (some (.t 58)) (some (.t 61)) 1),none⟩] (.alt [m_ 55 12,l_ 54 53 1,f_ 53 7 1] (q_ 63 325 [.t 62]) (tk [⟨some 64,.p (.build [iV 0,.own 4098 0 1 []] [(0,1,.t 55),(1,1,.t 63)]),none⟩] (.alt [l_ 54 53 1,f_ 53 7 1] ⟨some 65,.mkS 2 [iV 0,.lst 1 []] 1 [(0,.t 64)],none⟩ (.alt [] ⟨some 66,.app 2 32 (.t 54) (.t 65),none⟩ (tk [f_ 67 7 1] (.alt [] (s_ 67 66 1) .fin .stop)) .stop) .stop)) .stop)
def DH:=[m_ 51 12,B_ .add 52 51 1,m_ 12 52]
def AcL:IR:=(.seq (sr DF (.ite (.t 50) .skip (.exit 0))) (.seq (.block 1 (.draw DG)) (.reg DH)))
def DI:=[L_ 68 7 2,s_ 6 68 2]
def AcK:De:=⟨3,69,[.cell 6 2 true],sr AcM (sr AcN (.seq (sr AcO (iz 17 (rr AcP))) (sr AcQ (sr AcR (sr AcS (.seq (sr AcT (sr AcU (iz 34 (.reg AcV)))) (sr DD (.seq (sr DE (Jc 0 AcL)) (rr DI)))))))))⟩
def NT (D:Ba):Prop:=∀a0 a1 a2 r,IU a0 a1 a2=some r→D 328 ⟨[.agg (Ch a0),iV a1,Eb a2],[]⟩ ⟨.agg (By r (Al 0) (Al 1)),[],[]⟩
abbrev Pi:=fun x0 (r:List (Nat×List V))=>(384,[Eo 385 [],Bo 386 []])::(448,By x0 (Al 896) (Al 897))::r
abbrev Ke:=fun (r:List (Nat×V))=>(6,.ptr 384 0)::(7,.ptr 448 0)::r
abbrev dZ:=fun (r:List (Nat×List V))=>(384,[Eo 385 [],Bo 386 []])::r
theorem F328 (H263:pH C) (H325:pI C) (H366:K366 C):NT (FO C AcK):=by
 intro a0 a1 a2 r h0
 refine f0 (As 4 [(1,iV a1),(2,Eb a2),(3,.ptr 192 0),(6,.ptr 384 0)] (dZ [(192,Ch a0)]) (At 2 (Ah (bb h0 fun r1 e2 h0=>st (Cm (r:=.agg (By r1 (Al 0) (Al 1))) true (H366 a0 r1 e2) ⟨tv,tv⟩ rfl rfl (fun h=>nomatch h) (o_ (As 3 (Ke [(1,iV a1),(2,Eb a2),(3,.ptr 192 0)]) (Pi r1 [(192,Ch a0)]) (At 3 (Ah (Hf rfl (o_ (As 2 (Ke [(1,iV a1),(2,Eb a2),(3,.ptr 192 0),(17,.bool ((a2.length:Int)==0))]) (Pi r1 [(192,Ch a0)]) (Cw h0 (fun c3 h0=>?_) (fun c3 h0=>?_))))))))))))))
 ·obtain rfl:=sj h0
  exact Cs 5
 ·refine At 4 (Ah (bb h0 fun r4 e5 h0=>Ji (H263 a0 r4 e5) (af rfl) (o_ (As 2 (Ke [(1,iV a1),(2,Eb a2),(8,Eo 1280 r4)]) (Pi r1 []) (At 3 (Ah (Hf rfl (o_ (As 3 (Ke [(1,iV a1),(2,Eb a2),(8,Eo 1280 r4),(9,iV (wi (a1+(a2.length:Int))))]) (Pi r1 []) (At 3 (Ah (st (c_ (Bw ⟨tv,tv,tv⟩ rfl (by decide)) (st (Dc rfl tv (In (bv h0 fun v6 e7 h0=>Dy ⟨Ke [(1,iV a1),(2,Eb a2),(8,Eo 1280 r4),(10,iV v6)],Pi r1 [],[]⟩ (Er (by subst e7; kernel_rfl)) (As 7 (Ke [(1,iV a1),(2,Eb a2),(8,Eo 1280 r4),(10,iV v6),(11,iV (wi (32*(wi (v6+1)))))]) (Pi r1 []) (Bk (Ah (st (Dc rfl tv (Qb rfl (o_ (At 3 (bv h0 fun v8 e9 h0=>Dy ⟨Ke [(1,iV a1),(2,Eb a2),(8,Eo 1280 r4),(10,iV v6),(11,iV (wi (32*(wi (v6+1))))),(34,.bool v8)],Pi r1 [],[]⟩ (Er (by subst e9; kernel_rfl)) (Vc (cb:=v8) (fun S=>∃p13:List UInt8,S=⟨Ke [(1,iV a1),(2,Eb a2),(8,Eo 1280 p13),(10,iV v6)],Pi r1 [],[]⟩∧Wl a1 a2 r1 v6 p13=some r) rfl ?_ (fun c44 J43=>?_) (fun c44 J43=>?_))))))))))))))))))))))))))))
  ·rintro _ ⟨p13,rfl,h0⟩
   refine At 4 (Ah (bb h0 fun s14 e15 h0=>st (c_ (Dk (e:=Gh) (y:=s14) rfl rfl tv ⟨tv,tv⟩ rfl rfl e15) (st (Dc rfl tv (st (copy_ (e:=Gh) (l1:=a2) rfl rfl tv rfl (In (Dy ⟨[(1,iV a1),(6,.ptr 384 0),(7,.ptr 448 0),(8,Eo 1280 (ovl p13 a1.toNat (a2.take s14.length))),(10,iV v6)],[(384,[Eo 385 [],Bo 386 []]),(448,By r1 (Al 896) (Al 897))],[]⟩ (fg ⟨rfl,rfl,rfl,congrArg (fun z=>some ((.own 1280 0 1 z:V))) Fb,rfl,tv⟩ ⟨rfl,rfl,tv⟩) (At 3 (Ah (st (c_ (Bw ⟨tv,tv,tv⟩ rfl (by decide)) (o_ (As 2 (Ke [(8,Eo 1280 (ovl p13 a1.toNat (a2.take s14.length))),(10,iV v6),(12,iV (wi ((a1).tdiv 32)))]) (Pi r1 []) (Ci (bb h0 fun r41 e42 h0=>Df (R:=(fun S=>∃p34:List Aw,p34=r41∧S=⟨Ke [],dZ [(448,[Eo 896 r1.held,Bo 897 p34])],[]⟩)) (Wm a1 a2 v6 p13 s14) (fun s S=>match s with | (p24,p25)=>S=⟨Ke [(8,Eo 1280 (ovl p13 a1.toNat (a2.take s14.length))),(10,iV v6),(12,iV p24)],dZ [(448,[Eo 896 r1.held,Bo 897 p25])],[]⟩) e42 _ (Er (by kernel_rfl)) rfl 0 (fun _=>rfl) ?_ ?_)))))))))))))))))
   ·rintro S _ hfg ⟨p34,rfl,rfl⟩
    refine Dy _ hfg ?_
    obtain rfl:=sj h0
    exact Cs 5
   ·rintro ⟨p24,p25⟩ o1 _ K1 rfl h1 hx1 hK1 hE1 hR1
    refine As 6 (Ke [(8,Eo 1280 (ovl p13 a1.toNat (a2.take s14.length))),(10,iV v6),(12,iV p24),(50,.bool (decide (p24≤v6)))]) (dZ [(448,[Eo 896 r1.held,Bo 897 p25])]) (Cw h1 (fun c35 h1=>?_) (fun c35 h1=>?_))
    ·refine Mm 4 (bb h1 fun s36 e37 h1=>bb h1 fun r38 e39 h1=>gg h1 fun c40 h1=>At 9 (Bm (Au tv (c_ (Dk (e:=Gh) (y:=s36) rfl rfl tv ⟨tv,tv,tv⟩ rfl rfl e37) (⟨tv,Oo (H325 s36 r38 e39) (af rfl) (dw [(6,.ptr 384 0),(7,.ptr 448 0),(8,Eo 1280 (ovl p13 a1.toNat (a2.take s14.length))),(10,iV v6),(12,iV p24),(53,.ptr 448 1),(54,Bo 897 p25),(55,iV p24),(63,Eo 4032 r38)] [(384,[Eo 385 [],Bo 386 []]),(448,[Eo 896 r1.held,Bo 897 p25])] hB (Au tv (c_ (v:=.agg [iV p24,Eo 4032 r38]) (Bw ⟨tv,tv,tv⟩ rfl ⟨⟨rfl,rfl,nl rfl⟩,⟨rfl,rfl,nl rfl⟩,tv⟩) (⟨tv,Cb (Ky ⟨tv,tv⟩ ⟨⟨nl rfl,rfl,rfl⟩,tv⟩ (d0 hB (Cb (Fp (e:=Du) (l0:=p25) (l1:=([Aw.mk p24 r38]:List Aw)) rfl rfl tv rfl (by decide) c40 (d0 tv (Au tv (c_ (Bw ⟨tv,tv⟩ rfl tv) (⟨tv,?_⟩))))) Az))) Az⟩)))) Az⟩)))))
     refine Cb (Gc rfl rfl tv rfl rfl rfl (nl rfl) (d0 tv (d_ (As 2 (Ke [(8,Eo 1280 (ovl p13 a1.toNat (a2.take s14.length))),(10,iV v6),(12,iV p24)]) (dZ [(448,[Eo 896 r1.held,Bo 897 (p25++([Aw.mk p24 r38]:List Aw))])]) (At 4 ?_))))) Az
     obtain rfl:=sj h1
     exact kn hK1 rfl rfl
    ·obtain rfl:=sj h1
     obtain rfl:=hx1 _ rfl
     refine Iw rfl ?_
     exact jn hE1 ⟨_,rfl,rfl⟩
  ·replace h0:=ip c44 h0
   refine At 3 (Ah (Qb rfl (st (c_ (Bw t3 rfl tv) (gg h0 fun c45 h0=>gg h0 fun c46 h0=>st (appz_ (e:=Gh) (l0:=r4) (0:UInt8) rfl rfl rfl (by decide) c45 c46 (st (Dc rfl tv (In ?_)))))))))
   exact jn J43 ⟨_,rfl,h0⟩
  ·replace h0:=oY c44 h0
   refine Nh ?_
   exact jn J43 ⟨_,rfl,h0⟩

/- (loop.example/g00149/impl.Device).written -/
def AaL:=[X_ 3 0,a_ 6 [.own 385 0 1 [],.own 386 0 2 []],i_ 7 0]
def AaM:=[m_ 9 1,m_ 10 2,n_ 11 10,q_ 12 327 [.t 9,.t 11],N_ 13 12]
def AaN:=[iQ 14 (.build [.own 897 0 1 [],.own 898 0 2 []] []),s_ 6 14 2,i_ 7 9]
def AaO:=[L_ 15 3 2,m_ 16 1,m_ 17 2,q_ 18 328 [.t 15,.t 16,.t 17],a_ 8 [.own 513 0 1 [],.own 514 0 2 []],s_ 8 18 2]
def AaP:=[f_ 19 8 1,l_ 20 19 1,q_ 21 269 [.t 20],N_ 22 21]
def AaQ:=[iQ 23 (.build [.own 1473 0 1 [],.own 1474 0 2 []] []),s_ 6 23 2,i_ 7 6]
def AaR:=[L_ 24 8 2,s_ 6 24 2,i_ 7 0]
def c265:De:=⟨3,25,[.cell 6 2 true,.t 7],sr AaL (.seq (sr AaM (iz 13 (rr AaN))) (sr AaO (.seq (sr AaP (iz 22 (rr AaQ))) (rr AaR))))⟩
def K265 (D:Ba):Prop:=∀a0 a1 a2 r,IQ a0 a1 a2=some r→D 265 ⟨[.agg (Ch a0),iV a1,Eb a2],[]⟩ ⟨.tup [.agg (By r.1 (Al 0) (Al 1)),iV r.2],[],[]⟩
theorem F265 (H269:NP C) (H327:NS C) (H328:NT C):K265 (FO C c265):=by
 intro a0 a1 a2 r h0
 refine f0 (As 5 [(1,iV a1),(2,Eb a2),(3,.ptr 192 0),(6,.ptr 384 0)] [(192,Ch a0),(384,[Eo 385 [],Bo 386 []])] (At 4 (Ah (Hf rfl (bb h0 fun r1 e2 h0=>Il (H327 a1 (a2.length:Int) r1 e2) (o_ (As 2 [(1,iV a1),(2,Eb a2),(3,.ptr 192 0),(6,.ptr 384 0),(13,.bool (!r1))] [(192,Ch a0),(384,[Eo 385 [],Bo 386 []])] (Cw h0 (fun c3 h0=>?_) (fun c3 h0=>?_)))))))))
 ·obtain rfl:=sj h0
  exact Cs 6
 ·refine At 6 (Ah (bb h0 fun r4 e5 h0=>st (Cm (r:=.agg (By r4 (Al 0) (Al 1))) true (H328 a0 a1 a2 r4 e5) ⟨tv,tv,tv,tv⟩ rfl rfl (fun h=>nomatch h) (o_ (As 3 [(6,.ptr 384 0),(8,.ptr 512 0)] [(384,[Eo 385 [],Bo 386 []]),(512,By r4 (Al 1152) (Al 1153))] (At 4 (Ah (bb h0 fun r6 e7 h0=>Il (H269 r4.Av r6 e7) (o_ (As 2 [(6,.ptr 384 0),(8,.ptr 512 0),(22,.bool (!r6))] [(384,[Eo 385 [],Bo 386 []]),(512,By r4 (Al 1152) (Al 1153))] (Cw h0 (fun c8 h0=>?_) (fun c8 h0=>?_))))))))))))
  ·obtain rfl:=sj h0
   exact Cs 6
  ·obtain rfl:=sj h0
   exact Cs 8

/- loop.example/g00149/impl.DeviceWrite -/
def YW:=[X_ 3 0,a_ 6 [.own 385 0 1 [],.own 386 0 2 []],i_ 7 0]
def YX:=[m_ 9 2,q_ 10 264 [.t 9],N_ 11 10,m_ 8 11]
def YY:=[iQ 12 (.build [.own 769 0 1 [],.own 770 0 2 []] []),s_ 6 12 2,i_ 7 2]
def YZ:=[L_ 14 3 2,q_ 15 216 [.t 14],N_ 16 15,m_ 13 16]
def ZA:=[iQ 17 (.build [.own 1089 0 1 [],.own 1090 0 2 []] []),s_ 6 17 2,i_ 7 1]
def ZB:=[L_ 18 3 2,m_ 19 1,m_ 20 2,q_ 21 265 [.t 18,.t 19,.t 20],e_ 22 21 0,e_ 23 21 1,s_ 6 22 2,m_ 7 23]
def c214:De:=⟨3,24,[.cell 6 2 true,.t 7],sr YW (.seq (.block 0 (sr YX (.ite (.t 8) (rr YY) (sr YZ (iz 13 (rr ZA)))))) (rr ZB))⟩
def K214 (D:Ba):Prop:=∀a0 a1 a2 r,wU a0 a1 a2=some r→D 214 ⟨[.agg (Ch a0),iV a1,Eb a2],[]⟩ ⟨.tup [.agg (By r.1 (Al 0) (Al 1)),iV r.2],[],[]⟩
theorem F214 (H216:pG C) (H264:K264 C) (H265:K265 C):K214 (FO C c214):=by
 intro a0 a1 a2 r h0
 refine f0 (As 5 [(1,iV a1),(2,Eb a2),(3,.ptr 192 0),(6,.ptr 384 0)] [(192,Ch a0),(384,[Eo 385 [],Bo 386 []])] (At 4 (Ah (bb h0 fun r1 e2 h0=>Il (H264 a2 r1 e2) (o_ (As 3 [(1,iV a1),(2,Eb a2),(3,.ptr 192 0),(6,.ptr 384 0),(8,.bool (!r1))] [(192,Ch a0),(384,[Eo 385 [],Bo 386 []])] (Cw h0 (fun c3 h0=>?_) (fun c3 h0=>?_))))))))
 ·obtain rfl:=sj h0
  exact Cs 6
 ·refine At 2 (Ah (bb h0 fun r4 e5 h0=>Il (H216 a0 r4 e5) (o_ (As 3 [(1,iV a1),(2,Eb a2),(3,.ptr 192 0),(6,.ptr 384 0),(13,.bool (!r4))] [(192,Ch a0),(384,[Eo 385 [],Bo 386 []])] (Cw h0 (fun c6 h0=>?_) (fun c6 h0=>?_))))))
  ·obtain rfl:=sj h0
   exact Cs 6
  ·refine At 7 (Ah (bb h0 fun r7 e8 h0=>st (Cm (r:=.tup [.agg (By r7.1 (Al 0) (Al 1)),iV r7.2]) true (H265 a0 a1 a2 r7 e8) ⟨tv,tv,tv,tv⟩ rfl rfl (fun h=>nomatch h) (o_ ?_))))
   obtain rfl:=sj h0
   exact Cs 6

/- loop.example/g00149/impl.crc -/
def Adm:=[i_ 2 0]
def Adn:=[k_ 3 (.int .u32 4294967295)]
def Ado:=[m_ 7 0,n_ 8 7,i_ 9 0]
def Adp:=[b_ .lss 10 9 8]
def Adq:=[x_ 11 7 9 1,l_ 12 11 1,m_ 5 12]
def Adr:=[m_ 13 3,m_ 14 5,iQ 15 (.conv .u32 (.t 14)),b_ .xor 16 13 15,m_ 3 16]
def Ads:=[i_ 17 0]
def Adt:=[B_ .lss 18 17 8]
def Adu:List Bj:=[m_ 19 3,⟨some 20,.p (.bin .and (.t 19) (.c (.int .u32 1))),none⟩,m_ 6 20]
def Adv:List Bj:=[m_ 21 3,⟨some 22,.p (.bin .shr (.t 21) (.c (.int .u64 1))),none⟩,m_ 3 22]
def DJ:List Bj:=[m_ 23 6,⟨some 24,.p (.bin .eql (.t 23) (.c (.int .u32 1))),none⟩]
def DK:List Bj:=[m_ 25 3,⟨some 26,.p (.bin .xor (.t 25) (.c (.int .u32 3988292384))),none⟩,m_ 3 26]
def DL:=[B_ .add 27 17 1,m_ 17 27]
def Adk:IR:=(sr Adt (.seq (.ite (.t 18) .skip (.exit 2)) (.seq (.block 3 (sr Adu (sr Adv (sr DJ (iz 24 (.reg DK)))))) (.reg DL))))
def DM:=[B_ .add 28 9 1,m_ 9 28]
def Adl:IR:=(sr Adp (.seq (.ite (.t 10) .skip (.exit 0)) (.seq (.block 1 (sr Adq (sr Adr (sr Ads (Jc 2 Adk))))) (.reg DM))))
def DN:=[m_ 29 3,iQ 30 (.un .xor (.t 29)),iQ 31 (.conv .i64 (.t 30)),m_ 2 31]
def c332:De:=⟨1,32,[.t 2],sr Adm (sr Adn (.seq (sr Ado (Jc 0 Adl)) (rr DN)))⟩
def NV (D:Ba):Prop:=∀a0 r,IV a0=some r→D 332 ⟨[Eb a0],[]⟩ ⟨iV r,[],[]⟩
theorem F332:NV (FO C c332):=by
 intro a0 r h0
 refine f0 (As 7 [(0,Eb a0),(3,.int .u32 4294967295)] [] (At 3 (Ah (Hf rfl (o_ (As 2 [(3,.int .u32 4294967295),(7,Eb a0),(8,iV (a0.length:Int)),(9,iV 0)] [] (Ci (bb h0 fun r63 e64 h0=>Df (R:=(fun S=>∃p39:Int,p39=r63∧S=⟨[(3,.int .u32 p39)],[],[]⟩)) (Sw a0) (fun s S=>match s with | (p19,p20)=>S=⟨[(3,.int .u32 p19),(7,Eb a0),(8,iV (a0.length:Int)),(9,iV p20)],[],[]⟩) e64 _ (Er (by kernel_rfl)) rfl 0 (fun _=>rfl) ?_ ?_))))))))
 ·rintro S _ hfg ⟨p39,rfl,rfl⟩
  refine Dy _ hfg ?_
  obtain rfl:=sj h0
  exact Cs 7
 ·rintro ⟨p19,p20⟩ o1 _ K1 rfl h1 hx1 hK1 hE1 hR1
  refine As 3 [(3,.int .u32 p19),(7,Eb a0),(8,iV (a0.length:Int)),(9,iV p20),(10,.bool (decide (p20<(a0.length:Int))))] [] (Bk (Cw h1 (fun c40 h1=>?_) (fun c40 h1=>?_)))
  ·refine Mm 5 (Ah (bb h1 fun y41 e42 h1=>Ns rfl rfl e42 (o_ (As 15 [(3,.int .u32 (xI .u32 p19 (IntKind.u32.wrap ((y41).toNat:Int)))),(7,Eb a0),(8,iV (a0.length:Int)),(9,iV p20),(17,iV 0)] [] (Ci (bb h1 fun r61 e62 h1=>Df (R:=(fun S=>∃p55:Int,p55=r61∧S=⟨[(3,.int .u32 p55),(7,Eb a0),(8,iV (a0.length:Int)),(9,iV p20)],[],[]⟩)) (Sx) (fun s S=>match s with | (p48,p49)=>S=⟨[(3,.int .u32 p48),(7,Eb a0),(8,iV (a0.length:Int)),(9,iV p20),(17,iV p49)],[],[]⟩) e62 _ (Er (by kernel_rfl)) rfl 2 (fun _=>rfl) ?_ ?_))))))
   ·rintro S _ hfg ⟨p55,rfl,rfl⟩
    refine Um (Dy _ hfg (At 3 ?_))
    obtain rfl:=sj h1
    exact kn hK1 rfl rfl
   ·rintro ⟨p48,p49⟩ o2 _ K2 rfl h2 hx2 hK2 hE2 hR2
    refine As 3 [(3,.int .u32 p48),(7,Eb a0),(8,iV (a0.length:Int)),(9,iV p20),(17,iV p49),(18,.bool (decide (p49<8)))] [] (Bk (Cw h2 (fun c56 h2=>?_) (fun c56 h2=>?_)))
    ·refine Mm 3 (Hz (fun S=>∃p58:Int,S=⟨[(3,.int .u32 p58),(7,Eb a0),(8,iV (a0.length:Int)),(9,iV p20),(17,iV p49)],[],[]⟩∧bC p49 p58=some o2) ?_ (fun J59=>?_))
     ·rintro _ ⟨p58,rfl,h2⟩
      refine At 4 ?_
      obtain rfl:=sj h2
      exact kn hK2 rfl rfl
     ·refine Bk ?_
      refine As 4 [(3,.int .u32 p48),(6,.int .u32 (Ym .u32 p48 1)),(7,Eb a0),(8,iV (a0.length:Int)),(9,iV p20),(17,iV p49)] [] (Bk (Ah (st (Dc rfl tv (st (c_ (Bw ⟨tv,tv,tv⟩ rfl (by decide)) (o_ (As 7 [(3,.int .u32 (Kc .u32 p48 1)),(7,Eb a0),(8,iV (a0.length:Int)),(9,iV p20),(17,iV p49),(24,.bool ((Ym .u32 p48 1)==1))] [] (Cw h2 (fun c60 h2=>?_) (fun c60 h2=>?_))))))))))
      ·refine At 5 ?_
       exact jn J59 ⟨_,rfl,h2⟩
      ·refine Nh (Um ?_)
       exact jn J59 ⟨_,rfl,h2⟩
    ·obtain rfl:=sj h2
     obtain rfl:=hx2 _ rfl
     refine Iw rfl ?_
     exact jn hE2 ⟨_,rfl,rfl⟩
  ·obtain rfl:=sj h1
   obtain rfl:=hx1 _ rfl
   refine Iw rfl ?_
   exact jn hE1 ⟨_,rfl,rfl⟩

/- loop.example/g00149/impl.bigOf -/
def Adx:=[i_ 2 0]
def Ady:=[i_ 3 0]
def Adz:=[m_ 6 0,n_ 7 6,i_ 8 0]
def AdA:=[b_ .lss 9 8 7]
def AdB:=[x_ 10 6 8 1,l_ 11 10 1,m_ 5 11]
def AdC:List Bj:=[m_ 12 3,⟨some 13,.p (.bin .shl (.t 12) (.c (.int .u64 8))),none⟩,m_ 14 5,iQ 15 (.conv .i64 (.t 14)),b_ .or 16 13 15,m_ 3 16]
def AdD:=[B_ .add 17 8 1,m_ 8 17]
def Adw:IR:=(sr AdA (.seq (.ite (.t 9) .skip (.exit 0)) (.seq (.block 1 (sr AdB (.reg AdC))) (.reg AdD))))
def AdE:=[m_ 18 3,m_ 2 18]
def c333:De:=⟨1,19,[.t 2],sr Adx (sr Ady (.seq (sr Adz (Jc 0 Adw)) (rr AdE)))⟩
def NW (D:Ba):Prop:=∀a0 r,qP a0=some r→D 333 ⟨[Eb a0],[]⟩ ⟨iV r,[],[]⟩
theorem F333:NW (FO C c333):=by
 intro a0 r h0
 refine f0 (As 7 [(0,Eb a0),(3,iV 0)] [] (At 3 (Ah (Hf rfl (o_ (As 2 [(3,iV 0),(6,Eb a0),(7,iV (a0.length:Int)),(8,iV 0)] [] (Ci (bb h0 fun r15 e16 h0=>Df (R:=(fun S=>∃p11:Int,p11=r15∧S=⟨[(3,iV p11)],[],[]⟩)) (Sy a0) (fun s S=>match s with | (p4,p5)=>S=⟨[(3,iV p4),(6,Eb a0),(7,iV (a0.length:Int)),(8,iV p5)],[],[]⟩) e16 _ (Er (by kernel_rfl)) rfl 0 (fun _=>rfl) ?_ ?_))))))))
 ·rintro S _ hfg ⟨p11,rfl,rfl⟩
  refine Dy _ hfg ?_
  obtain rfl:=sj h0
  exact Cs 5
 ·rintro ⟨p4,p5⟩ o1 _ K1 rfl h1 hx1 hK1 hE1 hR1
  refine As 3 [(3,iV p4),(6,Eb a0),(7,iV (a0.length:Int)),(8,iV p5),(9,.bool (decide (p5<(a0.length:Int))))] [] (Bk (Cw h1 (fun c12 h1=>?_) (fun c12 h1=>?_)))
  ·refine Mm 5 (Ah (bb h1 fun y13 e14 h1=>Ns rfl rfl e14 (o_ (As 3 [(3,iV p4),(5,.int .u8 ((y13).toNat:Int)),(6,Eb a0),(7,iV (a0.length:Int)),(8,iV p5)] [] (Ah (st (Dc rfl tv (st (c_ (Bw ⟨tv,tv,tv⟩ rfl (by decide)) (o_ (As 6 [(3,iV (ior .i64 (fP .i64 p4 8) (wi ((y13).toNat:Int)))),(6,Eb a0),(7,iV (a0.length:Int)),(8,iV p5)] [] (At 3 ?_))))))))))))
   obtain rfl:=sj h1
   exact kn hK1 rfl rfl
  ·obtain rfl:=sj h1
   obtain rfl:=hx1 _ rfl
   refine Iw rfl ?_
   exact jn hE1 ⟨_,rfl,rfl⟩

/- loop.example/g00149/impl.scan -/
def Abw:List Bj:=[⟨some 2,.nilS 1,none⟩,i_ 3 0]
def Abx:List Bj:=[⟨some 4,.nilS 1,none⟩]
def Aby:=[i_ 5 0]
def Abz:=[m_ 8 5,B_ .add 9 8 2,m_ 10 0,n_ 11 10,b_ .leq 12 9 11]
def AbA:List Bj:=[m_ 13 0,m_ 14 5,m_ 15 5,B_ .add 16 15 2,⟨some 17,.p (.slice (.t 13) (some (.t 14)) (some (.t 16)) 1),none⟩,q_ 18 333 [.t 17],B_ .sub 19 18 1,m_ 6 19]
def AbB:=[m_ 20 5,B_ .add 21 20 2,m_ 22 6,b_ .add 23 21 22,m_ 7 23]
def AbC:=tk [m_ 24 6] (.alt [] (q_ 25 63 [.t 24,.c (iV 0),.c (iV 2000)]) (tk [N_ 26 25,m_ 27 26,mF 27 28 7,pF 27 29 (.bin .add (.t 28) (.c (iV 4))),mF 27 30 0,pF 27 31 (.len (.t 30)),pF 27 32 (.bin .gtr (.t 29) (.t 31)),po 33 27 32,m_ 34 33,mF 34 35 0,mF 34 36 5,mF 34 37 7,pF 34 38 (.slice (.t 35) (some (.t 36)) (some (.t 37)) 1),mF 34 40 0,mF 34 41 7,mF 34 42 7,pF 34 43 (.bin .add (.t 42) (.c (iV 4))),pF 34 44 (.slice (.t 40) (some (.t 41)) (some (.t 43)) 1)] (.alt [pF 34 44 (.slice (.t 40) (some (.t 41)) (some (.t 43)) 1),pF 34 43 (.bin .add (.t 42) (.c (iV 4))),mF 34 42 7,mF 34 41 7,mF 34 40 0] ⟨some 39,.call 332 [.t 38],some (34,false)⟩ (.alt [] ⟨some 45,.call 333 [.t 44],some (34,false)⟩ (tk [pF 34 46 (.bin .neq (.t 39) (.t 45)),po 47 34 46] .fin) .stop) .stop)) .stop)
def AbD:List Bj:=[m_ 48 4,m_ 49 0,m_ 50 5,B_ .add 51 50 2,m_ 52 7,⟨some 53,.p (.slice (.t 49) (some (.t 51)) (some (.t 52)) 1),none⟩,q_ 54 325 [.t 53],⟨some 55,.mkS 1 [.lst 1 []] 1 [(0,.t 54)],none⟩,⟨some 56,.app 1 24 (.t 48) (.t 55),none⟩,m_ 4 56]
def AbE:=[m_ 57 7,B_ .add 58 57 4,m_ 5 58]
def Abv:IR:=(.seq (sr Abz (.ite (.t 12) .skip (.exit 0))) (.block 1 (sr AbA (sr AbB (.seq (sd AbC (iz 47 (.exit 0))) (sr AbD (.reg AbE)))))))
def AbF:=[m_ 59 4,m_ 60 5,m_ 2 59,m_ 3 60]
def c275:De:=⟨1,61,[.t 2,.t 3],sr Abw (sr Abx (sr Aby (.seq (Jc 0 Abv) (rr AbF))))⟩
def zA (D:Ba):Prop:=∀a0 r,fJ a0=some r→D 275 ⟨[Eb a0],[]⟩ ⟨.tup [.own 0 0 1 (r.1.map (eL 1 Gh)),iV r.2],[],[]⟩
theorem F275 (H63:yV C) (H325:pI C) (H332:NV C) (H333:NW C):zA (FO C c275):=by
 intro a0 r h0
 refine f0 (As 12 [(0,Eb a0),(4,.own 256 0 1 ([].map (eL 1 Gh))),(5,iV 0)] [] (Bk (Ci (bb h0 fun r82 e83 h0=>Df (R:=(fun S=>∃p55:List (List UInt8),∃p56:Int,(p55,p56)=r82∧S=⟨[(4,.own 256 0 1 (p55.map (eL 1 Gh))),(5,iV p56)],[],[]⟩)) (Km a0) (fun s S=>match s with | (p26,p27)=>S=⟨[(0,Eb a0),(4,.own 256 0 1 (p26.map (eL 1 Gh))),(5,iV p27)],[],[]⟩) e83 _ (Er (by kernel_rfl)) rfl 0 (fun _=>rfl) ?_ ?_))))
 ·rintro S _ hfg ⟨p55,p56,rfl,rfl⟩
  refine Dy _ hfg ?_
  obtain rfl:=sj h0
  exact Cs 7
 ·rintro ⟨p26,p27⟩ o1 _ K1 rfl h1 hx1 hK1 hE1 hR1
  refine At 5 (Ah (Hf rfl (o_ (As 2 [(0,Eb a0),(4,.own 256 0 1 (p26.map (eL 1 Gh))),(5,iV p27),(12,.bool (decide ((wi (p27+2))≤(a0.length:Int))))] [] (Cw h1 (fun c57 h1=>?_) (fun c57 h1=>?_))))))
  ·refine At 8 (Ah (bb h1 fun s58 e59 h1=>st (c_ (Hi (e:=Gh) (y:=s58) rfl rfl tv ⟨tv,tv,tv⟩ rfl rfl e59) (bb h1 fun r60 e61 h1=>Il (H333 s58 r60 e61) (o_ (As 3 [(0,Eb a0),(4,.own 256 0 1 (p26.map (eL 1 Gh))),(5,iV p27),(6,iV (wi (r60-1)))] [] (At 7 (bv h1 fun v62 e63 h1=>Dy ⟨[(0,Eb a0),(4,.own 256 0 1 (p26.map (eL 1 Gh))),(5,iV p27),(6,iV (wi (r60-1))),(7,iV v62)],[],[]⟩ (Er (by subst e63; kernel_rfl)) (Bk (Bk (bb h1 fun r64 e65 h1=>bb h1 fun s66 e67 h1=>bb h1 fun s68 e69 h1=>bb h1 fun r70 e71 h1=>bb h1 fun r72 e73 h1=>Bm (Au tv (Dc rfl tv (⟨tv,Oo (H63 (wi (r60-1)) 0 2000 r64 e65) rfl (dw [(0,Eb a0),(4,.own 256 0 1 (p26.map (eL 1 Gh))),(5,iV p27),(7,iV v62),(25,.bool r64)] [] tv (d_ (Hj 5 (Bm (Au tv (Ep (u:=iV (a0.length:Int)) rfl (fun hg=>(Mu (e:=Gh) (l0:=a0) rfl rfl (fun _=>hg))) (⟨tv,d_ (Hj 6 (Bm (Au tv (Ep (u:=Eb s66) rfl (fun hg=>(Hi (e:=Gh) (y:=s66) rfl rfl (fun _=>hg) ⟨(fun _=>hg),(fun _=>hg),tv⟩ rfl rfl (ip hg e67))) (⟨tv,?_⟩)))))⟩))))))) Az⟩))))))))))))))
   refine d_ (Hj 4 (Bm (Au tv (Ep (u:=Eb s68) rfl (fun hg=>(Hi (e:=Gh) (y:=s68) rfl rfl (fun _=>hg) ⟨(fun _=>hg),(fun _=>hg),tv⟩ rfl rfl (ip hg e69))) (⟨tv,Cb (En (r:=iV r70) rfl false (fun hg=>H332 s66 r70 (ip hg e71)) ⟨(fun hg=>hg),tv⟩ (fun _=>rfl) (fun _=>rfl) (fun _=>rfl) (fun h=>nomatch h) (dw [(0,Eb a0),(4,.own 256 0 1 (p26.map (eL 1 Gh))),(5,iV p27),(7,iV v62),(34,.bool (bif (!r64) then true else (decide ((wi (v62+4))>(a0.length:Int))))),(39,.may ((bif (!r64) then true else (decide ((wi (v62+4))>(a0.length:Int))))==false) (iV r70)),(40,.may ((bif (!r64) then true else (decide ((wi (v62+4))>(a0.length:Int))))==false) (Eb a0)),(41,.may ((bif (!r64) then true else (decide ((wi (v62+4))>(a0.length:Int))))==false) (iV v62)),(42,.may ((bif (!r64) then true else (decide ((wi (v62+4))>(a0.length:Int))))==false) (iV v62)),(43,.may ((bif (!r64) then true else (decide ((wi (v62+4))>(a0.length:Int))))==false) (iV (wi (v62+4)))),(44,.may ((bif (!r64) then true else (decide ((wi (v62+4))>(a0.length:Int))))==false) (Eb s68))] [] ⟨⟨.inl tv,Hy (v:=Eb s68) rfl (fun hg=>(Hi (e:=Gh) (y:=s68) rfl rfl (fun _=>hg) ⟨(fun _=>hg),(fun _=>hg),tv⟩ rfl rfl (ip hg e69))) rfl⟩,⟨.inl tv,Hy (v:=iV (wi (v62+4))) rfl (fun hg=>(Bw ⟨(fun _=>hg),tv,tv⟩ rfl tv)) rfl⟩,⟨.inl tv,Hy (v:=iV v62) rfl (fun hg=>(Qc (v:=iV v62) rfl tv)) rfl⟩,⟨.inl tv,Hy (v:=iV v62) rfl (fun hg=>(Qc (v:=iV v62) rfl tv)) rfl⟩,⟨.inl tv,Hy (v:=Eb a0) rfl (fun hg=>(Qc (v:=Eb a0) rfl tv)) rfl⟩,tv⟩ (Cb (En (r:=iV r72) rfl false (fun hg=>H333 s68 r72 (ip hg e73)) ⟨(fun hg=>hg),tv⟩ (fun _=>rfl) (fun _=>rfl) (fun _=>rfl) (fun h=>nomatch h) (dw [(0,Eb a0),(4,.own 256 0 1 (p26.map (eL 1 Gh))),(5,iV p27),(7,iV v62),(34,.bool (bif (!r64) then true else (decide ((wi (v62+4))>(a0.length:Int))))),(39,.may ((bif (!r64) then true else (decide ((wi (v62+4))>(a0.length:Int))))==false) (iV r70)),(45,.may ((bif (!r64) then true else (decide ((wi (v62+4))>(a0.length:Int))))==false) (iV r72))] [] tv (d_ (Hj 3 (bv h1 fun v74 e75 h1=>Dy ⟨[(0,Eb a0),(4,.own 256 0 1 (p26.map (eL 1 Gh))),(5,iV p27),(7,iV v62),(47,.bool v74)],[],[]⟩ (Er (by subst e75; kernel_rfl)) (Cw h1 (fun c76 h1=>?_) (fun c76 h1=>?_))))))) Az))) Az⟩)))))
   ·obtain rfl:=sj h1
    obtain rfl:=hx1 _ rfl
    refine Iw rfl ?_
    exact jn hE1 ⟨_,_,rfl,rfl⟩
   ·refine At 8 (Ah (bb h1 fun s77 e78 h1=>st (c_ (Hi (e:=Gh) (y:=s77) rfl rfl tv ⟨tv,tv,tv⟩ rfl rfl e78) (bb h1 fun r79 e80 h1=>Ji (H325 s77 r79 e80) (af rfl) (st (Ky ⟨tv,tv⟩ ⟨⟨nl rfl,rfl,rfl⟩,tv⟩ (gg h1 fun c81 h1=>st (Fp (e:=(eL 1 Gh)) (l0:=p26) (l1:=([r79]:List (List UInt8))) rfl rfl tv rfl (by decide) c81 (o_ (As 2 [(0,Eb a0),(4,.own 256 0 1 ((p26++([r79]:List (List UInt8))).map (eL 1 Gh))),(7,iV v62)] [] (At 5 ?_)))))))))))
    obtain rfl:=sj h1
    exact kn hK1 rfl rfl
  ·obtain rfl:=sj h1
   obtain rfl:=hx1 _ rfl
   refine Iw rfl ?_
   exact jn hE1 ⟨_,_,rfl,rfl⟩

/- loop.example/g00149/impl.LogOf -/
def ZE:List Bj:=[X_ 1 0,⟨some 2,.nilS 1,none⟩,i_ 3 0]
def ZF:=[L_ 6 1 2,q_ 7 216 [.t 6],N_ 8 7]
def ZG:List Bj:=[⟨some 2,.nilS 1,none⟩,i_ 3 1]
def ZH:=[L_ 10 1 2,q_ 11 263 [.t 10],q_ 12 275 [.t 11],m_ 9 12,e_ 13 9 0,e_ 14 9 1,m_ 4 13,m_ 5 14]
def ZI:=[m_ 15 4,m_ 2 15,i_ 3 0]
def c220:De:=⟨1,16,[.t 2,.t 3],sr ZE (.seq (sr ZF (iz 8 (rr ZG))) (sr ZH (rr ZI)))⟩
def K220 (D:Ba):Prop:=∀a0 r,Ald a0=some r→D 220 ⟨[.agg (Ch a0)],[]⟩ ⟨.tup [.own 0 0 1 (r.1.map (eL 1 Gh)),iV r.2],[],[]⟩
theorem F220 (H216:pG C) (H263:pH C) (H275:zA C):K220 (FO C c220):=by
 intro a0 r h0
 refine f0 (As 5 [(1,.ptr 64 0)] [(64,Ch a0)] (At 3 (Ah (bb h0 fun r1 e2 h0=>Il (H216 a0 r1 e2) (o_ (As 2 [(1,.ptr 64 0),(8,.bool (!r1))] [(64,Ch a0)] (Cw h0 (fun c3 h0=>?_) (fun c3 h0=>?_))))))))
 ·obtain rfl:=sj h0
  exact Cs 5
 ·refine At 4 (Ah (bb h0 fun r4 e5 h0=>Ji (H263 a0 r4 e5) (af rfl) (bb h0 fun r6 e7 h0=>st (Cm (r:=.tup [.own 0 0 1 (r6.1.map (eL 1 Gh)),iV r6.2]) true (H275 r4 r6 e7) ⟨tv,tv⟩ rfl rfl (fun h=>nomatch h) (o_ ?_)))))
  obtain rfl:=sj h0
  exact Cs 13

/- (loop.example/g00149/impl.Device).crash -/
def AaV:=[X_ 2 0,a_ 4 [.own 257 0 1 [],.own 258 0 2 []]]
def AaW:=[f_ 8 2 0,l_ 9 8 1,q_ 10 325 [.t 9],m_ 5 10]
def AaX:=[f_ 11 2 1,l_ 12 11 1,n_ 13 12,i_ 14 0]
def AaY:=[b_ .lss 15 14 13]
def AaZ:=[m_ 16 14,x_ 17 12 14 2,L_ 18 17 2,a_ 7 [iV 0,.own 450 0 1 []],m_ 6 16,s_ 7 18 2]
def Aba:=[m_ 19 6,m_ 20 1,n_ 21 20,b_ .lss 22 19 21,m_ 23 22,mT 23 24 1,mT 23 25 6,xT 23 26 24 25 1,lT 23 27 26 1 false,pa 28 23 27]
def Abb:=[m_ 29 5,L_ 30 7 2,q_ 31 326 [.t 29,.t 30],m_ 5 31]
def Abc:=[B_ .add 32 14 1,m_ 14 32]
def AaU:IR:=(sr AaY (.seq (.ite (.t 15) .skip (.exit 0)) (.seq (.block 1 (sr AaZ (sr Aba (iz 28 (.reg Abb))))) (.reg Abc))))
def Abd:List Bj:=[m_ 33 5,⟨some 34,.p (.build [.own 2177 0 1 [],.own 2178 0 2 []] [(0,1,.t 33)]),none⟩,s_ 4 34 2]
def c268:De:=⟨2,35,[.cell 4 2 true],sr AaV (sr AaW (.seq (sr AaX (Jc 0 AaU)) (rr Abd)))⟩
def K268 (D:Ba):Prop:=∀a0 a1 r,Alm a0 a1=some r→D 268 ⟨[.agg (Ch a0),lB a1],[]⟩ ⟨.agg (By r (Al 0) (Al 1)),[],[]⟩
abbrev Ph:=fun (r:List (Nat×List V))=>(256,[Eo 257 [],Bo 258 []])::r
abbrev Yt:=fun x0 x1 (r:List (Nat×V))=>(1,lB x0)::(4,.ptr 256 0)::(12,Cr x1)::r
theorem F268 (H325:pI C) (H326:NQ C):K268 (FO C c268):=by
 intro a0 a1 r h0
 refine f0 (As 4 [(1,lB a1),(2,.ptr 128 0),(4,.ptr 256 0)] (Ph [(128,Ch a0)]) (At 3 (Ah (bb h0 fun r1 e2 h0=>Ji (H325 a0.held r1 e2) (af rfl) (o_ (As 2 [(1,lB a1),(2,.ptr 128 0),(4,.ptr 256 0),(5,Eo 640 r1)] (Ph [(128,Ch a0)]) (At 4 (Ah (Hf rfl (o_ (As 2 (Yt a1 a0.Av [(5,Eo 640 r1),(13,iV (a0.Av.length:Int)),(14,iV 0)]) (Ph []) (Ci (bb h0 fun r43 e44 h0=>Df (R:=(fun S=>∃p25:List UInt8,p25=r43∧S=⟨[(4,.ptr 256 0),(5,Eo 640 p25)],Ph [],[]⟩)) (Sr a0 a1) (fun s S=>match s with | (p12,p13)=>S=⟨Yt a1 a0.Av [(5,Eo 640 p12),(13,iV (a0.Av.length:Int)),(14,iV p13)],Ph [],[]⟩) e44 _ (Er (by kernel_rfl)) rfl 0 (fun _=>rfl) ?_ ?_)))))))))))))
 ·rintro S _ hfg ⟨p25,rfl,rfl⟩
  refine Dy _ hfg (Bk (Ah (st (Dc rfl tv (st (c_ (v:=.agg [Eo 640 p25,Bo 2178 []]) (Bw ⟨tv,tv⟩ rfl ⟨⟨rfl,rfl,nl rfl⟩,tv⟩) (o_ ?_)))))))
  obtain rfl:=sj h0
  exact Cs 3
 ·rintro ⟨p12,p13⟩ o1 _ K1 rfl h1 hx1 hK1 hE1 hR1
  refine As 3 (Yt a1 a0.Av [(5,Eo 640 p12),(13,iV (a0.Av.length:Int)),(14,iV p13),(15,.bool (decide (p13<(a0.Av.length:Int))))]) (Ph []) (Bk (Cw h1 (fun c26 h1=>?_) (fun c26 h1=>?_)))
  ·refine Mm 3 (Hz (fun S=>∃p34:List UInt8,S=⟨Yt a1 a0.Av [(5,Eo 1984 p34),(13,iV (a0.Av.length:Int)),(14,iV p13)],Ph [],[]⟩∧bA p13 p34=some o1) ?_ (fun J35=>?_))
   ·rintro _ ⟨p34,rfl,h1⟩
    refine At 4 ?_
    obtain rfl:=sj h1
    exact hK1 _ rfl _ _ (Lz [] [(1984,640)] rfl (by kernel_rfl)) rfl
   ·refine Bk ?_
    refine Ah (st (Dc rfl tv (bb h1 fun y36 e37 h1=>Ns rfl rfl e37 (o_ (As 5 (Yt a1 a0.Av [(5,Eo 640 p12),(6,iV p13),(7,.ptr 448 0),(13,iV (a0.Av.length:Int)),(14,iV p13)]) (Ph [(448,Du y36)]) (At 3 (Ah (Hf rfl (o_ (Hj 4 (Ah (bb h1 fun y38 e39 h1=>st (Ep (u:=.iptr [.bool y38]) rfl (fun hg=>(Ua (e:=eB) (y:=y38) rfl rfl (fun _=>hg) rfl rfl (fun _=>hg) (ip hg e39))) (o_ (uE 3 (Yt a1 a0.Av [(5,Eo 640 p12),(7,.ptr 448 0),(13,iV (a0.Av.length:Int)),(14,iV p13),(28,.bool (bif (decide (p13<(a1.length:Int))) then y38 else false))]) (Ph [(448,Du y36)]) (Cw h1 (fun c40 h1=>?_) (fun c40 h1=>?_)))))))))))))))))
    ·refine At 2 (Ah (bb h1 fun r41 e42 h1=>fE [] [] [640] (H326 p12 y36 r41 e42) (Bq (af rfl) rfl) (st (Dc rfl tv (In (Um ?_))))))
     exact jn J35 ⟨_,rfl,h1⟩
    ·refine Nh (Um ?_)
     exact J35 _ _ (Lz [] [(640,1984)] rfl (by kernel_rfl)) ⟨_,rfl,h1⟩
  ·obtain rfl:=sj h1
   obtain rfl:=hx1 _ rfl
   refine Iw rfl ?_
   exact jn hE1 ⟨_,rfl,rfl⟩

/- loop.example/g00149/impl.isList[bool] -/
def AbG:=[k_ 2 (.bool false)]
def AbH:=[m_ 3 0,n_ 4 3,B_ .leq 5 4 4096,m_ 2 5]
def c305:De:=⟨1,6,[.t 2],sr AbG (rr AbH)⟩
def K305 (D:Ba):Prop:=∀a0 r,g305 a0=some r→D 305 ⟨[lB a0],[]⟩ ⟨.bool r,[],[]⟩
theorem F305:K305 (FO C c305):=by
 intro a0 r h0
 refine f0 (As 3 [(0,lB a0)] [] (Bk (Ah (st (Dc rfl tv (Hf rfl (o_ ?_)))))))
 obtain rfl:=sj h0
 exact Cs 4

/- loop.example/g00149/impl.DeviceCrash -/
def ZJ:=[X_ 2 0,a_ 4 [.own 257 0 1 [],.own 258 0 2 []],i_ 5 0]
def ZK:=[m_ 7 1,q_ 8 305 [.t 7],N_ 9 8,m_ 6 9]
def ZL:=[iQ 10 (.build [.own 641 0 1 [],.own 642 0 2 []] []),s_ 4 10 2,i_ 5 2]
def ZM:=[L_ 12 2 2,q_ 13 216 [.t 12],N_ 14 13,m_ 11 14]
def ZN:=[iQ 15 (.build [.own 961 0 1 [],.own 962 0 2 []] []),s_ 4 15 2,i_ 5 1]
def ZO:=[L_ 16 2 2,m_ 17 1,q_ 18 268 [.t 16,.t 17],s_ 4 18 2,i_ 5 0]
def c242:De:=⟨2,19,[.cell 4 2 true,.t 5],sr ZJ (.seq (.block 0 (sr ZK (.ite (.t 6) (rr ZL) (sr ZM (iz 11 (rr ZN)))))) (rr ZO))⟩
def K242 (D:Ba):Prop:=∀a0 a1 r,IN a0 a1=some r→D 242 ⟨[.agg (Ch a0),lB a1],[]⟩ ⟨.tup [.agg (By r.1 (Al 0) (Al 1)),iV r.2],[],[]⟩
theorem F242 (H216:pG C) (H268:K268 C) (H305:K305 C):K242 (FO C c242):=by
 intro a0 a1 r h0
 refine f0 (As 5 [(1,lB a1),(2,.ptr 128 0),(4,.ptr 256 0)] [(128,Ch a0),(256,[Eo 257 [],Bo 258 []])] (At 4 (Ah (bb h0 fun r1 e2 h0=>Il (H305 a1 r1 e2) (o_ (As 3 [(1,lB a1),(2,.ptr 128 0),(4,.ptr 256 0),(6,.bool (!r1))] [(128,Ch a0),(256,[Eo 257 [],Bo 258 []])] (Cw h0 (fun c3 h0=>?_) (fun c3 h0=>?_))))))))
 ·obtain rfl:=sj h0
  exact Cs 6
 ·refine At 2 (Ah (bb h0 fun r4 e5 h0=>Il (H216 a0 r4 e5) (o_ (As 3 [(1,lB a1),(2,.ptr 128 0),(4,.ptr 256 0),(11,.bool (!r4))] [(128,Ch a0),(256,[Eo 257 [],Bo 258 []])] (Cw h0 (fun c6 h0=>?_) (fun c6 h0=>?_))))))
  ·obtain rfl:=sj h0
   exact Cs 6
  ·refine At 6 (Ah (bb h0 fun r7 e8 h0=>st (Cm (r:=.agg (By r7 (Al 0) (Al 1))) true (H268 a0 a1 r7 e8) ⟨tv,tv,tv⟩ rfl rfl (fun h=>nomatch h) (o_ ?_))))
   obtain rfl:=sj h0
   exact Cs 4

/- (*loop.example/g00149/spec.l00Src).flags -/
def AbJ:List Bj:=[⟨some 4,.nilS 1,none⟩]
def AbK:List Bj:=[⟨some 7,.mkS 1 [.bool false] 0 [],none⟩,m_ 5 7]
def AbL:=[m_ 8 0,m_ 9 1,B_ .add 10 9 1,q_ 11 117 [.t 8,.t 10],m_ 6 11]
def AbM:=[m_ 12 6,B_ .gtr 13 12 0]
def AbN:List Bj:=[m_ 16 5,m_ 17 0,q_ 18 119 [.t 17,.c (iV 2)],⟨some 19,.mkS 1 [.bool false] 1 [(0,.t 18)],none⟩,⟨some 20,.app 1 1 (.t 16) (.t 19),none⟩,m_ 5 20]
def AbO:=[m_ 14 6,B_ .sub 15 14 1,m_ 6 15]
def AbI:IR:=(.seq (sr AbM (.ite (.t 13) .skip (.exit 0))) (.seq (.block 1 (.reg AbN)) (.reg AbO)))
def AbP:=[m_ 21 5,m_ 4 21]
def c306:De:=⟨2,22,[.t 4],sr AbJ (sr AbK (.seq (sr AbL (Jc 0 AbI)) (rr AbP)))⟩
def K306 (D:Ba):Prop:=∀a0 a1 r,Alu a0 a1=some r→D 306 ⟨[.ptr 1048576 0,iV a1],[Br a0]⟩ ⟨oB 0 r.1,[Br r.2],[]⟩
theorem F306 (H117:pE C) (H119:NL C):K306 (FO C c306):=by
 intro a0 a1 r h0
 refine f0 (As 8 [(0,.ptr 1048576 0),(1,iV a1),(5,oB 448 [])] [(1048576,Br a0)] (At 5 (Ah (bb h0 fun r1 e2 h0=>Vv [1048576] [] [] (H117 a0 (wi (a1+1)) r1 e2) (o_ (As 2 [(0,.ptr 1048576 0),(5,oB 448 []),(6,iV r1.1)] [(1048576,Br r1.2)] (Ci (bb h0 fun r29 e30 h0=>Df (R:=(fun S=>∃p21:List Bool,∃p22:List UInt8,∃p23:Int,∃p24:Int,(p21,p22,p23,p24)=r29∧S=⟨[(5,oB 448 p21)],[(1048576,Eu u_ p22 p23 p24)],[]⟩)) (bB) (fun s S=>match s with | (p7,p8,p9,p10,p11)=>S=⟨[(0,.ptr 1048576 0),(5,oB 448 p7),(6,iV p8)],[(1048576,Eu u_ p9 p10 p11)],[]⟩) e30 _ (Er (by kernel_rfl)) rfl 0 (fun _=>rfl) ?_ ?_))))))))
 ·rintro S _ hfg ⟨p21,p22,p23,p24,rfl,rfl⟩
  refine Dy _ hfg ?_
  obtain rfl:=sj h0
  exact Cs 5
 ·rintro ⟨p7,p8,p9,p10,p11⟩ o1 _ K1 rfl h1 hx1 hK1 hE1 hR1
  refine As 5 [(0,.ptr 1048576 0),(5,oB 448 p7),(6,iV p8),(13,.bool (decide (p8>0)))] [(1048576,Eu u_ p9 p10 p11)] (Cw h1 (fun c25 h1=>?_) (fun c25 h1=>?_))
  ·refine At 6 (Ah (bb h1 fun r26 e27 h1=>Vv [1048576] [] [] (H119 (Bz.mk p9 p10 p11) 2 r26 e27) (st (Ky ⟨tv,tv⟩ ⟨⟨nl rfl,rfl,rfl⟩,tv⟩ (gg h1 fun c28 h1=>st (Fp (e:=eB) (l0:=p7) (l1:=([r26.1]:List Bool)) rfl rfl tv rfl (by decide) c28 (o_ (As 3 [(0,.ptr 1048576 0),(5,oB 448 (p7++([r26.1]:List Bool))),(6,iV p8)] [(1048576,Br r26.2)] (At 4 ?_)))))))))
   obtain rfl:=sj h1
   exact kn hK1 rfl rfl
  ·obtain rfl:=sj h1
   obtain rfl:=hx1 _ rfl
   refine Iw rfl ?_
   exact jn hE1 ⟨_,_,_,_,rfl,rfl⟩

/- loop.example/g00149/spec.FlagsOf -/
def ZP:List Bj:=[⟨some 2,.nilS 1,none⟩]
def ZQ:=[m_ 3 0,q_ 4 83 [.t 3],q_ 5 306 [.t 4,.c (iV 12)],m_ 2 5]
def c243:De:=⟨1,6,[.t 2],sr ZP (rr ZQ)⟩
def K243 (D:Ba):Prop:=∀a0 r,Alf a0=some r→D 243 ⟨[Eb a0],[]⟩ ⟨oB 0 r,[],[]⟩
theorem F243 (H83:K83 C) (H306:K306 C):K243 (FO C c243):=by
 intro a0 r h0
 refine f0 (As 3 [(0,Eb a0)] [] (Bk (Ah (st (Dc rfl tv (bb h0 fun r1 e2 h0=>Vv [] [] [] (H83 a0 r1 e2) (bb h0 fun r3 e4 h0=>Vv [256] [] [] (H306 r1 12 r3 e4) (o_ ?_))))))))
 obtain rfl:=sj h0
 exact Cs 3

/- loop.example/g00149/impl.isSerial -/
def c58_r0:=[k_ 2 (.bool false)]
def c58_r1:=[m_ 3 0,q_ 4 63 [.t 3,.c (iV 1),.c (iV 1000000)],m_ 2 4]
def c58:De:=⟨1,5,[.t 2],sr c58_r0 (rr c58_r1)⟩
def K58 (D:Ba):Prop:=∀a0 r,g58 a0=some r→D 58 ⟨[iV a0],[]⟩ ⟨.bool r,[],[]⟩
theorem F58 (H63:yV C):K58 (FO C c58):=by
 intro a0 r h0
 refine f0 (As 3 [(0,iV a0)] [] (Bk (Ah (st (Dc rfl tv (bb h0 fun r1 e2 h0=>Il (H63 a0 1 1000000 r1 e2) (o_ ?_)))))))
 obtain rfl:=sj h0
 exact Cs 3

/- loop.example/g00149/impl.rises -/
def c59_r0:=[k_ 6 (.bool false)]
def c59_r1:=[m_ 9 0,n_ 10 9,i_ 11 0]
def c59_r2:=[b_ .lss 12 11 10]
def c59_r3:=[m_ 13 11,x_ 14 9 11 1,l_ 15 14 1,m_ 7 13,m_ 8 15]
def c59_r4:List Bj:=[m_ 16 8,m_ 17 1,m_ 18 2,q_ 19 63 [.t 16,.t 17,.t 18],N_ 20 19,m_ 21 20,mF 21 22 7,pF 21 23 (.bin .gtr (.t 22) (.c (iV 0))),mF 21 24 23,mT 24 25 0,mT 24 26 7,pT 24 27 (.bin .sub (.t 26) (.c (iV 1))),xT 24 28 25 27 1,lT 24 29 28 1 false,mT 24 30 8,pT 24 31 (.bin .geq (.t 29) (.t 30)),⟨some 32,.pick (.t 24) (.t 31) (.c (.bool false)),some (21,false)⟩,po 33 21 32]
def c59_r5:=[k_ 6 (.bool false)]
def c59_r6:=[B_ .add 34 11 1,m_ 11 34]
def c59_l0:IR:=(sr c59_r2 (.seq (.ite (.t 12) .skip (.exit 0)) (.seq (.block 1 (sr c59_r3 (sr c59_r4 (iz 33 (rr c59_r5))))) (.reg c59_r6))))
def c59_r7:=[k_ 6 (.bool true)]
def c59:De:=⟨3,35,[.t 6],sr c59_r0 (.seq (sr c59_r1 (Jc 0 c59_l0)) (rr c59_r7))⟩
def K59 (D:Ba):Prop:=∀a0 a1 a2 r,g59 a0 a1 a2=some r→D 59 ⟨[lI a0,iV a1,iV a2],[]⟩ ⟨.bool r,[],[]⟩
abbrev nF:=fun x0 x1 x2 (r:List (Nat×V))=>(0,lI x0)::(1,iV x1)::(2,iV x2)::(9,lI x0)::r
theorem F59 (H63:yV C):K59 (FO C c59):=by
 intro a0 a1 a2 r h0
 refine f0 (As 3 [(0,lI a0),(1,iV a1),(2,iV a2)] [] (At 3 (Ah (Hf rfl (o_ (As 2 (nF a0 a1 a2 [(10,iV (a0.length:Int)),(11,iV 0)]) [] (Ci (bb h0 fun r33 e34 h0=>Df (R:=(fun S=>.inl ()=r33∧S=⟨[],[],[]⟩)) (cV a0 a1 a2) (fun s S=>match s with | p11=>S=⟨nF a0 a1 a2 [(10,iV (a0.length:Int)),(11,iV p11)],[],[]⟩) e34 _ (Er (by kernel_rfl)) rfl 0 (fun _=>rfl) ?_ ?_))))))))
 ·rintro S _ hfg ⟨rfl,rfl⟩
  refine Dy _ hfg ?_
  obtain rfl:=sj h0
  exact Cs 4
 ·rintro p11 o1 _ K1 rfl h1 hx1 hK1 hE1 hR1
  refine As 3 (nF a0 a1 a2 [(10,iV (a0.length:Int)),(11,iV p11),(12,.bool (decide (p11<(a0.length:Int))))]) [] (Bk (Cw h1 (fun c23 h1=>?_) (fun c23 h1=>?_)))
  ·refine At 6 (Ah (bb h1 fun y24 e25 h1=>Ns rfl rfl e25 (o_ (As 4 (nF a0 a1 a2 [(7,iV p11),(8,iV y24),(10,iV (a0.length:Int)),(11,iV p11)]) [] (At 4 (Ah (bb h1 fun r26 e27 h1=>Il (H63 y24 a1 a2 r26 e27) (o_ (Hj 8 (Ah (bb h1 fun y28 e29 h1=>st (Ep (u:=.iptr [iV y28]) rfl (fun hg=>(Ua (e:=eI) (y:=y28) rfl rfl (fun _=>hg) rfl rfl (fun _=>hg) (ip hg e29))) (o_ (Hj 3 (Ah (st (Pk (u:=.bool (bif (decide (p11>0)) then (decide (y28≥y24)) else false)) rfl (fun hg=>Vy rfl rfl (fun _=>hg) rfl rfl (fun h=>Bq hg (tM h)) tv rfl) (o_ (Hj 2 (bv h1 fun v30 e31 h1=>Dy ⟨nF a0 a1 a2 [(10,iV (a0.length:Int)),(11,iV p11),(33,.bool v30)],[],[]⟩ (Er (by subst e31; kernel_rfl)) (Cw h1 (fun c32 h1=>?_) (fun c32 h1=>?_))))))))))))))))))))))
   ·obtain rfl:=sj h1
    obtain rfl:=hx1 _ rfl
    obtain rfl:=sj h0
    exact Yy 4 hR1
   ·refine At 6 ?_
    obtain rfl:=sj h1
    exact kn hK1 rfl rfl
  ·obtain rfl:=sj h1
   obtain rfl:=hx1 _ rfl
   refine Iw rfl ?_
   exact jn hE1 ⟨rfl,rfl⟩

/- (loop.example/g00149/impl.Table).ids -/
def c60_r0:List Bj:=[X_ 1 0,⟨some 2,.nilS 1,none⟩]
def c60_r1:List Bj:=[⟨some 3,.nilS 1,none⟩]
def c60_r2:=[f_ 6 1 2,l_ 7 6 1,n_ 8 7,i_ 9 0]
def c60_r3:=[b_ .lss 10 9 8]
def c60_r4:=[x_ 11 7 9 4,L_ 12 11 4,a_ 5 [iV 0,iV 0,iV 0,.bool false],s_ 5 12 4]
def c60_r5:List Bj:=[m_ 13 3,f_ 14 5 0,l_ 15 14 1,⟨some 16,.mkS 1 [iV 0] 1 [(0,.t 15)],none⟩,⟨some 17,.app 1 8 (.t 13) (.t 16),none⟩,m_ 3 17]
def c60_r6:=[B_ .add 18 9 1,m_ 9 18]
def c60_l0:IR:=(sr c60_r3 (.seq (.ite (.t 10) .skip (.exit 0)) (.seq (.block 1 (sr c60_r4 (.reg c60_r5))) (.reg c60_r6))))
def c60_r7:=[m_ 19 3,m_ 2 19]
def c60:De:=⟨1,20,[.t 2],sr c60_r0 (sr c60_r1 (.seq (sr c60_r2 (Jc 0 c60_l0)) (rr c60_r7)))⟩
def K60 (D:Ba):Prop:=∀a0 r,g60 a0=some r→D 60 ⟨[.agg (Bh a0)],[]⟩ ⟨oI 0 r,[],[]⟩
theorem F60:K60 (FO C c60):=by
 intro a0 r h0
 refine f0 (As 8 [(1,.ptr 64 0),(3,.own 192 0 1 ([].map eI))] [(64,Bh a0)] (At 4 (Ah (Hf rfl (o_ (As 2 [(3,.own 192 0 1 ([].map eI)),(7,Dh a0.Ac),(8,iV (a0.Ac.length:Int)),(9,iV 0)] [] (Ci (bb h0 fun r18 e19 h0=>Df (R:=(fun S=>∃p13:List Int,p13=r18∧S=⟨[(3,oI 192 p13)],[],[]⟩)) (Oz a0) (fun s S=>match s with | (p5,p6)=>S=⟨[(3,oI 192 p5),(7,Dh a0.Ac),(8,iV (a0.Ac.length:Int)),(9,iV p6)],[],[]⟩) e19 _ (Er (by kernel_rfl)) rfl 0 (fun _=>rfl) ?_ ?_))))))))
 ·rintro S _ hfg ⟨p13,rfl,rfl⟩
  refine Dy _ hfg ?_
  obtain rfl:=sj h0
  exact Cs 5
 ·rintro ⟨p5,p6⟩ o1 _ K1 rfl h1 hx1 hK1 hE1 hR1
  refine As 3 [(3,oI 192 p5),(7,Dh a0.Ac),(8,iV (a0.Ac.length:Int)),(9,iV p6),(10,.bool (decide (p6<(a0.Ac.length:Int))))] [] (Bk (Cw h1 (fun c14 h1=>?_) (fun c14 h1=>?_)))
  ·refine Mm 5 (Ah (bb h1 fun y15 e16 h1=>Ns rfl rfl e16 (o_ (As 4 [(3,oI 192 p5),(5,.ptr 320 0),(7,Dh a0.Ac),(8,iV (a0.Ac.length:Int)),(9,iV p6)] [(320,Bg y15)] (At 4 (Ah (gg h1 fun c17 h1=>st (Fp (e:=eI) (l0:=p5) (l1:=([y15.id]:List Int)) rfl rfl tv rfl (by decide) c17 (o_ (As 3 [(3,oI 192 (p5++([y15.id]:List Int))),(7,Dh a0.Ac),(8,iV (a0.Ac.length:Int)),(9,iV p6)] [] (At 3 ?_)))))))))))
   obtain rfl:=sj h1
   exact kn hK1 rfl rfl
  ·obtain rfl:=sj h1
   obtain rfl:=hx1 _ rfl
   refine Iw rfl ?_
   exact jn hE1 ⟨_,rfl,rfl⟩

/- slices.IndexFunc[[]loop.example/g00149/impl.Lease,loop.example/g00149/impl.Lease] -/
def QC:=[i_ 4 0]
def QD:=[m_ 6 0,n_ 7 6,i_ 8 0]
def QE:=[b_ .lss 9 8 7]
def QF:=[m_ 10 8,m_ 5 10]
def QG:List Bj:=[m_ 11 1,m_ 12 0,m_ 13 5,x_ 14 12 13 4,L_ 15 14 4,⟨some 16,.callv (.t 11) [.t 15],none⟩]
def QH:=[m_ 17 5,m_ 4 17]
def QI:=[B_ .add 18 8 1,m_ 8 18]
def QB:IR:=(sr QE (.seq (.ite (.t 9) .skip (.exit 0)) (.seq (.block 1 (sr QF (sr QG (iz 16 (rr QH))))) (.reg QI))))
def QJ:=[i_ 4 (-1)]
def QA:De:=⟨2,19,[.t 4],sr QC (.seq (sr QD (Jc 0 QB)) (rr QJ))⟩
def K108 (C:Ba) (D:Ba:=C):Prop:=∀(a0:List Af) (f1:Nat) (k1:List V) (is1:Af→Option Bool) (hs1:Kp k1) (hf1:∀(x0:Af) r,is1 x0=some r→C f1 ⟨.agg (Bg x0)::k1,[]⟩ ⟨.bool r,[],[]⟩) (r:Int),IF a0 is1=some r→D 108 ⟨[Dh a0,.clo f1 k1],[]⟩ ⟨iV r,[],[]⟩
theorem F108:K108 C (FO C QA):=by
 intro a0 f1 k1 is1 hs1 hf1 r h0
 refine f0 (As 3 [(0,Dh a0),(1,.clo f1 k1)] [] (At 3 (Ah (Hf rfl (o_ (As 2 [(0,Dh a0),(1,.clo f1 k1),(7,iV (a0.length:Int)),(8,iV 0)] [] (Ci (bb h0 fun r21 e22 h0=>Df (R:=(fun S=>.inl ()=r21∧S=⟨[],[],[]⟩)) (Sh a0 is1) (fun s S=>match s with | p7=>S=⟨[(0,Dh a0),(1,.clo f1 k1),(7,iV (a0.length:Int)),(8,iV p7)],[],[]⟩) e22 _ (Er (by kernel_rfl)) rfl 0 (fun _=>rfl) ?_ ?_))))))))
 ·rintro S _ hfg ⟨rfl,rfl⟩
  refine Dy _ hfg ?_
  obtain rfl:=sj h0
  exact Cs 4
 ·rintro p7 o1 _ K1 rfl h1 hx1 hK1 hE1 hR1
  refine As 3 [(0,Dh a0),(1,.clo f1 k1),(7,iV (a0.length:Int)),(8,iV p7),(9,.bool (decide (p7<(a0.length:Int))))] [] (Bk (Cw h1 (fun c15 h1=>?_) (fun c15 h1=>?_)))
  ·refine As 8 [(0,Dh a0),(1,.clo f1 k1),(5,iV p7),(7,iV (a0.length:Int)),(8,iV p7)] [] (At 4 (Ah (bb h1 fun y16 e17 h1=>Ns rfl rfl e17 (st (c_ (v:=.agg (Bg y16)) (Bw ⟨tv,tv⟩ rfl (nl rfl)) (bb h1 fun r18 e19 h1=>st (Gg (r:=.bool r18) rfl false (hf1 _ r18 e19) ⟨tv,tv⟩ (Bq rfl hs1.2.2.1) (Ej rfl (hs1.2.1 _ _ _ _ _)) (fun _=>rfl) (o_ (As 1 [(0,Dh a0),(1,.clo f1 k1),(5,iV p7),(7,iV (a0.length:Int)),(8,iV p7),(16,.bool r18)] [] (Cw h1 (fun eZ h1=>?_) (fun eZ h1=>?_)))))))))))
   ·obtain rfl:=sj h1
    obtain rfl:=hx1 _ rfl
    obtain rfl:=sj h0
    exact Yy 5 hR1
   ·refine At 6 ?_
    obtain rfl:=sj h1
    exact kn hK1 rfl rfl
  ·obtain rfl:=sj h1
   obtain rfl:=hx1 _ rfl
   refine Iw rfl ?_
   exact jn hE1 ⟨rfl,rfl⟩

/- slices.ContainsFunc[[]loop.example/g00149/impl.Lease,loop.example/g00149/impl.Lease] -/
def PV:=[k_ 4 (.bool false)]
def PW:=[m_ 5 0,m_ 6 1,q_ 7 108 [.t 5,.t 6],B_ .geq 8 7 0,m_ 4 8]
def c105:De:=⟨2,9,[.t 4],sr PV (rr PW)⟩
def K105 (C:Ba) (D:Ba:=C):Prop:=∀(a0:List Af) (f1:Nat) (k1:List V) (is1:Af→Option Bool) (hs1:Kp k1) (hf1:∀(x0:Af) r,is1 x0=some r→C f1 ⟨.agg (Bg x0)::k1,[]⟩ ⟨.bool r,[],[]⟩) (r:Bool),g105 a0 is1=some r→D 105 ⟨[Dh a0,.clo f1 k1],[]⟩ ⟨.bool r,[],[]⟩
theorem F105 (H108:K108 C):K105 C (FO C c105):=by
 intro a0 f1 k1 is1 hs1 hf1 r h0
 refine f0 (As 3 [(0,Dh a0),(1,.clo f1 k1)] [] (At 3 (Ah (bb h0 fun r1 e2 h0=>st (Cm (r:=iV r1) false (H108 a0 f1 k1 is1 hs1 hf1 r1 e2) ⟨tv,tv,tv⟩ rfl (Ej rfl (Ej (Yc hs1) rfl)) (fun _=>rfl) (o_ ?_))))))
 obtain rfl:=sj h0
 exact Cs 4

/- loop.example/g00149/impl.areAll[loop.example/g00149/impl.Lease]$1 -/
def PY:=[X_ 2 0,k_ 3 (.bool false)]
def PZ:List Bj:=[l_ 4 1 1,L_ 5 2 4,⟨some 6,.callv (.t 4) [.t 5],none⟩,N_ 7 6,m_ 3 7]
def PX:De:=⟨2,8,[.t 3],sr PY (rr PZ)⟩
def K106 (C:Ba) (D:Ba:=C):Prop:=∀(a0:Af) (f1:Nat) (k1:List V) (is1:Af→Option Bool) (hs1:Kp k1) (hf1:∀(x0:Af) r,is1 x0=some r→C f1 ⟨.agg (Bg x0)::k1,[]⟩ ⟨.bool r,[],[]⟩) (r:Bool),IE a0 is1=some r→D 106 ⟨[.agg (Bg a0),.iptr [.clo f1 k1]],[]⟩ ⟨.bool r,[],[]⟩
theorem F106:K106 C (FO C PX):=by
 intro a0 f1 k1 is1 hs1 hf1 r h0
 refine f0 (As 4 [(1,.iptr [.clo f1 k1]),(2,.ptr 128 0)] [(128,Bg a0)] (At 3 (Ah (bb h0 fun r1 e2 h0=>st (Gg (r:=.bool r1) rfl false (hf1 _ r1 e2) ⟨tv,tv⟩ (Bq rfl hs1.2.2.1) (Ej rfl (hs1.2.1 _ _ _ _ _)) (fun _=>rfl) (o_ ?_))))))
 obtain rfl:=sj h0
 exact Cs 4

/- loop.example/g00149/impl.areAll[loop.example/g00149/impl.Lease] -/
def c61_r0:=[X_ 3 1,k_ 4 (.bool false)]
def c61_r1:=[m_ 5 0,iQ 6 (.fn 106 [.t 3]),q_ 7 105 [.t 5,.t 6],N_ 8 7,m_ 4 8]
def c61:De:=⟨2,9,[.t 4],sr c61_r0 (rr c61_r1)⟩
def K61 (C:Ba) (D:Ba:=C):Prop:=∀(a0:List Af) (f1:Nat) (k1:List V) (is1:Af→Option Bool) (hs1:Kp k1) (hf1:∀(x0:Af) r,is1 x0=some r→C f1 ⟨.agg (Bg x0)::k1,[]⟩ ⟨.bool r,[],[]⟩) (r:Bool),g61 a0 is1=some r→D 61 ⟨[Dh a0,.clo f1 k1],[]⟩ ⟨.bool r,[],[]⟩
theorem F61 (H105:K105 C) (H106:K106 C):K61 C (FO C c61):=by
 intro a0 f1 k1 is1 hs1 hf1 r h0
 refine f0 (Bk (Ah (st (vX (cJ hs1) tv rfl (o_ (As 2 [(0,Dh a0),(3,.ptr 192 0)] [(192,[.clo f1 k1])] (At 3 (Ah (bb h0 fun r1 e2 h0=>st (Cm (r:=.bool r1) false (H105 a0 106 [.iptr [.clo f1 k1]] (fun z106_0=>IE z106_0 is1) (⟨fun _ _ _ _ _=>rfl,fun _ _ _ _ _=>rfl,rfl,fun _ _ _ n=>by cases n<;>rfl,fun _=>rfl⟩) (fun z106_0 r h=>H106 z106_0 f1 k1 is1 hs1 hf1 r h) r1 e2) ⟨tv,tv,tv⟩ rfl (Ej rfl (Ej (congrArg (fun z=>V.clo 106 [.iptr [.clo f1 z]]) (hs1.2.2.2.1 _ _ _ _)) rfl)) (fun _=>rfl) (o_ ?_)))))))))))
 obtain rfl:=sj h0
 exact Cs 4

/- loop.example/g00149/impl.TableOK$1 -/
def c62_r0:=[X_ 2 0,k_ 3 (.bool false)]
def c62_r1:List Bj:=[f_ 4 2 1,l_ 5 4 1,f_ 6 2 2,l_ 7 6 1,q_ 8 63 [.t 5,.c (iV 0),.t 7],m_ 9 8,fT 9 10 2 3,lT 9 11 10 1 false,mT 9 12 11,fF 12 13 2 1,lF 12 14 13 1 false,fF 12 15 1 0,lF 12 16 15 1 false,pF 12 17 (.bin .gtr (.t 14) (.t 16)),⟨some 18,.pick (.t 12) (.c (.bool true)) (.t 17),some (9,true)⟩,pa 19 9 18,m_ 3 19]
def c62:De:=⟨2,20,[.t 3],sr c62_r0 (rr c62_r1)⟩
def K62 (D:Ba):Prop:=∀a0 a1 r,g62 a0 a1=some r→D 62 ⟨[.agg (Bg a0),.iptr (Bh a1)],[]⟩ ⟨.bool r,[],[]⟩
theorem F62 (H63:yV C):K62 (FO C c62):=by
 intro a0 a1 r h0
 refine f0 (As 4 [(1,.iptr (Bh a1)),(2,.ptr 128 0)] [(128,Bg a0)] (At 5 (Ah (bb h0 fun r1 e2 h0=>Il (H63 a0.Bn 0 a0.cap r1 e2) (o_ (Hj 9 (Ah (st (Pk (u:=.bool (bif a0.Cg then true else (decide (a0.Bn>a1.clock)))) rfl (fun hg=>Vy rfl rfl (fun _=>hg) rfl rfl tv (fun h=>Bq hg (lN h)) rfl) (o_ (Hj 3 (bv h0 fun v3 e4 h0=>Dy ⟨[(3,.bool v3)],[],[]⟩ (Er (by subst e4; kernel_rfl)) ?_))))))))))))
 obtain rfl:=sj h0
 exact Kv (Fe rfl rfl rfl rfl rfl tv)

/- loop.example/g00149/impl.TableOK -/
def c20_r0:=[X_ 1 0,k_ 2 (.bool false)]
def c20_r1:=tk [f_ 3 1 0,l_ 4 3 1,B_ .geq 5 4 0,m_ 6 5,fT 6 7 1 1,lT 6 8 7 1 false] (.alt [] ⟨some 9,.call 58 [.t 8],some (6,true)⟩ (tk [pa 10 6 9,m_ 11 10,fT 11 12 1 2,lT 11 13 12 1 false,pT 11 14 (.len (.t 13)),pT 11 15 (.bin .leq (.t 14) (.c (iV 40))),pa 16 11 15,m_ 17 16,lT 17 18 1 3 true,fT 17 20 1 1,lT 17 21 20 1 false,pT 17 22 (.bin .sub (.t 21) (.c (iV 1)))] (.alt [pT 17 22 (.bin .sub (.t 21) (.c (iV 1))),lT 17 21 20 1 false,fT 17 20 1 1] ⟨some 19,.call 60 [.t 18],some (17,true)⟩ (.alt [] ⟨some 23,.call 59 [.t 19,.c (iV 1),.t 22],some (17,true)⟩ (tk [pa 24 17 23,m_ 25 24,fT 25 26 1 2,lT 25 27 26 1 false,pT 25 28 (.fn 62 [.t 1])] (.alt [] ⟨some 29,.call 61 [.t 27,.t 28],some (25,true)⟩ (tk [pa 30 25 29,m_ 2 30] .fin) .stop)) .stop) .stop)) .stop)
def eZ:De:=⟨1,31,[.t 2],sr c20_r0 (sd c20_r1 .ret)⟩
def K20 (D:Ba):Prop:=∀a0 r,g20 a0=some r→D 20 ⟨[.agg (Bh a0)],[]⟩ ⟨.bool r,[],[]⟩
theorem F20 (H58:K58 C) (H59:K59 C) (H60:K60 C) (H61:K61 C) (H62:K62 C):K20 (FO C eZ):=by
 intro a0 r h0
 refine f0 (As 4 [(1,.ptr 64 0)] [(64,Bh a0)] (Bk (bb h0 fun r1 e2 h0=>bb h0 fun r3 e4 h0=>bb h0 fun r5 e6 h0=>bb h0 fun r7 e8 h0=>Hj 6 (Bm (Cb (En (r:=.bool r1) rfl false (fun hg=>H58 a0.next r1 (ip hg e2)) ⟨(fun hg=>hg),tv⟩ (fun _=>rfl) (fun _=>rfl) (fun _=>rfl) (fun h=>nomatch h) (dw [(1,.ptr 64 0),(6,.bool (decide (a0.clock≥0))),(9,.may ((decide (a0.clock≥0))==true) (.bool r1))] [(64,Bh a0)] tv (d_ (Hj 4 (Bm (Au tv (Ep (u:=iV (a0.Ac.length:Int)) rfl (fun hg=>(Mu (e:=Bg) (l0:=a0.Ac) rfl rfl (fun _=>hg))) (⟨tv,d_ (Hj 3 (Bm ?_))⟩)))))))) Az)))))
 refine d_ (Hj 4 (Bm (Cb (En (r:=oI 0 r3) rfl false (fun hg=>H60 a0 r3 (ip hg e4)) ⟨(fun hg=>hg),tv⟩ (fun _=>rfl) (fun _=>rfl) (fun _=>(af rfl)) (fun h=>nomatch h) (dw [(1,.ptr 64 0),(17,.bool (bif (bif (decide (a0.clock≥0)) then r1 else false) then (decide ((a0.Ac.length:Int)≤40)) else false)),(19,.may ((bif (bif (decide (a0.clock≥0)) then r1 else false) then (decide ((a0.Ac.length:Int)≤40)) else false)==true) (lI r3)),(20,.may ((bif (bif (decide (a0.clock≥0)) then r1 else false) then (decide ((a0.Ac.length:Int)≤40)) else false)==true) (.ptr 64 1)),(21,.may ((bif (bif (decide (a0.clock≥0)) then r1 else false) then (decide ((a0.Ac.length:Int)≤40)) else false)==true) (iV a0.next)),(22,.may ((bif (bif (decide (a0.clock≥0)) then r1 else false) then (decide ((a0.Ac.length:Int)≤40)) else false)==true) (iV (wi (a0.next-1))))] [(64,Bh a0)] ⟨⟨.inl tv,Hy (v:=iV (wi (a0.next-1))) rfl (fun hg=>(Bw ⟨(fun _=>hg),tv,tv⟩ rfl tv)) rfl⟩,⟨.inl tv,Hy (v:=iV a0.next) rfl (fun hg=>(Bw ⟨(fun _=>hg),tv⟩ rfl (nl rfl))) rfl⟩,⟨.inl tv,Hy (v:=.ptr 64 1) rfl (fun hg=>(Bw ⟨tv,tv⟩ rfl tv)) rfl⟩,tv⟩ (Cb (En (r:=.bool r5) rfl false (fun hg=>H59 r3 1 (wi (a0.next-1)) r5 (ip hg e6)) ⟨(fun hg=>hg),tv,(fun hg=>hg),tv⟩ (fun _=>rfl) (fun _=>rfl) (fun _=>rfl) (fun h=>nomatch h) (dw [(1,.ptr 64 0),(17,.bool (bif (bif (decide (a0.clock≥0)) then r1 else false) then (decide ((a0.Ac.length:Int)≤40)) else false)),(23,.may ((bif (bif (decide (a0.clock≥0)) then r1 else false) then (decide ((a0.Ac.length:Int)≤40)) else false)==true) (.bool r5))] [(64,Bh a0)] tv (d_ (Hj 5 (Bm (Cb (En (r:=.bool r7) rfl false (fun hg=>H61 a0.Ac 62 [.iptr (Bh a0)] (fun z62_0=>g62 z62_0 a0) (⟨fun _ _ _ _ _=>rfl,fun _ _ _ _ _=>rfl,rfl,fun _ _ _ n=>by cases n<;>rfl,fun _=>rfl⟩) (fun z62_0 r h=>H62 z62_0 a0 r h) r7 (ip hg e8)) ⟨(fun hg=>hg),(fun hg=>hg),tv⟩ (fun _=>rfl) (fun _=>rfl) (fun _=>rfl) (fun h=>nomatch h) (dw [(25,.bool (bif (bif (bif (decide (a0.clock≥0)) then r1 else false) then (decide ((a0.Ac.length:Int)≤40)) else false) then r5 else false)),(29,.may ((bif (bif (bif (decide (a0.clock≥0)) then r1 else false) then (decide ((a0.Ac.length:Int)≤40)) else false) then r5 else false)==true) (.bool r7))] [] tv (d_ (Hj 3 (bv h0 fun v9 e10 h0=>Dy ⟨[(2,.bool v9)],[],[]⟩ (Er (by subst e10; kernel_rfl)) ?_))))) Az)))))) Az))) Az)))
 obtain rfl:=sj h0
 exact Kv (Fe rfl rfl rfl rfl rfl tv)

/- loop.example/g00149/impl.leases -/
def c95_r0:List Bj:=[⟨some 2,.nilS 1,none⟩]
def c95_r1:List Bj:=[⟨some 3,.nilS 1,none⟩]
def c95_r2:=[m_ 6 0,n_ 7 6,i_ 8 0]
def c95_r3:=[b_ .lss 9 8 7]
def c95_r4:=[x_ 10 6 8 2,L_ 11 10 2,a_ 5 [iV 0,.bool false],s_ 5 11 2]
def c95_r5:List Bj:=[m_ 12 3,f_ 13 5 0,l_ 14 13 1,⟨some 15,.mkS 1 [iV 0] 1 [(0,.t 14)],none⟩,⟨some 16,.app 1 8 (.t 12) (.t 15),none⟩,m_ 3 16]
def c95_r6:=[B_ .add 17 8 1,m_ 8 17]
def c95_l0:IR:=(sr c95_r3 (.seq (.ite (.t 9) .skip (.exit 0)) (.seq (.block 1 (sr c95_r4 (.reg c95_r5))) (.reg c95_r6))))
def c95_r7:=[m_ 18 3,m_ 2 18]
def c95:De:=⟨1,19,[.t 2],sr c95_r0 (sr c95_r1 (.seq (sr c95_r2 (Jc 0 c95_l0)) (rr c95_r7)))⟩
def K95 (D:Ba):Prop:=∀a0 r,g95 a0=some r→D 95 ⟨[Cj a0],[]⟩ ⟨oI 0 r,[],[]⟩
theorem F95:K95 (FO C c95):=by
 intro a0 r h0
 refine f0 (As 7 [(0,Cj a0),(3,.own 192 0 1 ([].map eI))] [] (At 3 (Ah (Hf rfl (o_ (As 2 [(3,.own 192 0 1 ([].map eI)),(6,Cj a0),(7,iV (a0.length:Int)),(8,iV 0)] [] (Ci (bb h0 fun r18 e19 h0=>Df (R:=(fun S=>∃p13:List Int,p13=r18∧S=⟨[(3,oI 192 p13)],[],[]⟩)) (dA a0) (fun s S=>match s with | (p5,p6)=>S=⟨[(3,oI 192 p5),(6,Cj a0),(7,iV (a0.length:Int)),(8,iV p6)],[],[]⟩) e19 _ (Er (by kernel_rfl)) rfl 0 (fun _=>rfl) ?_ ?_))))))))
 ·rintro S _ hfg ⟨p13,rfl,rfl⟩
  refine Dy _ hfg ?_
  obtain rfl:=sj h0
  exact Cs 5
 ·rintro ⟨p5,p6⟩ o1 _ K1 rfl h1 hx1 hK1 hE1 hR1
  refine As 3 [(3,oI 192 p5),(6,Cj a0),(7,iV (a0.length:Int)),(8,iV p6),(9,.bool (decide (p6<(a0.length:Int))))] [] (Bk (Cw h1 (fun c14 h1=>?_) (fun c14 h1=>?_)))
  ·refine Mm 5 (Ah (bb h1 fun y15 e16 h1=>Ns rfl rfl e16 (o_ (As 4 [(3,oI 192 p5),(5,.ptr 320 0),(6,Cj a0),(7,iV (a0.length:Int)),(8,iV p6)] [(320,Cd y15)] (At 4 (Ah (gg h1 fun c17 h1=>st (Fp (e:=eI) (l0:=p5) (l1:=([y15.Bb]:List Int)) rfl rfl tv rfl (by decide) c17 (o_ (As 3 [(3,oI 192 (p5++([y15.Bb]:List Int))),(6,Cj a0),(7,iV (a0.length:Int)),(8,iV p6)] [] (At 3 ?_)))))))))))
   obtain rfl:=sj h1
   exact kn hK1 rfl rfl
  ·obtain rfl:=sj h1
   obtain rfl:=hx1 _ rfl
   refine Iw rfl ?_
   exact jn hE1 ⟨_,rfl,rfl⟩

/- slices.Grow[[]int,int] -/
def XT:List Bj:=[⟨some 4,.nilS 1,none⟩]
def XU:=[m_ 5 1,B_ .lss 6 5 0]
def XV:List Bj:=[⟨some 7,.bad,none⟩,⟨none,.bad,none⟩]
def XW:List Bj:=[m_ 8 1,m_ 9 0,⟨some 10,.cap (.t 9),none⟩,m_ 11 0,n_ 12 11,b_ .sub 13 10 12,b_ .sub 14 8 13,m_ 1 14]
def XX:=[m_ 15 1,B_ .gtr 16 15 0]
def XY:List Bj:=[m_ 17 0,m_ 18 0,⟨some 19,.cap (.t 18),none⟩,⟨some 20,.p (.slice (.t 17) none (some (.t 19)) 1),none⟩,m_ 21 1,⟨some 22,.appz 1 8 [iV 0] (.t 20) (.t 21),none⟩,m_ 23 0,n_ 24 23,⟨some 25,.p (.slice (.t 22) none (some (.t 24)) 1),none⟩,m_ 0 25]
def XZ:=[m_ 26 0,m_ 4 26]
def XS:De:=⟨2,27,[.t 4],sr XT (.seq (sr XU (iz 6 (.reg XV))) (.seq (sr XW (sr XX (iz 16 (.reg XY)))) (rr XZ)))⟩
def K144 (D:Ba):Prop:=∀a0 a1 r,Ala a0 a1=some r→D 144 ⟨[oI 1024000 a0,iV a1],[]⟩ ⟨oI 0 r,[],[]⟩
theorem F144:K144 (FO C XS):=by
 intro a0 a1 r h0
 refine fnc_ (nl rfl) fun f hf=>?_
 obtain ⟨⟨hb,hl⟩,h0⟩:=xE h0
 obtain rfl:=sj h0
 obtain ⟨n,rfl⟩:=Int.eq_ofNat_of_zero_le hb
 have hn:a0.length+n≤17592186044416:=by omega
 have hbyte:(a0.length+n)*8≤140737488355328:=Nat.le_trans (Nat.mul_le_mul_right 8 hn) (by decide)
 obtain ⟨hc1,hc2⟩:=hf 0 1024000 0 1 (a0.map eI) rfl (by decide)
 rw [List.length_map] at hc1
 have hc2:=hc2 rfl
 have w1:wi ((f 0:Int)-(a0.length:Int))=(f 0:Int)-(a0.length:Int):=wrapI (by omega) (by omega)
 have w2:wi ((n:Int)-((f 0:Int)-(a0.length:Int)))=(n:Int)-((f 0:Int)-(a0.length:Int)):=wrapI (by omega) (by omega)
 refine Bk (Ah (st (Zy (In (Dy ⟨[(0,oI 1024000 a0),(1,iV n)],[],[(0,Es+(f 0:Int))]⟩ (qG ⟨rfl,rfl,tv⟩ tv ⟨.inl ⟨_,rfl,.inl rfl⟩,tv⟩) (At 5 (Dy ⟨[(6,.bool (decide ((n:Int)<0))),(0,oI 1024000 a0),(1,iV n)],[],[(0,Es+(f 0:Int))]⟩ (qG ⟨rfl,rfl,rfl,tv⟩ tv ⟨.inl ⟨_,rfl,.inl rfl⟩,tv⟩) (Od (cb:=decide ((n:Int)<0)) rfl (fun h=>absurd (of_decide_eq_true h) (by omega)) (fun _=>(Nh (Dy ⟨[(0,oI 1024000 a0),(1,iV n)],[],[(0,Es+(f 0:Int))]⟩ (qG ⟨rfl,rfl,tv⟩ tv ⟨.inl ⟨_,rfl,.inl rfl⟩,tv⟩) (At 4 (Ah (st (cap_ (e:=eI) (l0:=a0) rfl fun c _ _ hc=>?_)))))))))))))))
 have hcf:(c:Int)=(f 0:Int):=by have:=hc _ rfl (by omega); omega
 refine st (Dc rfl tv (Qb rfl (st (c_ (Bw (v:=iV ((f 0:Int)-(a0.length:Int))) ⟨tv,tv,tv⟩ (congrArg (fun z=>some (True,V.int .i64 z)) ((congrArg (fun z=>wi (z-(a0.length:Int))) hcf).trans w1)) tv) (st (c_ (Bw (v:=iV ((n:Int)-((f 0:Int)-(a0.length:Int)))) ⟨tv,tv,tv⟩ (congrArg (fun z=>some (True,V.int .i64 z)) w2) tv) (st (Dc rfl tv (In (Dy ⟨[(0,oI 1024000 a0),(1,iV ((n:Int)-((f 0:Int)-(a0.length:Int))))],[],[(0,Es+(f 0:Int))]⟩ (qG ⟨rfl,rfl,tv⟩ tv ⟨.inl ⟨_,rfl,.inl rfl⟩,tv⟩) (At 4 (Dy ⟨[(16,.bool (decide ((n:Int)-((f 0:Int)-(a0.length:Int))>0))),(0,oI 1024000 a0),(1,iV ((n:Int)-((f 0:Int)-(a0.length:Int))))],[],[(0,Es+(f 0:Int))]⟩ (qG ⟨rfl,rfl,rfl,tv⟩ tv ⟨.inl ⟨_,rfl,.inl rfl⟩,tv⟩) (Od (cb:=decide ((n:Int)-((f 0:Int)-(a0.length:Int))>0)) rfl (fun hgt=>?_) (fun _=>?_))))))))))))))
 ·have hgt':f 0<a0.length+n:=by have:=of_decide_eq_true hgt; omega
  obtain ⟨m,hm⟩:∃m:Nat,(n:Int)-((f 0:Int)-(a0.length:Int))=(m:Int):=⟨a0.length+n-f 0,by omega⟩
  rw [hm]
  refine At 2 (Ah (st (cap_ (e:=eI) (l0:=a0) rfl fun c2 _ _ hc3=>?_)))
  have hcf2:c2=f 0:=by have:=hc3 _ rfl (by omega); omega
  subst hcf2
  refine st (c_ (kZ (e:=eI) (l0:=a0) (t:=1024000) (sz:=1) (H:=f 0) (c:=Es+(f 0:Int)) rfl rfl hc1 (show (0:Nat)<1 by decide) rfl (by rw [Yo]; omega)) (st (Dc rfl tv (st (pR (e:=eo eI 1) (l0:=a0.map some++List.replicate (f 0-a0.length) none) (c:=Es+(f 0:Int)-0) (t:=1024000) (some (default:Int)) rfl rfl rfl (by decide) (Int.natCast_nonneg _) ?_ rfl (by omega) ?_ ?_)))))
  ·have e1:(a0.map some++List.replicate (f 0-a0.length) none).length+m=a0.length+n:=by simp; omega
   have:=Int.ofNat_le.2 hbyte
   rw [Int.natCast_mul] at this
   rw [←Int.natCast_add,e1]
   exact this
  ·have e1:(a0.map some++List.replicate (f 0-a0.length) none).length=f 0:=by simp; omega
   rw [e1]; omega
  refine st (Dc rfl tv (Qb rfl ?_))
  have hk:((a0.map some++List.replicate (f 0-a0.length) none)++List.replicate ((m:Int)).toNat (some (default:Int))).take a0.length=a0.map some:=by
   rw [List.append_assoc,List.take_append_of_le_length (by simp),List.take_of_length_le (by simp)]
  have hlen:a0.length≤((a0.map some++List.replicate (f 0-a0.length) none)++List.replicate ((m:Int)).toNat (some (default:Int))).length:=by simp only [List.length_append,List.length_map]; omega
  generalize (a0.map some++List.replicate (f 0-a0.length) none)++List.replicate ((m:Int)).toNat (some (default:Int))=R at hk hlen
  refine st (c_ (Dk (e:=eo eI 1) (y:=a0.map some) rfl rfl tv ⟨tv,tv⟩ rfl rfl (by rw [show (none:Option Int).getD 0=((0:Nat):Int) from rfl]; exact (yE R 0 a0.length (by omega) hlen).trans (congrArg some hk))) (st (Dc rfl tv (In ?_))))
  rw [←Se]
  refine As 0 [(0,oI 1408 a0)] [] (At 5 ?_)
  exact Kv (Fe rfl rfl rfl rfl rfl tv)
 ·refine Nh ?_
  refine As 0 [(0,oI 1024000 a0)] [] (At 5 ?_)
  exact Kv (Fe rfl rfl rfl rfl rfl tv)


/- slices.Concat[[]int,int] -/
def UL:List Bj:=[⟨some 2,.nilS 1,none⟩]
def UM:=[i_ 3 0]
def UN:=[m_ 9 0,n_ 10 9,i_ 11 0]
def UO:=[b_ .lss 12 11 10]
def UP:=[x_ 13 9 11 1,l_ 14 13 1,m_ 5 14]
def UQ:=[m_ 15 3,m_ 16 5,n_ 17 16,b_ .add 18 15 17,m_ 3 18]
def UR:=[m_ 19 3,B_ .lss 20 19 0]
def US:List Bj:=[⟨some 21,.bad,none⟩,⟨none,.bad,none⟩]
def UT:=[B_ .add 22 11 1,m_ 11 22]
def UJ:IR:=(sr UO (.seq (.ite (.t 12) .skip (.exit 0)) (.seq (.block 1 (sr UP (sr UQ (sr UR (iz 20 (.reg US)))))) (.reg UT))))
def UU:=[m_ 23 3,q_ 24 144 [.c (.own 1048543 0 1 []),.t 23],m_ 6 24]
def BB:=[m_ 25 0,n_ 26 25,i_ 27 0]
def BC:=[b_ .lss 28 27 26]
def BD:=[x_ 29 25 27 1,l_ 30 29 1,m_ 8 30]
def BE:List Bj:=[m_ 31 6,m_ 32 8,⟨some 33,.app 1 8 (.t 31) (.t 32),none⟩,m_ 6 33]
def BF:=[B_ .add 34 27 1,m_ 27 34]
def UK:IR:=(sr BC (.seq (.ite (.t 28) .skip (.exit 2)) (.seq (.block 3 (sr BD (.reg BE))) (.reg BF))))
def BG:=[m_ 35 6,m_ 2 35]
def c126:De:=⟨1,36,[.t 2],sr UL (sr UM (.seq (sr UN (Jc 0 UJ)) (sr UU (.seq (sr BB (Jc 2 UK)) (rr BG)))))⟩
def K126 (D:Ba):Prop:=∀a0 r,AkS a0=some r→D 126 ⟨[.lst 1 (a0.map (eL 1 eI))],[]⟩ ⟨oI 0 r,[],[]⟩
theorem F126 (H144:K144 C):K126 (FO C c126):=by
 intro a0 r h0
 refine f0 (As 7 [(0,.lst 1 (a0.map (eL 1 eI))),(3,iV 0)] [] (At 3 (Ah (Hf rfl (o_ (As 2 [(0,.lst 1 (a0.map (eL 1 eI))),(3,iV 0),(9,.lst 1 (a0.map (eL 1 eI))),(10,iV (a0.length:Int)),(11,iV 0)] [] (Ci (bb h0 fun r25 e26 h0=>Df (R:=(fun S=>∃p15:Int,p15=r25∧S=⟨[(0,.lst 1 (a0.map (eL 1 eI))),(3,iV p15)],[],[]⟩)) (Mz a0) (fun s S=>match s with | (p6,p7)=>S=⟨[(0,.lst 1 (a0.map (eL 1 eI))),(3,iV p6),(9,.lst 1 (a0.map (eL 1 eI))),(10,iV (a0.length:Int)),(11,iV p7)],[],[]⟩) e26 _ (Er (by kernel_rfl)) rfl 0 (fun _=>rfl) ?_ ?_))))))))
 ·rintro S _ hfg ⟨p15,rfl,rfl⟩
  refine Dy _ hfg (Bk (Ah (st (Dc rfl tv (bb h0 fun r27 e28 h0=>fE [] [] [1048543] (H144 ([]:List Int) p15 r27 e28) (Bq (af rfl) rfl) (o_ (As 2 [(0,.lst 1 (a0.map (eL 1 eI))),(6,oI 1536 r27)] [] (At 3 (Ah (Hf rfl (o_ (As 2 [(6,oI 1536 r27),(25,.lst 1 (a0.map (eL 1 eI))),(26,iV (a0.length:Int)),(27,iV 0)] [] (Ci (bb h0 fun r46 e47 h0=>Df (R:=(fun S=>∃p41:List Int,p41=r46∧S=⟨[(6,oI 1536 p41)],[],[]⟩)) (Na a0) (fun s S=>match s with | (p33,p34)=>S=⟨[(6,oI 1536 p33),(25,.lst 1 (a0.map (eL 1 eI))),(26,iV (a0.length:Int)),(27,iV p34)],[],[]⟩) e47 _ (Er (by kernel_rfl)) rfl 2 (fun _=>rfl) ?_ ?_))))))))))))))
  ·rintro S _ hfg ⟨p41,rfl,rfl⟩
   refine Dy _ hfg ?_
   obtain rfl:=sj h0
   exact Cs 5
  ·rintro ⟨p33,p34⟩ o1 _ K1 rfl h1 hx1 hK1 hE1 hR1
   refine As 3 [(6,oI 1536 p33),(25,.lst 1 (a0.map (eL 1 eI))),(26,iV (a0.length:Int)),(27,iV p34),(28,.bool (decide (p34<(a0.length:Int))))] [] (Bk (Cw h1 (fun c42 h1=>?_) (fun c42 h1=>?_)))
   ·refine Mm 5 (Ah (bb h1 fun y43 e44 h1=>Ns rfl rfl e44 (o_ (As 3 [(6,oI 1536 p33),(8,lI y43),(25,.lst 1 (a0.map (eL 1 eI))),(26,iV (a0.length:Int)),(27,iV p34)] [] (At 2 (Ah (gg h1 fun c45 h1=>st (Fp (e:=eI) (l0:=p33) (l1:=y43) rfl rfl tv rfl (by decide) c45 (o_ (As 3 [(6,oI 1536 (p33++y43)),(25,.lst 1 (a0.map (eL 1 eI))),(26,iV (a0.length:Int)),(27,iV p34)] [] (At 3 ?_)))))))))))
    obtain rfl:=sj h1
    exact kn hK1 rfl rfl
   ·obtain rfl:=sj h1
    obtain rfl:=hx1 _ rfl
    refine Iw rfl ?_
    exact jn hE1 ⟨_,rfl,rfl⟩
 ·rintro ⟨p6,p7⟩ o1 _ K1 rfl h1 hx1 hK1 hE1 hR1
  refine As 3 [(0,.lst 1 (a0.map (eL 1 eI))),(3,iV p6),(9,.lst 1 (a0.map (eL 1 eI))),(10,iV (a0.length:Int)),(11,iV p7),(12,.bool (decide (p7<(a0.length:Int))))] [] (Bk (Cw h1 (fun c16 h1=>?_) (fun c16 h1=>?_)))
  ·refine Mm 3 (Hz (fun S=>∃p20:Int,S=⟨[(0,.lst 1 (a0.map (eL 1 eI))),(3,iV p20),(9,.lst 1 (a0.map (eL 1 eI))),(10,iV (a0.length:Int)),(11,iV p7)],[],[]⟩∧aV p7 p20=some o1) ?_ (fun J21=>?_))
   ·rintro _ ⟨p20,rfl,h1⟩
    refine At 4 ?_
    obtain rfl:=sj h1
    exact kn hK1 rfl rfl
   ·refine Bk ?_
    refine Ah (bb h1 fun y22 e23 h1=>Ns rfl rfl e23 (o_ (As 3 [(0,.lst 1 (a0.map (eL 1 eI))),(3,iV p6),(5,lI y22),(9,.lst 1 (a0.map (eL 1 eI))),(10,iV (a0.length:Int)),(11,iV p7)] [] (At 3 (Ah (Hf rfl (o_ (As 8 [(0,.lst 1 (a0.map (eL 1 eI))),(3,iV (wi (p6+(y22.length:Int)))),(9,.lst 1 (a0.map (eL 1 eI))),(10,iV (a0.length:Int)),(11,iV p7),(20,.bool (decide ((wi (p6+(y22.length:Int)))<0)))] [] (Cw h1 (fun c24 h1=>?_) (fun c24 h1=>?_))))))))))
    ·refine Ah ?_
     cases h1
    ·refine Nh (Um ?_)
     exact jn J21 ⟨_,rfl,h1⟩
  ·obtain rfl:=sj h1
   obtain rfl:=hx1 _ rfl
   refine Iw rfl ?_
   exact jn hE1 ⟨_,rfl,rfl⟩

/- slices.IndexFunc[[]int,int] -/
def UW:=[i_ 4 0]
def UX:=[m_ 6 0,n_ 7 6,i_ 8 0]
def UY:=[b_ .lss 9 8 7]
def UZ:=[m_ 10 8,m_ 5 10]
def VA:List Bj:=[m_ 11 1,m_ 12 0,m_ 13 5,x_ 14 12 13 1,l_ 15 14 1,⟨some 16,.callv (.t 11) [.t 15],none⟩]
def VB:=[m_ 17 5,m_ 4 17]
def VC:=[B_ .add 18 8 1,m_ 8 18]
def UV:IR:=(sr UY (.seq (.ite (.t 9) .skip (.exit 0)) (.seq (.block 1 (sr UZ (sr VA (iz 16 (rr VB))))) (.reg VC))))
def VD:=[i_ 4 (-1)]
def c127:De:=⟨2,19,[.t 4],sr UW (.seq (sr UX (Jc 0 UV)) (rr VD))⟩
def NM (C:Ba) (D:Ba:=C):Prop:=∀(a0:List Int) (f1:Nat) (k1:List V) (is1:Int→Option Bool) (hs1:Kp k1) (hf1:∀(x0:Int) r,is1 x0=some r→C f1 ⟨iV x0::k1,[]⟩ ⟨.bool r,[],[]⟩) (r:Int),AkT a0 is1=some r→D 127 ⟨[lI a0,.clo f1 k1],[]⟩ ⟨iV r,[],[]⟩
theorem F127:NM C (FO C c127):=by
 intro a0 f1 k1 is1 hs1 hf1 r h0
 refine f0 (As 3 [(0,lI a0),(1,.clo f1 k1)] [] (At 3 (Ah (Hf rfl (o_ (As 2 [(0,lI a0),(1,.clo f1 k1),(7,iV (a0.length:Int)),(8,iV 0)] [] (Ci (bb h0 fun r21 e22 h0=>Df (R:=(fun S=>.inl ()=r21∧S=⟨[],[],[]⟩)) (tQ a0 is1) (fun s S=>match s with | p7=>S=⟨[(0,lI a0),(1,.clo f1 k1),(7,iV (a0.length:Int)),(8,iV p7)],[],[]⟩) e22 _ (Er (by kernel_rfl)) rfl 0 (fun _=>rfl) ?_ ?_))))))))
 ·rintro S _ hfg ⟨rfl,rfl⟩
  refine Dy _ hfg ?_
  obtain rfl:=sj h0
  exact Cs 4
 ·rintro p7 o1 _ K1 rfl h1 hx1 hK1 hE1 hR1
  refine As 3 [(0,lI a0),(1,.clo f1 k1),(7,iV (a0.length:Int)),(8,iV p7),(9,.bool (decide (p7<(a0.length:Int))))] [] (Bk (Cw h1 (fun c15 h1=>?_) (fun c15 h1=>?_)))
  ·refine As 8 [(0,lI a0),(1,.clo f1 k1),(5,iV p7),(7,iV (a0.length:Int)),(8,iV p7)] [] (At 4 (Ah (bb h1 fun y16 e17 h1=>Ns rfl rfl e17 (st (c_ (Bw ⟨tv,tv⟩ rfl (nl rfl)) (bb h1 fun r18 e19 h1=>st (Gg (r:=.bool r18) rfl false (hf1 _ r18 e19) ⟨tv,tv⟩ (Bq rfl hs1.2.2.1) (Ej rfl (hs1.2.1 _ _ _ _ _)) (fun _=>rfl) (o_ (As 1 [(0,lI a0),(1,.clo f1 k1),(5,iV p7),(7,iV (a0.length:Int)),(8,iV p7),(16,.bool r18)] [] (Cw h1 (fun eZ h1=>?_) (fun eZ h1=>?_)))))))))))
   ·obtain rfl:=sj h1
    obtain rfl:=hx1 _ rfl
    obtain rfl:=sj h0
    exact Yy 5 hR1
   ·refine At 6 ?_
    obtain rfl:=sj h1
    exact kn hK1 rfl rfl
  ·obtain rfl:=sj h1
   obtain rfl:=hx1 _ rfl
   refine Iw rfl ?_
   exact jn hE1 ⟨rfl,rfl⟩

/- (loop.example/g00149/impl.Vault).stray$1 -/
def VE:=[k_ 3 (.bool false)]
def VF:=[l_ 4 1 1,m_ 5 0,iQ 6 (.mget (.t 4) (.t 5)),N_ 7 6,m_ 3 7]
def c128:De:=⟨2,8,[.t 3],sr VE (rr VF)⟩
def K128 (D:Ba):Prop:=∀a0 a1 r,II a0 a1=some r→D 128 ⟨[iV a0,.iptr [.lst 0 (kH a1)]],[]⟩ ⟨.bool r,[],[]⟩
theorem F128:K128 (FO C c128):=by
 intro a0 a1 r h0
 refine f0 (As 3 [(0,iV a0),(1,.iptr [.lst 0 (kH a1)])] [] (At 3 (Ah (st (c_ (cmgetL rfl rfl) (o_ ?_))))))
 obtain rfl:=sj h0
 exact Cs 4

/- (loop.example/g00149/impl.Vault).stray -/
def c96_r0:=[X_ 1 0,i_ 2 0,k_ 3 (.bool false)]
def c96_r1:List Bj:=[⟨some 8,.mkM,none⟩,a_ 4 [.undef],s_ 4 8 1]
def c96_r2:=tk [f_ 9 1 0,L_ 10 9 3,f_ 12 1 3,l_ 13 12 1,i_ 18 0] (.alt [i_ 18 0,l_ 13 12 1,f_ 12 1 3] (q_ 11 60 [.t 10]) (.alt [i_ 18 0] (q_ 14 95 [.t 13]) (.alt [i_ 18 0] ⟨some 15,.mkS 1 [.lst 1 []] 2 [(0,.t 11),(1,.t 14)],none⟩ (.alt [i_ 18 0] (q_ 16 126 [.t 15]) (tk [n_ 17 16] .fin) .stop) .stop) .stop) .stop)
def c96_r3:=[b_ .lss 19 18 17]
def c96_r4:=[x_ 20 16 18 1,l_ 21 20 1,m_ 6 21]
def c96_r5:List Bj:=[l_ 22 4 1,m_ 23 6,⟨none,.mset (.t 22) (.t 23) (.c (.bool true)),none⟩]
def c96_r6:=[B_ .add 24 18 1,m_ 18 24]
def c96_l0:IR:=(sr c96_r3 (.seq (.ite (.t 19) .skip (.exit 0)) (.seq (.block 1 (sr c96_r4 (.reg c96_r5))) (.reg c96_r6))))
def c96_r7:=[f_ 25 1 4,l_ 26 25 1,iQ 27 (.fn 128 [.t 4]),q_ 28 127 [.t 26,.t 27],m_ 7 28]
def c96_r8:=[m_ 29 7,B_ .lss 30 29 0]
def c96_r9:=[i_ 2 0,k_ 3 (.bool false)]
def AkA:=[f_ 31 1 4,l_ 32 31 1,m_ 33 7,x_ 34 32 33 1,l_ 35 34 1,m_ 2 35,k_ 3 (.bool true)]
def c96:De:=⟨1,36,[.t 2,.t 3],sr c96_r0 (sr c96_r1 (.seq (sd c96_r2 (Jc 0 c96_l0)) (sr c96_r7 (.seq (sr c96_r8 (iz 30 (rr c96_r9))) (rr AkA)))))⟩
def K96 (D:Ba):Prop:=∀a0 r,g96 a0=some r→D 96 ⟨[.agg (Ax a0)],[]⟩ ⟨.tup [iV r.1,.bool r.2],[],[]⟩
abbrev iB:=fun (r:List (Nat×V))=>(1,.ptr 64 0)::(4,.ptr 256 0)::r
theorem F96 (H60:K60 C) (H95:K95 C) (H126:K126 C) (H127:NM C) (H128:K128 C):K96 (FO C c96):=by
 intro a0 r h0
 refine f0 (As 5 [(1,.ptr 64 0)] [(64,Ax a0)] (Bk (Ah (st (mkM_ (o_ (As 3 (iB []) [(64,Ax a0),(256,[.own 512 0 0 (kH ([]:List (Int×Bool)))])] (Bk (Bk (bb h0 fun r1 e2 h0=>bb h0 fun r3 e4 h0=>bb h0 fun r5 e6 h0=>At 5 (Bm (Oo (H60 a0.Ab r1 e2) (af rfl) (dw [(1,.ptr 64 0),(4,.ptr 256 0),(11,oI 704 r1),(12,.ptr 64 3),(13,Cj a0.Aa),(18,iV 0)] [(64,Ax a0),(256,[.own 512 0 0 (kH ([]:List (Int×Bool)))])] hB (Oo (H95 a0.Aa r3 e4) (af rfl) (dw [(1,.ptr 64 0),(4,.ptr 256 0),(11,oI 704 r1),(14,oI 896 r3),(18,iV 0)] [(64,Ax a0),(256,[.own 512 0 0 (kH ([]:List (Int×Bool)))])] hB (Cb (Ky ⟨tv,tv,tv⟩ ⟨⟨nl rfl,rfl,rfl⟩,⟨nl rfl,rfl,rfl⟩,tv⟩ (d0 hB (Oo (H126 ([r1,r3]:List (List Int)) r5 e6) (af rfl) (dw [(1,.ptr 64 0),(4,.ptr 256 0),(16,oI 1024 r5),(18,iV 0)] [(64,Ax a0),(256,[.own 512 0 0 (kH ([]:List (Int×Bool)))])] hB (Au tv (c_ (mC (e:=eI) (l0:=r5) rfl rfl tv) (⟨tv,d_ (As 1 (iB [(16,oI 1024 r5),(17,iV (r5.length:Int)),(18,iV 0)]) [(64,Ax a0),(256,[.own 512 0 0 (kH ([]:List (Int×Bool)))])] (Ci (bb h0 fun r27 e28 h0=>Df (R:=(fun S=>∃p21:List (Int×Bool),p21=r27∧S=⟨iB [],[(64,Ax a0),(256,[.own 512 0 0 (kH p21)])],[]⟩)) (Yl r5) (fun s S=>match s with | (p12,p13)=>S=⟨iB [(16,oI 1024 r5),(17,iV (r5.length:Int)),(18,iV p12)],[(64,Ax a0),(256,[.own 512 0 0 (kH p13)])],[]⟩) e28 _ (Er (by kernel_rfl)) rfl 0 (fun _=>rfl) ?_ ?_)))⟩)))) Az))) Az)) Az)) Az))))))))))))
 ·rintro S _ hfg ⟨p21,rfl,rfl⟩
  refine Dy _ hfg (At 4 (Ah (bb h0 fun r29 e30 h0=>st (Cm (r:=iV r29) false (H127 a0.Ae 128 [.iptr [.lst 0 (kH p21)]] (fun z128_0=>II z128_0 p21) (⟨fun _ _ _ _ _=>rfl,fun _ _ _ _ _=>rfl,rfl,fun _ _ _ n=>by cases n<;>rfl,fun _=>rfl⟩) (fun z128_0 r h=>H128 z128_0 p21 r h) r29 e30) ⟨tv,tv,tv⟩ rfl rfl (fun _=>rfl) (o_ (As 8 [(1,.ptr 64 0),(7,iV r29),(30,.bool (decide (r29<0)))] [(64,Ax a0)] (Cw h0 (fun c31 h0=>?_) (fun c31 h0=>?_))))))))
  ·obtain rfl:=sj h0
   exact Cs 5
  ·refine At 6 (Ah (bb h0 fun y32 e33 h0=>Ns rfl rfl e33 (o_ ?_)))
   obtain rfl:=sj h0
   exact Cs 5
 ·rintro ⟨p12,p13⟩ o1 _ K1 rfl h1 hx1 hK1 hE1 hR1
  refine As 3 (iB [(16,oI 1024 r5),(17,iV (r5.length:Int)),(18,iV p12),(19,.bool (decide (p12<(r5.length:Int))))]) [(64,Ax a0),(256,[.own 512 0 0 (kH p13)])] (Bk (Cw h1 (fun c22 h1=>?_) (fun c22 h1=>?_)))
  ·refine Mm 5 (Ah (bb h1 fun y23 e24 h1=>iO rfl rfl e24 (bb h1 fun y25 e26 h1=>NH rfl rfl e26 (o_ (As 2 (iB [(6,iV y25),(16,oI 1024 r5),(17,iV (r5.length:Int)),(18,iV p12)]) [(64,Ax a0),(256,[.own 512 0 0 (kH p13)])] (At 2 (Ah (st (mset_ rfl rfl rfl (In (Um (Dy ⟨[(1,.ptr 64 0),(4,.ptr 256 0),(16,oI 1024 r5),(17,iV (r5.length:Int)),(18,iV p12)],[(64,Ax a0),(256,[.own 512 0 0 (kH (Uc p13 y25 true))])],[]⟩ (fg ⟨rfl,rfl,rfl,rfl,rfl,tv⟩ ⟨rfl,congrArg (fun z=>some (([.own 512 0 0 z]:List V))) KK,tv⟩) (At 3 ?_)))))))))))))
   obtain rfl:=sj h1
   exact kn hK1 rfl rfl
  ·obtain rfl:=sj h1
   obtain rfl:=hx1 _ rfl
   refine Iw rfl ?_
   exact jn hE1 ⟨_,rfl,rfl⟩

/- slices.ContainsFunc[[]int,int] -/
def VG:=[k_ 4 (.bool false)]
def VH:=[m_ 5 0,m_ 6 1,q_ 7 127 [.t 5,.t 6],B_ .geq 8 7 0,m_ 4 8]
def c129:De:=⟨2,9,[.t 4],sr VG (rr VH)⟩
def K129 (C:Ba) (D:Ba:=C):Prop:=∀(a0:List Int) (f1:Nat) (k1:List V) (is1:Int→Option Bool) (hs1:Kp k1) (hf1:∀(x0:Int) r,is1 x0=some r→C f1 ⟨iV x0::k1,[]⟩ ⟨.bool r,[],[]⟩) (r:Bool),AkU a0 is1=some r→D 129 ⟨[lI a0,.clo f1 k1],[]⟩ ⟨.bool r,[],[]⟩
theorem F129 (H127:NM C):K129 C (FO C c129):=by
 intro a0 f1 k1 is1 hs1 hf1 r h0
 refine f0 (As 3 [(0,lI a0),(1,.clo f1 k1)] [] (At 3 (Ah (bb h0 fun r1 e2 h0=>st (Cm (r:=iV r1) false (H127 a0 f1 k1 is1 hs1 hf1 r1 e2) ⟨tv,tv,tv⟩ rfl (Ej rfl (Ej (Yc hs1) rfl)) (fun _=>rfl) (o_ ?_))))))
 obtain rfl:=sj h0
 exact Cs 4

/- loop.example/g00149/impl.areAll[int]$1 -/
def VI:=[k_ 3 (.bool false)]
def VJ:List Bj:=[l_ 4 1 1,m_ 5 0,⟨some 6,.callv (.t 4) [.t 5],none⟩,N_ 7 6,m_ 3 7]
def c130:De:=⟨2,8,[.t 3],sr VI (rr VJ)⟩
def K130 (C:Ba) (D:Ba:=C):Prop:=∀(a0:Int) (f1:Nat) (k1:List V) (is1:Int→Option Bool) (hs1:Kp k1) (hf1:∀(x0:Int) r,is1 x0=some r→C f1 ⟨iV x0::k1,[]⟩ ⟨.bool r,[],[]⟩) (r:Bool),AkW a0 is1=some r→D 130 ⟨[iV a0,.iptr [.clo f1 k1]],[]⟩ ⟨.bool r,[],[]⟩
theorem F130:K130 C (FO C c130):=by
 intro a0 f1 k1 is1 hs1 hf1 r h0
 refine f0 (As 3 [(0,iV a0),(1,.iptr [.clo f1 k1])] [] (At 3 (Ah (bb h0 fun r1 e2 h0=>st (Gg (r:=.bool r1) rfl false (hf1 _ r1 e2) ⟨tv,tv⟩ (Bq rfl hs1.2.2.1) (Ej rfl (hs1.2.1 _ _ _ _ _)) (fun _=>rfl) (o_ ?_))))))
 obtain rfl:=sj h0
 exact Cs 4

/- loop.example/g00149/impl.areAll[int] -/
def c97_r0:=[X_ 3 1,k_ 4 (.bool false)]
def c97_r1:=[m_ 5 0,iQ 6 (.fn 130 [.t 3]),q_ 7 129 [.t 5,.t 6],N_ 8 7,m_ 4 8]
def c97:De:=⟨2,9,[.t 4],sr c97_r0 (rr c97_r1)⟩
def K97 (C:Ba) (D:Ba:=C):Prop:=∀(a0:List Int) (f1:Nat) (k1:List V) (is1:Int→Option Bool) (hs1:Kp k1) (hf1:∀(x0:Int) r,is1 x0=some r→C f1 ⟨iV x0::k1,[]⟩ ⟨.bool r,[],[]⟩) (r:Bool),g97 a0 is1=some r→D 97 ⟨[lI a0,.clo f1 k1],[]⟩ ⟨.bool r,[],[]⟩
theorem F97 (H129:K129 C) (H130:K130 C):K97 C (FO C c97):=by
 intro a0 f1 k1 is1 hs1 hf1 r h0
 refine f0 (Bk (Ah (st (vX (cJ hs1) tv rfl (o_ (As 2 [(0,lI a0),(3,.ptr 192 0)] [(192,[.clo f1 k1])] (At 3 (Ah (bb h0 fun r1 e2 h0=>st (Cm (r:=.bool r1) false (H129 a0 130 [.iptr [.clo f1 k1]] (fun z130_0=>AkW z130_0 is1) (⟨fun _ _ _ _ _=>rfl,fun _ _ _ _ _=>rfl,rfl,fun _ _ _ n=>by cases n<;>rfl,fun _=>rfl⟩) (fun z130_0 r h=>H130 z130_0 f1 k1 is1 hs1 hf1 r h) r1 e2) ⟨tv,tv,tv⟩ rfl (Ej rfl (Ej (congrArg (fun z=>V.clo 130 [.iptr [.clo f1 z]]) (hs1.2.2.2.1 _ _ _ _)) rfl)) (fun _=>rfl) (o_ ?_)))))))))))
 obtain rfl:=sj h0
 exact Cs 4

/- slices.BinarySearchFunc[[]loop.example/g00149/impl.Lease,loop.example/g00149/impl.Lease,int] -/
def RR:=[i_ 6 0,k_ 7 (.bool false)]
def RS:=[m_ 12 0,n_ 13 12,m_ 8 13]
def RU:=[m_ 14 8,i_ 9 0,m_ 10 14]
def RX:=[m_ 15 9,m_ 16 10,b_ .lss 17 15 16]
def RY:List Bj:=[m_ 18 9,m_ 19 10,b_ .add 20 18 19,iQ 21 (.conv .u64 (.t 20)),⟨some 22,.p (.bin .shr (.t 21) (.c (.int .u64 1))),none⟩,iQ 23 (.conv .i64 (.t 22)),m_ 11 23]
def RZ:List Bj:=[m_ 24 2,m_ 25 0,m_ 26 11,x_ 27 25 26 4,L_ 28 27 4,m_ 29 1,⟨some 30,.callv (.t 24) [.t 28,.t 29],none⟩,B_ .lss 31 30 0]
def SA:=[m_ 32 11,B_ .add 33 32 1,m_ 9 33]
def SB:=[m_ 34 11,m_ 10 34]
def RN:IR:=(.seq (sr RX (.ite (.t 17) .skip (.exit 0))) (.block 1 (sr RY (sr RZ (.ite (.t 31) (.reg SA) (.reg SB))))))
def SC:List Bj:=[m_ 35 9,m_ 36 9,m_ 37 8,b_ .lss 38 36 37,m_ 39 38,mT 39 40 2,mT 39 41 0,mT 39 42 9,xT 39 43 41 42 4,lT 39 44 43 4 true,mT 39 45 1,⟨some 46,.callv (.t 40) [.t 44,.t 45],some (39,true)⟩,pT 39 47 (.bin .eql (.t 46) (.c (iV 0))),pa 48 39 47,m_ 6 35,m_ 7 48]
def c113:De:=⟨3,49,[.t 6,.t 7],sr RR (sr RS (sr RU (.seq (Jc 0 RN) (rr SC))))⟩
def K113 (C:Ba) (D:Ba:=C):Prop:=∀(a0:List Af) (a1:Int) (f2:Nat) (k2:List V) (is2:Af→Int→Option Int) (hs2:Kp k2) (hf2:∀(x0:Af) (x1:Int) r,is2 x0 x1=some r→C f2 ⟨.agg (Bg x0)::iV x1::k2,[]⟩ ⟨iV r,[],[]⟩) (r:Int×Bool),g113 a0 a1 is2=some r→D 113 ⟨[Dh a0,iV a1,.clo f2 k2],[]⟩ ⟨.tup [iV r.1,.bool r.2],[],[]⟩
abbrev Vh:=fun x0 x1 x2 x3 (r:List (Nat×V))=>(0,Dh x0)::(1,iV x1)::(2,.clo x2 x3)::r
theorem F113:K113 C (FO C c113):=by
 intro a0 a1 f2 k2 is2 hs2 hf2 r h0
 refine f0 (As 4 (Vh a0 a1 f2 k2 []) [] (Bk (Ah (st (Dc rfl tv (Hf rfl (o_ (As 8 (Vh a0 a1 f2 k2 [(8,iV (a0.length:Int)),(9,iV 0),(10,iV (a0.length:Int))]) [] (Bk (Ci (bb h0 fun r30 e31 h0=>Df (R:=(fun S=>∃p21:Int,p21=r30∧S=⟨Vh a0 a1 f2 k2 [(8,iV (a0.length:Int)),(9,iV p21)],[],[]⟩)) (aT a0 a1 is2) (fun s S=>match s with | (p9,p10)=>S=⟨Vh a0 a1 f2 k2 [(8,iV (a0.length:Int)),(9,iV p9),(10,iV p10)],[],[]⟩) e31 _ (Er (by kernel_rfl)) rfl 0 (fun _=>rfl) ?_ ?_)))))))))))
 ·rintro S _ hfg ⟨p21,rfl,rfl⟩
  refine Dy ⟨Vh a0 a1 f2 k2 [(8,iV (a0.length:Int)),(9,iV p21)],[],[]⟩ (fgl hfg ⟨rfl,rfl,rfl,rfl,rfl,tv⟩ tv) (Hj 9 (Ah (bb h0 fun y32 e33 h0=>st (Ep (u:=.iptr (Bg y32)) rfl (fun hg=>(Ua (e:=Bg) (y:=y32) rfl rfl (fun _=>hg) rfl rfl (fun _=>hg) (ip hg e33))) (o_ (Hj 2 (Ah (bb h0 fun r34 e35 h0=>st (tD (r:=iV r34) rfl rfl rfl (fun hg=>hg) false (fun hg=>hf2 _ _ r34 (ip hg e35)) ⟨(fun hg=>hg),(fun hg=>hg),tv⟩ (fun _=>(ar (Bq rfl hs2.2.2.1))) (fun _=>(Ej rfl (Ej rfl (hs2.2.1 _ _ _ _ _)))) (fun _=>rfl) (fun h=>nomatch h) (o_ (Hj 2 (Ah (o_ ?_)))))))))))))
  obtain rfl:=sj h0
  exact Cs 4
 ·rintro ⟨p9,p10⟩ o1 _ K1 rfl h1 hx1 hK1 hE1 hR1
  refine As 6 (Vh a0 a1 f2 k2 [(8,iV (a0.length:Int)),(9,iV p9),(10,iV p10),(17,.bool (decide (p9<p10)))]) [] (Cw h1 (fun c22 h1=>?_) (fun c22 h1=>?_))
  ·refine At 8 (Ah (st (c_ (Bw ⟨tv,tv,tv⟩ rfl (by decide)) (o_ (At 3 (bv h1 fun v23 e24 h1=>Dy ⟨[(0,Dh a0),(1,iV a1),(2,.clo f2 k2),(8,iV (a0.length:Int)),(9,iV p9),(10,iV p10),(11,iV v23)],[],[]⟩ (fg ⟨(by subst e24; rfl),(by subst e24; rfl),(by subst e24; rfl),(by subst e24; rfl),(by subst e24; rfl),(by subst e24; rfl),(by subst e24; rfl),tv⟩ tv) (At 4 (Ah (bb h1 fun y25 e26 h1=>Ns rfl rfl e26 (o_ (At 2 (Ah (bb h1 fun r27 e28 h1=>st (Gg (r:=iV r27) rfl false (hf2 _ _ r27 e28) ⟨tv,tv,tv⟩ (ar (Bq rfl hs2.2.2.1)) (Ej rfl (Ej rfl (hs2.2.1 _ _ _ _ _))) (fun _=>rfl) (o_ (As 2 (Vh a0 a1 f2 k2 [(8,iV (a0.length:Int)),(9,iV p9),(10,iV p10),(11,iV v23),(31,.bool (decide (r27<0)))]) [] (Cw h1 (fun c29 h1=>?_) (fun c29 h1=>?_))))))))))))))))))
   ·refine At 5 ?_
    obtain rfl:=sj h1
    exact kn hK1 rfl rfl
   ·refine At 4 ?_
    obtain rfl:=sj h1
    exact kn hK1 rfl rfl
  ·obtain rfl:=sj h1
   obtain rfl:=hx1 _ rfl
   refine Iw rfl ?_
   exact jn hE1 ⟨_,rfl,rfl⟩

/- cmp.isNaN[int] -/
def XC:=[k_ 2 (.bool false)]
def XD:=[m_ 3 0,m_ 4 0,b_ .neq 5 3 4,m_ 2 5]
def c136:De:=⟨1,6,[.t 2],sr XC (rr XD)⟩
def NN (D:Ba):Prop:=∀a0 r,mO a0=some r→D 136 ⟨[iV a0],[]⟩ ⟨.bool r,[],[]⟩
theorem F136:NN (FO C c136):=by
 intro a0 r h0
 refine f0 (?_)
 obtain rfl:=sj h0
 exact Cs 11

/- cmp.Compare[int] -/
def QU:=[i_ 4 0]
def QV:=[m_ 7 0,q_ 8 136 [.t 7],m_ 5 8]
def QW:=[m_ 9 1,q_ 10 136 [.t 9],m_ 6 10]
def QX:=[m_ 11 5]
def QY:=[m_ 12 6]
def QZ:=[i_ 4 0]
def RA:=[i_ 4 (-1)]
def RE:=[m_ 13 6]
def RF:=[i_ 4 1]
def RG:=[m_ 14 0,m_ 15 1,b_ .lss 16 14 15]
def AM:=[i_ 4 (-1)]
def AN:=[m_ 17 0,m_ 18 1,b_ .gtr 19 17 18]
def AO:=[i_ 4 1]
def AP:=[i_ 4 0]
def c110:De:=⟨2,20,[.t 4],sr QU (sr QV (sr QW (.seq (sr QX (iz 11 (.seq (sr QY (iz 12 (rr QZ))) (rr RA)))) (.seq (sr RE (iz 13 (rr RF))) (.seq (sr RG (iz 16 (rr AM))) (.seq (sr AN (iz 19 (rr AO))) (rr AP)))))))⟩
def NK (D:Ba):Prop:=∀a0 a1 r,wS a0 a1=some r→D 110 ⟨[iV a0,iV a1],[]⟩ ⟨iV r,[],[]⟩
theorem F110 (H136:NN C):NK (FO C c110):=by
 intro a0 a1 r h0
 refine f0 (As 3 [(0,iV a0),(1,iV a1)] [] (Bk (Ah (st (Dc rfl tv (bb h0 fun r1 e2 h0=>Il (H136 a0 r1 e2) (o_ (As 2 [(0,iV a0),(1,iV a1),(5,.bool r1)] [] (Bk (Ah (st (Dc rfl tv (bb h0 fun r3 e4 h0=>Il (H136 a1 r3 e4) (o_ (As 7 [(0,iV a0),(1,iV a1),(6,.bool r3),(11,.bool r1)] [] (Cw h0 (fun c5 h0=>?_) (fun c5 h0=>?_)))))))))))))))))
 ·refine As 4 [(12,.bool r3)] [] (Cw h0 (fun c6 h0=>?_) (fun c6 h0=>?_))
  ·obtain rfl:=sj h0
   exact Cs 4
  ·obtain rfl:=sj h0
   exact Cs 6
 ·refine As 6 [(0,iV a0),(1,iV a1),(13,.bool r3)] [] (Cw h0 (fun c7 h0=>?_) (fun c7 h0=>?_))
  ·obtain rfl:=sj h0
   exact Cs 4
  ·refine As 8 [(0,iV a0),(1,iV a1),(16,.bool (decide (a0<a1)))] [] (Cw h0 (fun c8 h0=>?_) (fun c8 h0=>?_))
   ·obtain rfl:=sj h0
    exact Cs 4
   ·refine As 8 [(19,.bool (decide (a0>a1)))] [] (Cw h0 (fun c9 h0=>?_) (fun c9 h0=>?_))
    ·obtain rfl:=sj h0
     exact Cs 4
    ·obtain rfl:=sj h0
     exact Cs 6

/- (loop.example/g00149/impl.Table).find$1 -/
def SD:=[X_ 2 0,i_ 4 0]
def SE:=[f_ 5 2 0,l_ 6 5 1,m_ 7 1,q_ 8 110 [.t 6,.t 7],m_ 4 8]
def c114:De:=⟨2,9,[.t 4],sr SD (rr SE)⟩
def K114 (D:Ba):Prop:=∀a0 a1 r,wT a0 a1=some r→D 114 ⟨[.agg (Bg a0),iV a1],[]⟩ ⟨iV r,[],[]⟩
theorem F114 (H110:NK C):K114 (FO C c114):=by
 intro a0 a1 r h0
 refine f0 (As 4 [(1,iV a1),(2,.ptr 128 0)] [(128,Bg a0)] (At 4 (Ah (bb h0 fun r1 e2 h0=>Il (H110 a0.id a1 r1 e2) (o_ ?_)))))
 obtain rfl:=sj h0
 exact Cs 3

/- (loop.example/g00149/impl.Table).find -/
def c77_r0:=[X_ 2 0,i_ 4 0,k_ 5 (.bool false)]
def c77_r1:=[f_ 6 2 2,l_ 7 6 1,m_ 8 1,q_ 9 113 [.t 7,.t 8,.c (.clo 114 [])],e_ 10 9 0,e_ 11 9 1,m_ 4 10,m_ 5 11]
def c77:De:=⟨2,12,[.t 4,.t 5],sr c77_r0 (rr c77_r1)⟩
def K77 (D:Ba):Prop:=∀a0 a1 r,NG a0 a1=some r→D 77 ⟨[.agg (Bh a0),iV a1],[]⟩ ⟨.tup [iV r.1,.bool r.2],[],[]⟩
theorem F77 (H113:K113 C) (H114:K114 C):K77 (FO C c77):=by
 intro a0 a1 r h0
 refine f0 (As 5 [(1,iV a1),(2,.ptr 128 0)] [(128,Bh a0)] (At 4 (Ah (bb h0 fun r1 e2 h0=>st (Cm (r:=.tup [iV r1.1,.bool r1.2]) false (H113 a0.Ac a1 114 [] (fun z114_0 z114_1=>wT z114_0 z114_1) (⟨fun _ _ _ _ _=>rfl,fun _ _ _ _ _=>rfl,rfl,fun _ _ _ n=>by cases n<;>rfl,fun _=>rfl⟩) (fun z114_0 z114_1 r h=>H114 z114_0 z114_1 r h) r1 e2) ⟨tv,tv,tv,tv⟩ rfl rfl (fun _=>rfl) (o_ ?_))))))
 obtain rfl:=sj h0
 exact Cs 6

/- loop.example/g00149/impl.VaultOK$1 -/
def c98_r0:=[k_ 3 (.bool false)]
def c98_r1:=[f_ 7 1 0,L_ 8 7 3,m_ 9 0,q_ 10 77 [.t 8,.t 9],m_ 6 10,e_ 11 6 0,e_ 12 6 1,m_ 4 11,m_ 5 12]
def c98_r2:=[m_ 13 5,N_ 14 13,m_ 3 14]
def c98:De:=⟨2,15,[.t 3],sr c98_r0 (sr c98_r1 (rr c98_r2))⟩
def K98 (D:Ba):Prop:=∀a0 a1 r,g98 a0 a1=some r→D 98 ⟨[iV a0,.iptr (Ax a1)],[]⟩ ⟨.bool r,[],[]⟩
theorem F98 (H77:K77 C):K98 (FO C c98):=by
 intro a0 a1 r h0
 refine f0 (As 3 [(0,iV a0),(1,.iptr (Ax a1))] [] (At 4 (Ah (bb h0 fun r1 e2 h0=>Il (H77 a1.Ab a0 r1 e2) (o_ ?_)))))
 obtain rfl:=sj h0
 exact Cs 13

/- loop.example/g00149/impl.VaultOK -/
def c48_r0:=[X_ 1 0,k_ 2 (.bool false)]
def c48_r1:=tk [f_ 5 1 0,L_ 6 5 3] (.alt [] (q_ 7 20 [.t 6]) (tk [N_ 8 7,m_ 9 8,fF 9 10 1 3,lF 9 11 10 1 false,pF 9 12 (.len (.t 11)),pF 9 13 (.bin .gtr (.t 12) (.c (iV 40))),po 14 9 13,m_ 15 14,fF 15 16 1 3,lF 15 17 16 1 false,fF 15 19 1 0,fF 15 20 19 1,lF 15 21 20 1 false,pF 15 22 (.bin .sub (.t 21) (.c (iV 1)))] (.alt [pF 15 22 (.bin .sub (.t 21) (.c (iV 1))),lF 15 21 20 1 false,fF 15 20 19 1,fF 15 19 1 0] ⟨some 18,.call 95 [.t 17],some (15,false)⟩ (.alt [] ⟨some 23,.call 59 [.t 18,.c (iV 1),.t 22],some (15,false)⟩ (tk [pF 15 24 (.un .not (.t 23)),po 25 15 24,m_ 26 25,fF 26 27 1 4,lF 26 28 27 1 false,pF 26 29 (.len (.t 28)),pF 26 30 (.bin .gtr (.t 29) (.c (iV 80))),po 31 26 30,m_ 32 31,fF 32 33 1 4,lF 32 34 33 1 false,fF 32 35 1 0,fF 32 36 35 1,lF 32 37 36 1 false,pF 32 38 (.bin .sub (.t 37) (.c (iV 1)))] (.alt [] ⟨some 39,.call 59 [.t 34,.c (iV 1),.t 38],some (32,false)⟩ (tk [pF 32 40 (.un .not (.t 39)),po 41 32 40] .fin) .stop)) .stop) .stop)) .stop)
def c48_r2:=[k_ 2 (.bool false)]
def c48_r3:=[L_ 43 1 6,q_ 44 96 [.t 43],m_ 42 44,e_ 45 42 0,e_ 46 42 1,m_ 3 45,m_ 4 46]
def c48_r4:List Bj:=[m_ 47 4,N_ 48 47,m_ 49 48,fT 49 50 1 3,lT 49 51 50 1 false,⟨some 52,.call 95 [.t 51],some (49,true)⟩,pT 49 53 (.fn 98 [.t 1]),⟨some 54,.call 97 [.t 52,.t 53],some (49,true)⟩,pa 55 49 54,m_ 2 55]
def c48:De:=⟨1,56,[.t 2],sr c48_r0 (.seq (sd c48_r1 (iz 41 (rr c48_r2))) (sr c48_r3 (rr c48_r4)))⟩
def K48 (D:Ba):Prop:=∀a0 r,g48 a0=some r→D 48 ⟨[.agg (Ax a0)],[]⟩ ⟨.bool r,[],[]⟩
theorem F48 (H20:K20 C) (H59:K59 C) (H95:K95 C) (H96:K96 C) (H97:K97 C) (H98:K98 C):K48 (FO C c48):=by
 intro a0 r h0
 refine f0 (As 4 [(1,.ptr 64 0)] [(64,Ax a0)] (Bk (Bk (bb h0 fun r1 e2 h0=>bb h0 fun r3 e4 h0=>bb h0 fun r5 e6 h0=>bb h0 fun r7 e8 h0=>At 2 (Bm (Oo (H20 a0.Ab r1 e2) rfl (dw [(1,.ptr 64 0),(7,.bool r1)] [(64,Ax a0)] tv (d_ (At 2 (Bm (Au tv (Ep (u:=.ptr 64 3) rfl (fun hg=>(Bw ⟨tv,tv⟩ rfl tv)) (⟨tv,Au tv (Ep (u:=Cj a0.Aa) rfl (fun hg=>(Bw ⟨(fun _=>hg),tv⟩ rfl (nl rfl))) (⟨tv,Au tv (Ep (u:=iV (a0.Aa.length:Int)) rfl (fun hg=>(Mu (e:=Cd) (l0:=a0.Aa) rfl rfl (fun _=>hg))) (⟨tv,Au tv (Ep (u:=.bool (decide ((a0.Aa.length:Int)>40))) rfl (fun hg=>(Bw ⟨(fun _=>hg),tv,tv⟩ rfl tv)) (⟨tv,Au tv (Hp rfl rfl rfl tv (fun h=>lN h) rfl (⟨tv,Au tv (Dc rfl tv (⟨tv,Au tv (Ep (u:=.ptr 64 3) rfl (fun hg=>(Bw ⟨tv,tv⟩ rfl tv)) (⟨tv,Au tv (Ep (u:=Cj a0.Aa) rfl (fun hg=>(Bw ⟨(fun _=>hg),tv⟩ rfl (nl rfl))) (⟨tv,Au tv (Ep (u:=.ptr 64 0) rfl (fun hg=>(Bw ⟨tv,tv⟩ rfl tv)) (⟨tv,Au tv (Ep (u:=.ptr 64 1) rfl (fun hg=>(Bw ⟨(fun _=>hg),tv⟩ rfl tv)) (⟨tv,?_⟩))⟩))⟩))⟩))⟩))⟩))⟩))⟩))⟩))⟩))))))) Az))))))
 refine Au tv (Ep (u:=iV a0.Ab.next) rfl (fun hg=>(Bw ⟨(fun _=>hg),tv⟩ rfl (nl rfl))) (⟨tv,Au tv (Ep (u:=iV (wi (a0.Ab.next-1))) rfl (fun hg=>(Bw ⟨(fun _=>hg),tv,tv⟩ rfl tv)) (⟨tv,Cb (En (r:=oI 0 r3) rfl false (fun hg=>H95 a0.Aa r3 (ip hg e4)) ⟨(fun hg=>hg),tv⟩ (fun _=>rfl) (fun _=>rfl) (fun _=>(af rfl)) (fun h=>nomatch h) (dw [(1,.ptr 64 0),(15,.bool (bif (!r1) then true else (decide ((a0.Aa.length:Int)>40)))),(18,.may ((bif (!r1) then true else (decide ((a0.Aa.length:Int)>40)))==false) (lI r3)),(19,.may ((bif (!r1) then true else (decide ((a0.Aa.length:Int)>40)))==false) (.ptr 64 0)),(20,.may ((bif (!r1) then true else (decide ((a0.Aa.length:Int)>40)))==false) (.ptr 64 1)),(21,.may ((bif (!r1) then true else (decide ((a0.Aa.length:Int)>40)))==false) (iV a0.Ab.next)),(22,.may ((bif (!r1) then true else (decide ((a0.Aa.length:Int)>40)))==false) (iV (wi (a0.Ab.next-1))))] [(64,Ax a0)] ⟨⟨.inl tv,Hy (v:=iV (wi (a0.Ab.next-1))) rfl (fun hg=>(Bw ⟨(fun _=>hg),tv,tv⟩ rfl tv)) rfl⟩,⟨.inl tv,Hy (v:=iV a0.Ab.next) rfl (fun hg=>(Bw ⟨(fun _=>hg),tv⟩ rfl (nl rfl))) rfl⟩,⟨.inl tv,Hy (v:=.ptr 64 1) rfl (fun hg=>(Bw ⟨(fun _=>hg),tv⟩ rfl tv)) rfl⟩,⟨.inl tv,Hy (v:=.ptr 64 0) rfl (fun hg=>(Bw ⟨tv,tv⟩ rfl tv)) rfl⟩,tv⟩ (Cb (En (r:=.bool r5) rfl false (fun hg=>H59 r3 1 (wi (a0.Ab.next-1)) r5 (ip hg e6)) ⟨(fun hg=>hg),tv,(fun hg=>hg),tv⟩ (fun _=>rfl) (fun _=>rfl) (fun _=>rfl) (fun h=>nomatch h) (dw [(1,.ptr 64 0),(15,.bool (bif (!r1) then true else (decide ((a0.Aa.length:Int)>40)))),(23,.may ((bif (!r1) then true else (decide ((a0.Aa.length:Int)>40)))==false) (.bool r5))] [(64,Ax a0)] tv (Au tv (Ep (u:=.bool (!r5)) rfl (fun hg=>(Bw ⟨(fun _=>hg),tv⟩ rfl tv)) (⟨tv,Au tv (Hp rfl rfl rfl tv (fun h=>lN h) rfl (⟨tv,Au tv (Dc rfl tv (⟨tv,Au tv (Ep (u:=.ptr 64 4) rfl (fun hg=>(Bw ⟨tv,tv⟩ rfl tv)) (⟨tv,Au tv (Ep (u:=lI a0.Ae) rfl (fun hg=>(Bw ⟨(fun _=>hg),tv⟩ rfl (nl rfl))) (⟨tv,Au tv (Ep (u:=iV (a0.Ae.length:Int)) rfl (fun hg=>(Mu (e:=eI) (l0:=a0.Ae) rfl rfl (fun _=>hg))) (⟨tv,Au tv (Ep (u:=.bool (decide ((a0.Ae.length:Int)>80))) rfl (fun hg=>(Bw ⟨(fun _=>hg),tv,tv⟩ rfl tv)) (⟨tv,Au tv (Hp rfl rfl rfl tv (fun h=>lN h) rfl (⟨tv,Au tv (Dc rfl tv (⟨tv,Au tv (Ep (u:=.ptr 64 4) rfl (fun hg=>(Bw ⟨tv,tv⟩ rfl tv)) (⟨tv,Au tv (Ep (u:=lI a0.Ae) rfl (fun hg=>(Bw ⟨(fun _=>hg),tv⟩ rfl (nl rfl))) (⟨tv,Au tv (Ep (u:=.ptr 64 0) rfl (fun hg=>(Bw ⟨tv,tv⟩ rfl tv)) ?_)⟩))⟩))⟩))⟩))⟩))⟩))⟩))⟩))⟩))⟩))⟩))))) Az))) Az⟩))⟩))
 refine ⟨tv,Au tv (Ep (u:=.ptr 64 1) rfl (fun hg=>(Bw ⟨(fun _=>hg),tv⟩ rfl tv)) (⟨tv,Au tv (Ep (u:=iV a0.Ab.next) rfl (fun hg=>(Bw ⟨(fun _=>hg),tv⟩ rfl (nl rfl))) (⟨tv,Au tv (Ep (u:=iV (wi (a0.Ab.next-1))) rfl (fun hg=>(Bw ⟨(fun _=>hg),tv,tv⟩ rfl tv)) (⟨tv,Cb (En (r:=.bool r7) rfl false (fun hg=>H59 a0.Ae 1 (wi (a0.Ab.next-1)) r7 (ip hg e8)) ⟨(fun hg=>hg),tv,(fun hg=>hg),tv⟩ (fun _=>rfl) (fun _=>rfl) (fun _=>rfl) (fun h=>nomatch h) (dw [(1,.ptr 64 0),(32,.bool (bif (bif (bif (!r1) then true else (decide ((a0.Aa.length:Int)>40))) then true else (!r5)) then true else (decide ((a0.Ae.length:Int)>80)))),(39,.may ((bif (bif (bif (!r1) then true else (decide ((a0.Aa.length:Int)>40))) then true else (!r5)) then true else (decide ((a0.Ae.length:Int)>80)))==false) (.bool r7))] [(64,Ax a0)] tv (Au tv (Ep (u:=.bool (!r7)) rfl (fun hg=>(Bw ⟨(fun _=>hg),tv⟩ rfl tv)) (⟨tv,Au tv (Hp rfl rfl rfl tv (fun h=>lN h) rfl (⟨tv,Jz (bv h0 fun v9 e10 h0=>Dy ⟨[(1,.ptr 64 0),(41,.bool v9)],[(64,Ax a0)],[]⟩ (Er (by subst e10; kernel_rfl)) (Cw h0 (fun c11 h0=>?_) (fun c11 h0=>?_)))⟩))⟩))))) Az⟩))⟩))⟩))⟩
 ·obtain rfl:=sj h0
  exact Cs 4
 ·refine At 4 (Ah (bb h0 fun r12 e13 h0=>Il (H96 a0 r12 e13) (o_ (As 6 [(1,.ptr 64 0),(4,.bool r12.2)] [(64,Ax a0)] (At 4 (Ah (st (Ep (u:=.ptr 64 3) rfl (fun hg=>(Bw ⟨tv,tv⟩ rfl tv)) (st (Ep (u:=Cj a0.Aa) rfl (fun hg=>(Bw ⟨(fun _=>hg),tv⟩ rfl (nl rfl))) (bb h0 fun r14 e15 h0=>st (En (r:=oI 0 r14) rfl false (fun hg=>H95 a0.Aa r14 (ip hg e15)) ⟨(fun hg=>hg),tv⟩ (fun _=>rfl) (fun _=>rfl) (fun _=>(af rfl)) (fun h=>nomatch h) (st (Ep (u:=.clo 98 [.ptr 64 0]) rfl (fun hg=>(Bw ⟨tv,tv⟩ rfl rfl)) (bb h0 fun r16 e17 h0=>st (En (r:=.bool r16) rfl false (fun hg=>H97 r14 98 [.iptr (Ax a0)] (fun z98_0=>g98 z98_0 a0) (⟨fun _ _ _ _ _=>rfl,fun _ _ _ _ _=>rfl,rfl,fun _ _ _ n=>by cases n<;>rfl,fun _=>rfl⟩) (fun z98_0 r h=>H98 z98_0 a0 r h) r16 (ip hg e17)) ⟨(fun hg=>hg),(fun hg=>hg),tv⟩ (fun _=>rfl) (fun _=>rfl) (fun _=>rfl) (fun h=>nomatch h) (st (Hp rfl rfl rfl (fun h=>tM h) tv rfl (o_ ?_)))))))))))))))))))
  obtain rfl:=sj h0
  exact Cs 3

/- loop.example/g00149/impl.hex -/
def AdI:=[k_ 2 (.str [])]
def AdJ:List Bj:=[⟨some 3,.nilS 1,none⟩]
def AdK:=[i_ 4 15]
def AdL:=[m_ 5 4,B_ .geq 6 5 0]
def AdM:List Bj:=[m_ 9 3,m_ 10 0,m_ 11 4,⟨some 12,.p (.bin .mul (.c (iV 4)) (.t 11)),none⟩,b_ .shr 13 10 12,B_ .and 14 13 15,⟨some 15,.p (.idxStr (.c (.str [48,49,50,51,52,53,54,55,56,57,97,98,99,100,101,102])) (.t 14)),none⟩,⟨some 16,.mkS 1 [.int .u8 0] 1 [(0,.t 15)],none⟩,⟨some 17,.app 1 1 (.t 9) (.t 16),none⟩,m_ 3 17]
def AdN:=[m_ 7 4,B_ .sub 8 7 1,m_ 4 8]
def AdH:IR:=(.seq (sr AdL (.ite (.t 6) .skip (.exit 0))) (.seq (.block 1 (.reg AdM)) (.reg AdN)))
def AdO:=[m_ 18 3,iQ 19 (.toStr (.t 18)),m_ 2 19]
def c358:De:=⟨1,20,[.t 2],sr AdI (sr AdJ (.seq (sr AdK (Jc 0 AdH)) (rr AdO)))⟩
def K358 (D:Ba):Prop:=∀a0 r,jS a0=some r→D 358 ⟨[iV a0],[]⟩ ⟨.str r,[],[]⟩
theorem F358:K358 (FO C c358):=by
 intro a0 r h0
 refine f0 (As 12 [(0,iV a0),(3,.own 192 0 1 ([].map Gh)),(4,iV 15)] [] (Ci (bb h0 fun r21 e22 h0=>Df (R:=(fun S=>∃p15:List UInt8,p15=r21∧S=⟨[(3,Eo 192 p15)],[],[]⟩)) (Sz a0) (fun s S=>match s with | (p6,p7)=>S=⟨[(0,iV a0),(3,Eo 192 p6),(4,iV p7)],[],[]⟩) e22 _ (Er (by kernel_rfl)) rfl 0 (fun _=>rfl) ?_ ?_)))
 ·rintro S _ hfg ⟨p15,rfl,rfl⟩
  refine Dy _ hfg (Bk (Ah (st (Dc rfl tv (st (c_ (AkG (s:=p15) rfl rfl tv) (o_ ?_)))))))
  obtain rfl:=sj h0
  exact Cs 3
 ·rintro ⟨p6,p7⟩ o1 _ K1 rfl h1 hx1 hK1 hE1 hR1
  refine As 5 [(0,iV a0),(3,Eo 192 p6),(4,iV p7),(6,.bool (decide (p7≥0)))] [] (Cw h1 (fun c16 h1=>?_) (fun c16 h1=>?_))
  ·refine At 8 (Ah (gg h1 fun c17 h1=>st (c_ (Bw ⟨tv,tv,tv⟩ rfl c17) (st (c_ (Bw t3 rfl tv) (bb h1 fun y18 e19 h1=>st (c_ (cidxS (y:=y18) rfl rfl tv rfl rfl tv e19) (st (Ky ⟨tv,tv⟩ ⟨⟨nl rfl,rfl,rfl⟩,tv⟩ (gg h1 fun eZ h1=>st (Fp (e:=Gh) (l0:=p6) (l1:=([y18]:List UInt8)) rfl rfl tv rfl (by decide) eZ (o_ (As 3 [(0,iV a0),(3,Eo 192 (p6++([y18]:List UInt8))),(4,iV p7)] [] (At 4 ?_))))))))))))))
   obtain rfl:=sj h1
   exact kn hK1 rfl rfl
  ·obtain rfl:=sj h1
   obtain rfl:=hx1 _ rfl
   refine Iw rfl ?_
   exact jn hE1 ⟨_,rfl,rfl⟩

/- loop.example/g00149/impl.either -/
def AdP:=[k_ 6 (.str [])]
def AdQ:=[m_ 7 0]
def AdR:=[m_ 8 1,m_ 6 8]
def AdS:=[m_ 9 2,m_ 6 9]
def c359:De:=⟨3,10,[.t 6],sr AdP (.seq (sr AdQ (iz 7 (rr AdR))) (rr AdS))⟩
def K359 (D:Ba):Prop:=∀a0 a1 a2 r,wY a0 a1 a2=some r→D 359 ⟨[.bool a0,.str a1,.str a2],[]⟩ ⟨.str r,[],[]⟩
theorem F359:K359 (FO C c359):=by
 intro a0 a1 a2 r h0
 refine f0 (As 8 [(1,.str a1),(2,.str a2),(7,.bool a0)] [] (Cw h0 (fun c1 h0=>?_) (fun c1 h0=>?_)))
 ·obtain rfl:=sj h0
  exact Cs 5
 ·obtain rfl:=sj h0
  exact Cs 7

/- (loop.example/g00149/impl.Vault).pairs -/
def AbS:List Bj:=[X_ 1 0,⟨some 2,.nilS 2,none⟩]
def AbT:List Bj:=[⟨some 3,.nilS 2,none⟩]
def AbU:=[f_ 8 1 3,l_ 9 8 1,n_ 10 9,i_ 11 0]
def AbV:=[b_ .lss 12 11 10]
def AbW:=[x_ 13 9 11 2,L_ 14 13 2,a_ 5 [iV 0,.bool false],s_ 5 14 2]
def AbX:=tk [m_ 15 3,f_ 16 5 0,l_ 17 16 1,f_ 20 5 1,l_ 21 20 1] (.alt [l_ 21 20 1,f_ 20 5 1,m_ 15 3] (q_ 18 358 [.t 17]) (tk [⟨some 19,.p (.bin .add (.c (.str [105,110,116,101,110,116,47])) (.t 18)),none⟩] (.alt [⟨some 19,.p (.bin .add (.c (.str [105,110,116,101,110,116,47])) (.t 18)),none⟩,m_ 15 3] (q_ 22 359 [.t 21,.c (.str [117,110,100,111]),.c (.str [98,101,103,117,110])]) (tk [⟨some 23,.p (.build [.str [],.str []] [(0,1,.t 19),(1,1,.t 22)]),none⟩] (.alt [m_ 15 3] ⟨some 24,.mkS 2 [.str [],.str []] 1 [(0,.t 23)],none⟩ (.alt [] ⟨some 25,.app 2 32 (.t 15) (.t 24),none⟩ (.alt [] (m_ 3 25) .fin .stop) .stop) .stop)) .stop)) .stop)
def AbY:=[B_ .add 26 11 1,m_ 11 26]
def AbQ:IR:=(sr AbV (.seq (.ite (.t 12) .skip (.exit 0)) (.seq (.block 1 (sr AbW (.draw AbX))) (.reg AbY))))
def AbZ:=[f_ 27 1 0,f_ 28 27 2,l_ 29 28 1,n_ 30 29,i_ 31 0]
def Aca:=[b_ .lss 32 31 30]
def Acb:=[x_ 33 29 31 4,L_ 34 33 4,a_ 7 [iV 0,iV 0,iV 0,.bool false],s_ 7 34 4]
def CU:=tk [m_ 35 3,f_ 36 7 0,l_ 37 36 1,f_ 40 7 1,l_ 41 40 1,f_ 43 7 2,l_ 44 43 1,f_ 47 7 3,l_ 48 47 1] (.alt [l_ 48 47 1,f_ 47 7 3,l_ 44 43 1,f_ 43 7 2,l_ 41 40 1,f_ 40 7 1,m_ 35 3] (q_ 38 358 [.t 37]) (tk [⟨some 39,.p (.bin .add (.c (.str [108,101,97,115,101,47])) (.t 38)),none⟩] (.alt [⟨some 39,.p (.bin .add (.c (.str [108,101,97,115,101,47])) (.t 38)),none⟩,l_ 48 47 1,f_ 47 7 3,l_ 44 43 1,f_ 43 7 2,m_ 35 3] (q_ 42 358 [.t 41]) (.alt [⟨some 39,.p (.bin .add (.c (.str [108,101,97,115,101,47])) (.t 38)),none⟩,l_ 48 47 1,f_ 47 7 3,m_ 35 3] (q_ 45 358 [.t 44]) (tk [b_ .add 46 42 45] (.alt [b_ .add 46 42 45,⟨some 39,.p (.bin .add (.c (.str [108,101,97,115,101,47])) (.t 38)),none⟩,m_ 35 3] (q_ 49 359 [.t 48,.c (.str [113,117,101,117,101,100]),.c (.str [108,105,118,101])]) (tk [b_ .add 50 46 49,⟨some 51,.p (.build [.str [],.str []] [(0,1,.t 39),(1,1,.t 50)]),none⟩] (.alt [m_ 35 3] ⟨some 52,.mkS 2 [.str [],.str []] 1 [(0,.t 51)],none⟩ (.alt [] ⟨some 53,.app 2 32 (.t 35) (.t 52),none⟩ (.alt [] (m_ 3 53) .fin .stop) .stop) .stop)) .stop)) .stop) .stop)) .stop)
def CW:=[B_ .add 54 31 1,m_ 31 54]
def AbR:IR:=(sr Aca (.seq (.ite (.t 32) .skip (.exit 2)) (.seq (.block 3 (sr Acb (.draw CU))) (.reg CW))))
def CX:=tk [m_ 55 3,f_ 56 1 0,f_ 57 56 0,l_ 58 57 1,f_ 60 1 0,f_ 61 60 1,l_ 62 61 1,f_ 65 1 5,l_ 66 65 1] (.alt [l_ 66 65 1,f_ 65 1 5,l_ 62 61 1,f_ 61 60 1,f_ 60 1 0,m_ 55 3] (q_ 59 358 [.t 58]) (.alt [l_ 66 65 1,f_ 65 1 5,m_ 55 3] (q_ 63 358 [.t 62]) (tk [b_ .add 64 59 63] (.alt [b_ .add 64 59 63,m_ 55 3] (q_ 67 359 [.t 66,.c (.str [115,101,97,108,101,100]),.c (.str [111,112,101,110])]) (tk [b_ .add 68 64 67,⟨some 69,.p (.build [.str [],.str []] [(0,1,.c (.str [118,97,117,108,116])),(1,1,.t 68)]),none⟩] (.alt [m_ 55 3] ⟨some 70,.mkS 2 [.str [],.str []] 1 [(0,.t 69)],none⟩ (.alt [] ⟨some 71,.app 2 32 (.t 55) (.t 70),none⟩ (tk [m_ 2 71] .fin) .stop) .stop)) .stop)) .stop) .stop)
def c313:De:=⟨1,72,[.t 2],sr AbS (sr AbT (.seq (sr AbU (Jc 0 AbQ)) (.seq (sr AbZ (Jc 2 AbR)) (sd CX .ret))))⟩
def K313 (D:Ba):Prop:=∀a0 r,Alw a0=some r→D 313 ⟨[.agg (Ax a0)],[]⟩ ⟨Be 0 r,[],[]⟩
theorem F313 (H358:K358 C) (H359:K359 C):K313 (FO C c313):=by
 intro a0 r h0
 refine f0 (As 8 [(1,.ptr 64 0),(3,.own 192 0 2 ([].map Cn))] [(64,Ax a0)] (At 4 (Ah (Hf rfl (o_ (As 2 [(1,.ptr 64 0),(3,.own 192 0 2 ([].map Cn)),(9,Cj a0.Aa),(10,iV (a0.Aa.length:Int)),(11,iV 0)] [(64,Ax a0)] (Ci (bb h0 fun r39 e40 h0=>Df (R:=(fun S=>∃p27:List Bd,p27=r39∧S=⟨[(1,.ptr 64 0),(3,Be 192 p27)],[(64,Ax a0)],[]⟩)) (Wi a0) (fun s S=>match s with | (p12,p13)=>S=⟨[(1,.ptr 64 0),(3,Be 192 p12),(9,Cj a0.Aa),(10,iV (a0.Aa.length:Int)),(11,iV p13)],[(64,Ax a0)],[]⟩) e40 _ (Er (by kernel_rfl)) rfl 0 (fun _=>rfl) ?_ ?_))))))))
 ·rintro S _ hfg ⟨p27,rfl,rfl⟩
  refine Dy _ hfg (At 5 (Ah (Hf rfl (o_ (As 2 [(1,.ptr 64 0),(3,Be 192 p27),(29,Dh a0.Ab.Ac),(30,iV (a0.Ab.Ac.length:Int)),(31,iV 0)] [(64,Ax a0)] (Ci (bb h0 fun r97 e98 h0=>Df (R:=(fun S=>∃p79:List Bd,p79=r97∧S=⟨[(1,.ptr 64 0),(3,Be 192 p79)],[(64,Ax a0)],[]⟩)) (Wj a0) (fun s S=>match s with | (p58,p59)=>S=⟨[(1,.ptr 64 0),(3,Be 192 p58),(29,Dh a0.Ab.Ac),(30,iV (a0.Ab.Ac.length:Int)),(31,iV p59)],[(64,Ax a0)],[]⟩) e98 _ (Er (by kernel_rfl)) rfl 2 (fun _=>rfl) ?_ ?_)))))))
  ·rintro S _ hfg ⟨p79,rfl,rfl⟩
   refine Dy _ hfg (Bk (bb h0 fun r99 e100 h0=>bb h0 fun r101 e102 h0=>gg h0 fun AL h0=>bb h0 fun r104 e105 h0=>gg h0 fun PX h0=>gg h0 fun c107 h0=>At 9 (Bm (Oo (H358 a0.Ab.clock r99 e100) rfl (dw [(1,.ptr 64 0),(3,Be 192 p79),(55,Be 192 p79),(59,.str r99),(60,.ptr 64 0),(61,.ptr 64 1),(62,iV a0.Ab.next),(65,.ptr 64 5),(66,.bool a0.Ai)] [(64,Ax a0)] hB (Oo (H358 a0.Ab.next r101 e102) rfl (dw [(1,.ptr 64 0),(3,Be 192 p79),(55,Be 192 p79),(59,.str r99),(63,.str r101),(65,.ptr 64 5),(66,.bool a0.Ai)] [(64,Ax a0)] hB (Au tv (c_ (Bw ⟨tv,tv,tv⟩ rfl AL) (⟨tv,Oo (H359 a0.Ai ([115,101,97,108,101,100]:List UInt8) ([111,112,101,110]:List UInt8) r104 e105) rfl (dw [(3,Be 192 p79),(55,Be 192 p79),(59,.str r99),(63,.str r101),(64,.str (r99++r101)),(67,.str r104)] [] ⟨⟨.inl tv,Bl (Bw ⟨tv,tv,tv⟩ rfl AL) rfl⟩,⟨.inl tv,Bl (Qc (v:=Be 192 p79) rfl tv) rfl⟩,tv⟩ (Au tv (c_ (Bw ⟨tv,tv,tv⟩ rfl PX) (⟨tv,Au tv (c_ (v:=.agg [.str ([118,97,117,108,116]:List UInt8),.str ((r99++r101)++r104)]) (Bw ⟨tv,tv,tv⟩ rfl ⟨⟨rfl,rfl,nl rfl⟩,⟨rfl,rfl,nl rfl⟩,tv⟩) (⟨tv,?_⟩))⟩)))) Az⟩)))) Az)) Az))))
   refine Cb (Ky ⟨tv,tv⟩ ⟨⟨nl rfl,rfl,rfl⟩,tv⟩ (d0 hB (Cb (Fp (e:=Cn) (l0:=p79) (l1:=([Bd.mk ([118,97,117,108,116]:List UInt8) ((r99++r101)++r104)]:List Bd)) rfl rfl tv rfl (by decide) c107 (d0 tv (d_ (At 2 (bv h0 fun v108 e109 h0=>Dy ⟨[(2,Be 192 v108)],[],[]⟩ (Er (by subst e109; kernel_rfl)) ?_))))) Az))) Az
   obtain rfl:=sj h0
   exact Kv (Fe rfl rfl rfl rfl rfl tv)
  ·rintro ⟨p58,p59⟩ o1 _ K1 rfl h1 hx1 hK1 hE1 hR1
   refine As 3 [(1,.ptr 64 0),(3,Be 192 p58),(29,Dh a0.Ab.Ac),(30,iV (a0.Ab.Ac.length:Int)),(31,iV p59),(32,.bool (decide (p59<(a0.Ab.Ac.length:Int))))] [(64,Ax a0)] (Bk (Cw h1 (fun c80 h1=>?_) (fun c80 h1=>?_)))
   ·refine Mm 5 (Ah (bb h1 fun y81 e82 h1=>Ns rfl rfl e82 (o_ (As 4 [(1,.ptr 64 0),(3,Be 192 p58),(7,.ptr 448 0),(29,Dh a0.Ab.Ac),(30,iV (a0.Ab.Ac.length:Int)),(31,iV p59)] [(64,Ax a0),(448,Bg y81)] (bb h1 fun r83 e84 h1=>gg h1 fun c85 h1=>bb h1 fun r86 e87 h1=>bb h1 fun r88 e89 h1=>gg h1 fun c90 h1=>bb h1 fun r91 e92 h1=>gg h1 fun c93 h1=>gg h1 fun c94 h1=>At 9 (Bm (Oo (H358 y81.id r83 e84) rfl (dw [(1,.ptr 64 0),(3,Be 192 p58),(7,.ptr 448 0),(29,Dh a0.Ab.Ac),(30,iV (a0.Ab.Ac.length:Int)),(31,iV p59),(35,Be 192 p58),(38,.str r83),(40,.ptr 448 1),(41,iV y81.Bn),(43,.ptr 448 2),(44,iV y81.cap),(47,.ptr 448 3),(48,.bool y81.Cg)] [(64,Ax a0),(448,Bg y81)] hB (Au tv (c_ (Bw ⟨tv,tv,tv⟩ rfl c85) (⟨tv,Oo (H358 y81.Bn r86 e87) rfl (dw [(1,.ptr 64 0),(3,Be 192 p58),(7,.ptr 448 0),(29,Dh a0.Ab.Ac),(30,iV (a0.Ab.Ac.length:Int)),(31,iV p59),(35,Be 192 p58),(38,.str r83),(39,.str (([108,101,97,115,101,47]:List UInt8)++r83)),(42,.str r86),(43,.ptr 448 2),(44,iV y81.cap),(47,.ptr 448 3),(48,.bool y81.Cg)] [(64,Ax a0),(448,Bg y81)] ⟨⟨.inl tv,Bl (Bw ⟨tv,tv,tv⟩ rfl c85) rfl⟩,⟨.inl tv,Bl (Bw ⟨tv,tv⟩ rfl (nl rfl)) rfl⟩,⟨.inl tv,Bl (Bw ⟨tv,tv⟩ rfl tv) rfl⟩,⟨.inl tv,Bl (Bw ⟨tv,tv⟩ rfl (nl rfl)) rfl⟩,⟨.inl tv,Bl (Bw ⟨tv,tv⟩ rfl tv) rfl⟩,⟨.inl tv,Bl (Qc (v:=Be 192 p58) rfl tv) rfl⟩,tv⟩ (Oo (H358 y81.cap r88 e89) rfl (dw [(1,.ptr 64 0),(3,Be 192 p58),(7,.ptr 448 0),(29,Dh a0.Ab.Ac),(30,iV (a0.Ab.Ac.length:Int)),(31,iV p59),(35,Be 192 p58),(38,.str r83),(39,.str (([108,101,97,115,101,47]:List UInt8)++r83)),(42,.str r86),(45,.str r88),(47,.ptr 448 3),(48,.bool y81.Cg)] [(64,Ax a0),(448,Bg y81)] ⟨⟨.inl tv,Bl (Bw ⟨tv,tv,tv⟩ rfl c85) rfl⟩,⟨.inl tv,Bl (Bw ⟨tv,tv⟩ rfl (nl rfl)) rfl⟩,⟨.inl tv,Bl (Bw ⟨tv,tv⟩ rfl tv) rfl⟩,⟨.inl tv,Bl (Qc (v:=Be 192 p58) rfl tv) rfl⟩,tv⟩ (Au tv (c_ (Bw ⟨tv,tv,tv⟩ rfl c90) (⟨tv,Oo (H359 y81.Cg ([113,117,101,117,101,100]:List UInt8) ([108,105,118,101]:List UInt8) r91 e92) rfl (dw [(1,.ptr 64 0),(3,Be 192 p58),(29,Dh a0.Ab.Ac),(30,iV (a0.Ab.Ac.length:Int)),(31,iV p59),(35,Be 192 p58),(38,.str r83),(39,.str (([108,101,97,115,101,47]:List UInt8)++r83)),(42,.str r86),(45,.str r88),(46,.str (r86++r88)),(49,.str r91)] [(64,Ax a0)] ⟨⟨.inl tv,Bl (Bw ⟨tv,tv,tv⟩ rfl c90) rfl⟩,⟨.inl tv,Bl (Bw ⟨tv,tv,tv⟩ rfl c85) rfl⟩,⟨.inl tv,Bl (Qc (v:=Be 192 p58) rfl tv) rfl⟩,tv⟩ ?_) Az⟩)))) Az)) Az⟩)))) Az)))))))
    refine Au tv (c_ (Bw ⟨tv,tv,tv⟩ rfl c93) (⟨tv,Au tv (c_ (v:=.agg [.str (([108,101,97,115,101,47]:List UInt8)++r83),.str ((r86++r88)++r91)]) (Bw ⟨tv,tv,tv⟩ rfl ⟨⟨rfl,rfl,nl rfl⟩,⟨rfl,rfl,nl rfl⟩,tv⟩) (⟨tv,Cb (Ky ⟨tv,tv⟩ ⟨⟨nl rfl,rfl,rfl⟩,tv⟩ (d0 hB (Cb (Fp (e:=Cn) (l0:=p58) (l1:=([Bd.mk (([108,101,97,115,101,47]:List UInt8)++r83) ((r86++r88)++r91)]:List Bd)) rfl rfl tv rfl (by decide) c94 (d0 tv (Cb (Dc rfl tv (d0 tv (Jz (Um (bv h1 fun v95 e96 h1=>Dy ⟨[(1,.ptr 64 0),(3,Be 192 v95),(29,Dh a0.Ab.Ac),(30,iV (a0.Ab.Ac.length:Int)),(31,iV p59)],[(64,Ax a0)],[]⟩ (Er (by subst e96; kernel_rfl)) (At 3 ?_)))))) Az))) Az))) Az⟩))⟩))
    obtain rfl:=sj h1
    exact kn hK1 rfl rfl
   ·obtain rfl:=sj h1
    obtain rfl:=hx1 _ rfl
    refine Iw rfl ?_
    exact jn hE1 ⟨_,rfl,rfl⟩
 ·rintro ⟨p12,p13⟩ o1 _ K1 rfl h1 hx1 hK1 hE1 hR1
  refine As 3 [(1,.ptr 64 0),(3,Be 192 p12),(9,Cj a0.Aa),(10,iV (a0.Aa.length:Int)),(11,iV p13),(12,.bool (decide (p13<(a0.Aa.length:Int))))] [(64,Ax a0)] (Bk (Cw h1 (fun c28 h1=>?_) (fun c28 h1=>?_)))
  ·refine Mm 5 (Ah (bb h1 fun y29 e30 h1=>Ns rfl rfl e30 (o_ (As 4 [(1,.ptr 64 0),(3,Be 192 p12),(5,.ptr 320 0),(9,Cj a0.Aa),(10,iV (a0.Aa.length:Int)),(11,iV p13)] [(64,Ax a0),(320,Cd y29)] (bb h1 fun r31 e32 h1=>gg h1 fun c33 h1=>bb h1 fun r34 e35 h1=>gg h1 fun c36 h1=>At 5 (Bm (Oo (H358 y29.Bb r31 e32) rfl (dw [(1,.ptr 64 0),(3,Be 192 p12),(5,.ptr 320 0),(9,Cj a0.Aa),(10,iV (a0.Aa.length:Int)),(11,iV p13),(15,Be 192 p12),(18,.str r31),(20,.ptr 320 1),(21,.bool y29.Ij)] [(64,Ax a0),(320,Cd y29)] hB (Au tv (c_ (Bw ⟨tv,tv,tv⟩ rfl c33) (⟨tv,Oo (H359 y29.Ij ([117,110,100,111]:List UInt8) ([98,101,103,117,110]:List UInt8) r34 e35) rfl (dw [(1,.ptr 64 0),(3,Be 192 p12),(9,Cj a0.Aa),(10,iV (a0.Aa.length:Int)),(11,iV p13),(15,Be 192 p12),(18,.str r31),(19,.str (([105,110,116,101,110,116,47]:List UInt8)++r31)),(22,.str r34)] [(64,Ax a0)] ⟨⟨.inl tv,Bl (Bw ⟨tv,tv,tv⟩ rfl c33) rfl⟩,⟨.inl tv,Bl (Qc (v:=Be 192 p12) rfl tv) rfl⟩,tv⟩ (Au tv (c_ (v:=.agg [.str (([105,110,116,101,110,116,47]:List UInt8)++r31),.str r34]) (Bw ⟨tv,tv,tv⟩ rfl ⟨⟨rfl,rfl,nl rfl⟩,⟨rfl,rfl,nl rfl⟩,tv⟩) (⟨tv,Cb (Ky ⟨tv,tv⟩ ⟨⟨nl rfl,rfl,rfl⟩,tv⟩ (d0 hB (Cb (Fp (e:=Cn) (l0:=p12) (l1:=([Bd.mk (([105,110,116,101,110,116,47]:List UInt8)++r31) r34]:List Bd)) rfl rfl tv rfl (by decide) c36 (d0 tv (Cb (Dc rfl tv (d0 tv (Jz (Um (bv h1 fun v37 e38 h1=>Dy ⟨[(1,.ptr 64 0),(3,Be 192 v37),(9,Cj a0.Aa),(10,iV (a0.Aa.length:Int)),(11,iV p13)],[(64,Ax a0)],[]⟩ (Er (by subst e38; kernel_rfl)) (At 3 ?_)))))) Az))) Az))) Az⟩)))) Az⟩)))) Az)))))))
   obtain rfl:=sj h1
   exact kn hK1 rfl rfl
  ·obtain rfl:=sj h1
   obtain rfl:=hx1 _ rfl
   refine Iw rfl ?_
   exact jn hE1 ⟨_,rfl,rfl⟩

/- loop.example/g00149/impl.VaultPairs -/
def ZR:List Bj:=[X_ 1 0,⟨some 2,.nilS 2,none⟩,i_ 3 0]
def ZS:=[L_ 4 1 6,q_ 5 48 [.t 4],N_ 6 5]
def ZT:List Bj:=[⟨some 2,.nilS 2,none⟩,i_ 3 1]
def ZU:=[L_ 7 1 6,q_ 8 313 [.t 7],m_ 2 8,i_ 3 0]
def c250:De:=⟨1,9,[.t 2,.t 3],sr ZR (.seq (sr ZS (iz 6 (rr ZT))) (rr ZU))⟩
def K250 (D:Ba):Prop:=∀a0 r,Alh a0=some r→D 250 ⟨[.agg (Ax a0)],[]⟩ ⟨.tup [Be 0 r.1,iV r.2],[],[]⟩
theorem F250 (H48:K48 C) (H313:K313 C):K250 (FO C c250):=by
 intro a0 r h0
 refine f0 (As 5 [(1,.ptr 64 0)] [(64,Ax a0)] (At 3 (Ah (bb h0 fun r1 e2 h0=>Il (H48 a0 r1 e2) (o_ (As 2 [(1,.ptr 64 0),(6,.bool (!r1))] [(64,Ax a0)] (Cw h0 (fun c3 h0=>?_) (fun c3 h0=>?_))))))))
 ·obtain rfl:=sj h0
  exact Cs 5
 ·refine At 4 (Ah (bb h0 fun r4 e5 h0=>Ji (H313 a0 r4 e5) (af rfl) (o_ ?_)))
  obtain rfl:=sj h0
  exact Cs 4

/- loop.example/g00149/impl.isList[int] -/
def c87_r0:=[k_ 2 (.bool false)]
def c87_r1:=[m_ 3 0,n_ 4 3,B_ .leq 5 4 4096,m_ 2 5]
def c87:De:=⟨1,6,[.t 2],sr c87_r0 (rr c87_r1)⟩
def K87 (D:Ba):Prop:=∀a0 r,g87 a0=some r→D 87 ⟨[lI a0],[]⟩ ⟨.bool r,[],[]⟩
theorem F87:K87 (FO C c87):=by
 intro a0 r h0
 refine f0 (As 3 [(0,lI a0)] [] (Bk (Ah (st (Dc rfl tv (Hf rfl (o_ ?_)))))))
 obtain rfl:=sj h0
 exact Cs 4

/- slices.Clone[[]int,int] -/
def TB:List Bj:=[⟨some 2,.nilS 1,none⟩]
def TC:List Bj:=[m_ 3 0,⟨some 4,.isnil (.t 3) false,none⟩]
def TD:List Bj:=[⟨some 2,.nilS 1,none⟩]
def TE:List Bj:=[⟨some 5,.mkS 1 [iV 0] 0 [],none⟩,m_ 6 0,⟨some 7,.app 1 8 (.t 5) (.t 6),none⟩,m_ 2 7]
def TA:De:=⟨1,8,[.t 2],sr TB (.seq (sr TC (iz 4 (rr TD))) (rr TE))⟩
def yY (D:Ba):Prop:=∀a0 r,fH a0=some r→D 120 ⟨[lI a0],[]⟩ ⟨oI 0 r,[],[]⟩
theorem F120:yY (FO C TA):=by
 intro a0 r h0
 refine f0 ?_
 obtain ⟨hc,h0⟩:=xE h0
 obtain rfl:=sj h0
 refine As 3 [(0,lI a0)] [] (At 3 (Ah (st (dH (e:=eI) (l0:=a0) rfl fun b hb=>(In (aC (Od (cb:=b) rfl (fun h=>?_) (fun h=>?_))))))))
 ·obtain rfl:=hb h
  refine Bk (Ah (st (Zy (In (aC ?_)))))
  refine Kv (Fe rfl rfl rfl rfl rfl tv)
 ·refine Nh ?_
  refine As 0 [(0,lI a0)] [] (At 3 (Ah (st (Fp (e:=eI) (l0:=([]:List Int)) (l1:=a0) rfl rfl tv rfl (by decide) ?_ ?_))))
  rotate_left
  refine st (Dc rfl tv (In (aC ?_)))
  refine Kv (Fe rfl rfl rfl rfl rfl tv)
  have:=Nat.mul_le_mul_right 8 hc
  exact Nat.le_trans this (by decide)

/- loop.example/g00149/impl.isList[loop.example/g00149/impl.Pair] -/
def Acc:=[k_ 2 (.bool false)]
def Acd:=[m_ 3 0,n_ 4 3,B_ .leq 5 4 4096,m_ 2 5]
def c321:De:=⟨1,6,[.t 2],sr Acc (rr Acd)⟩
def K321 (D:Ba):Prop:=∀a0 r,g321 a0=some r→D 321 ⟨[Cy a0],[]⟩ ⟨.bool r,[],[]⟩
theorem F321:K321 (FO C c321):=by
 intro a0 r h0
 refine f0 (As 3 [(0,Cy a0)] [] (Bk (Ah (st (Dc rfl tv (Hf rfl (o_ ?_)))))))
 obtain rfl:=sj h0
 exact Cs 4

/- loop.example/g00149/impl.isKey -/
def AdT:=[k_ 2 (.bool false)]
def AdU:=[m_ 3 0,iQ 4 (.lenS (.t 3)),q_ 5 63 [.t 4,.c (iV 1),.c (iV 60)],m_ 2 5]
def c362:De:=⟨1,6,[.t 2],sr AdT (rr AdU)⟩
def NX (D:Ba):Prop:=∀a0 r,qQ a0=some r→D 362 ⟨[.str a0],[]⟩ ⟨.bool r,[],[]⟩
theorem F362 (H63:yV C):NX (FO C c362):=by
 intro a0 r h0
 refine f0 (As 3 [(0,.str a0)] [] (At 3 (Ah (bb h0 fun r1 e2 h0=>Il (H63 (a0.length:Int) 1 60 r1 e2) (o_ ?_)))))
 obtain rfl:=sj h0
 exact Cs 3

/- loop.example/g00149/impl.isStore -/
def Acf:=[k_ 2 (.bool false)]
def Acg:=[m_ 5 0,n_ 6 5,i_ 7 0]
def Ach:=[b_ .lss 8 7 6]
def Aci:=[m_ 9 7,x_ 10 5 7 2,L_ 11 10 2,a_ 4 [.str [],.str []],m_ 3 9,s_ 4 11 2]
def Acj:=tk [f_ 12 4 0,l_ 13 12 1] (.alt [] (q_ 14 362 [.t 13]) (tk [N_ 15 14,m_ 16 15,fF 16 17 4 1,lF 16 18 17 1 false,pF 16 19 (.lenS (.t 18)),pF 16 20 (.bin .gtr (.t 19) (.c (iV 400))),po 21 16 20,m_ 22 21,mF 22 23 3,pF 22 24 (.bin .gtr (.t 23) (.c (iV 0))),mF 22 25 24,mT 25 26 0,mT 25 27 3,pT 25 28 (.bin .sub (.t 27) (.c (iV 1))),xT 25 29 26 28 2,fT 25 30 29 0,lT 25 31 30 1 false,fT 25 32 4 0,lT 25 33 32 1 false,pT 25 34 (.bin .geq (.t 31) (.t 33)),⟨some 35,.pick (.t 25) (.t 34) (.c (.bool false)),some (22,false)⟩,po 36 22 35] .fin) .stop)
def Ack:=[k_ 2 (.bool false)]
def Acl:=[B_ .add 37 7 1,m_ 7 37]
def Ace:IR:=(sr Ach (.seq (.ite (.t 8) .skip (.exit 0)) (.seq (.block 1 (sr Aci (sd Acj (iz 36 (rr Ack))))) (.reg Acl))))
def Acm:=[m_ 38 0,n_ 39 38,B_ .leq 40 39 100,m_ 2 40]
def c322:De:=⟨1,41,[.t 2],sr Acf (.seq (sr Acg (Jc 0 Ace)) (rr Acm))⟩
def K322 (D:Ba):Prop:=∀a0 r,Alx a0=some r→D 322 ⟨[Cy a0],[]⟩ ⟨.bool r,[],[]⟩
theorem F322 (H362:NX C):K322 (FO C c322):=by
 intro a0 r h0
 refine f0 (As 3 [(0,Cy a0)] [] (At 3 (Ah (Hf rfl (o_ (As 2 [(0,Cy a0),(5,Cy a0),(6,iV (a0.length:Int)),(7,iV 0)] [] (Ci (bb h0 fun r33 e34 h0=>Df (R:=(fun S=>.inl ()=r33∧S=⟨[(0,Cy a0)],[],[]⟩)) (Ss a0) (fun s S=>match s with | p11=>S=⟨[(0,Cy a0),(5,Cy a0),(6,iV (a0.length:Int)),(7,iV p11)],[],[]⟩) e34 _ (Er (by kernel_rfl)) rfl 0 (fun _=>rfl) ?_ ?_))))))))
 ·rintro S _ hfg ⟨rfl,rfl⟩
  refine Dy _ hfg (Bk (Ah (st (Dc rfl tv (Hf rfl (o_ ?_))))))
  obtain rfl:=sj h0
  exact Cs 4
 ·rintro p11 o1 _ K1 rfl h1 hx1 hK1 hE1 hR1
  refine As 3 [(0,Cy a0),(5,Cy a0),(6,iV (a0.length:Int)),(7,iV p11),(8,.bool (decide (p11<(a0.length:Int))))] [] (Bk (Cw h1 (fun c23 h1=>?_) (fun c23 h1=>?_)))
  ·refine At 6 (Ah (bb h1 fun y24 e25 h1=>Ns rfl rfl e25 (o_ (As 5 [(0,Cy a0),(3,iV p11),(4,.ptr 256 0),(5,Cy a0),(6,iV (a0.length:Int)),(7,iV p11)] [(256,Cn y24)] (Bk (bb h1 fun r26 e27 h1=>bb h1 fun y28 e29 h1=>At 2 (Bm (Oo (H362 y24.key r26 e27) rfl (dw [(0,Cy a0),(3,iV p11),(4,.ptr 256 0),(5,Cy a0),(6,iV (a0.length:Int)),(7,iV p11),(14,.bool r26)] [(256,Cn y24)] tv (d_ (At 2 (Bm (Au tv (Ep (u:=.ptr 256 1) rfl (fun hg=>(Bw ⟨tv,tv⟩ rfl tv)) (⟨tv,Au tv (Ep (u:=.str y24.value) rfl (fun hg=>(Bw ⟨(fun _=>hg),tv⟩ rfl (nl rfl))) (⟨tv,Au tv (Ep (u:=iV (y24.value.length:Int)) rfl (fun hg=>(Bw ⟨(fun _=>hg),tv⟩ rfl tv)) (⟨tv,Au tv (Ep (u:=.bool (decide ((y24.value.length:Int)>400))) rfl (fun hg=>(Bw ⟨(fun _=>hg),tv,tv⟩ rfl tv)) (⟨tv,Au tv (Hp rfl rfl rfl tv (fun h=>lN h) rfl (⟨tv,Au tv (Dc rfl tv (⟨tv,Au tv (Ep (u:=iV p11) rfl (fun hg=>(Qc (v:=iV p11) rfl tv)) (⟨tv,Au tv (Ep (u:=.bool (decide (p11>0))) rfl (fun hg=>(Bw ⟨(fun _=>hg),tv,tv⟩ rfl tv)) (⟨tv,Au tv (Ep (u:=.bool (decide (p11>0))) rfl (fun hg=>(Qc (v:=.may ((bif (!r26) then true else (decide ((y24.value.length:Int)>400)))==false) (.bool (decide (p11>0)))) rfl (fun _=>hg))) (⟨tv,Au tv (Ep (u:=Cy a0) rfl (fun hg=>(Qc (v:=Cy a0) rfl tv)) (⟨tv,?_⟩))⟩))⟩))⟩))⟩))⟩))⟩))⟩))⟩))⟩))))))) Az))))))))
   refine Au tv (Ep (u:=iV p11) rfl (fun hg=>(Qc (v:=iV p11) rfl tv)) (⟨tv,Au tv (Ep (u:=iV (wi (p11-1))) rfl (fun hg=>(Bw ⟨(fun _=>hg),tv,tv⟩ rfl tv)) (⟨tv,Au tv (Ep (u:=.iptr (Cn y28)) rfl (fun hg=>(Ua (e:=Cn) (y:=y28) rfl rfl (fun _=>hg) rfl rfl (fun _=>hg) (ip hg e29))) (⟨tv,Au tv (Ep (u:=.iptr (Cn y28)) rfl (fun hg=>(Bw ⟨(fun _=>hg),tv⟩ rfl (nl rfl))) (⟨tv,Au tv (Ep (u:=.str y28.key) rfl (fun hg=>(Bw ⟨(fun _=>hg),tv⟩ rfl (nl rfl))) (⟨tv,Au tv (Ep (u:=.ptr 256 0) rfl (fun hg=>(Bw ⟨tv,tv⟩ rfl tv)) (⟨tv,Au tv (Ep (u:=.str y24.key) rfl (fun hg=>(Bw ⟨(fun _=>hg),tv⟩ rfl (nl rfl))) (⟨tv,Au tv (Ep (u:=.bool (!(Op.bytesLess y28.key y24.key))) rfl (fun hg=>(Bw ⟨(fun _=>hg),(fun _=>hg),tv⟩ rfl tv)) (⟨tv,Au tv (Pk (u:=.bool (bif (decide (p11>0)) then (!(Op.bytesLess y28.key y24.key)) else false)) rfl (fun hg=>Vy rfl rfl (fun _=>hg) rfl rfl (fun h=>Bq hg (tM h)) tv rfl) (⟨tv,Au tv (Hp rfl rfl rfl tv (fun h=>lN h) rfl (⟨tv,Jz (bv h1 fun v30 e31 h1=>Dy ⟨[(0,Cy a0),(5,Cy a0),(6,iV (a0.length:Int)),(7,iV p11),(36,.bool v30)],[],[]⟩ (Er (by subst e31; kernel_rfl)) (Cw h1 (fun c32 h1=>?_) (fun c32 h1=>?_)))⟩))⟩))⟩))⟩))⟩))⟩))⟩))⟩))⟩))⟩))
   ·obtain rfl:=sj h1
    obtain rfl:=hx1 _ rfl
    obtain rfl:=sj h0
    exact Yy 4 hR1
   ·refine At 6 ?_
    obtain rfl:=sj h1
    exact kn hK1 rfl rfl
  ·obtain rfl:=sj h1
   obtain rfl:=hx1 _ rfl
   refine Iw rfl ?_
   exact jn hE1 ⟨rfl,rfl⟩

/- internal/stringslite.HasPrefix -/
def AeK:=[k_ 4 (.bool false)]
def AeL:=[m_ 5 0,iQ 6 (.lenS (.t 5)),m_ 7 1,iQ 8 (.lenS (.t 7)),b_ .geq 9 6 8,m_ 10 9,mT 10 11 0,mT 10 12 1,pT 10 13 (.lenS (.t 12)),pT 10 14 (.sliceStr (.t 11) none (some (.t 13))),mT 10 15 1,pT 10 16 (.bin .eql (.t 14) (.t 15)),pa 17 10 16,m_ 4 17]
def c375:De:=⟨2,18,[.t 4],sr AeK (rr AeL)⟩
def K375 (D:Ba):Prop:=∀a0 a1 r,AlG a0 a1=some r→D 375 ⟨[.str a0,.str a1],[]⟩ ⟨.bool r,[],[]⟩
theorem F375:K375 (FO C c375):=by
 intro a0 a1 r h0
 refine f0 (As 3 [(0,.str a0),(1,.str a1)] [] (Hj 10 (Ah (bb h0 fun s1 e2 h0=>st (Ep (u:=.str s1) rfl (fun hg=>(aP (y:=s1) rfl rfl (fun _=>hg) ⟨(fun _=>hg),tv⟩ rfl rfl (ip hg e2))) (o_ (Hj 5 (bv h0 fun v3 e4 h0=>Dy ⟨[(4,.bool v3)],[],[]⟩ (Er (by subst e4; kernel_rfl)) ?_))))))))
 obtain rfl:=sj h0
 exact Kv (Fe rfl rfl rfl rfl rfl tv)

/- internal/stringslite.CutPrefix -/
def AeG:=[k_ 4 (.str []),k_ 5 (.bool false)]
def AeH:=[m_ 6 0,m_ 7 1,q_ 8 375 [.t 6,.t 7],N_ 9 8]
def AeI:=[m_ 10 0,m_ 4 10,k_ 5 (.bool false)]
def AeJ:List Bj:=[m_ 11 0,m_ 12 1,iQ 13 (.lenS (.t 12)),⟨some 14,.p (.sliceStr (.t 11) (some (.t 13)) none),none⟩,m_ 4 14,k_ 5 (.bool true)]
def c372:De:=⟨2,15,[.t 4,.t 5],sr AeG (.seq (sr AeH (iz 9 (rr AeI))) (rr AeJ))⟩
def K372 (D:Ba):Prop:=∀a0 a1 r,AlF a0 a1=some r→D 372 ⟨[.str a0,.str a1],[]⟩ ⟨.tup [.str r.1,.bool r.2],[],[]⟩
theorem F372 (H375:K375 C):K372 (FO C c372):=by
 intro a0 a1 r h0
 refine f0 (As 4 [(0,.str a0),(1,.str a1)] [] (At 4 (Ah (bb h0 fun r1 e2 h0=>Il (H375 a0 a1 r1 e2) (o_ (As 2 [(0,.str a0),(1,.str a1),(9,.bool (!r1))] [] (Cw h0 (fun c3 h0=>?_) (fun c3 h0=>?_))))))))
 ·obtain rfl:=sj h0
  exact Cs 6
 ·refine At 6 (Ah (bb h0 fun s4 e5 h0=>st (c_ (aP (y:=s4) rfl rfl tv ⟨tv,tv⟩ rfl rfl e5) (o_ ?_))))
  obtain rfl:=sj h0
  exact Cs 4

/- strings.CutPrefix -/
def AdV:=[k_ 4 (.str []),k_ 5 (.bool false)]
def AdW:=[m_ 6 0,m_ 7 1,q_ 8 372 [.t 6,.t 7],e_ 9 8 0,e_ 10 8 1,m_ 4 9,m_ 5 10]
def c363:De:=⟨2,11,[.t 4,.t 5],sr AdV (rr AdW)⟩
def K363 (D:Ba):Prop:=∀a0 a1 r,aI a0 a1=some r→D 363 ⟨[.str a0,.str a1],[]⟩ ⟨.tup [.str r.1,.bool r.2],[],[]⟩
theorem F363 (H372:K372 C):K363 (FO C c363):=by
 intro a0 a1 r h0
 refine f0 (As 4 [(0,.str a0),(1,.str a1)] [] (At 3 (Ah (bb h0 fun r1 e2 h0=>Il (H372 a0 a1 r1 e2) (o_ ?_)))))
 obtain rfl:=sj h0
 exact Cs 6

/- internal/stringslite.IndexByte -/
def AeE:=[i_ 4 0]
def AeF:=[m_ 5 0,m_ 6 1,iQ 7 (.xbyte (.t 5) (.t 6)),m_ 4 7]
def c370:De:=⟨2,8,[.t 4],sr AeE (rr AeF)⟩
def K370 (D:Ba):Prop:=∀a0 a1 r,g370 a0 a1=some r→D 370 ⟨[.str a0,.int .u8 ((a1).toNat:Int)],[]⟩ ⟨iV r,[],[]⟩
theorem F370:K370 (FO C c370):=by
 intro a0 a1 r h0
 refine f0 (As 3 [(0,.str a0),(1,.int .u8 ((a1).toNat:Int))] [] (At 3 (Ah (st (c_ (cxbyte rfl rfl tv rfl rfl tv) (o_ ?_))))))
 obtain rfl:=sj h0
 exact Cs 3

/- strings.IndexByte -/
def AdF:=[i_ 4 0]
def AdG:=[m_ 5 0,m_ 6 1,q_ 7 370 [.t 5,.t 6],m_ 4 7]
def vZ:De:=⟨2,8,[.t 4],sr AdF (rr AdG)⟩
def K341 (D:Ba):Prop:=∀a0 a1 r,AlB a0 a1=some r→D 341 ⟨[.str a0,.int .u8 ((a1).toNat:Int)],[]⟩ ⟨iV r,[],[]⟩
theorem F341 (H370:K370 C):K341 (FO C vZ):=by
 intro a0 a1 r h0
 refine f0 (As 3 [(0,.str a0),(1,.int .u8 ((a1).toNat:Int))] [] (At 3 (Ah (bb h0 fun r1 e2 h0=>Il (H370 a0 a1 r1 e2) (o_ ?_)))))
 obtain rfl:=sj h0
 exact Cs 3

/- loop.example/g00149/impl.readHex -/
def AdY:=[i_ 2 0,k_ 3 (.str []),k_ 4 (.bool false)]
def AdZ:=[m_ 9 0,iQ 10 (.lenS (.t 9)),B_ .lss 11 10 16,m_ 12 11,mF 12 13 0,pF 12 14 (.idxStr (.t 13) (.c (iV 0))),pF 12 15 (.bin .gtr (.t 14) (.c (.int .u8 55))),po 16 12 15]
def Aea:=[i_ 2 0,k_ 3 (.str []),k_ 4 (.bool false)]
def Aeb:=[i_ 5 0]
def Aec:List Bj:=[m_ 17 0,⟨some 18,.p (.sliceStr (.t 17) none (some (.c (iV 16)))),none⟩,⟨some 19,.toBytes (.t 18),none⟩,n_ 20 19,i_ 21 0]
def Aed:=[b_ .lss 22 21 20]
def Aee:=[x_ 23 19 21 1,l_ 24 23 1,m_ 7 24]
def Aef:=[m_ 25 7,q_ 26 341 [.c (.str [48,49,50,51,52,53,54,55,56,57,97,98,99,100,101,102]),.t 25],m_ 8 26]
def Aeg:=[m_ 27 8,B_ .lss 28 27 0]
def Aeh:=[i_ 2 0,k_ 3 (.str []),k_ 4 (.bool false)]
def DO:List Bj:=[m_ 29 5,⟨some 30,.p (.bin .shl (.t 29) (.c (.int .u64 4))),none⟩,m_ 31 8,b_ .or 32 30 31,m_ 5 32]
def DQ:=[B_ .add 33 21 1,m_ 21 33]
def AdX:IR:=(sr Aed (.seq (.ite (.t 22) .skip (.exit 0)) (.seq (.block 1 (sr Aee (sr Aef (.seq (sr Aeg (iz 28 (rr Aeh))) (.reg DO))))) (.reg DQ))))
def DR:=tk [m_ 34 5,m_ 35 0,⟨some 36,.p (.sliceStr (.t 35) (some (.c (iV 16))) none),none⟩,m_ 2 34,m_ 3 36,k_ 4 (.bool true)] .fin
def c364:De:=⟨1,37,[.t 2,.t 3,.t 4],sr AdY (.seq (sr AdZ (iz 16 (rr Aea))) (sr Aeb (.seq (sr Aec (Jc 0 AdX)) (sd DR .ret))))⟩
def NY (D:Ba):Prop:=∀a0 r,fL a0=some r→D 364 ⟨[.str a0],[]⟩ ⟨.tup [iV r.1,.str r.2.1,.bool r.2.2],[],[]⟩
theorem F364 (H341:K341 C):NY (FO C c364):=by
 intro a0 r h0
 refine f0 (As 5 [(0,.str a0)] [] (Hj 7 (Ah (bb h0 fun y1 e2 h0=>st (Ep (u:=.int .u8 ((y1).toNat:Int)) rfl (fun hg=>(cidxS (y:=y1) rfl rfl (fun _=>hg) rfl rfl tv (ip hg e2))) (o_ (Hj 3 (bv h0 fun v3 e4 h0=>Dy ⟨[(0,.str a0),(16,.bool v3)],[],[]⟩ (Er (by subst e4; kernel_rfl)) (Cw h0 (fun c5 h0=>?_) (fun c5 h0=>?_))))))))))
 ·obtain rfl:=sj h0
  exact Cs 6
 ·refine As 5 [(0,.str a0),(5,iV 0)] [] (At 3 (Ah (bb h0 fun s6 e7 h0=>st (c_ (aP (y:=s6) rfl rfl tv ⟨tv,tv⟩ rfl rfl e7) (st (MG rfl (Hf rfl (o_ (As 2 [(0,.str a0),(5,iV 0),(19,Eb s6),(20,iV (s6.length:Int)),(21,iV 0)] [] (Ci (bb h0 fun r31 e32 h0=>Df (R:=(fun S=>∃p24:Int,.inl p24=r31∧S=⟨[(0,.str a0),(5,iV p24)],[],[]⟩)) (Jj s6) (fun s S=>match s with | (p14,p15)=>S=⟨[(0,.str a0),(5,iV p14),(19,Eb s6),(20,iV (s6.length:Int)),(21,iV p15)],[],[]⟩) e32 _ (Er (by kernel_rfl)) rfl 0 (fun _=>rfl) ?_ ?_)))))))))))
  ·rintro S _ hfg ⟨p24,rfl,rfl⟩
   refine Dy _ hfg (Bk (bb h0 fun s33 e34 h0=>At 2 (Bm (Au tv (c_ (aP (y:=s33) rfl rfl tv ⟨tv,tv⟩ rfl rfl e34) (⟨tv,d_ ?_⟩))))))
   obtain rfl:=sj h0
   exact Cs 5
  ·rintro ⟨p14,p15⟩ o1 _ K1 rfl h1 hx1 hK1 hE1 hR1
   refine As 3 [(0,.str a0),(5,iV p14),(19,Eb s6),(20,iV (s6.length:Int)),(21,iV p15),(22,.bool (decide (p15<(s6.length:Int))))] [] (Bk (Cw h1 (fun c25 h1=>?_) (fun c25 h1=>?_)))
   ·refine Mm 5 (Ah (bb h1 fun y26 e27 h1=>Ns rfl rfl e27 (o_ (As 3 [(0,.str a0),(5,iV p14),(7,.int .u8 ((y26).toNat:Int)),(19,Eb s6),(20,iV (s6.length:Int)),(21,iV p15)] [] (Bk (Ah (st (Dc rfl tv (bb h1 fun r28 e29 h1=>Il (H341 ([48,49,50,51,52,53,54,55,56,57,97,98,99,100,101,102]:List UInt8) y26 r28 e29) (o_ (As 8 [(0,.str a0),(5,iV p14),(8,iV r28),(19,Eb s6),(20,iV (s6.length:Int)),(21,iV p15),(28,.bool (decide (r28<0)))] [] (Cw h1 (fun c30 h1=>?_) (fun c30 h1=>?_)))))))))))))
    ·obtain rfl:=sj h1
     obtain rfl:=hx1 _ rfl
     obtain rfl:=sj h0
     exact Yy 6 hR1
    ·refine At 3 (Ah (st (c_ (Bw ⟨tv,tv,tv⟩ rfl (by decide)) (o_ (As 5 [(0,.str a0),(5,iV (ior .i64 (fP .i64 p14 4) r28)),(19,Eb s6),(20,iV (s6.length:Int)),(21,iV p15)] [] (At 3 ?_))))))
     obtain rfl:=sj h1
     exact kn hK1 rfl rfl
   ·obtain rfl:=sj h1
    obtain rfl:=hx1 _ rfl
    refine Iw rfl ?_
    exact jn hE1 ⟨_,rfl,rfl⟩

/- loop.example/g00149/impl.readTwo -/
def Aei:=[i_ 6 0,i_ 7 0,k_ 8 (.bool false),k_ 9 (.bool false)]
def Aej:=[m_ 17 0,q_ 18 364 [.t 17],m_ 16 18,e_ 19 16 0,e_ 20 16 1,e_ 21 16 2,m_ 10 19,m_ 11 20,m_ 12 21]
def Aek:=[m_ 23 11,q_ 24 364 [.t 23],m_ 22 24,e_ 25 22 0,e_ 26 22 1,e_ 27 22 2,m_ 13 25,m_ 14 26,m_ 15 27]
def Ael:List Bj:=[m_ 28 10,m_ 29 13,m_ 30 14,m_ 31 1,b_ .eql 32 30 31,m_ 33 12,m_ 34 33,mT 34 35 15,pa 36 34 35,m_ 37 36,mT 37 38 14,mT 37 39 1,pT 37 40 (.bin .eql (.t 38) (.t 39)),mT 37 41 40,mF 41 42 14,mF 41 43 2,pF 41 44 (.bin .eql (.t 42) (.t 43)),⟨some 45,.pick (.t 41) (.c (.bool true)) (.t 44),some (37,true)⟩,pa 46 37 45,m_ 6 28,m_ 7 29,m_ 8 32,m_ 9 46]
def c365:De:=⟨3,47,[.t 6,.t 7,.t 8,.t 9],sr Aei (sr Aej (sr Aek (rr Ael)))⟩
def K365 (D:Ba):Prop:=∀a0 a1 a2 r,mQ a0 a1 a2=some r→D 365 ⟨[.str a0,.str a1,.str a2],[]⟩ ⟨.tup [iV r.1,iV r.2.1,.bool r.2.2.1,.bool r.2.2.2],[],[]⟩
theorem F365 (H364:NY C):K365 (FO C c365):=by
 intro a0 a1 a2 r h0
 refine f0 (As 6 [(0,.str a0),(1,.str a1),(2,.str a2)] [] (Bk (Ah (st (Dc rfl tv (bb h0 fun r1 e2 h0=>Il (H364 a0 r1 e2) (o_ (As 8 [(1,.str a1),(2,.str a2),(10,iV r1.1),(11,.str r1.2.1),(12,.bool r1.2.2)] [] (Bk (Ah (st (Dc rfl tv (bb h0 fun r3 e4 h0=>Il (H364 r1.2.1 r3 e4) (o_ (As 8 [(1,.str a1),(2,.str a2),(10,iV r1.1),(12,.bool r1.2.2),(13,iV r3.1),(14,.str r3.2.1),(15,.bool r3.2.2)] [] (Hj 18 (Ah (st (Pk (u:=.bool (bif (r3.2.1==a1) then true else (r3.2.1==a2))) rfl (fun hg=>Vy rfl rfl (fun _=>hg) rfl rfl tv (fun h=>Bq hg (lN h)) rfl) (st (Hp rfl rfl rfl (fun h=>tM h) tv rfl ?_)))))))))))))))))))))
 refine o_ (At 5 (bv h0 fun v5 e6 h0=>Dy ⟨[(6,iV r1.1),(7,iV r3.1),(8,.bool (r3.2.1==a1)),(9,.bool v5)],[],[]⟩ (Er (by subst e6; kernel_rfl)) ?_))
 obtain rfl:=sj h0
 exact Kv (Fe rfl rfl rfl rfl rfl tv)

/- (*loop.example/g00149/impl.Vault).take -/
def Acn:=[X_ 3 1,k_ 4 (.bool false)]
def Aco:=[f_ 24 3 0,l_ 25 24 1,q_ 26 363 [.t 25,.c (.str [105,110,116,101,110,116,47])],m_ 23 26,e_ 27 23 0,e_ 28 23 1,m_ 5 27,m_ 6 28]
def Acp:=[m_ 29 6]
def Acq:=[m_ 31 5,q_ 32 364 [.t 31],m_ 30 32,e_ 33 30 0,e_ 34 30 1,e_ 35 30 2,m_ 7 33,m_ 8 34,m_ 9 35]
def Acr:=tk [m_ 36 0,m_ 37 0,iQ 38 (.nilc (.t 37)),f_ 39 38 3,l_ 40 39 1,m_ 41 7,f_ 42 3 1,l_ 43 42 1,⟨some 44,.p (.bin .eql (.t 43) (.c (.str [117,110,100,111]))),none⟩,⟨some 45,.p (.build [iV 0,.bool false] [(0,1,.t 41),(1,1,.t 44)]),none⟩] (.alt [l_ 40 39 1,f_ 39 38 3,iQ 38 (.nilc (.t 37)),m_ 37 0,m_ 36 0] ⟨some 46,.mkS 2 [iV 0,.bool false] 1 [(0,.t 45)],none⟩ (.alt [m_ 36 0] ⟨some 47,.app 2 16 (.t 40) (.t 46),none⟩ (tk [iQ 48 (.nilc (.t 36)),f_ 49 48 3] (.alt [] (s_ 49 47 1) .fin .stop)) .stop) .stop)
def Acs:List Bj:=[m_ 50 9,m_ 51 50,mT 51 52 8,pT 51 53 (.bin .eql (.t 52) (.c (.str []))),pa 54 51 53,m_ 55 54,fT 55 56 3 1,lT 55 57 56 1 false,pT 55 58 (.bin .eql (.t 57) (.c (.str [117,110,100,111]))),mT 55 59 58,fF 59 60 3 1,lF 59 61 60 1 false,pF 59 62 (.bin .eql (.t 61) (.c (.str [98,101,103,117,110]))),⟨some 63,.pick (.t 59) (.c (.bool true)) (.t 62),some (55,true)⟩,pa 64 55 63,m_ 4 64]
def Acu:=[f_ 66 3 0,l_ 67 66 1,q_ 68 363 [.t 67,.c (.str [108,101,97,115,101,47])],m_ 65 68,e_ 69 65 0,e_ 70 65 1,m_ 10 69,m_ 11 70]
def Acv:=[m_ 71 11]
def Acw:=[m_ 73 10,q_ 74 364 [.t 73],m_ 72 74,e_ 75 72 0,e_ 76 72 1,e_ 77 72 2,m_ 12 75,m_ 13 76,m_ 14 77]
def Acx:=[f_ 79 3 1,l_ 80 79 1,q_ 81 365 [.t 80,.c (.str [113,117,101,117,101,100]),.c (.str [108,105,118,101])],m_ 78 81,e_ 82 78 0,e_ 83 78 1,e_ 84 78 2,e_ 85 78 3,m_ 15 82,m_ 16 83,m_ 17 84,m_ 18 85]
def CY:List Bj:=[m_ 86 0,m_ 87 0,iQ 88 (.nilc (.t 87)),f_ 89 88 0,f_ 90 89 2,l_ 91 90 1,m_ 92 12,m_ 93 15,m_ 94 16,m_ 95 17,⟨some 96,.p (.build [iV 0,iV 0,iV 0,.bool false] [(0,1,.t 92),(1,1,.t 93),(2,1,.t 94),(3,1,.t 95)]),none⟩,⟨some 97,.mkS 4 [iV 0,iV 0,iV 0,.bool false] 1 [(0,.t 96)],none⟩,⟨some 98,.app 4 32 (.t 91) (.t 97),none⟩,iQ 99 (.nilc (.t 86)),f_ 100 99 0,f_ 101 100 2,s_ 101 98 1]
def CZ:=[m_ 102 14,m_ 103 102,mT 103 104 13,pT 103 105 (.bin .eql (.t 104) (.c (.str []))),pa 106 103 105,m_ 107 106,mT 107 108 18,pa 109 107 108,m_ 4 109]
def DA:=[f_ 111 3 1,l_ 112 111 1,q_ 113 365 [.t 112,.c (.str [115,101,97,108,101,100]),.c (.str [111,112,101,110])],m_ 110 113,e_ 114 110 0,e_ 115 110 1,e_ 116 110 2,e_ 117 110 3,m_ 19 114,m_ 20 115,m_ 21 116,m_ 22 117]
def DB:=[m_ 118 0,m_ 119 0,m_ 120 0,m_ 121 19,m_ 122 20,m_ 123 21,iQ 124 (.nilc (.t 118)),f_ 125 124 0,f_ 126 125 0,s_ 126 121 1,iQ 127 (.nilc (.t 119)),f_ 128 127 0,f_ 129 128 1,s_ 129 122 1,iQ 130 (.nilc (.t 120)),f_ 131 130 5,s_ 131 123 1]
def DC:List Bj:=[f_ 132 3 0,l_ 133 132 1,⟨some 134,.p (.bin .eql (.t 133) (.c (.str [118,97,117,108,116]))),none⟩,m_ 135 134,mT 135 136 22,pa 137 135 136,m_ 4 137]
def c323:De:=⟨2,138,[.t 4],sr Acn (.seq (sr Aco (sr Acp (iz 29 (sr Acq (sd Acr (rr Acs)))))) (.seq (sr Acu (sr Acv (iz 71 (sr Acw (sr Acx (sr CY (rr CZ))))))) (sr DA (sr DB (rr DC)))))⟩
def K323 (D:Ba):Prop:=∀a0 a1 r,fK a0 a1=some r→D 323 ⟨[.ptr 1048576 0,.agg (Cn a1)],[Bi a0 (Al 1024000) (Al 1024001) (Al 1024002)]⟩ ⟨.bool r.1,[Bi r.2 (Al 0) (Al 1) (Al 2)],[]⟩
abbrev Yu:=fun x0 x1 (r:List (Nat×List V))=>(192,Cn x0)::(1048576,Bi x1 (Al 1024000) (Al 1024001) (Al 1024002))::r
abbrev Yv:=fun (r:List (Nat×V))=>(0,.ptr 1048576 0)::(3,.ptr 192 0)::r
theorem F323 (H363:K363 C) (H364:NY C) (H365:K365 C):K323 (FO C c323):=by
 intro a0 a1 r h0
 refine f0 (As 4 (Yv []) (Yu a1 a0 []) (At 4 (Ah (bb h0 fun r1 e2 h0=>Il (H363 a1.key ([105,110,116,101,110,116,47]:List UInt8) r1 e2) (o_ (As 10 (Yv [(5,.str r1.1),(29,.bool r1.2)]) (Yu a1 a0 []) (Cw h0 (fun c3 h0=>?_) (fun c3 h0=>?_))))))))
 ·refine Bk (Ah (st (Dc rfl tv (bb h0 fun r4 e5 h0=>Il (H364 r1.1 r4 e5) (o_ (As 8 (Yv [(7,iV r4.1),(8,.str r4.2.1),(9,.bool r4.2.2)]) (Yu a1 a0 []) (Bk (gg h0 fun c6 h0=>At 9 (Bm (Au tv (c_ (v:=.agg [iV r4.1,.bool (a1.value==([117,110,100,111]:List UInt8))]) (Bw ⟨tv,tv,tv⟩ rfl ⟨⟨rfl,rfl,nl rfl⟩,⟨rfl,rfl,nl rfl⟩,tv⟩) (⟨tv,Cb (Ky ⟨tv,tv⟩ ⟨⟨nl rfl,rfl,rfl⟩,tv⟩ (d0 hB (Cb (Fp (e:=Cd) (l0:=a0.Aa) (l1:=([Ad.mk r4.1 (a1.value==([117,110,100,111]:List UInt8))]:List Ad)) rfl rfl tv rfl (by decide) c6 (dw [(0,.ptr 1048576 0),(3,.ptr 192 0),(8,.str r4.2.1),(9,.bool r4.2.2),(36,.ptr 1048576 0),(47,.own 1024001 0 2 ((a0.Aa++([Ad.mk r4.1 (a1.value==([117,110,100,111]:List UInt8))]:List Ad)).map Cd))] [(192,Cn a1),(1048576,[iV a0.Ab.clock,iV a0.Ab.next,Bu 1024000 a0.Ab.Ac,.undef,oI 1024002 a0.Ae,.bool a0.Ai])] hB (d_ (At 2 (Bm (Cb (Gc rfl rfl tv rfl rfl rfl (nl rfl) (d0 tv ?_)) Az)))))) Az))) Az⟩))))))))))))
  refine Jz (bv h0 fun v7 e8 h0=>Dy ⟨[(3,.ptr 192 0),(8,.str r4.2.1),(9,.bool r4.2.2)],[(192,Cn a1),(1048576,Ap a0.Ab.clock a0.Ab.next (Al 1024000) a0.Ab.Ac (Al 1024001) v7 (Al 1024002) a0.Ae a0.Ai)],[]⟩ (Er (by subst e8; kernel_rfl)) (Hj 14 (Ah (st (Pk (u:=.bool (bif (a1.value==([117,110,100,111]:List UInt8)) then true else (a1.value==([98,101,103,117,110]:List UInt8)))) rfl (fun hg=>Vy rfl rfl (fun _=>hg) rfl rfl tv (fun h=>Bq hg (lN h)) rfl) (o_ (Hj 3 (bv h0 fun v9 e10 h0=>Dy ⟨[(4,.bool v9)],[(1048576,Ap a0.Ab.clock a0.Ab.next (Al 1024000) a0.Ab.Ac (Al 1024001) v7 (Al 1024002) a0.Ae a0.Ai)],[]⟩ (Er (by subst e10; kernel_rfl)) ?_))))))))
  obtain rfl:=sj h0
  exact Kv (Fe rfl rfl rfl rfl rfl tv)
 ·refine At 6 (Ah (bb h0 fun r11 e12 h0=>Il (H363 a1.key ([108,101,97,115,101,47]:List UInt8) r11 e12) (o_ (As 10 (Yv [(10,.str r11.1),(71,.bool r11.2)]) (Yu a1 a0 []) (Cw h0 (fun c13 h0=>?_) (fun c13 h0=>?_))))))
  ·refine Bk (Ah (st (Dc rfl tv (bb h0 fun r14 e15 h0=>Il (H364 r11.1 r14 e15) (o_ (As 8 (Yv [(12,iV r14.1),(13,.str r14.2.1),(14,.bool r14.2.2)]) (Yu a1 a0 []) (At 3 (Ah (bb h0 fun r16 e17 h0=>Il (H365 a1.value ([113,117,101,117,101,100]:List UInt8) ([108,105,118,101]:List UInt8) r16 e17) (o_ (As 10 [(0,.ptr 1048576 0),(12,iV r14.1),(13,.str r14.2.1),(14,.bool r14.2.2),(15,iV r16.1),(16,iV r16.2.1),(17,.bool r16.2.2.1),(18,.bool r16.2.2.2)] [(1048576,Bi a0 (Al 1024000) (Al 1024001) (Al 1024002))] (At 11 (Ah (st (c_ (v:=.agg (jA r14.1 r16.1 r16.2.1 r16.2.2.1)) (Bw ⟨tv,tv,tv,tv,tv⟩ rfl ⟨⟨rfl,rfl,nl rfl⟩,⟨rfl,rfl,nl rfl⟩,⟨rfl,rfl,nl rfl⟩,⟨rfl,rfl,nl rfl⟩,tv⟩) (st (Ky ⟨tv,tv⟩ ⟨⟨nl rfl,rfl,rfl⟩,tv⟩ (gg h0 fun c18 h0=>st (Fp (e:=Bg) (l0:=a0.Ab.Ac) (l1:=([Af.mk r14.1 r16.1 r16.2.1 r16.2.2.1]:List Af)) rfl rfl tv rfl (by decide) c18 (o_ (At 5 (bv h0 fun v19 e20 h0=>Dy ⟨[(13,.str r14.2.1),(14,.bool r14.2.2),(18,.bool r16.2.2.2)],[(1048576,Ap a0.Ab.clock a0.Ab.next (Al 1024000) v19 (Al 1024001) a0.Aa (Al 1024002) a0.Ae a0.Ai)],[]⟩ (Er (by subst e20; kernel_rfl)) (Hj 11 (bv h0 fun v21 e22 h0=>Dy ⟨[(4,.bool v21)],[(1048576,Ap a0.Ab.clock a0.Ab.next (Al 1024000) v19 (Al 1024001) a0.Aa (Al 1024002) a0.Ae a0.Ai)],[]⟩ (Er (by subst e22; kernel_rfl)) ?_))))))))))))))))))))))))
   obtain rfl:=sj h0
   exact Kv (Fe rfl rfl rfl rfl rfl tv)
  ·refine At 5 (Ah (bb h0 fun r23 e24 h0=>Il (H365 a1.value ([115,101,97,108,101,100]:List UInt8) ([111,112,101,110]:List UInt8) r23 e24) (o_ (As 10 (Yv [(19,iV r23.1),(20,iV r23.2.1),(21,.bool r23.2.2.1),(22,.bool r23.2.2.2)]) (Yu a1 a0 []) (At 18 (Ah ?_))))))
   refine o_ (As 1 [(3,.ptr 192 0),(22,.bool r23.2.2.2)] [(192,Cn a1),(1048576,Ap r23.1 r23.2.1 (Al 1024000) a0.Ab.Ac (Al 1024001) a0.Aa (Al 1024002) a0.Ae r23.2.2.1)] (Hj 9 (bv h0 fun v25 e26 h0=>Dy ⟨[(4,.bool v25)],[(1048576,Ap r23.1 r23.2.1 (Al 1024000) a0.Ab.Ac (Al 1024001) a0.Aa (Al 1024002) a0.Ae r23.2.2.1)],[]⟩ (Er (by subst e26; kernel_rfl)) ?_)))
   obtain rfl:=sj h0
   exact Kv (Fe rfl rfl rfl rfl rfl tv)
end Go.Ev
