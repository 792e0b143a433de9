/- The walks of functions: the code comes to the answers that QgD tells. Written by a program of ours. -/
import Derived.Test.YtknpcenmkejaaaaQgW1
set_option linter.all false
set_option maxHeartbeats 4000000
set_option linter.unusedVariables false
set_option maxRecDepth 100000
namespace Go.Ev
variable {C:Az}

/- loop.example/g00149/spec.l03Bytes -/
def RJ:List Bg:=[⟨some 2,.nilS 1,none⟩]
def RK:List Bg:=[⟨some 7,.mkS 1 [.int .u8 0] 0 [],none⟩,m_ 3 7]
def RL:=[i_ 4 0]
def RM:=[m_ 8 4,m_ 9 0,n_ 10 9,b_ .lss 11 8 10]
def RR:=[m_ 14 0,m_ 15 4,x_ 16 14 15 3,L_ 17 16 3,a_ 5 [.str [],.str [],.bool false],s_ 5 17 3]
def RS:=tk [m_ 18 3,f_ 19 5 0,l_ 20 19 1,iQ 21 (.lenS (.t 20)),iQ 22 (.conv .u8 (.t 21)),f_ 25 5 0,l_ 26 25 1] (.alt [l_ 26 25 1,f_ 25 5 0,m_ 18 3] ⟨some 23,.mkS 1 [.int .u8 0] 1 [(0,.t 22)],none⟩ (.alt [l_ 26 25 1,f_ 25 5 0] ⟨some 24,.app 1 1 (.t 18) (.t 23),none⟩ (.alt [] ⟨some 27,.app 1 1 (.t 24) (.t 26),none⟩ (.alt [] (m_ 3 27) .fin .stop) .stop) .stop) .stop)
def RU:=[f_ 28 5 1,l_ 29 28 1,iQ 30 (.lenS (.t 29)),B_ .add 31 30 1,m_ 6 31]
def RX:=[f_ 32 5 2,l_ 33 32 1]
def RY:=[i_ 6 0]
def RZ:=tk [m_ 34 3,m_ 35 6,B_ .quo 36 35 256,iQ 37 (.conv .u8 (.t 36)),m_ 38 6,B_ .rem 39 38 256,iQ 40 (.conv .u8 (.t 39)),f_ 43 5 1,l_ 44 43 1] (.alt [l_ 44 43 1,f_ 43 5 1,m_ 34 3] ⟨some 41,.mkS 1 [.int .u8 0] 2 [(0,.t 37),(1,.t 40)],none⟩ (.alt [l_ 44 43 1,f_ 43 5 1] ⟨some 42,.app 1 1 (.t 34) (.t 41),none⟩ (.alt [] ⟨some 45,.app 1 1 (.t 42) (.t 44),none⟩ (.alt [] (m_ 3 45) .fin .stop) .stop) .stop) .stop)
def qN:=[m_ 12 4,B_ .add 13 12 1,m_ 4 13]
def RI:IR:=(.seq (sr RM (.ite (.t 11) .skip (.exit 0))) (.seq (.block 1 (sr RR (sd RS (sr RU (.seq (sr RX (iz 33 (.reg RY))) (.draw RZ)))))) (.reg qN)))
def qO:=[m_ 46 3,m_ 2 46]
def c409:Dl:=⟨1,47,[.t 2],sr RJ (sr RK (.seq (sr RL (Jt 0 RI)) (rr qO)))⟩
def K409 (D:Az):Prop:=∀a0 r,YB a0=some r→D 409 ⟨[Aa a0],[]⟩ ⟨Ba 0 r,[],[]⟩
theorem F409:K409 (FO C c409):=by
 intro a0 r h0
 refine f0 (Ag (Ac (st (Ed (Aw (At ⟨[(0,Aa a0)],[],[]⟩ (Ar (by kernel_rfl)) (Ag (Ac (st (Ia tv tv (st (An rfl tv (Aw (At ⟨[(0,Aa a0),(3,Ba 448 [])],[],[]⟩ (Ar (by kernel_rfl)) (Ag (Ag (Ac (st (Bn tv (Aw (At ⟨[(0,Aa a0),(3,Ba 448 []),(4,iV 0)],[],[]⟩ (Ar (by kernel_rfl)) (Be ?_))))))))))))))))))))))
 obtain ⟨r43,e44,h0⟩:=bnd h0
 refine Cs (R:=(fun S=>∃p29:List UInt8,p29=r43∧S=⟨[(3,Ba 448 p29)],[],[]⟩)) (Vh a0) (fun s S=>match s with | (p14,p15)=>S=⟨[(0,Aa a0),(3,Ba 448 p14),(4,iV p15)],[],[]⟩) e44 ⟨[(0,Aa a0),(3,Ba 448 []),(4,iV 0)],[],[]⟩ (Ar (by kernel_rfl)) rfl 0 (fun _=>rfl) ?_ ?_
 ·rintro S _ hfg ⟨p29,rfl,rfl⟩
  refine At ⟨[(3,Ba 448 p29)],[],[]⟩ (Oz hfg (by kernel_rfl)) (Ag (Ac (st (An rfl tv (st (An rfl tv (Aw (At ⟨[(2,Ba 448 p29)],[],[]⟩ (Ar (by kernel_rfl)) ?_))))))))
  obtain rfl:=sj h0
  exact Du (Bp rfl rfl rfl rfl rfl tv)
 ·rintro ⟨p14,p15⟩ o1 _ K1 rfl h1 hx1 hK1 hE1 hR1
  refine Ag (Ag (Ac (st (An rfl tv (st (An rfl tv (st (c_ (Dv (e:=Af) (l0:=a0) rfl rfl tv) (st (c_ (Aq t3 rfl tv) (Aw (At ⟨[(0,Aa a0),(3,Ba 448 p14),(4,iV p15),(11,.bool (decide (p15<(a0.length:Int))))],[],[]⟩ (Ar (by kernel_rfl)) (Cj (cb:=(decide (p15<(a0.length:Int)))) rfl (fun c30=>?_) (fun c30=>?_))))))))))))))
  ·replace h1:=ip c30 h1
   refine En (At ⟨[(0,Aa a0),(3,Ba 448 p14),(4,iV p15)],[],[]⟩ (Ar (by kernel_rfl)) (Ag (Be (Ag (Ac (st (An rfl tv (st (An rfl tv ?_)))))))))
   obtain ⟨y31,e32,h1⟩:=bnd h1
   refine st (c_ (Hi (e:=Af) (y:=y31) rfl rfl tv rfl rfl tv e32) (st (c_ (v:=.agg (Af y31)) (Aq ⟨tv,tv⟩ rfl (nl rfl)) (st (Eb (st (Ej rfl rfl tv rfl rfl rfl (nl rfl) (Aw (At ⟨[(0,Aa a0),(3,Ba 448 p14),(4,iV p15),(5,.ptr 320 0)],[(320,Af y31)],[]⟩ (Ar (by kernel_rfl)) (Ag ?_))))))))))
   obtain ⟨c33,h1⟩:=Qd h1
   obtain ⟨c34,h1⟩:=Qd h1
   refine Dj (Ao tv (An rfl tv (⟨tv,Ao tv (c_ (Aq ⟨tv,tv⟩ rfl tv) (⟨tv,Ao tv (c_ (Aq ⟨tv,tv⟩ rfl (nl rfl)) (⟨tv,Ao tv (c_ (Aq ⟨tv,tv⟩ rfl tv) (⟨tv,Ao tv (c_ (iG (Aq ⟨tv,tv⟩ rfl tv)) (⟨tv,Ao tv (c_ (Aq ⟨tv,tv⟩ rfl tv) (⟨tv,Ao tv (c_ (Aq ⟨tv,tv⟩ rfl (nl rfl)) (⟨tv,Do (Ia ⟨tv,tv⟩ ⟨⟨nl rfl,rfl,rfl⟩,tv⟩ (iK ⟨[],⟨⟨.inl tv,Cq (Aq ⟨tv,tv⟩ rfl (nl rfl)) rfl⟩,⟨.inl tv,Cq (Aq ⟨tv,tv⟩ rfl tv) rfl⟩,⟨.inl tv,Cq (Ki (v:=Ba 448 p14) rfl tv) rfl⟩,tv⟩,tv,Do (Fx (e:=By) (l0:=p14) (l1:=([b8 (y31.key.length:Int)]:List UInt8)) rfl rfl tv rfl (by decide) c33 (iK ⟨[],⟨⟨.inl tv,Cq (Aq ⟨tv,tv⟩ rfl (nl rfl)) rfl⟩,⟨.inl tv,Cq (Aq ⟨tv,tv⟩ rfl tv) rfl⟩,tv⟩,tv,Do (Fx (e:=By) (l0:=p14++([b8 (y31.key.length:Int)]:List UInt8)) (l1:=y31.key) rfl rfl tv rfl (by decide) c34 (VW ⟨[(0,Aa a0),(4,iV p15),(5,.ptr 320 0),(27,Ba 448 ((p14++([b8 (y31.key.length:Int)]:List UInt8))++y31.key))],[(320,Af y31)],[]⟩ (Ar (by kernel_rfl)) ⟨[],tv,tv,Do (An rfl tv (iK ⟨[],tv,tv,Jo (At ⟨[(0,Aa a0),(3,Ba 448 ((p14++([b8 (y31.key.length:Int)]:List UInt8))++y31.key)),(4,iV p15),(5,.ptr 320 0)],[(320,Af y31)],[]⟩ (Ar (by kernel_rfl)) (Ag (Ac (st (c_ (Aq ⟨tv,tv⟩ rfl tv) (st (c_ (Aq ⟨tv,tv⟩ rfl (nl rfl)) (st (c_ (Aq ⟨tv,tv⟩ rfl tv) (st (c_ (Aq t3 rfl tv) ?_)))))))))))⟩)) Ca⟩)) Ca⟩)) Ca⟩)) Ca⟩))⟩))⟩))⟩))⟩))⟩))⟩)))
   refine st (An rfl tv (Aw (At ⟨[(0,Aa a0),(3,Ba 448 ((p14++([b8 (y31.key.length:Int)]:List UInt8))++y31.key)),(4,iV p15),(5,.ptr 320 0),(6,iV (wi ((y31.value.length:Int)+1)))],[(320,Af y31)],[]⟩ (Ar (by kernel_rfl)) (Ag (Ag (Ac (st (c_ (Aq ⟨tv,tv⟩ rfl tv) (st (c_ (Aq ⟨tv,tv⟩ rfl (nl rfl)) (Aw (At ⟨[(0,Aa a0),(3,Ba 448 ((p14++([b8 (y31.key.length:Int)]:List UInt8))++y31.key)),(4,iV p15),(5,.ptr 320 0),(6,iV (wi ((y31.value.length:Int)+1))),(33,.bool y31.Dm)],[(320,Af y31)],[]⟩ (Ar (by kernel_rfl)) (dG (cb:=y31.Dm) (fun S=>∃p36:Int,S=⟨[(0,Aa a0),(3,Ba 448 ((p14++([b8 (y31.key.length:Int)]:List UInt8))++y31.key)),(4,iV p15),(5,.ptr 320 0),(6,iV p36)],[(320,Af y31)],[]⟩∧Rk p14 p15 y31 p36=some o1) rfl ?_ (fun c42 J41=>?_) (fun c42 J41=>?_))))))))))))))
   ·rintro _ ⟨p36,rfl,h1⟩
    refine At ⟨[(0,Aa a0),(3,Ba 448 ((p14++([b8 (y31.key.length:Int)]:List UInt8))++y31.key)),(4,iV p15),(5,.ptr 320 0),(6,iV p36)],[(320,Af y31)],[]⟩ (Ar (by kernel_rfl)) ?_
    obtain ⟨c37,h1⟩:=Qd h1
    obtain ⟨c38,h1⟩:=Qd h1
    refine Dj (Ao tv (An rfl tv (⟨tv,Ao tv (An rfl tv (⟨tv,Ao tv (c_ (Aq ⟨tv,tv,tv⟩ rfl (by decide)) (⟨tv,Ao tv (c_ (iG (Aq ⟨tv,tv⟩ rfl tv)) (⟨tv,Ao tv (An rfl tv (⟨tv,Ao tv (c_ (Aq ⟨tv,tv,tv⟩ rfl (by decide)) (⟨tv,Ao tv (c_ (iG (Aq ⟨tv,tv⟩ rfl tv)) (⟨tv,Ao tv (c_ (Aq ⟨tv,tv⟩ rfl tv) (⟨tv,Ao tv (c_ (Aq ⟨tv,tv⟩ rfl (nl rfl)) (⟨tv,Do (Ia ⟨tv,tv,tv⟩ ⟨⟨nl rfl,rfl,rfl⟩,⟨nl rfl,rfl,rfl⟩,tv⟩ (iK ⟨[],⟨⟨.inl tv,Cq (Aq ⟨tv,tv⟩ rfl (nl rfl)) rfl⟩,⟨.inl tv,Cq (Aq ⟨tv,tv⟩ rfl tv) rfl⟩,⟨.inl tv,Cq (Ki (v:=Ba 448 ((p14++([b8 (y31.key.length:Int)]:List UInt8))++y31.key)) rfl tv) rfl⟩,tv⟩,tv,Do (Fx (e:=By) (l0:=(p14++([b8 (y31.key.length:Int)]:List UInt8))++y31.key) (l1:=([b8 (wi ((p36).tdiv 256)),b8 ((p36).tmod 256)]:List UInt8)) rfl rfl tv rfl (by decide) c37 (VW ⟨[(0,Aa a0),(4,iV p15),(5,.ptr 320 0),(42,.own 448 0 1 ((((p14++([b8 (y31.key.length:Int)]:List UInt8))++y31.key)++([b8 (wi ((p36).tdiv 256)),b8 ((p36).tmod 256)]:List UInt8)).map By)),(43,.ptr 320 1),(44,.str y31.value)],[(320,Af y31)],[]⟩ (Ar (by kernel_rfl)) ⟨[],⟨⟨.inl tv,Cq (Aq ⟨tv,tv⟩ rfl (nl rfl)) rfl⟩,⟨.inl tv,Cq (Aq ⟨tv,tv⟩ rfl tv) rfl⟩,tv⟩,tv,Do (Fx (e:=By) (l0:=((p14++([b8 (y31.key.length:Int)]:List UInt8))++y31.key)++([b8 (wi ((p36).tdiv 256)),b8 ((p36).tmod 256)]:List UInt8)) (l1:=y31.value) rfl rfl tv rfl (by decide) c38 (iK ⟨[],tv,tv,Do (An rfl tv (iK ⟨[],tv,tv,Jo (Qc ?_)⟩)) Ca⟩)) Ca⟩)) Ca⟩)) Ca⟩))⟩))⟩))⟩))⟩))⟩))⟩))⟩))⟩)))
    obtain ⟨v39,e40,h1⟩:=bl h1
    refine At ⟨[(0,Aa a0),(3,Ba 448 v39),(4,iV p15)],[],[]⟩ (Ar (by subst e40; kernel_rfl)) (Ac (st (An rfl tv (st (c_ (Aq t3 rfl tv) (st (An rfl tv (Aw ?_))))))))
    obtain rfl:=sj h1
    exact hK1 _ rfl _ ⟨[(0,Aa a0),(3,Ba 448 v39),(4,iV (wi (p15+1)))],[],[]⟩ (Ar (by kernel_rfl)) rfl
   ·replace h1:=ip c42 h1
    refine Ac (st (Bn tv (Aw ?_)))
    exact J41 _ ⟨[(0,Aa a0),(3,Ba 448 ((p14++([b8 (y31.key.length:Int)]:List UInt8))++y31.key)),(4,iV p15),(5,.ptr 320 0),(6,iV 0)],[(320,Af y31)],[]⟩ (Ar (by kernel_rfl)) ⟨_,rfl,h1⟩
   ·replace h1:=Fi c42 h1
    refine En ?_
    exact J41 _ ⟨[(0,Aa a0),(3,Ba 448 ((p14++([b8 (y31.key.length:Int)]:List UInt8))++y31.key)),(4,iV p15),(5,.ptr 320 0),(6,iV (wi ((y31.value.length:Int)+1)))],[(320,Af y31)],[]⟩ (Ar (by kernel_rfl)) ⟨_,rfl,h1⟩
  ·replace h1:=Fi c30 h1
   obtain rfl:=sj h1
   obtain rfl:=hx1 _ rfl
   refine In rfl ?_
   exact hE1 _ ⟨[(3,Ba 448 p14)],[],[]⟩ (Ar (by kernel_rfl)) ⟨_,rfl,rfl⟩

/- loop.example/g00149/spec.Commit -/
def LT:=[X_ 2 0,a_ 4 [.own 257 0 1 [],.own 258 0 2 []],i_ 5 0]
def LU:=[m_ 9 1,n_ 10 9,B_ .gtr 11 10 4096]
def LV:=[iQ 12 (.build [.own 769 0 1 [],.own 770 0 2 []] []),s_ 4 12 2,i_ 5 2]
def LW:List Bg:=[L_ 13 2 2,q_ 14 290 [.t 13],N_ 15 14,m_ 16 15,mF 16 17 1,⟨some 18,.call 407 [.t 17],some (16,false)⟩,pF 16 19 (.un .not (.t 18)),po 20 16 19]
def LX:=[iQ 21 (.build [.own 1345 0 1 [],.own 1346 0 2 []] []),s_ 4 21 2,i_ 5 1]
def LY:=[L_ 23 2 2,q_ 24 385 [.t 23],m_ 22 24,e_ 25 22 0,e_ 26 22 1,m_ 6 25,m_ 7 26]
def LZ:=[m_ 27 6,m_ 28 1,q_ 29 408 [.t 27,.t 28],n_ 30 29,B_ .gtr 31 30 100]
def MA:=[iQ 32 (.build [.own 2049 0 1 [],.own 2050 0 2 []] []),s_ 4 32 2,i_ 5 9]
def MB:=[m_ 33 1,q_ 34 409 [.t 33],m_ 8 34]
def MC:=[m_ 35 8,n_ 36 35,B_ .leq 37 36 2000]
def pU:=[L_ 38 2 2,m_ 39 8,q_ 40 240 [.t 38,.t 39],e_ 41 40 0,e_ 42 40 1,s_ 4 41 2,m_ 5 42]
def pV:=[iQ 43 (.build [.own 2753 0 1 [],.own 2754 0 2 []] []),s_ 4 43 2,i_ 5 4]
def c388:Dl:=⟨2,44,[.cell 4 2 true,.t 5],sr LT (.seq (sr LU (iz 11 (rr LV))) (.seq (sr LW (iz 20 (rr LX))) (sr LY (.seq (sr LZ (iz 31 (rr MA))) (sr MB (.seq (sr MC (iz 37 (rr pU))) (rr pV)))))))⟩
def K388 (D:Az):Prop:=∀a0 a1 r,XP a0 a1=some r→D 388 ⟨[.agg (Ah a0),Aa a1],[]⟩ ⟨.tup [.agg (Ak r.1 (Bk 0) (Bk 1)),iV r.2],[],[]⟩
theorem F388 (H240:K240 C) (H290:nB C) (H385:K385 C) (H407:wH C) (H408:wI C) (H409:K409 C):K388 (FO C c388):=by
 intro a0 a1 r h0
 refine f0 (Ag (Ac (st (Mk rfl tv rfl (st (Eb (st (Bn tv (Aw (At ⟨[(1,Aa a1),(2,.ptr 128 0),(4,.ptr 256 0)],[(128,Ah a0),(256,[Ba 257 [],Ad 258 []])],[]⟩ (Ar (by kernel_rfl)) (Ag (Ag (Ac (st (An rfl tv (st (c_ (Dv (e:=Af) (l0:=a1) rfl rfl tv) (st (c_ (Aq t3 rfl tv) (Aw (At ⟨[(1,Aa a1),(2,.ptr 128 0),(4,.ptr 256 0),(11,.bool (decide ((a1.length:Int)>4096)))],[(128,Ah a0),(256,[Ba 257 [],Ad 258 []])],[]⟩ (Ar (by kernel_rfl)) (Cj (cb:=(decide ((a1.length:Int)>4096))) rfl (fun c1=>?_) (fun c1=>?_)))))))))))))))))))))))
 ·replace h0:=ip c1 h0
  refine Ag (Ac (st (c_ (v:=.agg [Ba 769 [],Ad 770 []]) (Aq tv rfl tv) (st (Ej rfl rfl tv rfl rfl rfl (nl rfl) (st (Bn tv (Aw (At ⟨[(4,.ptr 256 0),(5,iV 2)],[(256,[Ba 769 [],Ad 770 []])],[]⟩ (Ar (by kernel_rfl)) ?_)))))))))
  obtain rfl:=sj h0
  exact Du (Bp rfl rfl rfl rfl rfl tv)
 ·replace h0:=Fi c1 h0
  refine En (At ⟨[(1,Aa a1),(2,.ptr 128 0),(4,.ptr 256 0)],[(128,Ah a0),(256,[Ba 257 [],Ad 258 []])],[]⟩ (Ar (by kernel_rfl)) (Ag (Ag (Ac (st (c_ (v:=.agg (Ah a0)) (Aq ⟨tv,tv⟩ rfl (nl rfl)) ?_))))))
  obtain ⟨r2,e3,h0⟩:=bnd h0
  refine st (Bb (r:=.bool r2) false (H290 a0 r2 e3) ⟨tv,tv⟩ rfl rfl (fun _=>rfl) (st (c_ (Aq ⟨tv,tv⟩ rfl tv) (st (An rfl tv (st (Cx (u:=Aa a1) rfl (fun hg=>(Ki (v:=Aa a1) rfl tv)) ?_)))))))
  obtain ⟨r4,e5,h0⟩:=bnd h0
  refine sw ⟨[(1,Aa a1),(2,.ptr 128 0),(4,.ptr 256 0),(16,.bool (!r2)),(17,.may ((!r2)==false) (Aa a1))],[(128,Ah a0),(256,[Ba 257 [],Ad 258 []])],[]⟩ (Ar (by kernel_rfl)) (Lb (r:=.bool r4) rfl false (fun hg=>H407 a1 r4 (ip hg e5)) ⟨(fun hg=>hg),tv⟩ (fun _=>rfl) (fun _=>rfl) (fun _=>rfl) (fun h=>nomatch h) (st (Cx (u:=.bool (!r4)) rfl (fun hg=>(Aq ⟨(fun _=>hg),tv⟩ rfl tv)) (st (Ea rfl rfl rfl tv (fun h=>aX h) rfl (Aw (At ⟨[(1,Aa a1),(2,.ptr 128 0),(4,.ptr 256 0),(20,.bool (bif (!r2) then true else (!r4)))],[(128,Ah a0),(256,[Ba 257 [],Ad 258 []])],[]⟩ (Ar (by kernel_rfl)) (Cj (cb:=(bif (!r2) then true else (!r4))) rfl (fun c6=>?_) (fun c6=>?_)))))))))
  ·replace h0:=ip c6 h0
   refine Ag (Ac (st (c_ (v:=.agg [Ba 1345 [],Ad 1346 []]) (Aq tv rfl tv) (st (Ej rfl rfl tv rfl rfl rfl (nl rfl) (st (Bn tv (Aw (At ⟨[(4,.ptr 256 0),(5,iV 1)],[(256,[Ba 1345 [],Ad 1346 []])],[]⟩ (Ar (by kernel_rfl)) ?_)))))))))
   obtain rfl:=sj h0
   exact Du (Bp rfl rfl rfl rfl rfl tv)
  ·replace h0:=Fi c6 h0
   refine En (At ⟨[(1,Aa a1),(2,.ptr 128 0),(4,.ptr 256 0)],[(128,Ah a0),(256,[Ba 257 [],Ad 258 []])],[]⟩ (Ar (by kernel_rfl)) (Ag (Ac (st (c_ (v:=.agg (Ah a0)) (Aq ⟨tv,tv⟩ rfl (nl rfl)) ?_)))))
   obtain ⟨r7,e8,h0⟩:=bnd h0
   refine st (Bb (r:=.tup [Al 0 r7.1,iV r7.2]) false (H385 a0 r7 e8) ⟨tv,tv⟩ rfl rfl (fun _=>(Cd (Qo (fun _=>rfl)) (Cd rfl rfl))) (st (An rfl tv (st (c_ (Aq ⟨tv,tv⟩ rfl tv) (st (c_ (Aq ⟨tv,tv⟩ rfl tv) (st (An rfl tv (st (An rfl tv (Aw (At ⟨[(1,Aa a1),(2,.ptr 128 0),(4,.ptr 256 0),(6,Al 1536 r7.1)],[(128,Ah a0),(256,[Ba 257 [],Ad 258 []])],[]⟩ (Ar (by kernel_rfl)) (Ag (Ag (Ac (st (An rfl tv (st (An rfl tv ?_))))))))))))))))))))
   obtain ⟨r9,e10,h0⟩:=bnd h0
   refine st (Bb (r:=Al 0 r9) false (H408 r7.1 a1 r9 e10) ⟨tv,tv,tv⟩ rfl rfl (fun _=>(Cd (Qo (fun _=>rfl)) rfl)) (st (c_ (Jb (e:=Ay) (l0:=r9) rfl rfl tv) (st (c_ (Aq t3 rfl tv) (Aw (At ⟨[(1,Aa a1),(2,.ptr 128 0),(4,.ptr 256 0),(31,.bool (decide ((r9.length:Int)>100)))],[(128,Ah a0),(256,[Ba 257 [],Ad 258 []])],[]⟩ (Ar (by kernel_rfl)) (Cj (cb:=(decide ((r9.length:Int)>100))) rfl (fun c11=>?_) (fun c11=>?_)))))))))
   ·replace h0:=ip c11 h0
    refine Ag (Ac (st (c_ (v:=.agg [Ba 2049 [],Ad 2050 []]) (Aq tv rfl tv) (st (Ej rfl rfl tv rfl rfl rfl (nl rfl) (st (Bn tv (Aw (At ⟨[(4,.ptr 256 0),(5,iV 9)],[(256,[Ba 2049 [],Ad 2050 []])],[]⟩ (Ar (by kernel_rfl)) ?_)))))))))
    obtain rfl:=sj h0
    exact Du (Bp rfl rfl rfl rfl rfl tv)
   ·replace h0:=Fi c11 h0
    refine En (At ⟨[(1,Aa a1),(2,.ptr 128 0),(4,.ptr 256 0)],[(128,Ah a0),(256,[Ba 257 [],Ad 258 []])],[]⟩ (Ar (by kernel_rfl)) (Ag (Ac (st (An rfl tv ?_)))))
    obtain ⟨r12,e13,h0⟩:=bnd h0
    refine st (Bb (r:=Ba 0 r12) false (H409 a1 r12 e13) ⟨tv,tv⟩ rfl rfl (fun _=>(Cd (Qo (fun _=>rfl)) rfl)) (st (An rfl tv (Aw (At ⟨[(2,.ptr 128 0),(4,.ptr 256 0),(8,Ba 2176 r12)],[(128,Ah a0),(256,[Ba 257 [],Ad 258 []])],[]⟩ (Ar (by kernel_rfl)) (Ag (Ag (Ac (st (An rfl tv (st (c_ (Jb (e:=By) (l0:=r12) rfl rfl tv) (st (c_ (Aq t3 rfl tv) (Aw (At ⟨[(2,.ptr 128 0),(4,.ptr 256 0),(8,Ba 2176 r12),(37,.bool (decide ((r12.length:Int)≤2000)))],[(128,Ah a0),(256,[Ba 257 [],Ad 258 []])],[]⟩ (Ar (by kernel_rfl)) (Cj (cb:=(decide ((r12.length:Int)≤2000))) rfl (fun c14=>?_) (fun c14=>?_))))))))))))))))))
    ·replace h0:=ip c14 h0
     refine Ag (Ac (st (c_ (v:=.agg (Ah a0)) (Aq ⟨tv,tv⟩ rfl (nl rfl)) (st (An rfl tv ?_)))))
     obtain ⟨r15,e16,h0⟩:=bnd h0
     refine st (Bb (r:=.tup [.agg (Ak r15.1 (Bk 0) (Bk 1)),iV r15.2]) true (H240 a0 r12 r15 e16) ⟨tv,tv,tv⟩ rfl rfl (fun h=>nomatch h) (sw ⟨[(4,.ptr 256 0),(40,.tup [.agg (Ak r15.1 (Bk 2560) (Bk 2561)),iV r15.2])],[(256,[Ba 257 [],Ad 258 []])],[]⟩ (Ar (by kernel_rfl)) (c_ (Aq ⟨tv,tv⟩ rfl tv) (st (c_ (Aq ⟨tv,tv⟩ rfl tv) (st (Ej rfl rfl tv rfl rfl rfl (nl rfl) (st (An rfl tv (Aw (At ⟨[(4,.ptr 256 0),(5,iV r15.2)],[(256,Ak r15.1 (Bk 2560) (Bk 2561))],[]⟩ (Ar (by kernel_rfl)) ?_)))))))))))
     obtain rfl:=sj h0
     exact Du (Bp rfl rfl rfl rfl rfl tv)
    ·replace h0:=Fi c14 h0
     refine En (At ⟨[(4,.ptr 256 0)],[(256,[Ba 257 [],Ad 258 []])],[]⟩ (Ar (by kernel_rfl)) (Ag (Ac (st (c_ (v:=.agg [Ba 2753 [],Ad 2754 []]) (Aq tv rfl tv) (st (Ej rfl rfl tv rfl rfl rfl (nl rfl) (st (Bn tv (Aw (At ⟨[(4,.ptr 256 0),(5,iV 4)],[(256,[Ba 2753 [],Ad 2754 []])],[]⟩ (Ar (by kernel_rfl)) ?_)))))))))))
     obtain rfl:=sj h0
     exact Du (Bp rfl rfl rfl rfl rfl tv)

/- loop.example/g00149/laws.toChange -/
def SA:=[X_ 1 0,a_ 2 [.str [],.str [],.bool false]]
def SB:=[a_ 3 [.str [],.str [],.bool false]]
def SC:=[f_ 4 1 0,l_ 5 4 1,f_ 6 3 0,s_ 6 5 1]
def SD:=[f_ 7 1 1,l_ 8 7 1,f_ 9 3 1,s_ 9 8 1]
def SE:=[f_ 10 1 2,l_ 11 10 1,f_ 12 3 2,s_ 12 11 1]
def SF:=[L_ 13 3 3,s_ 2 13 3]
def c410:Dl:=⟨1,14,[.cell 2 3 true],sr SA (sr SB (sr SC (sr SD (sr SE (rr SF)))))⟩
def K410 (D:Az):Prop:=∀a0 r,g410 a0=some r→D 410 ⟨[.agg (Af a0)],[]⟩ ⟨.agg (Af r),[],[]⟩
theorem F410:K410 (FO C c410):=by
 intro a0 r h0
 refine f0 (Ag (Ac (st (Mk rfl tv rfl (st (Eb (Aw (At ⟨[(1,.ptr 64 0),(2,.ptr 128 0)],[(64,Af a0),(128,Bf ([]:List UInt8) ([]:List UInt8) false)],[]⟩ (Ar (by kernel_rfl)) (Ag (Ac (st (Eb (Aw (At ⟨[(1,.ptr 64 0),(2,.ptr 128 0),(3,.ptr 192 0)],[(64,Af a0),(128,Bf ([]:List UInt8) ([]:List UInt8) false),(192,Bf ([]:List UInt8) ([]:List UInt8) false)],[]⟩ (Ar (by kernel_rfl)) (Ag (Ac (st (c_ (Aq ⟨tv,tv⟩ rfl tv) (st (c_ (Aq ⟨tv,tv⟩ rfl (nl rfl)) (st (c_ (Aq ⟨tv,tv⟩ rfl tv) (st (Ej rfl rfl tv rfl rfl rfl (nl rfl) (Aw (At ⟨[(1,.ptr 64 0),(2,.ptr 128 0),(3,.ptr 192 0)],[(64,Af a0),(128,Bf ([]:List UInt8) ([]:List UInt8) false),(192,Bf a0.key ([]:List UInt8) false)],[]⟩ (Ar (by kernel_rfl)) (Ag (Ac (st (c_ (Aq ⟨tv,tv⟩ rfl tv) (st (c_ (Aq ⟨tv,tv⟩ rfl (nl rfl)) (st (c_ (Aq ⟨tv,tv⟩ rfl tv) (st (Ej rfl rfl tv rfl rfl rfl (nl rfl) (Aw (At ⟨[(1,.ptr 64 0),(2,.ptr 128 0),(3,.ptr 192 0)],[(64,Af a0),(128,Bf ([]:List UInt8) ([]:List UInt8) false),(192,Bf a0.key a0.value false)],[]⟩ (Ar (by kernel_rfl)) (Ag (Ac (st (c_ (Aq ⟨tv,tv⟩ rfl tv) ?_))))))))))))))))))))))))))))))))))))))))))
 refine st (c_ (Aq ⟨tv,tv⟩ rfl (nl rfl)) (st (c_ (Aq ⟨tv,tv⟩ rfl tv) (st (Ej rfl rfl tv rfl rfl rfl (nl rfl) (Aw (At ⟨[(2,.ptr 128 0),(3,.ptr 192 0)],[(128,Bf ([]:List UInt8) ([]:List UInt8) false),(192,Af a0)],[]⟩ (Ar (by kernel_rfl)) (Ag (Ac (st (c_ (v:=.agg (Af a0)) (Aq ⟨tv,tv⟩ rfl (nl rfl)) (st (Ej rfl rfl tv rfl rfl rfl (nl rfl) (Aw (At ⟨[(2,.ptr 128 0)],[(128,Af a0)],[]⟩ (Ar (by kernel_rfl)) ?_)))))))))))))))
 obtain rfl:=sj h0
 exact Du (Bp rfl rfl rfl rfl rfl tv)

/- loop.example/g00149/laws.toChangeS -/
def ME:List Bg:=[⟨some 2,.nilS 3,none⟩]
def MF:List Bg:=[m_ 5 0,n_ 6 5,⟨some 7,.make 3 40 [.str [],.str [],.bool false] (.t 6) (.t 6),none⟩,m_ 3 7]
def MG:=[i_ 4 0]
def MH:=[m_ 8 4,m_ 9 0,n_ 10 9,b_ .lss 11 8 10]
def MI:=[m_ 14 3,m_ 15 4,m_ 16 0,m_ 17 4,x_ 18 16 17 3,L_ 19 18 3,q_ 20 410 [.t 19],x_ 21 14 15 3,s_ 21 20 3]
def MJ:=[m_ 12 4,B_ .add 13 12 1,m_ 4 13]
def MD:IR:=(.seq (sr MH (.ite (.t 11) .skip (.exit 0))) (.seq (.block 1 (.reg MI)) (.reg MJ)))
def MK:=[m_ 22 3,m_ 2 22]
def c389:Dl:=⟨1,23,[.t 2],sr ME (sr MF (.seq (sr MG (Jt 0 MD)) (rr MK)))⟩
def K389 (D:Az):Prop:=∀a0 r,fP a0=some r→D 389 ⟨[Aa a0],[]⟩ ⟨Am 0 r,[],[]⟩
theorem F389 (H410:K410 C):K389 (FO C c389):=by
 intro a0 r h0
 refine f0 (Ag (Ac (st (Ed (Aw (At ⟨[(0,Aa a0)],[],[]⟩ (Ar (by kernel_rfl)) (Ag (Ac (st (An rfl tv (st (c_ (Dv (e:=Af) (l0:=a0) rfl rfl tv) ?_))))))))))))
 obtain ⟨c1,h0⟩:=Qd h0
 obtain ⟨c2,h0⟩:=Qd h0
 refine st (tE (e:=Af) (Ab.mk ([]:List UInt8) ([]:List UInt8) false) rfl rfl c1 rfl c2 rfl (st (An rfl tv (Aw ?_))))
 obtain ⟨v3,e4,h0⟩:=bl h0
 refine At ⟨[(0,Aa a0),(3,Am 448 v3)],[],[]⟩ (Ar (by subst e4; kernel_rfl)) (Ag (Ag (Ac (st (Bn tv (Aw (At ⟨[(0,Aa a0),(3,Am 448 v3),(4,iV 0)],[],[]⟩ (Ar (by kernel_rfl)) (Be ?_))))))))
 obtain ⟨r37,e38,h0⟩:=bnd h0
 refine Cs (R:=(fun S=>∃p27:List Ab,p27=r37∧S=⟨[(3,Am 448 p27)],[],[]⟩)) (Rd a0) (fun s S=>match s with | (p14,p15)=>S=⟨[(0,Aa a0),(3,Am 448 p14),(4,iV p15)],[],[]⟩) e38 ⟨[(0,Aa a0),(3,Am 448 v3),(4,iV 0)],[],[]⟩ (Ar (by kernel_rfl)) rfl 0 (fun _=>rfl) ?_ ?_
 ·rintro S _ hfg ⟨p27,rfl,rfl⟩
  refine At ⟨[(3,Am 448 p27)],[],[]⟩ (Oz hfg (by kernel_rfl)) (Ag (Ac (st (An rfl tv (st (An rfl tv (Aw (At ⟨[(2,Am 448 p27)],[],[]⟩ (Ar (by kernel_rfl)) ?_))))))))
  obtain rfl:=sj h0
  exact Du (Bp rfl rfl rfl rfl rfl tv)
 ·rintro ⟨p14,p15⟩ o1 _ K1 rfl h1 hx1 hK1 hE1 hR1
  refine Ag (Ag (Ac (st (An rfl tv (st (An rfl tv (st (c_ (Dv (e:=Af) (l0:=a0) rfl rfl tv) (st (c_ (Aq t3 rfl tv) (Aw (At ⟨[(0,Aa a0),(3,Am 448 p14),(4,iV p15),(11,.bool (decide (p15<(a0.length:Int))))],[],[]⟩ (Ar (by kernel_rfl)) (Cj (cb:=(decide (p15<(a0.length:Int)))) rfl (fun c28=>?_) (fun c28=>?_))))))))))))))
  ·replace h1:=ip c28 h1
   refine En (At ⟨[(0,Aa a0),(3,Am 448 p14),(4,iV p15)],[],[]⟩ (Ar (by kernel_rfl)) (Ag (Be (Ac (st (An rfl tv (st (An rfl tv (st (An rfl tv (st (An rfl tv ?_))))))))))))
   obtain ⟨y29,e30,h1⟩:=bnd h1
   refine st (c_ (Hi (e:=Af) (y:=y29) rfl rfl tv rfl rfl tv e30) (st (c_ (v:=.agg (Af y29)) (Aq ⟨tv,tv⟩ rfl (nl rfl)) ?_)))
   obtain ⟨r31,e32,h1⟩:=bnd h1
   refine st (Bb (r:=.agg (Af r31)) false (H410 y29 r31 e32) ⟨tv,tv⟩ rfl rfl (fun _=>rfl) ?_)
   obtain ⟨y33,e34,h1⟩:=bnd h1
   refine st (c_ (Tq (e:=Af) (y:=y33) rfl rfl tv rfl rfl tv e34) ?_)
   obtain ⟨y35,e36,h1⟩:=bnd h1
   refine st (uS (y':=r31) rfl rfl tv rfl rfl rfl rfl e36 (nl rfl) rfl rfl rfl rfl (Aw (Qc (At ⟨[(0,Aa a0),(3,Am 448 (p14.set p15.toNat r31)),(4,iV p15)],[],[]⟩ (fg ⟨rfl,congrArg (fun z=>some ((.own 448 0 3 z:V))) Fl,rfl,tv⟩ tv) (Ac (st (An rfl tv (st (c_ (Aq t3 rfl tv) (st (An rfl tv (Aw ?_))))))))))))
   obtain rfl:=sj h1
   exact hK1 _ rfl _ ⟨[(0,Aa a0),(3,Am 448 (p14.set p15.toNat r31)),(4,iV (wi (p15+1)))],[],[]⟩ (Ar (by kernel_rfl)) rfl
  ·replace h1:=Fi c28 h1
   obtain rfl:=sj h1
   obtain rfl:=hx1 _ rfl
   refine In rfl ?_
   exact hE1 _ ⟨[(3,Am 448 p14)],[],[]⟩ (Ar (by kernel_rfl)) ⟨_,rfl,rfl⟩

/- loop.example/g00149/laws.eqChange -/
def SG:=[X_ 2 0,X_ 3 1,k_ 4 (.bool false)]
def SH:=[f_ 5 2 0,l_ 6 5 1,f_ 7 3 0,l_ 8 7 1,b_ .neq 9 6 8]
def SI:=[k_ 4 (.bool false)]
def SJ:=[f_ 10 2 1,l_ 11 10 1,f_ 12 3 1,l_ 13 12 1,b_ .neq 14 11 13]
def SK:=[k_ 4 (.bool false)]
def SL:=[f_ 15 2 2,l_ 16 15 1,f_ 17 3 2,l_ 18 17 1,iQ 19 (.binB .neq (.t 16) (.t 18))]
def SM:=[k_ 4 (.bool false)]
def SN:=[k_ 4 (.bool true)]
def c411:Dl:=⟨2,20,[.t 4],sr SG (.seq (sr SH (iz 9 (rr SI))) (.seq (sr SJ (iz 14 (rr SK))) (.seq (sr SL (iz 19 (rr SM))) (rr SN))))⟩
def K411 (D:Az):Prop:=∀a0 a1 r,YD a0 a1=some r→D 411 ⟨[.agg (Af a0),.agg (Af a1)],[]⟩ ⟨.bool r,[],[]⟩
theorem F411:K411 (FO C c411):=by
 intro a0 a1 r h0
 refine f0 (Ag (Ac (st (Mk rfl tv rfl (st (Mk rfl tv rfl (st (Bn tv (Aw (At ⟨[(2,.ptr 128 0),(3,.ptr 192 0)],[(128,Af a0),(192,Af a1)],[]⟩ (Ar (by kernel_rfl)) (Ag (Ag (Ac (st (c_ (Aq ⟨tv,tv⟩ rfl tv) (st (c_ (Aq ⟨tv,tv⟩ rfl (nl rfl)) (st (c_ (Aq ⟨tv,tv⟩ rfl tv) (st (c_ (Aq ⟨tv,tv⟩ rfl (nl rfl)) (st (c_ (Aq t3 rfl tv) (Aw (At ⟨[(2,.ptr 128 0),(3,.ptr 192 0),(9,.bool (!(a0.key==a1.key)))],[(128,Af a0),(192,Af a1)],[]⟩ (Ar (by kernel_rfl)) (Cj (cb:=(!(a0.key==a1.key))) rfl (fun c1=>?_) (fun c1=>?_)))))))))))))))))))))))))))
 ·replace h0:=ip c1 h0
  refine Ag (Ac (st (Bn tv (Aw (At ⟨[(4,.bool false)],[],[]⟩ (Ar (by kernel_rfl)) ?_)))))
  obtain rfl:=sj h0
  exact Du (Bp rfl rfl rfl rfl rfl tv)
 ·replace h0:=Fi c1 h0
  refine En (At ⟨[(2,.ptr 128 0),(3,.ptr 192 0)],[(128,Af a0),(192,Af a1)],[]⟩ (Ar (by kernel_rfl)) (Ag (Ag (Ac (st (c_ (Aq ⟨tv,tv⟩ rfl tv) (st (c_ (Aq ⟨tv,tv⟩ rfl (nl rfl)) (st (c_ (Aq ⟨tv,tv⟩ rfl tv) (st (c_ (Aq ⟨tv,tv⟩ rfl (nl rfl)) (st (c_ (Aq t3 rfl tv) (Aw (At ⟨[(2,.ptr 128 0),(3,.ptr 192 0),(14,.bool (!(a0.value==a1.value)))],[(128,Af a0),(192,Af a1)],[]⟩ (Ar (by kernel_rfl)) (Cj (cb:=(!(a0.value==a1.value))) rfl (fun c2=>?_) (fun c2=>?_))))))))))))))))))
  ·replace h0:=ip c2 h0
   refine Ag (Ac (st (Bn tv (Aw (At ⟨[(4,.bool false)],[],[]⟩ (Ar (by kernel_rfl)) ?_)))))
   obtain rfl:=sj h0
   exact Du (Bp rfl rfl rfl rfl rfl tv)
  ·replace h0:=Fi c2 h0
   refine En (At ⟨[(2,.ptr 128 0),(3,.ptr 192 0)],[(128,Af a0),(192,Af a1)],[]⟩ (Ar (by kernel_rfl)) (Ag (Ag (Ac (st (c_ (Aq ⟨tv,tv⟩ rfl tv) (st (c_ (Aq ⟨tv,tv⟩ rfl (nl rfl)) (st (c_ (Aq ⟨tv,tv⟩ rfl tv) (st (c_ (Aq ⟨tv,tv⟩ rfl (nl rfl)) (st (c_ (Aq t3 rfl tv) (Aw (At ⟨[(19,.bool (!(a0.Dm==a1.Dm)))],[],[]⟩ (Ar (by kernel_rfl)) (Cj (cb:=(!(a0.Dm==a1.Dm))) rfl (fun c3=>?_) (fun c3=>?_))))))))))))))))))
   ·replace h0:=ip c3 h0
    refine Ag (Ac (st (Bn tv (Aw (At ⟨[(4,.bool false)],[],[]⟩ (Ar (by kernel_rfl)) ?_)))))
    obtain rfl:=sj h0
    exact Du (Bp rfl rfl rfl rfl rfl tv)
   ·replace h0:=Fi c3 h0
    refine En (At ⟨[],[],[]⟩ (Ar (by kernel_rfl)) (Ag (Ac (st (Bn tv (Aw (At ⟨[(4,.bool true)],[],[]⟩ (Ar (by kernel_rfl)) ?_)))))))
    obtain rfl:=sj h0
    exact Du (Bp rfl rfl rfl rfl rfl tv)

/- loop.example/g00149/laws.eqChangeS -/
def MM:=[k_ 4 (.bool false)]
def MN:=[m_ 6 0,n_ 7 6,m_ 8 1,n_ 9 8,b_ .neq 10 7 9]
def MO:=[k_ 4 (.bool false)]
def MP:=[i_ 5 0]
def MQ:=[m_ 11 5,m_ 12 0,n_ 13 12,b_ .lss 14 11 13]
def MR:=tk [m_ 17 0,m_ 18 5,x_ 19 17 18 3,L_ 20 19 3,m_ 21 1,m_ 22 5,x_ 23 21 22 3,L_ 24 23 3] (.alt [] (q_ 25 411 [.t 20,.t 24]) (tk [N_ 26 25] .fin) .stop)
def MS:=[k_ 4 (.bool false)]
def MT:=[m_ 15 5,B_ .add 16 15 1,m_ 5 16]
def ML:IR:=(.seq (sr MQ (.ite (.t 14) .skip (.exit 0))) (.seq (.block 1 (sd MR (iz 26 (rr MS)))) (.reg MT)))
def MU:=[k_ 4 (.bool true)]
def c390:Dl:=⟨2,27,[.t 4],sr MM (.seq (sr MN (iz 10 (rr MO))) (.seq (sr MP (Jt 0 ML)) (rr MU)))⟩
def K390 (D:Az):Prop:=∀a0 a1 r,XQ a0 a1=some r→D 390 ⟨[Aa a0,Aa a1],[]⟩ ⟨.bool r,[],[]⟩
theorem F390 (H411:K411 C):K390 (FO C c390):=by
 intro a0 a1 r h0
 refine f0 (Ag (Ac (st (Bn tv (Aw (At ⟨[(0,Aa a0),(1,Aa a1)],[],[]⟩ (Ar (by kernel_rfl)) (Ag (Ag (Ac (st (An rfl tv (st (c_ (Dv (e:=Af) (l0:=a0) rfl rfl tv) (st (An rfl tv (st (c_ (Dv (e:=Af) (l0:=a1) rfl rfl tv) (st (c_ (Aq t3 rfl tv) (Aw (At ⟨[(0,Aa a0),(1,Aa a1),(10,.bool ((a0.length:Int) != (a1.length:Int)))],[],[]⟩ (Ar (by kernel_rfl)) (Cj (cb:=((a0.length:Int) != (a1.length:Int))) rfl (fun c1=>?_) (fun c1=>?_)))))))))))))))))))))))
 ·replace h0:=ip c1 h0
  refine Ag (Ac (st (Bn tv (Aw (At ⟨[(4,.bool false)],[],[]⟩ (Ar (by kernel_rfl)) ?_)))))
  obtain rfl:=sj h0
  exact Du (Bp rfl rfl rfl rfl rfl tv)
 ·replace h0:=Fi c1 h0
  refine En (At ⟨[(0,Aa a0),(1,Aa a1)],[],[]⟩ (Ar (by kernel_rfl)) (Ag (Ag (Ac (st (Bn tv (Aw (At ⟨[(0,Aa a0),(1,Aa a1),(5,iV 0)],[],[]⟩ (Ar (by kernel_rfl)) (Be ?_)))))))))
  obtain ⟨r28,e29,h0⟩:=bnd h0
  refine Cs (R:=(fun S=>.inl ()=r28∧S=⟨[],[],[]⟩)) (Re a0 a1) (fun s S=>match s with | p10=>S=⟨[(0,Aa a0),(1,Aa a1),(5,iV p10)],[],[]⟩) e29 ⟨[(0,Aa a0),(1,Aa a1),(5,iV 0)],[],[]⟩ (Ar (by kernel_rfl)) rfl 0 (fun _=>rfl) ?_ ?_
  ·rintro S _ hfg ⟨rfl,rfl⟩
   refine At ⟨[],[],[]⟩ (Oz hfg (by kernel_rfl)) (Ag (Ac (st (Bn tv (Aw (At ⟨[(4,.bool true)],[],[]⟩ (Ar (by kernel_rfl)) ?_))))))
   obtain rfl:=sj h0
   exact Du (Bp rfl rfl rfl rfl rfl tv)
  ·rintro p10 o1 _ K1 rfl h1 hx1 hK1 hE1 hR1
   refine Ag (Ag (Ac (st (An rfl tv (st (An rfl tv (st (c_ (Dv (e:=Af) (l0:=a0) rfl rfl tv) (st (c_ (Aq t3 rfl tv) (Aw (At ⟨[(0,Aa a0),(1,Aa a1),(5,iV p10),(14,.bool (decide (p10<(a0.length:Int))))],[],[]⟩ (Ar (by kernel_rfl)) (Cj (cb:=(decide (p10<(a0.length:Int)))) rfl (fun c20=>?_) (fun c20=>?_))))))))))))))
   ·replace h1:=ip c20 h1
    refine En (At ⟨[(0,Aa a0),(1,Aa a1),(5,iV p10)],[],[]⟩ (Ar (by kernel_rfl)) (Ag (Be (Ag ?_))))
    obtain ⟨y21,e22,h1⟩:=bnd h1
    obtain ⟨y23,e24,h1⟩:=bnd h1
    obtain ⟨r25,e26,h1⟩:=bnd h1
    refine Dj (Ao tv (An rfl tv (⟨tv,Ao tv (An rfl tv (⟨tv,Ao tv (c_ (Hi (e:=Af) (y:=y21) rfl rfl tv rfl rfl tv e22) (⟨tv,Ao tv (c_ (v:=.agg (Af y21)) (Aq ⟨tv,tv⟩ rfl (nl rfl)) (⟨tv,Ao tv (An rfl tv (⟨tv,Ao tv (An rfl tv (⟨tv,Ao tv (c_ (Hi (e:=Af) (y:=y23) rfl rfl tv rfl rfl tv e24) (⟨tv,Ao tv (c_ (v:=.agg (Af y23)) (Aq ⟨tv,tv⟩ rfl (nl rfl)) (⟨tv,Do (Bb (r:=.bool r25) false (H411 y21 y23 r25 e26) ⟨tv,tv,tv⟩ rfl rfl (fun _=>rfl) (VW ⟨[(0,Aa a0),(1,Aa a1),(5,iV p10),(25,.bool r25)],[],[]⟩ (Ar (by kernel_rfl)) ⟨[],tv,tv,Ao tv (c_ (Aq ⟨tv,tv⟩ rfl tv) (⟨tv,Jo (At ⟨[(0,Aa a0),(1,Aa a1),(5,iV p10),(26,.bool (!r25))],[],[]⟩ (Ar (by kernel_rfl)) (Cj (cb:=(!r25)) rfl (fun c27=>?_) (fun c27=>?_)))⟩))⟩)) Ca⟩))⟩))⟩))⟩))⟩))⟩))⟩))⟩)))
    ·replace h1:=ip c27 h1
     refine Ag (Ac (st (Bn tv (Aw (At ⟨[(4,.bool false)],[],[]⟩ (Ar (by kernel_rfl)) ?_)))))
     obtain rfl:=sj h1
     obtain rfl:=hx1 _ rfl
     obtain rfl:=sj h0
     exact Du (hR1 _ (Bp rfl rfl rfl rfl rfl tv))
    ·replace h1:=Fi c27 h1
     refine En (Qc (At ⟨[(0,Aa a0),(1,Aa a1),(5,iV p10)],[],[]⟩ (Ar (by kernel_rfl)) (Ac (st (An rfl tv (st (c_ (Aq t3 rfl tv) (st (An rfl tv (Aw ?_))))))))))
     obtain rfl:=sj h1
     exact hK1 _ rfl _ ⟨[(0,Aa a0),(1,Aa a1),(5,iV (wi (p10+1)))],[],[]⟩ (Ar (by kernel_rfl)) rfl
   ·replace h1:=Fi c20 h1
    obtain rfl:=sj h1
    obtain rfl:=hx1 _ rfl
    refine In rfl ?_
    exact hE1 _ ⟨[],[],[]⟩ (Ar (by kernel_rfl)) ⟨rfl,rfl⟩

/- loop.example/g00149/laws.markText -/
def FA:=[k_ 2 (.str [])]
def FB:=[m_ 4 0,B_ .leq 5 4 0]
def FC:=[k_ 2 (.str [109,48])]
def FD:=[k_ 3 (.str [])]
def FE:=[m_ 6 0,B_ .gtr 7 6 0]
def FF:List Bg:=[m_ 8 0,B_ .rem 9 8 10,⟨some 10,.p (.bin .add (.c (iV 48)) (.t 9)),none⟩,iQ 11 (.conv .u8 (.t 10)),⟨some 12,.mkS 1 [.int .u8 0] 1 [(0,.t 11)],none⟩,iQ 13 (.toStr (.t 12)),m_ 14 3,b_ .add 15 13 14,m_ 3 15]
def FG:=[m_ 16 0,B_ .quo 17 16 10,m_ 0 17]
def EZ:IR:=(.seq (sr FE (.ite (.t 7) .skip (.exit 0))) (.block 1 (sr FF (.reg FG))))
def FH:List Bg:=[m_ 18 3,⟨some 19,.p (.bin .add (.c (.str [109])) (.t 18)),none⟩,m_ 2 19]
def c316:Dl:=⟨1,20,[.t 2],sr FA (.seq (sr FB (iz 5 (rr FC))) (sr FD (.seq (Jt 0 EZ) (rr FH))))⟩
def K316 (D:Az):Prop:=∀a0 r,fL a0=some r→D 316 ⟨[iV a0],[]⟩ ⟨.str r,[],[]⟩
theorem F316:K316 (FO C c316):=by
 intro a0 r h0
 refine f0 (Ag (Ac (st (Bn tv (Aw (At ⟨[(0,iV a0)],[],[]⟩ (Ar (by kernel_rfl)) (Ag (Ag (Ac (st (An rfl tv (st (c_ (Aq t3 rfl tv) (Aw (At ⟨[(0,iV a0),(5,.bool (decide (a0≤0)))],[],[]⟩ (Ar (by kernel_rfl)) (Cj (cb:=(decide (a0≤0))) rfl (fun c1=>?_) (fun c1=>?_)))))))))))))))))
 ·replace h0:=ip c1 h0
  refine Ag (Ac (st (Bn tv (Aw (At ⟨[(2,.str ([109,48]:List UInt8))],[],[]⟩ (Ar (by kernel_rfl)) ?_)))))
  obtain rfl:=sj h0
  exact Du (Bp rfl rfl rfl rfl rfl tv)
 ·replace h0:=Fi c1 h0
  refine En (At ⟨[(0,iV a0)],[],[]⟩ (Ar (by kernel_rfl)) (Ag (Ac (st (Bn tv (Aw (At ⟨[(0,iV a0),(3,.str ([]:List UInt8))],[],[]⟩ (Ar (by kernel_rfl)) (Ag (Be ?_)))))))))
  obtain ⟨r15,e16,h0⟩:=bnd h0
  refine Cs (R:=(fun S=>∃p12:List UInt8,p12=r15∧S=⟨[(3,.str p12)],[],[]⟩)) (Vb) (fun s S=>match s with | (p6,p7)=>S=⟨[(0,iV p6),(3,.str p7)],[],[]⟩) e16 ⟨[(0,iV a0),(3,.str ([]:List UInt8))],[],[]⟩ (Ar (by kernel_rfl)) rfl 0 (fun _=>rfl) ?_ ?_
  ·rintro S _ hfg ⟨p12,rfl,rfl⟩
   refine At ⟨[(3,.str p12)],[],[]⟩ (Oz hfg (by kernel_rfl)) (Ag (Ac (st (An rfl tv ?_))))
   obtain ⟨c17,h0⟩:=Qd h0
   refine st (c_ (Aq ⟨tv,tv,tv⟩ rfl c17) (st (An rfl tv (Aw (At ⟨[(2,.str (([109]:List UInt8)++p12))],[],[]⟩ (Ar (by kernel_rfl)) ?_)))))
   obtain rfl:=sj h0
   exact Du (Bp rfl rfl rfl rfl rfl tv)
  ·rintro ⟨p6,p7⟩ o1 _ K1 rfl h1 hx1 hK1 hE1 hR1
   refine Ag (Ag (Ac (st (An rfl tv (st (c_ (Aq t3 rfl tv) (Aw (At ⟨[(0,iV p6),(3,.str p7),(7,.bool (decide (p6>0)))],[],[]⟩ (Ar (by kernel_rfl)) (Cj (cb:=(decide (p6>0))) rfl (fun c13=>?_) (fun c13=>?_))))))))))
   ·replace h1:=ip c13 h1
    refine En (At ⟨[(0,iV p6),(3,.str p7)],[],[]⟩ (Ar (by kernel_rfl)) (Be (Ag (Ac (st (An rfl tv (st (c_ (Aq ⟨tv,tv,tv⟩ rfl (by decide)) (st (c_ (Aq t3 rfl tv) (st (c_ (iG (Aq ⟨tv,tv⟩ rfl tv)) (st (Ia ⟨tv,tv⟩ ⟨⟨nl rfl,rfl,rfl⟩,tv⟩ (st (c_ (VT (s:=([b8 (wi (48+((p6).tmod 10)))]:List UInt8)) rfl rfl tv) (st (An rfl tv ?_))))))))))))))))))
    obtain ⟨c14,h1⟩:=Qd h1
    refine st (c_ (Aq ⟨tv,tv,tv⟩ rfl c14) (st (An rfl tv (Aw (At ⟨[(0,iV p6),(3,.str (([b8 (wi (48+((p6).tmod 10)))]:List UInt8)++p7))],[],[]⟩ (Ar (by kernel_rfl)) (Ac (st (An rfl tv (st (c_ (Aq ⟨tv,tv,tv⟩ rfl (by decide)) (st (An rfl tv (Aw (Qc ?_))))))))))))))
    obtain rfl:=sj h1
    exact hK1 _ rfl _ ⟨[(0,iV (wi ((p6).tdiv 10))),(3,.str (([b8 (wi (48+((p6).tmod 10)))]:List UInt8)++p7))],[],[]⟩ (Ar (by kernel_rfl)) rfl
   ·replace h1:=Fi c13 h1
    obtain rfl:=sj h1
    obtain rfl:=hx1 _ rfl
    refine In rfl ?_
    exact hE1 _ ⟨[(3,.str p7)],[],[]⟩ (Ar (by kernel_rfl)) ⟨_,rfl,rfl⟩

/- loop.example/g00149/laws.markChangeS -/
def MW:=[i_ 4 0]
def MX:=[i_ 5 0]
def MY:=[m_ 6 5,m_ 7 0,n_ 8 7,b_ .lss 9 6 8]
def MZ:=[m_ 12 0,m_ 13 5,m_ 14 1,q_ 15 316 [.t 14],x_ 16 12 13 3,f_ 17 16 0,s_ 17 15 1]
def NA:=[m_ 18 1,B_ .add 19 18 1,m_ 1 19]
def NC:=[m_ 20 0,m_ 21 5,m_ 22 1,q_ 23 316 [.t 22],x_ 24 20 21 3,f_ 25 24 1,s_ 25 23 1]
def ND:=[m_ 26 1,B_ .add 27 26 1,m_ 1 27]
def NE:=[m_ 28 0,m_ 29 5,m_ 30 1,B_ .rem 31 30 3,B_ .eql 32 31 0,x_ 33 28 29 3,f_ 34 33 2,s_ 34 32 1]
def NG:=[m_ 35 1,B_ .add 36 35 1,m_ 1 36]
def NH:=[m_ 10 5,B_ .add 11 10 1,m_ 5 11]
def MV:IR:=(.seq (sr MY (.ite (.t 9) .skip (.exit 0))) (.seq (.block 1 (sr MZ (sr NA (sr NC (sr ND (sr NE (.reg NG))))))) (.reg NH)))
def pW:=[m_ 37 1,m_ 4 37]
def c391:Dl:=⟨2,38,[.t 4],sr MW (.seq (sr MX (Jt 0 MV)) (rr pW))⟩
def K391 (D:Az):Prop:=∀a0 a1 r,XS a0 a1=some r→D 391 ⟨[Am 2097152 a0,iV a1],[]⟩ ⟨iV r.1,[],[(0,3,r.2.map Af)]⟩
theorem F391 (H316:K316 C):K391 (FO C c391):=by
 intro a0 a1 r h0
 refine f0 (Ag (Ac (st (Bn tv (Aw (At ⟨[(0,Am 2097152 a0),(1,iV a1)],[],[]⟩ (Ar (by kernel_rfl)) (Ag (Ag (Ac (st (Bn tv (Aw (At ⟨[(0,Am 2097152 a0),(1,iV a1),(5,iV 0)],[],[]⟩ (Ar (by kernel_rfl)) (Be ?_))))))))))))))
 obtain ⟨r78,e79,h0⟩:=bnd h0
 refine Cs (R:=(fun S=>∃p53:List Ab,∃p54:Int,(p53,p54)=r78∧S=⟨[(0,Am 2097152 p53),(1,iV p54)],[],[]⟩)) (Rf) (fun s S=>match s with | (p24,p25,p26)=>S=⟨[(0,Am 2097152 p24),(1,iV p25),(5,iV p26)],[],[]⟩) e79 ⟨[(0,Am 2097152 a0),(1,iV a1),(5,iV 0)],[],[]⟩ (Ar (by kernel_rfl)) rfl 0 (fun _=>rfl) ?_ ?_
 ·rintro S _ hfg ⟨p53,p54,rfl,rfl⟩
  refine At ⟨[(0,Am 2097152 p53),(1,iV p54)],[],[]⟩ (Oz hfg (by kernel_rfl)) (Ag (Ac (st (An rfl tv (st (An rfl tv (Aw (At ⟨[(0,Am 2097152 p53),(4,iV p54)],[],[]⟩ (Ar (by kernel_rfl)) ?_))))))))
  obtain rfl:=sj h0
  exact Du (Bp rfl rfl rfl rfl rfl ⟨⟨rfl,dN (fun _=>rfl)⟩,tv⟩)
 ·rintro ⟨p24,p25,p26⟩ o1 _ K1 rfl h1 hx1 hK1 hE1 hR1
  refine Ag (Ag (Ac (st (An rfl tv (st (An rfl tv (st (c_ (Jb (e:=Af) (l0:=p24) rfl rfl tv) (st (c_ (Aq t3 rfl tv) (Aw (At ⟨[(0,Am 2097152 p24),(1,iV p25),(5,iV p26),(9,.bool (decide (p26<(p24.length:Int))))],[],[]⟩ (Ar (by kernel_rfl)) (Cj (cb:=(decide (p26<(p24.length:Int)))) rfl (fun c55=>?_) (fun c55=>?_))))))))))))))
  ·replace h1:=ip c55 h1
   refine En (At ⟨[(0,Am 2097152 p24),(1,iV p25),(5,iV p26)],[],[]⟩ (Ar (by kernel_rfl)) (Ag (Be (Ag (Ac (st (An rfl tv (st (An rfl tv (st (An rfl tv ?_)))))))))))
   obtain ⟨r56,e57,h1⟩:=bnd h1
   refine st (Bb (r:=.str r56) false (H316 p25 r56 e57) ⟨tv,tv⟩ rfl rfl (fun _=>rfl) ?_)
   obtain ⟨y58,e59,h1⟩:=bnd h1
   refine st (c_ (Tq (e:=Af) (y:=y58) rfl rfl tv rfl rfl tv e59) (st (c_ (Aq ⟨tv,tv⟩ rfl tv) ?_)))
   obtain ⟨y60,e61,h1⟩:=bnd h1
   refine st (uS (y':=(Ab.mk r56 y60.value y60.Dm)) rfl rfl tv rfl rfl rfl rfl e61 (nl rfl) rfl rfl rfl rfl (Aw (At ⟨[(0,Am 2097152 (p24.set p26.toNat (Ab.mk r56 y60.value y60.Dm))),(1,iV p25),(5,iV p26)],[],[]⟩ (fg ⟨congrArg (fun z=>some ((.own 2097152 0 3 z:V))) Fl,rfl,rfl,tv⟩ tv) (Ag (Ac (st (An rfl tv (st (c_ (Aq t3 rfl tv) (st (An rfl tv (Aw (At ⟨[(0,Am 2097152 (p24.set p26.toNat (Ab.mk r56 y60.value y60.Dm))),(1,iV (wi (p25+1))),(5,iV p26)],[],[]⟩ (Ar (by kernel_rfl)) (Ag (Ac (st (An rfl tv (st (An rfl tv (st (An rfl tv ?_)))))))))))))))))))))
   obtain ⟨r62,e63,h1⟩:=bnd h1
   refine st (Bb (r:=.str r62) false (H316 (wi (p25+1)) r62 e63) ⟨tv,tv⟩ rfl rfl (fun _=>rfl) ?_)
   obtain ⟨y64,e65,h1⟩:=bnd h1
   refine st (c_ (Tq (e:=Af) (y:=y64) rfl rfl tv rfl rfl tv e65) (st (c_ (Aq ⟨tv,tv⟩ rfl tv) ?_)))
   obtain ⟨y66,e67,h1⟩:=bnd h1
   refine st (uS (y':=(Ab.mk y66.key r62 y66.Dm)) rfl rfl tv rfl rfl rfl rfl e67 (nl rfl) rfl rfl rfl rfl (Aw (At ⟨[(0,Am 2097152 ((p24.set p26.toNat (Ab.mk r56 y60.value y60.Dm)).set p26.toNat (Ab.mk y66.key r62 y66.Dm))),(1,iV (wi (p25+1))),(5,iV p26)],[],[]⟩ (fg ⟨congrArg (fun z=>some ((.own 2097152 0 3 z:V))) Fl,rfl,rfl,tv⟩ tv) (Ag (Ac (st (An rfl tv (st (c_ (Aq t3 rfl tv) (st (An rfl tv (Aw ?_))))))))))))
   obtain ⟨v68,e69,h1⟩:=bl h1
   refine At ⟨[(0,Am 2097152 v68),(1,iV (wi ((wi (p25+1))+1))),(5,iV p26)],[],[]⟩ (Ar (by subst e69; kernel_rfl)) (Ag (Ac (st (An rfl tv (st (An rfl tv (st (An rfl tv (st (c_ (Aq ⟨tv,tv,tv⟩ rfl (by decide)) (st (c_ (Aq t3 rfl tv) ?_))))))))))))
   obtain ⟨y70,e71,h1⟩:=bnd h1
   refine st (c_ (Tq (e:=Af) (y:=y70) rfl rfl tv rfl rfl tv e71) (st (c_ (Aq ⟨tv,tv⟩ rfl tv) ?_)))
   obtain ⟨y72,e73,h1⟩:=bnd h1
   refine st (uS (y':=(Ab.mk y72.key y72.value ((((wi ((wi (p25+1))+1))).tmod 3)==0))) rfl rfl tv rfl rfl rfl rfl e73 (nl rfl) rfl rfl rfl rfl (Aw (At ⟨[(0,.own 2097152 0 3 ((v68.set p26.toNat (Ab.mk y72.key y72.value ((((wi ((wi (p25+1))+1))).tmod 3)==0))).map Af)),(1,iV (wi ((wi (p25+1))+1))),(5,iV p26)],[],[]⟩ (fg ⟨congrArg (fun z=>some ((.own 2097152 0 3 z:V))) Fl,rfl,rfl,tv⟩ tv) (Ac (st (An rfl tv (st (c_ (Aq t3 rfl tv) (st (An rfl tv (Aw (Qc ?_))))))))))))
   obtain ⟨v74,e75,h1⟩:=bl h1
   obtain ⟨v76,e77,h1⟩:=bl h1
   refine At ⟨[(0,Am 2097152 v74),(1,iV v76),(5,iV p26)],[],[]⟩ (Ar (by subst e75 e77; kernel_rfl)) (Ac (st (An rfl tv (st (c_ (Aq t3 rfl tv) (st (An rfl tv (Aw ?_))))))))
   obtain rfl:=sj h1
   exact hK1 _ rfl _ ⟨[(0,Am 2097152 v74),(1,iV v76),(5,iV (wi (p26+1)))],[],[]⟩ (Ar (by kernel_rfl)) rfl
  ·replace h1:=Fi c55 h1
   obtain rfl:=sj h1
   obtain rfl:=hx1 _ rfl
   refine In rfl ?_
   exact hE1 _ ⟨[(0,Am 2097152 p24),(1,iV p25)],[],[]⟩ (Ar (by kernel_rfl)) ⟨_,_,rfl,rfl⟩

/- loop.example/g00149/laws.FnExactCommit -/
def KH:=[X_ 2 0,k_ 4 (.bool false)]
def KI:=[i_ 5 1048576]
def KJ:=[L_ 17 2 2,m_ 18 5,q_ 19 228 [.t 17,.t 18],m_ 5 19]
def KK:=[m_ 20 5,B_ .lss 21 20 0]
def KL:=[k_ 4 (.bool true)]
def KM:=[m_ 22 1,m_ 23 5,q_ 24 387 [.t 22,.t 23],m_ 5 24]
def KN:=[m_ 25 5,B_ .lss 26 25 0]
def KO:=[k_ 4 (.bool true)]
def KP:=[L_ 28 2 2,q_ 29 230 [.t 28],m_ 30 1,q_ 31 389 [.t 30],q_ 32 388 [.t 29,.t 31],m_ 27 32,e_ 33 27 0,e_ 34 27 1,a_ 6 [.own 385 0 1 [],.own 386 0 2 []],s_ 6 33 2,m_ 7 34]
def KQ:=[L_ 35 2 2,q_ 36 230 [.t 35],a_ 8 [.own 513 0 1 [],.own 514 0 2 []],s_ 8 36 2]
def oM:=[m_ 37 1,q_ 38 389 [.t 37],m_ 9 38]
def oN:=[L_ 40 8 2,m_ 41 9,q_ 42 382 [.t 40,.t 41],m_ 39 42,e_ 43 39 0,e_ 44 39 1,a_ 10 [.own 641 0 1 [],.own 642 0 2 []],s_ 10 43 2,m_ 11 44]
def oO:=[L_ 45 10 2,L_ 46 6 2,q_ 47 232 [.t 45,.t 46],N_ 48 47,m_ 49 48,mF 49 50 11,mF 49 51 7,pF 49 52 (.bin .neq (.t 50) (.t 51)),po 53 49 52]
def oP:=[k_ 4 (.bool false)]
def oQ:=tk [L_ 54 8 2,L_ 55 2 2] (.alt [L_ 54 8 2] (q_ 56 230 [.t 55]) (.alt [] (q_ 57 232 [.t 54,.t 56]) (tk [N_ 58 57] .fin) .stop) .stop)
def oR:=[k_ 4 (.bool false)]
def oS:=[m_ 59 9,m_ 60 1,q_ 61 389 [.t 60],q_ 62 390 [.t 59,.t 61],N_ 63 62]
def oT:=[k_ 4 (.bool false)]
def oU:=[i_ 12 1]
def oV:=[L_ 64 8 2,m_ 65 12,q_ 66 234 [.t 64,.t 65],m_ 12 66]
def oW:=[m_ 67 9,m_ 68 12,q_ 69 391 [.t 67,.t 68],m_ 12 69]
def oX:List Bg:=[m_ 70 12,B_ .lss 71 70 0,m_ 72 71,lF 72 73 10 2 true,lF 72 74 6 2 true,⟨some 75,.call 232 [.t 73,.t 74],some (72,false)⟩,pF 72 76 (.un .not (.t 75)),po 77 72 76,m_ 78 77,mF 78 79 11,mF 78 80 7,pF 78 81 (.bin .neq (.t 79) (.t 80)),po 82 78 81]
def oY:=[k_ 4 (.bool false)]
def oZ:=[i_ 13 1]
def pA:=[L_ 83 10 2,m_ 84 13,q_ 85 234 [.t 83,.t 84],m_ 13 85]
def pB:=[i_ 14 1]
def pC:=[L_ 86 10 2,m_ 87 14,q_ 88 236 [.t 86,.t 87],m_ 14 88]
def pD:=[m_ 89 14,B_ .lss 90 89 0]
def pE:=[k_ 4 (.bool false)]
def pG:=[m_ 91 14,m_ 92 13,b_ .neq 93 91 92]
def pH:=[k_ 4 (.bool false)]
def pI:=[L_ 95 2 2,q_ 96 230 [.t 95],m_ 97 1,q_ 98 389 [.t 97],q_ 99 382 [.t 96,.t 98],m_ 94 99,e_ 100 94 0,e_ 101 94 1,a_ 15 [.own 961 0 1 [],.own 962 0 2 []],s_ 15 100 2,m_ 16 101]
def pJ:=[L_ 102 15 2,L_ 103 6 2,q_ 104 232 [.t 102,.t 103],N_ 105 104,m_ 106 105,mF 106 107 16,mF 106 108 7,pF 106 109 (.bin .neq (.t 107) (.t 108)),po 110 106 109]
def pK:=[k_ 4 (.bool false)]
def pL:=[i_ 14 1]
def pM:=[L_ 111 10 2,m_ 112 14,q_ 113 236 [.t 111,.t 112],m_ 14 113]
def pN:=[m_ 114 14,B_ .lss 115 114 0]
def pO:=[k_ 4 (.bool false)]
def pP:=[m_ 116 14,m_ 117 13,b_ .neq 118 116 117]
def pQ:=[k_ 4 (.bool false)]
def pR:=[k_ 4 (.bool true)]
def c378:Dl:=⟨2,119,[.t 4],sr KH (sr KI (sr KJ (.seq (sr KK (iz 21 (rr KL))) (sr KM (.seq (sr KN (iz 26 (rr KO))) (sr KP (sr KQ (sr oM (sr oN (.seq (sr oO (iz 53 (rr oP))) (.seq (sd oQ (iz 58 (rr oR))) (.seq (sr oS (iz 63 (rr oT))) (sr oU (sr oV (sr oW (.seq (sr oX (iz 82 (rr oY))) (sr oZ (sr pA (sr pB (sr pC (.seq (sr pD (iz 90 (rr pE))) (.seq (sr pG (iz 93 (rr pH))) (sr pI (.seq (sr pJ (iz 110 (rr pK))) (sr pL (sr pM (.seq (sr pN (iz 115 (rr pO))) (.seq (sr pP (iz 118 (rr pQ))) (rr pR)))))))))))))))))))))))))))))⟩
def K378 (D:Az):Prop:=∀a0 a1 r,g378 a0 a1=some r→D 378 ⟨[.agg (Ah a0),Aa a1],[]⟩ ⟨.bool r,[],[]⟩
theorem F378 (H228:K228 C) (H230:K230 C) (H232:K232 C) (H234:K234 C) (H236:K236 C) (H382:K382 C) (H387:K387 C) (H388:K388 C) (H389:K389 C) (H390:K390 C) (H391:K391 C):K378 (FO C c378):=by
 intro a0 a1 r h0
 refine f0 (Ag (Ac (st (Mk rfl tv rfl (st (Bn tv (Aw (At ⟨[(1,Aa a1),(2,.ptr 128 0)],[(128,Ah a0)],[]⟩ (Ar (by kernel_rfl)) (Ag (Ac (st (Bn tv (Aw (At ⟨[(1,Aa a1),(2,.ptr 128 0),(5,iV 1048576)],[(128,Ah a0)],[]⟩ (Ar (by kernel_rfl)) (Ag (Ac (st (c_ (v:=.agg (Ah a0)) (Aq ⟨tv,tv⟩ rfl (nl rfl)) (st (An rfl tv ?_))))))))))))))))))))
 obtain ⟨r1,e2,h0⟩:=bnd h0
 refine st (Bb (r:=iV r1) false (H228 a0 1048576 r1 e2) ⟨tv,tv,tv⟩ rfl rfl (fun _=>rfl) (st (An rfl tv (Aw (At ⟨[(1,Aa a1),(2,.ptr 128 0),(5,iV r1)],[(128,Ah a0)],[]⟩ (Ar (by kernel_rfl)) (Ag (Ag (Ac (st (An rfl tv (st (c_ (Aq t3 rfl tv) (Aw (At ⟨[(1,Aa a1),(2,.ptr 128 0),(5,iV r1),(21,.bool (decide (r1<0)))],[(128,Ah a0)],[]⟩ (Ar (by kernel_rfl)) (Cj (cb:=(decide (r1<0))) rfl (fun c3=>?_) (fun c3=>?_))))))))))))))))
 ·replace h0:=ip c3 h0
  refine Ag (Ac (st (Bn tv (Aw (At ⟨[(4,.bool true)],[],[]⟩ (Ar (by kernel_rfl)) ?_)))))
  obtain rfl:=sj h0
  exact Du (Bp rfl rfl rfl rfl rfl tv)
 ·replace h0:=Fi c3 h0
  refine En (At ⟨[(1,Aa a1),(2,.ptr 128 0),(5,iV r1)],[(128,Ah a0)],[]⟩ (Ar (by kernel_rfl)) (Ag (Ac (st (An rfl tv (st (An rfl tv ?_)))))))
  obtain ⟨r4,e5,h0⟩:=bnd h0
  refine st (Bb (r:=iV r4) false (H387 a1 r1 r4 e5) ⟨tv,tv,tv⟩ rfl rfl (fun _=>rfl) (st (An rfl tv (Aw (At ⟨[(1,Aa a1),(2,.ptr 128 0),(5,iV r4)],[(128,Ah a0)],[]⟩ (Ar (by kernel_rfl)) (Ag (Ag (Ac (st (An rfl tv (st (c_ (Aq t3 rfl tv) (Aw (At ⟨[(1,Aa a1),(2,.ptr 128 0),(26,.bool (decide (r4<0)))],[(128,Ah a0)],[]⟩ (Ar (by kernel_rfl)) (Cj (cb:=(decide (r4<0))) rfl (fun c6=>?_) (fun c6=>?_))))))))))))))))
  ·replace h0:=ip c6 h0
   refine Ag (Ac (st (Bn tv (Aw (At ⟨[(4,.bool true)],[],[]⟩ (Ar (by kernel_rfl)) ?_)))))
   obtain rfl:=sj h0
   exact Du (Bp rfl rfl rfl rfl rfl tv)
  ·replace h0:=Fi c6 h0
   refine En (At ⟨[(1,Aa a1),(2,.ptr 128 0)],[(128,Ah a0)],[]⟩ (Ar (by kernel_rfl)) (Ag (Ac (st (c_ (v:=.agg (Ah a0)) (Aq ⟨tv,tv⟩ rfl (nl rfl)) ?_)))))
   obtain ⟨r7,e8,h0⟩:=bnd h0
   refine st (Bb (r:=.agg (Ak r7 (Bk 0) (Bk 33))) false (H230 a0 r7 e8) ⟨tv,tv⟩ rfl rfl (fun _=>(Cd (Qo (fun _=>rfl)) (Cd (Wj rfl) rfl))) (st (An rfl tv ?_)))
   obtain ⟨r9,e10,h0⟩:=bnd h0
   refine st (Bb (r:=Am 0 r9) false (H389 a1 r9 e10) ⟨tv,tv⟩ rfl rfl (fun _=>(Cd (Qo (fun _=>rfl)) rfl)) ?_)
   obtain ⟨r11,e12,h0⟩:=bnd h0
   refine sw ⟨[(1,Aa a1),(2,.ptr 128 0),(29,.agg (Ak r7 (Bk 1856) (Bk 1889))),(31,Am 1984 r9)],[(128,Ah a0)],[]⟩ (Ar (by kernel_rfl)) (Bb (r:=.tup [.agg (Ak r11.1 (Bk 0) (Bk 1)),iV r11.2]) true (H388 r7 r9 r11 e12) ⟨tv,tv,tv⟩ rfl rfl (fun h=>nomatch h) (sw ⟨[(1,Aa a1),(2,.ptr 128 0),(32,.tup [.agg (Ak r11.1 (Bk 2048) (Bk 2049)),iV r11.2])],[(128,Ah a0)],[]⟩ (Ar (by kernel_rfl)) (An rfl tv (st (c_ (Aq ⟨tv,tv⟩ rfl tv) (st (c_ (Aq ⟨tv,tv⟩ rfl tv) (st (Eb (sw ⟨[(1,Aa a1),(2,.ptr 128 0),(6,.ptr 384 0),(33,.agg (Ak r11.1 (Bk 2048) (Bk 2049))),(34,iV r11.2)],[(128,Ah a0),(384,[Ba 385 [],Ad 418 []])],[]⟩ (Jp [] [(386,418)] rfl (by kernel_rfl)) (Ej rfl rfl tv rfl rfl rfl (nl rfl) (st (An rfl tv (Aw (At ⟨[(1,Aa a1),(2,.ptr 128 0),(6,.ptr 384 0),(7,iV r11.2)],[(128,Ah a0),(384,Ak r11.1 (Bk 2048) (Bk 2049))],[]⟩ (Ar (by kernel_rfl)) (Ag (Ac (st (c_ (v:=.agg (Ah a0)) (Aq ⟨tv,tv⟩ rfl (nl rfl)) ?_)))))))))))))))))))
   obtain ⟨r13,e14,h0⟩:=bnd h0
   refine st (Bb (r:=.agg (Ak r13 (Bk 0) (Bk 33))) false (H230 a0 r13 e14) ⟨tv,tv⟩ rfl rfl (fun _=>(Cd (Qo (fun _=>rfl)) (Cd (Wj rfl) rfl))) (st (Eb (sw ⟨[(1,Aa a1),(2,.ptr 128 0),(6,.ptr 384 0),(7,iV r11.2),(8,.ptr 512 0),(36,.agg (Ak r13 (Bk 2304) (Bk 2337)))],[(128,Ah a0),(384,Ak r11.1 (Bk 2048) (Bk 2049)),(512,[Ba 513 [],Ad 546 []])],[]⟩ (Jp [] [(514,546)] rfl (by kernel_rfl)) (Ej rfl rfl tv rfl rfl rfl (nl rfl) (Aw (At ⟨[(1,Aa a1),(2,.ptr 128 0),(6,.ptr 384 0),(7,iV r11.2),(8,.ptr 512 0)],[(128,Ah a0),(384,Ak r11.1 (Bk 2048) (Bk 2049)),(512,Ak r13 (Bk 2304) (Bk 2337))],[]⟩ (Ar (by kernel_rfl)) (Ag (Ac (st (An rfl tv ?_)))))))))))
   obtain ⟨r15,e16,h0⟩:=bnd h0
   refine st (Bb (r:=Am 0 r15) false (H389 a1 r15 e16) ⟨tv,tv⟩ rfl rfl (fun _=>(Cd (Qo (fun _=>rfl)) rfl)) (st (An rfl tv (Aw (At ⟨[(1,Aa a1),(2,.ptr 128 0),(6,.ptr 384 0),(7,iV r11.2),(8,.ptr 512 0),(9,Am 2432 r15)],[(128,Ah a0),(384,Ak r11.1 (Bk 2048) (Bk 2049)),(512,Ak r13 (Bk 2304) (Bk 2337))],[]⟩ (Ar (by kernel_rfl)) (Ag (Ac (st (c_ (v:=.agg (Ak r13 (Bk 2304) (Bk 2337))) (Aq ⟨tv,tv⟩ rfl (nl rfl)) (st (An rfl tv ?_)))))))))))
   obtain ⟨r17,e18,h0⟩:=bnd h0
   refine st (Bb (r:=.tup [.agg (Ak r17.1 (Bk 0) (Bk 33)),iV r17.2]) false (H382 r13 r15 r17 e18) ⟨tv,tv,tv⟩ rfl rfl (fun _=>(Cd (Qo (fun _=>rfl)) (Cd (Wj rfl) (Cd rfl rfl)))) (st (An rfl tv (st (c_ (Aq ⟨tv,tv⟩ rfl tv) (st (c_ (Aq ⟨tv,tv⟩ rfl tv) (st (Eb (sw ⟨[(1,Aa a1),(2,.ptr 128 0),(6,.ptr 384 0),(7,iV r11.2),(8,.ptr 512 0),(9,Am 2432 r15),(10,.ptr 640 0),(43,.agg (Ak r17.1 (Bk 2688) (Bk 2721))),(44,iV r17.2)],[(128,Ah a0),(384,Ak r11.1 (Bk 2048) (Bk 2049)),(512,Ak r13 (Bk 2304) (Bk 2337)),(640,[Ba 641 [],Ad 674 []])],[]⟩ (Jp [] [(642,674)] rfl (by kernel_rfl)) (Ej rfl rfl tv rfl rfl rfl (nl rfl) (st (An rfl tv (Aw (At ⟨[(1,Aa a1),(2,.ptr 128 0),(6,.ptr 384 0),(7,iV r11.2),(8,.ptr 512 0),(9,Am 2432 r15),(10,.ptr 640 0),(11,iV r17.2)],[(128,Ah a0),(384,Ak r11.1 (Bk 2048) (Bk 2049)),(512,Ak r13 (Bk 2304) (Bk 2337)),(640,Ak r17.1 (Bk 2688) (Bk 2721))],[]⟩ (Ar (by kernel_rfl)) (Ag (Ag (Ac (st (c_ (v:=.agg (Ak r17.1 (Bk 2688) (Bk 2721))) (Aq ⟨tv,tv⟩ rfl (nl rfl)) (st (c_ (v:=.agg (Ak r11.1 (Bk 2048) (Bk 2049))) (Aq ⟨tv,tv⟩ rfl (nl rfl)) ?_))))))))))))))))))))))
   obtain ⟨r19,e20,h0⟩:=bnd h0
   refine st (Bb (r:=.bool r19) false (H232 r17.1 r11.1 r19 e20) ⟨tv,tv,tv⟩ rfl rfl (fun _=>rfl) (st (c_ (Aq ⟨tv,tv⟩ rfl tv) (st (An rfl tv (st (Cx (u:=iV r17.2) rfl (fun hg=>(Ki (v:=iV r17.2) rfl tv)) (st (Cx (u:=iV r11.2) rfl (fun hg=>(Ki (v:=iV r11.2) rfl tv)) (st (Cx (u:=.bool (r17.2 != r11.2)) rfl (fun hg=>(Aq ⟨(fun _=>hg),(fun _=>hg),tv⟩ rfl tv)) (st (Ea rfl rfl rfl tv (fun h=>aX h) rfl (Aw (At ⟨[(1,Aa a1),(2,.ptr 128 0),(6,.ptr 384 0),(7,iV r11.2),(8,.ptr 512 0),(9,Am 2432 r15),(10,.ptr 640 0),(11,iV r17.2),(53,.bool (bif (!r19) then true else (r17.2 != r11.2)))],[(128,Ah a0),(384,Ak r11.1 (Bk 2048) (Bk 2049)),(512,Ak r13 (Bk 2304) (Bk 2337)),(640,Ak r17.1 (Bk 2688) (Bk 2721))],[]⟩ (Ar (by kernel_rfl)) (Cj (cb:=(bif (!r19) then true else (r17.2 != r11.2))) rfl (fun c21=>?_) (fun c21=>?_)))))))))))))))))
   ·replace h0:=ip c21 h0
    refine Ag (Ac (st (Bn tv (Aw (At ⟨[(4,.bool false)],[],[]⟩ (Ar (by kernel_rfl)) ?_)))))
    obtain rfl:=sj h0
    exact Du (Bp rfl rfl rfl rfl rfl tv)
   ·replace h0:=Fi c21 h0
    refine En (At ⟨[(1,Aa a1),(2,.ptr 128 0),(6,.ptr 384 0),(7,iV r11.2),(8,.ptr 512 0),(9,Am 2432 r15),(10,.ptr 640 0),(11,iV r17.2)],[(128,Ah a0),(384,Ak r11.1 (Bk 2048) (Bk 2049)),(512,Ak r13 (Bk 2304) (Bk 2337)),(640,Ak r17.1 (Bk 2688) (Bk 2721))],[]⟩ (Ar (by kernel_rfl)) (Ag (Ag ?_)))
    obtain ⟨r22,e23,h0⟩:=bnd h0
    obtain ⟨r24,e25,h0⟩:=bnd h0
    refine Dj (Ao tv (c_ (v:=.agg (Ak r13 (Bk 2304) (Bk 2337))) (Aq ⟨tv,tv⟩ rfl (nl rfl)) (⟨tv,Ao tv (c_ (v:=.agg (Ah a0)) (Aq ⟨tv,tv⟩ rfl (nl rfl)) (⟨tv,Do (Bb (r:=.agg (Ak r22 (Bk 0) (Bk 33))) false (H230 a0 r22 e23) ⟨tv,tv⟩ rfl rfl (fun _=>(Cd (Qo (fun _=>rfl)) (Cd (Wj rfl) rfl))) (VW ⟨[(1,Aa a1),(2,.ptr 128 0),(6,.ptr 384 0),(7,iV r11.2),(8,.ptr 512 0),(9,Am 2432 r15),(10,.ptr 640 0),(11,iV r17.2),(54,.agg (Ak r13 (Bk 2304) (Bk 2337))),(56,.agg (Ak r22 (Bk 3584) (Bk 3617)))],[(128,Ah a0),(384,Ak r11.1 (Bk 2048) (Bk 2049)),(512,Ak r13 (Bk 2304) (Bk 2337)),(640,Ak r17.1 (Bk 2688) (Bk 2721))],[]⟩ (Ar (by kernel_rfl)) ⟨[],⟨⟨.inl tv,Cq (Aq ⟨tv,tv⟩ rfl (nl rfl)) rfl⟩,tv⟩,tv,Do (Bb (r:=.bool r24) false (H232 r13 r22 r24 e25) ⟨tv,tv,tv⟩ rfl rfl (fun _=>rfl) (VW ⟨[(1,Aa a1),(2,.ptr 128 0),(6,.ptr 384 0),(7,iV r11.2),(8,.ptr 512 0),(9,Am 2432 r15),(10,.ptr 640 0),(11,iV r17.2),(57,.bool r24)],[(128,Ah a0),(384,Ak r11.1 (Bk 2048) (Bk 2049)),(512,Ak r13 (Bk 2304) (Bk 2337)),(640,Ak r17.1 (Bk 2688) (Bk 2721))],[]⟩ (Ar (by kernel_rfl)) ⟨[],tv,tv,Ao tv (c_ (Aq ⟨tv,tv⟩ rfl tv) (⟨tv,Jo (At ⟨[(1,Aa a1),(2,.ptr 128 0),(6,.ptr 384 0),(7,iV r11.2),(8,.ptr 512 0),(9,Am 2432 r15),(10,.ptr 640 0),(11,iV r17.2),(58,.bool (!r24))],[(128,Ah a0),(384,Ak r11.1 (Bk 2048) (Bk 2049)),(512,Ak r13 (Bk 2304) (Bk 2337)),(640,Ak r17.1 (Bk 2688) (Bk 2721))],[]⟩ (Ar (by kernel_rfl)) (Cj (cb:=(!r24)) rfl (fun c26=>?_) (fun c26=>?_)))⟩))⟩)) Ca⟩)) Ca⟩))⟩)))
    ·replace h0:=ip c26 h0
     refine Ag (Ac (st (Bn tv (Aw (At ⟨[(4,.bool false)],[],[]⟩ (Ar (by kernel_rfl)) ?_)))))
     obtain rfl:=sj h0
     exact Du (Bp rfl rfl rfl rfl rfl tv)
    ·replace h0:=Fi c26 h0
     refine En (At ⟨[(1,Aa a1),(2,.ptr 128 0),(6,.ptr 384 0),(7,iV r11.2),(8,.ptr 512 0),(9,Am 2432 r15),(10,.ptr 640 0),(11,iV r17.2)],[(128,Ah a0),(384,Ak r11.1 (Bk 2048) (Bk 2049)),(512,Ak r13 (Bk 2304) (Bk 2337)),(640,Ak r17.1 (Bk 2688) (Bk 2721))],[]⟩ (Ar (by kernel_rfl)) (Ag (Ag (Ac (st (An rfl tv (st (An rfl tv ?_))))))))
     obtain ⟨r27,e28,h0⟩:=bnd h0
     refine st (Bb (r:=Am 0 r27) false (H389 a1 r27 e28) ⟨tv,tv⟩ rfl rfl (fun _=>(Cd (Qo (fun _=>rfl)) rfl)) ?_)
     obtain ⟨r29,e30,h0⟩:=bnd h0
     refine st (Bb (r:=.bool r29) false (H390 r15 r27 r29 e30) ⟨tv,tv,tv⟩ rfl rfl (fun _=>rfl) (st (c_ (Aq ⟨tv,tv⟩ rfl tv) (Aw (At ⟨[(1,Aa a1),(2,.ptr 128 0),(6,.ptr 384 0),(7,iV r11.2),(8,.ptr 512 0),(9,Am 2432 r15),(10,.ptr 640 0),(11,iV r17.2),(63,.bool (!r29))],[(128,Ah a0),(384,Ak r11.1 (Bk 2048) (Bk 2049)),(512,Ak r13 (Bk 2304) (Bk 2337)),(640,Ak r17.1 (Bk 2688) (Bk 2721))],[]⟩ (Ar (by kernel_rfl)) (Cj (cb:=(!r29)) rfl (fun c31=>?_) (fun c31=>?_)))))))
     ·replace h0:=ip c31 h0
      refine Ag (Ac (st (Bn tv (Aw (At ⟨[(4,.bool false)],[],[]⟩ (Ar (by kernel_rfl)) ?_)))))
      obtain rfl:=sj h0
      exact Du (Bp rfl rfl rfl rfl rfl tv)
     ·replace h0:=Fi c31 h0
      refine En (At ⟨[(1,Aa a1),(2,.ptr 128 0),(6,.ptr 384 0),(7,iV r11.2),(8,.ptr 512 0),(9,Am 2432 r15),(10,.ptr 640 0),(11,iV r17.2)],[(128,Ah a0),(384,Ak r11.1 (Bk 2048) (Bk 2049)),(512,Ak r13 (Bk 2304) (Bk 2337)),(640,Ak r17.1 (Bk 2688) (Bk 2721))],[]⟩ (Ar (by kernel_rfl)) (Ag (Ac (st (Bn tv (Aw (At ⟨[(1,Aa a1),(2,.ptr 128 0),(6,.ptr 384 0),(7,iV r11.2),(8,.ptr 512 0),(9,Am 2432 r15),(10,.ptr 640 0),(11,iV r17.2),(12,iV 1)],[(128,Ah a0),(384,Ak r11.1 (Bk 2048) (Bk 2049)),(512,Ak r13 (Bk 2304) (Bk 2337)),(640,Ak r17.1 (Bk 2688) (Bk 2721))],[]⟩ (Ar (by kernel_rfl)) (Ag (Ac (st (c_ (v:=.agg (Ak r13 (Bk 2304) (Bk 2337))) (Aq ⟨tv,tv⟩ rfl (nl rfl)) (st (An rfl tv ?_)))))))))))))
      obtain ⟨r32,e33,h0⟩:=bnd h0
      obtain ⟨c34,h0⟩:=Qd h0
      obtain ⟨c35,h0⟩:=Qd h0
      refine st (Po [] [2304,2337] [] true (H234 r13 1 r32 e33) ⟨tv,tv,tv⟩ (by kernel_rfl) (by kernel_rfl) (by kernel_rfl) (by kernel_rfl) (fun h=>nomatch h) (sw ⟨[(1,Aa a1),(2,.ptr 128 0),(6,.ptr 384 0),(7,iV r11.2),(9,Am 2432 r15),(10,.ptr 640 0),(11,iV r17.2),(66,iV r32.1)],[(128,Ah a0),(384,Ak r11.1 (Bk 2048) (Bk 2049)),(640,Ak r17.1 (Bk 2688) (Bk 2721))],[]⟩ (Ar (by kernel_rfl)) (An rfl tv (Aw (At ⟨[(1,Aa a1),(2,.ptr 128 0),(6,.ptr 384 0),(7,iV r11.2),(9,Am 2432 r15),(10,.ptr 640 0),(11,iV r17.2),(12,iV r32.1)],[(128,Ah a0),(384,Ak r11.1 (Bk 2048) (Bk 2049)),(640,Ak r17.1 (Bk 2688) (Bk 2721))],[]⟩ (Ar (by kernel_rfl)) (Ag (Ac (st (An rfl tv (st (An rfl tv ?_)))))))))))
      obtain ⟨r36,e37,h0⟩:=bnd h0
      obtain ⟨c38,h0⟩:=Qd h0
      refine st (Po [] [2432] [] false (H391 r15 r32.1 r36 e37) ⟨tv,tv,tv⟩ (by kernel_rfl) (by kernel_rfl) (by kernel_rfl) (by kernel_rfl) (fun _=>Cd rfl (Cd (fl2 (fun _=>rfl)) rfl)) (sw ⟨[(1,Aa a1),(2,.ptr 128 0),(6,.ptr 384 0),(7,iV r11.2),(10,.ptr 640 0),(11,iV r17.2),(69,iV r36.1)],[(128,Ah a0),(384,Ak r11.1 (Bk 2048) (Bk 2049)),(640,Ak r17.1 (Bk 2688) (Bk 2721))],[]⟩ (Ar (by kernel_rfl)) (An rfl tv (Aw (At ⟨[(1,Aa a1),(2,.ptr 128 0),(6,.ptr 384 0),(7,iV r11.2),(10,.ptr 640 0),(11,iV r17.2),(12,iV r36.1)],[(128,Ah a0),(384,Ak r11.1 (Bk 2048) (Bk 2049)),(640,Ak r17.1 (Bk 2688) (Bk 2721))],[]⟩ (Ar (by kernel_rfl)) (Ag (Ag (Ac (st (An rfl tv (st (c_ (Aq t3 rfl tv) (st (An rfl tv (st (Cx (u:=.agg (Ak r17.1 (Bk 2688) (Bk 2721))) rfl (fun hg=>(Aq ⟨tv,tv⟩ rfl (nl rfl))) (st (Cx (u:=.agg (Ak r11.1 (Bk 2048) (Bk 2049))) rfl (fun hg=>(Aq ⟨tv,tv⟩ rfl (nl rfl))) ?_))))))))))))))))))
      obtain ⟨r39,e40,h0⟩:=bnd h0
      refine st (Lb (r:=.bool r39) rfl false (fun hg=>H232 r17.1 r11.1 r39 (ip hg e40)) ⟨(fun hg=>hg),(fun hg=>hg),tv⟩ (fun _=>rfl) (fun _=>rfl) (fun _=>rfl) (fun h=>nomatch h) (st (Cx (u:=.bool (!r39)) rfl (fun hg=>(Aq ⟨(fun _=>hg),tv⟩ rfl tv)) (st (Ea rfl rfl rfl tv (fun h=>aX h) rfl (st (An rfl tv (st (Cx (u:=iV r17.2) rfl (fun hg=>(Ki (v:=iV r17.2) rfl tv)) (st (Cx (u:=iV r11.2) rfl (fun hg=>(Ki (v:=iV r11.2) rfl tv)) (st (Cx (u:=.bool (r17.2 != r11.2)) rfl (fun hg=>(Aq ⟨(fun _=>hg),(fun _=>hg),tv⟩ rfl tv)) (sw ⟨[(1,Aa a1),(2,.ptr 128 0),(6,.ptr 384 0),(7,iV r11.2),(10,.ptr 640 0),(78,.bool (bif (decide (r36.1<0)) then true else (!r39))),(81,.may ((bif (decide (r36.1<0)) then true else (!r39))==false) (.bool (r17.2 != r11.2)))],[(128,Ah a0),(384,Ak r11.1 (Bk 2048) (Bk 2049)),(640,Ak r17.1 (Bk 2688) (Bk 2721))],[]⟩ (Ar (by kernel_rfl)) (Ea rfl rfl rfl tv (fun h=>aX h) rfl (Aw ?_))))))))))))))))
      obtain ⟨v41,e42,h0⟩:=bl h0
      refine At ⟨[(1,Aa a1),(2,.ptr 128 0),(6,.ptr 384 0),(7,iV r11.2),(10,.ptr 640 0),(82,.bool v41)],[(128,Ah a0),(384,Ak r11.1 (Bk 2048) (Bk 2049)),(640,Ak r17.1 (Bk 2688) (Bk 2721))],[]⟩ (Ar (by subst e42; kernel_rfl)) (Cj (cb:=v41) rfl (fun c43=>?_) (fun c43=>?_))
      ·replace h0:=ip c43 h0
       refine Ag (Ac (st (Bn tv (Aw (At ⟨[(4,.bool false)],[],[]⟩ (Ar (by kernel_rfl)) ?_)))))
       obtain rfl:=sj h0
       exact Du (Bp rfl rfl rfl rfl rfl tv)
      ·replace h0:=Fi c43 h0
       refine En (At ⟨[(1,Aa a1),(2,.ptr 128 0),(6,.ptr 384 0),(7,iV r11.2),(10,.ptr 640 0)],[(128,Ah a0),(384,Ak r11.1 (Bk 2048) (Bk 2049)),(640,Ak r17.1 (Bk 2688) (Bk 2721))],[]⟩ (Ar (by kernel_rfl)) (Ag (Ac (st (Bn tv (Aw (At ⟨[(1,Aa a1),(2,.ptr 128 0),(6,.ptr 384 0),(7,iV r11.2),(10,.ptr 640 0),(13,iV 1)],[(128,Ah a0),(384,Ak r11.1 (Bk 2048) (Bk 2049)),(640,Ak r17.1 (Bk 2688) (Bk 2721))],[]⟩ (Ar (by kernel_rfl)) (Ag (Ac (st (c_ (v:=.agg (Ak r17.1 (Bk 2688) (Bk 2721))) (Aq ⟨tv,tv⟩ rfl (nl rfl)) (st (An rfl tv ?_)))))))))))))
       obtain ⟨r44,e45,h0⟩:=bnd h0
       obtain ⟨c46,h0⟩:=Qd h0
       obtain ⟨c47,h0⟩:=Qd h0
       refine st (Po [] [2688,2721] [] true (H234 r17.1 1 r44 e45) ⟨tv,tv,tv⟩ (by kernel_rfl) (by kernel_rfl) (by kernel_rfl) (by kernel_rfl) (fun h=>nomatch h) (sw ⟨[(1,Aa a1),(2,.ptr 128 0),(6,.ptr 384 0),(7,iV r11.2),(10,.ptr 640 0),(85,iV r44.1)],[(128,Ah a0),(384,Ak r11.1 (Bk 2048) (Bk 2049)),(640,[Ba 2688 r44.2.1,Ad 2721 r44.2.2])],[]⟩ (fg ⟨rfl,rfl,rfl,rfl,rfl,rfl,tv⟩ ⟨rfl,rfl,cg2 (fun z0 z1=>some (([z0,z1]:List V))) (Xx c46) (Xx c47),tv⟩) (An rfl tv (Aw (At ⟨[(1,Aa a1),(2,.ptr 128 0),(6,.ptr 384 0),(7,iV r11.2),(10,.ptr 640 0),(13,iV r44.1)],[(128,Ah a0),(384,Ak r11.1 (Bk 2048) (Bk 2049)),(640,[Ba 2688 r44.2.1,Ad 2721 r44.2.2])],[]⟩ (Ar (by kernel_rfl)) (Ag (Ac (st (Bn tv (Aw (At ⟨[(1,Aa a1),(2,.ptr 128 0),(6,.ptr 384 0),(7,iV r11.2),(10,.ptr 640 0),(13,iV r44.1),(14,iV 1)],[(128,Ah a0),(384,Ak r11.1 (Bk 2048) (Bk 2049)),(640,[Ba 2688 r44.2.1,Ad 2721 r44.2.2])],[]⟩ (Ar (by kernel_rfl)) (Ag (Ac (st (c_ (v:=.agg [Ba 2688 r44.2.1,Ad 2721 r44.2.2]) (Aq ⟨tv,tv⟩ rfl (nl rfl)) (st (An rfl tv ?_)))))))))))))))))
       obtain ⟨r48,e49,h0⟩:=bnd h0
       refine st (Bb (r:=iV r48) false (H236 (Ap.mk r44.2.1 r44.2.2) 1 r48 e49) ⟨tv,tv,tv⟩ rfl rfl (fun _=>rfl) (st (An rfl tv (Aw (At ⟨[(1,Aa a1),(2,.ptr 128 0),(6,.ptr 384 0),(7,iV r11.2),(10,.ptr 640 0),(13,iV r44.1),(14,iV r48)],[(128,Ah a0),(384,Ak r11.1 (Bk 2048) (Bk 2049)),(640,[Ba 2688 r44.2.1,Ad 2721 r44.2.2])],[]⟩ (Ar (by kernel_rfl)) (Ag (Ag (Ac (st (An rfl tv (st (c_ (Aq t3 rfl tv) (Aw (At ⟨[(1,Aa a1),(2,.ptr 128 0),(6,.ptr 384 0),(7,iV r11.2),(10,.ptr 640 0),(13,iV r44.1),(14,iV r48),(90,.bool (decide (r48<0)))],[(128,Ah a0),(384,Ak r11.1 (Bk 2048) (Bk 2049)),(640,[Ba 2688 r44.2.1,Ad 2721 r44.2.2])],[]⟩ (Ar (by kernel_rfl)) (Cj (cb:=(decide (r48<0))) rfl (fun c50=>?_) (fun c50=>?_))))))))))))))))
       ·replace h0:=ip c50 h0
        refine Ag (Ac (st (Bn tv (Aw (At ⟨[(4,.bool false)],[],[]⟩ (Ar (by kernel_rfl)) ?_)))))
        obtain rfl:=sj h0
        exact Du (Bp rfl rfl rfl rfl rfl tv)
       ·replace h0:=Fi c50 h0
        refine En (At ⟨[(1,Aa a1),(2,.ptr 128 0),(6,.ptr 384 0),(7,iV r11.2),(10,.ptr 640 0),(13,iV r44.1),(14,iV r48)],[(128,Ah a0),(384,Ak r11.1 (Bk 2048) (Bk 2049)),(640,[Ba 2688 r44.2.1,Ad 2721 r44.2.2])],[]⟩ (Ar (by kernel_rfl)) (Ag (Ag (Ac (st (An rfl tv (st (An rfl tv (st (c_ (Aq t3 rfl tv) (Aw (At ⟨[(1,Aa a1),(2,.ptr 128 0),(6,.ptr 384 0),(7,iV r11.2),(10,.ptr 640 0),(13,iV r44.1),(93,.bool (r48 != r44.1))],[(128,Ah a0),(384,Ak r11.1 (Bk 2048) (Bk 2049)),(640,[Ba 2688 r44.2.1,Ad 2721 r44.2.2])],[]⟩ (Ar (by kernel_rfl)) (Cj (cb:=(r48 != r44.1)) rfl (fun c51=>?_) (fun c51=>?_))))))))))))))
        ·replace h0:=ip c51 h0
         refine Ag (Ac (st (Bn tv (Aw (At ⟨[(4,.bool false)],[],[]⟩ (Ar (by kernel_rfl)) ?_)))))
         obtain rfl:=sj h0
         exact Du (Bp rfl rfl rfl rfl rfl tv)
        ·replace h0:=Fi c51 h0
         refine En (At ⟨[(1,Aa a1),(2,.ptr 128 0),(6,.ptr 384 0),(7,iV r11.2),(10,.ptr 640 0),(13,iV r44.1)],[(128,Ah a0),(384,Ak r11.1 (Bk 2048) (Bk 2049)),(640,[Ba 2688 r44.2.1,Ad 2721 r44.2.2])],[]⟩ (Ar (by kernel_rfl)) (Ag (Ac (st (c_ (v:=.agg (Ah a0)) (Aq ⟨tv,tv⟩ rfl (nl rfl)) ?_)))))
         obtain ⟨r52,e53,h0⟩:=bnd h0
         refine st (Bb (r:=.agg (Ak r52 (Bk 0) (Bk 33))) false (H230 a0 r52 e53) ⟨tv,tv⟩ rfl rfl (fun _=>(Cd (Qo (fun _=>rfl)) (Cd (Wj rfl) rfl))) (st (An rfl tv ?_)))
         obtain ⟨r54,e55,h0⟩:=bnd h0
         refine st (Bb (r:=Am 0 r54) false (H389 a1 r54 e55) ⟨tv,tv⟩ rfl rfl (fun _=>(Cd (Qo (fun _=>rfl)) rfl)) ?_)
         obtain ⟨r56,e57,h0⟩:=bnd h0
         refine sw ⟨[(6,.ptr 384 0),(7,iV r11.2),(10,.ptr 640 0),(13,iV r44.1),(96,.agg (Ak r52 (Bk 6144) (Bk 6177))),(98,Am 6272 r54)],[(384,Ak r11.1 (Bk 2048) (Bk 2049)),(640,[Ba 2688 r44.2.1,Ad 2721 r44.2.2])],[]⟩ (Ar (by kernel_rfl)) (Bb (r:=.tup [.agg (Ak r56.1 (Bk 0) (Bk 33)),iV r56.2]) false (H382 r52 r54 r56 e57) ⟨tv,tv,tv⟩ rfl rfl (fun _=>(Cd (Qo (fun _=>rfl)) (Cd (Wj rfl) (Cd rfl rfl)))) (st (An rfl tv (st (c_ (Aq ⟨tv,tv⟩ rfl tv) (st (c_ (Aq ⟨tv,tv⟩ rfl tv) (st (Eb (sw ⟨[(6,.ptr 384 0),(7,iV r11.2),(10,.ptr 640 0),(13,iV r44.1),(15,.ptr 960 0),(100,.agg (Ak r56.1 (Bk 6336) (Bk 6369))),(101,iV r56.2)],[(384,Ak r11.1 (Bk 2048) (Bk 2049)),(640,[Ba 2688 r44.2.1,Ad 2721 r44.2.2]),(960,[Ba 961 [],Ad 994 []])],[]⟩ (Jp [] [(962,994)] rfl (by kernel_rfl)) (Ej rfl rfl tv rfl rfl rfl (nl rfl) (st (An rfl tv (Aw (At ⟨[(6,.ptr 384 0),(7,iV r11.2),(10,.ptr 640 0),(13,iV r44.1),(15,.ptr 960 0),(16,iV r56.2)],[(384,Ak r11.1 (Bk 2048) (Bk 2049)),(640,[Ba 2688 r44.2.1,Ad 2721 r44.2.2]),(960,Ak r56.1 (Bk 6336) (Bk 6369))],[]⟩ (Ar (by kernel_rfl)) (Ag (Ag (Ac (st (c_ (v:=.agg (Ak r56.1 (Bk 6336) (Bk 6369))) (Aq ⟨tv,tv⟩ rfl (nl rfl)) (st (c_ (v:=.agg (Ak r11.1 (Bk 2048) (Bk 2049))) (Aq ⟨tv,tv⟩ rfl (nl rfl)) ?_))))))))))))))))))))))
         obtain ⟨r58,e59,h0⟩:=bnd h0
         refine st (Bb (r:=.bool r58) false (H232 r56.1 r11.1 r58 e59) ⟨tv,tv,tv⟩ rfl rfl (fun _=>rfl) (st (c_ (Aq ⟨tv,tv⟩ rfl tv) (st (An rfl tv (st (Cx (u:=iV r56.2) rfl (fun hg=>(Ki (v:=iV r56.2) rfl tv)) (st (Cx (u:=iV r11.2) rfl (fun hg=>(Ki (v:=iV r11.2) rfl tv)) (st (Cx (u:=.bool (r56.2 != r11.2)) rfl (fun hg=>(Aq ⟨(fun _=>hg),(fun _=>hg),tv⟩ rfl tv)) (st (Ea rfl rfl rfl tv (fun h=>aX h) rfl (Aw (At ⟨[(10,.ptr 640 0),(13,iV r44.1),(110,.bool (bif (!r58) then true else (r56.2 != r11.2)))],[(640,[Ba 2688 r44.2.1,Ad 2721 r44.2.2])],[]⟩ (Ar (by kernel_rfl)) (Cj (cb:=(bif (!r58) then true else (r56.2 != r11.2))) rfl (fun c60=>?_) (fun c60=>?_)))))))))))))))))
         ·replace h0:=ip c60 h0
          refine Ag (Ac (st (Bn tv (Aw (At ⟨[(4,.bool false)],[],[]⟩ (Ar (by kernel_rfl)) ?_)))))
          obtain rfl:=sj h0
          exact Du (Bp rfl rfl rfl rfl rfl tv)
         ·replace h0:=Fi c60 h0
          refine En (At ⟨[(10,.ptr 640 0),(13,iV r44.1)],[(640,[Ba 2688 r44.2.1,Ad 2721 r44.2.2])],[]⟩ (Ar (by kernel_rfl)) (Ag (Ac (st (Bn tv (Aw (At ⟨[(10,.ptr 640 0),(13,iV r44.1),(14,iV 1)],[(640,[Ba 2688 r44.2.1,Ad 2721 r44.2.2])],[]⟩ (Ar (by kernel_rfl)) (Ag (Ac (st (c_ (v:=.agg [Ba 2688 r44.2.1,Ad 2721 r44.2.2]) (Aq ⟨tv,tv⟩ rfl (nl rfl)) (st (An rfl tv ?_)))))))))))))
          obtain ⟨r61,e62,h0⟩:=bnd h0
          refine st (Bb (r:=iV r61) false (H236 (Ap.mk r44.2.1 r44.2.2) 1 r61 e62) ⟨tv,tv,tv⟩ rfl rfl (fun _=>rfl) (st (An rfl tv (Aw (At ⟨[(13,iV r44.1),(14,iV r61)],[],[]⟩ (Ar (by kernel_rfl)) (Ag (Ag (Ac (st (An rfl tv (st (c_ (Aq t3 rfl tv) (Aw (At ⟨[(13,iV r44.1),(14,iV r61),(115,.bool (decide (r61<0)))],[],[]⟩ (Ar (by kernel_rfl)) (Cj (cb:=(decide (r61<0))) rfl (fun c63=>?_) (fun c63=>?_))))))))))))))))
          ·replace h0:=ip c63 h0
           refine Ag (Ac (st (Bn tv (Aw (At ⟨[(4,.bool false)],[],[]⟩ (Ar (by kernel_rfl)) ?_)))))
           obtain rfl:=sj h0
           exact Du (Bp rfl rfl rfl rfl rfl tv)
          ·replace h0:=Fi c63 h0
           refine En (At ⟨[(13,iV r44.1),(14,iV r61)],[],[]⟩ (Ar (by kernel_rfl)) (Ag (Ag (Ac (st (An rfl tv (st (An rfl tv (st (c_ (Aq t3 rfl tv) (Aw (At ⟨[(118,.bool (r61 != r44.1))],[],[]⟩ (Ar (by kernel_rfl)) (Cj (cb:=(r61 != r44.1)) rfl (fun c64=>?_) (fun c64=>?_))))))))))))))
           ·replace h0:=ip c64 h0
            refine Ag (Ac (st (Bn tv (Aw (At ⟨[(4,.bool false)],[],[]⟩ (Ar (by kernel_rfl)) ?_)))))
            obtain rfl:=sj h0
            exact Du (Bp rfl rfl rfl rfl rfl tv)
           ·replace h0:=Fi c64 h0
            refine En (At ⟨[],[],[]⟩ (Ar (by kernel_rfl)) (Ag (Ac (st (Bn tv (Aw (At ⟨[(4,.bool true)],[],[]⟩ (Ar (by kernel_rfl)) ?_)))))))
            obtain rfl:=sj h0
            exact Du (Bp rfl rfl rfl rfl rfl tv)
end Go.Ev
