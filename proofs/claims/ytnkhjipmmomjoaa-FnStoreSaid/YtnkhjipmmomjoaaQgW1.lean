/- The walks of functions: the code comes to the answers that QgD tells. Written by a program of ours. -/
import Derived.Test.YtnkhjipmmomjoaaQgW0
set_option linter.all false
set_option maxHeartbeats 4000000
set_option linter.unusedVariables false
set_option maxRecDepth 100000
namespace Go.Ev
variable {C:Bf}

/- (loop.example/g00149/impl.Device).write -/
def vO:=[X_ 3 0,a_ 6 [.own 385 0 1 [],.own 386 0 2 []]]
def vP:=[L_ 13 3 2,q_ 14 366 [.t 13],a_ 7 [.own 449 0 1 [],.own 450 0 2 []],s_ 7 14 2]
def vQ:=[m_ 15 2,n_ 16 15,B_ .eql 17 16 0]
def vR:=[L_ 18 7 2,s_ 6 18 2]
def vS:=[L_ 19 3 2,q_ 20 263 [.t 19],m_ 8 20]
def vT:=[m_ 21 1,m_ 22 2,n_ 23 22,b_ .add 24 21 23,m_ 9 24]
def vU:=[m_ 25 9,B_ .sub 26 25 1,B_ .quo 27 26 32,m_ 10 27]
def vV:List Bi:=[m_ 28 10,B_ .add 29 28 1,⟨some 30,.p (.bin .mul (.c (iV 32)) (.t 29)),none⟩,m_ 11 30]
def vW:=[m_ 31 8,n_ 32 31,m_ 33 11,b_ .lss 34 32 33]
def vX:List Bi:=[m_ 35 8,m_ 36 11,m_ 37 8,n_ 38 37,b_ .sub 39 36 38,⟨some 40,.appz 1 1 [.int .u8 0] (.t 35) (.t 39),none⟩,m_ 8 40]
def iS:List Bi:=[m_ 41 8,m_ 42 1,⟨some 43,.p (.slice (.t 41) (some (.t 42)) none 1),none⟩,m_ 44 2,⟨some 45,.copy 1 (.t 43) (.t 44),none⟩]
def iT:=[m_ 46 1,B_ .quo 47 46 32,m_ 12 47]
def iU:=[m_ 48 12,m_ 49 10,b_ .leq 50 48 49]
def iW:=tk [f_ 53 7 1,l_ 54 53 1,m_ 55 12,m_ 56 8,m_ 57 12,⟨some 58,.p (.bin .mul (.c (iV 32)) (.t 57)),none⟩,m_ 59 12,B_ .add 60 59 1,⟨some 61,.p (.bin .mul (.c (iV 32)) (.t 60)),none⟩,⟨some 62,.p (.slice (.t 56) (some (.t 58)) (some (.t 61)) 1),none⟩] (.alt [m_ 55 12,l_ 54 53 1,f_ 53 7 1] (q_ 63 325 [.t 62]) (tk [⟨some 64,.p (.build [iV 0,.own 4098 0 1 []] [(0,1,.t 55),(1,1,.t 63)]),none⟩] (.alt [l_ 54 53 1,f_ 53 7 1] ⟨some 65,.mkS 2 [iV 0,.lst 1 []] 1 [(0,.t 64)],none⟩ (.alt [] ⟨some 66,.app 2 32 (.t 54) (.t 65),none⟩ (tk [f_ 67 7 1] (.alt [] (s_ 67 66 1) .fin .stop)) .stop) .stop)) .stop)
def iX:=[m_ 51 12,B_ .add 52 51 1,m_ 12 52]
def vN:IR:=(.seq (sr iU (.ite (.t 50) .skip (.exit 0))) (.seq (.block 1 (.draw iW)) (.reg iX)))
def iY:=[L_ 68 7 2,s_ 6 68 2]
def VO:Dh:=⟨3,69,[.cell 6 2 true],sr vO (sr vP (.seq (sr vQ (iz 17 (rr vR))) (sr vS (sr vT (sr vU (.seq (sr vV (sr vW (iz 34 (.reg vX)))) (sr iS (.seq (sr iT (Li 0 vN)) (rr iY)))))))))⟩
def QJ (D:Bf):Prop:=∀a0 a1 a2 r,LQ a0 a1 a2=some r→D 328 ⟨[.agg (Ap a0),iV a1,Bh a2],[]⟩ ⟨.agg (Bd r (Dp 0) (Dp 1)),[],[]⟩
theorem ZT (H263:eU C) (H325:eV C) (H366:QQ C):QJ (FO C VO):=by
 intro a0 a1 a2 r h0
 refine f0 (Ab (Ac (st (Hm rfl tv rfl (st (Dt (At (An ⟨[(1,iV a1),(2,Bh a2),(3,.ptr 192 0),(6,.ptr 384 0)],[(192,Ap a0),(384,[Bc 385 [],Ai 386 []])],[]⟩ (Ak (by kernel_rfl)) (Ab (Ac (st (c_ (v:=.agg (Ap a0)) (Aj ⟨tv,tv⟩ rfl (nl rfl)) ?_))))))))))))
 obtain ⟨r1,e2,h0⟩:=bnd h0
 refine st (Ax (r:=.agg (Bd r1 (Dp 0) (Dp 1))) true (H366 a0 r1 e2) ⟨tv,tv⟩ rfl rfl (fun h=>nomatch h) (st (Dt (st (El rfl rfl tv rfl rfl rfl (nl rfl) (At (An ⟨[(1,iV a1),(2,Bh a2),(3,.ptr 192 0),(6,.ptr 384 0),(7,.ptr 448 0)],[(192,Ap a0),(384,[Bc 385 [],Ai 386 []]),(448,Bd r1 (Dp 896) (Dp 897))],[]⟩ (Ak (by kernel_rfl)) (Ab (Ab (Ac (st (Ag rfl tv (st (c_ (Cg (e:=Bo) (l0:=a2) rfl rfl tv) (st (c_ (Aj t3 rfl tv) (At (An ⟨[(1,iV a1),(2,Bh a2),(3,.ptr 192 0),(6,.ptr 384 0),(7,.ptr 448 0),(17,.bool ((a2.length:Int)==0))],[(192,Ap a0),(384,[Bc 385 [],Ai 386 []]),(448,Bd r1 (Dp 896) (Dp 897))],[]⟩ (Ak (by kernel_rfl)) (Bs (cb:=((a2.length:Int)==0)) rfl (fun c3=>?_) (fun c3=>?_))))))))))))))))))))
 ·replace h0:=ip c3 h0
  refine Ab (Ac (st (c_ (v:=.agg (Bd r1 (Dp 896) (Dp 897))) (Aj ⟨tv,tv⟩ rfl (nl rfl)) (st (El rfl rfl tv rfl rfl rfl (nl rfl) (At (An ⟨[(6,.ptr 384 0)],[(384,Bd r1 (Dp 896) (Dp 897))],[]⟩ (Ak (by kernel_rfl)) ?_)))))))
  obtain rfl:=sj h0
  exact Cr (Bj rfl rfl rfl rfl rfl tv)
 ·replace h0:=Do c3 h0
  refine Dn (An ⟨[(1,iV a1),(2,Bh a2),(3,.ptr 192 0),(6,.ptr 384 0),(7,.ptr 448 0)],[(192,Ap a0),(384,[Bc 385 [],Ai 386 []]),(448,Bd r1 (Dp 896) (Dp 897))],[]⟩ (Ak (by kernel_rfl)) (Ab (Ac (st (c_ (v:=.agg (Ap a0)) (Aj ⟨tv,tv⟩ rfl (nl rfl)) ?_)))))
  obtain ⟨r4,e5,h0⟩:=bnd h0
  refine st (Ax (r:=Bc 0 r4) false (H263 a0 r4 e5) ⟨tv,tv⟩ rfl rfl (fun _=>(Cf (Jo (fun _=>rfl)) rfl)) (st (Ag rfl tv (At (An ⟨[(1,iV a1),(2,Bh a2),(6,.ptr 384 0),(7,.ptr 448 0),(8,Bc 1280 r4)],[(384,[Bc 385 [],Ai 386 []]),(448,Bd r1 (Dp 896) (Dp 897))],[]⟩ (Ak (by kernel_rfl)) (Ab (Ac (st (Ag rfl tv (st (Ag rfl tv (st (c_ (Cg (e:=Bo) (l0:=a2) rfl rfl tv) (st (c_ (Aj t3 rfl tv) (st (Ag rfl tv (At (An ⟨[(1,iV a1),(2,Bh a2),(6,.ptr 384 0),(7,.ptr 448 0),(8,Bc 1280 r4),(9,iV (wi (a1+(a2.length:Int))))],[(384,[Bc 385 [],Ai 386 []]),(448,Bd r1 (Dp 896) (Dp 897))],[]⟩ (Ak (by kernel_rfl)) (Ab (Ac (st (Ag rfl tv (st (c_ (Aj t3 rfl tv) (st (c_ (Aj ⟨tv,tv,tv⟩ rfl (by decide)) (st (Ag rfl tv (At ?_))))))))))))))))))))))))))))))
  obtain ⟨v6,e7,h0⟩:=bl h0
  refine An ⟨[(1,iV a1),(2,Bh a2),(6,.ptr 384 0),(7,.ptr 448 0),(8,Bc 1280 r4),(10,iV v6)],[(384,[Bc 385 [],Ai 386 []]),(448,Bd r1 (Dp 896) (Dp 897))],[]⟩ (Ak (by subst e7; kernel_rfl)) (Ab (Ab (Ac (st (Ag rfl tv (st (c_ (Aj t3 rfl tv) (st (c_ (Aj t3 rfl tv) (st (Ag rfl tv (At (An ⟨[(1,iV a1),(2,Bh a2),(6,.ptr 384 0),(7,.ptr 448 0),(8,Bc 1280 r4),(10,iV v6),(11,iV (wi (32*(wi (v6+1)))))],[(384,[Bc 385 [],Ai 386 []]),(448,Bd r1 (Dp 896) (Dp 897))],[]⟩ (Ak (by kernel_rfl)) (Ab (Ac (st (Ag rfl tv (st (c_ (Ez (e:=Bo) (l0:=r4) rfl rfl tv) (st (Ag rfl tv (st (c_ (Aj t3 rfl tv) (At ?_))))))))))))))))))))))))
  obtain ⟨v8,e9,h0⟩:=bl h0
  refine An ⟨[(1,iV a1),(2,Bh a2),(6,.ptr 384 0),(7,.ptr 448 0),(8,Bc 1280 r4),(10,iV v6),(11,iV (wi (32*(wi (v6+1))))),(34,.bool v8)],[(384,[Bc 385 [],Ai 386 []]),(448,Bd r1 (Dp 896) (Dp 897))],[]⟩ (Ak (by subst e9; kernel_rfl)) (Zt (cb:=v8) (fun S=>∃p13:List UInt8,S=⟨[(1,iV a1),(2,Bh a2),(6,.ptr 384 0),(7,.ptr 448 0),(8,Bc 1280 p13),(10,iV v6)],[(384,[Bc 385 [],Ai 386 []]),(448,Bd r1 (Dp 896) (Dp 897))],[]⟩∧Pm a1 a2 r1 v6 p13=some r) rfl ?_ (fun c44 J43=>?_) (fun c44 J43=>?_))
  ·rintro _ ⟨p13,rfl,h0⟩
   refine An ⟨[(1,iV a1),(2,Bh a2),(6,.ptr 384 0),(7,.ptr 448 0),(8,Bc 1280 p13),(10,iV v6)],[(384,[Bc 385 [],Ai 386 []]),(448,Bd r1 (Dp 896) (Dp 897))],[]⟩ (Ak (by kernel_rfl)) (Ab (Ac (st (Ag rfl tv (st (Ag rfl tv ?_))))))
   obtain ⟨s14,e15,h0⟩:=bnd h0
   refine st (c_ (De (e:=Bo) (y:=s14) rfl rfl tv ⟨tv,tv⟩ rfl rfl e15) (st (Ag rfl tv (st (copy_ (e:=Bo) (l1:=a2) rfl rfl tv rfl (At (An ⟨[(1,iV a1),(6,.ptr 384 0),(7,.ptr 448 0),(8,Bc 1280 (ovl p13 a1.toNat (a2.take s14.length))),(10,iV v6)],[(384,[Bc 385 [],Ai 386 []]),(448,Bd r1 (Dp 896) (Dp 897))],[]⟩ (fg ⟨rfl,rfl,rfl,congrArg (fun z=>some ((.own 1280 0 1 z:V))) Ee,rfl,tv⟩ ⟨rfl,rfl,tv⟩) (Ab (Ab (Ac (st (Ag rfl tv (st (c_ (Aj ⟨tv,tv,tv⟩ rfl (by decide)) (st (Ag rfl tv (At (An ⟨[(6,.ptr 384 0),(7,.ptr 448 0),(8,Bc 1280 (ovl p13 a1.toNat (a2.take s14.length))),(10,iV v6),(12,iV (wi ((a1).tdiv 32)))],[(384,[Bc 385 [],Ai 386 []]),(448,Bd r1 (Dp 896) (Dp 897))],[]⟩ (Ak (by kernel_rfl)) (Be ?_)))))))))))))))))))
   obtain ⟨r41,e42,h0⟩:=bnd h0
   refine Cz (R:=(fun S=>∃p34:List As,p34=r41∧S=⟨[(6,.ptr 384 0),(7,.ptr 448 0)],[(384,[Bc 385 [],Ai 386 []]),(448,[Bc 896 r1.held,Ai 897 p34])],[]⟩)) (Pn a1 a2 v6 p13 s14) (fun s S=>match s with | (p24,p25)=>S=⟨[(6,.ptr 384 0),(7,.ptr 448 0),(8,Bc 1280 (ovl p13 a1.toNat (a2.take s14.length))),(10,iV v6),(12,iV p24)],[(384,[Bc 385 [],Ai 386 []]),(448,[Bc 896 r1.held,Ai 897 p25])],[]⟩) e42 ⟨[(6,.ptr 384 0),(7,.ptr 448 0),(8,Bc 1280 (ovl p13 a1.toNat (a2.take s14.length))),(10,iV v6),(12,iV (wi ((a1).tdiv 32)))],[(384,[Bc 385 [],Ai 386 []]),(448,Bd r1 (Dp 896) (Dp 897))],[]⟩ (Ak (by kernel_rfl)) rfl 0 (fun _=>rfl) ?_ ?_
   ·rintro S _ hfg ⟨p34,rfl,rfl⟩
    refine An ⟨[(6,.ptr 384 0),(7,.ptr 448 0)],[(384,[Bc 385 [],Ai 386 []]),(448,[Bc 896 r1.held,Ai 897 p34])],[]⟩ (Ft hfg (by kernel_rfl)) (Ab (Ac (st (c_ (v:=.agg [Bc 896 r1.held,Ai 897 p34]) (Aj ⟨tv,tv⟩ rfl (nl rfl)) (st (El rfl rfl tv rfl rfl rfl (nl rfl) (At (An ⟨[(6,.ptr 384 0)],[(384,[Bc 896 r1.held,Ai 897 p34])],[]⟩ (Ak (by kernel_rfl)) ?_))))))))
    obtain rfl:=sj h0
    exact Cr (Bj rfl rfl rfl rfl rfl tv)
   ·rintro ⟨p24,p25⟩ o1 _ K1 rfl h1 hx1 hK1 hE1 hR1
    refine Ab (Ab (Ac (st (Ag rfl tv (st (Ag rfl tv (st (c_ (Aj t3 rfl tv) (At (An ⟨[(6,.ptr 384 0),(7,.ptr 448 0),(8,Bc 1280 (ovl p13 a1.toNat (a2.take s14.length))),(10,iV v6),(12,iV p24),(50,.bool (decide (p24≤v6)))],[(384,[Bc 385 [],Ai 386 []]),(448,[Bc 896 r1.held,Ai 897 p25])],[]⟩ (Ak (by kernel_rfl)) (Bs (cb:=(decide (p24≤v6))) rfl (fun c35=>?_) (fun c35=>?_))))))))))))
    ·replace h1:=ip c35 h1
     refine Dn (An ⟨[(6,.ptr 384 0),(7,.ptr 448 0),(8,Bc 1280 (ovl p13 a1.toNat (a2.take s14.length))),(10,iV v6),(12,iV p24)],[(384,[Bc 385 [],Ai 386 []]),(448,[Bc 896 r1.held,Ai 897 p25])],[]⟩ (Ak (by kernel_rfl)) (Ab (Be ?_)))
     obtain ⟨s36,e37,h1⟩:=bnd h1
     obtain ⟨r38,e39,h1⟩:=bnd h1
     obtain ⟨c40,h1⟩:=Kq h1
     refine Ds (Ah tv (c_ (Aj ⟨tv,tv⟩ rfl tv) (⟨tv,Ah tv (c_ (Aj ⟨tv,tv⟩ rfl (nl rfl)) (⟨tv,Ah tv (Ag rfl tv (⟨tv,Ah tv (Ag rfl tv (⟨tv,Ah tv (Ag rfl tv (⟨tv,Ah tv (c_ (Aj t3 rfl tv) (⟨tv,Ah tv (Ag rfl tv (⟨tv,Ah tv (c_ (Aj t3 rfl tv) (⟨tv,Ah tv (c_ (Aj t3 rfl tv) (⟨tv,Ah tv (c_ (De (e:=Bo) (y:=s36) rfl rfl tv ⟨tv,tv,tv⟩ rfl rfl e37) (⟨tv,Fm (Ax (r:=Bc 0 r38) false (H325 s36 r38 e39) ⟨tv,tv⟩ rfl rfl (fun _=>(Cf (Jo (fun _=>rfl)) rfl)) (mP ⟨[(6,.ptr 384 0),(7,.ptr 448 0),(8,Bc 1280 (ovl p13 a1.toNat (a2.take s14.length))),(10,iV v6),(12,iV p24),(53,.ptr 448 1),(54,Ai 897 p25),(55,iV p24),(63,Bc 4032 r38)],[(384,[Bc 385 [],Ai 386 []]),(448,[Bc 896 r1.held,Ai 897 p25])],[]⟩ (Ak (by kernel_rfl)) ⟨[],⟨⟨.inl tv,By (Gx (v:=iV p24) rfl tv) rfl⟩,⟨.inl tv,By (Aj ⟨tv,tv⟩ rfl (nl rfl)) rfl⟩,⟨.inl tv,By (Aj ⟨tv,tv⟩ rfl tv) rfl⟩,tv⟩,tv,Ah tv (c_ (v:=.agg [iV p24,Bc 4032 r38]) (Aj ⟨tv,tv,tv⟩ rfl ⟨⟨rfl,rfl,nl rfl⟩,⟨rfl,rfl,nl rfl⟩,tv⟩) (⟨tv,Fm (Fk ⟨tv,tv⟩ ⟨⟨nl rfl,rfl,rfl⟩,tv⟩ (Wg ⟨[],⟨⟨.inl tv,By (Aj ⟨tv,tv⟩ rfl (nl rfl)) rfl⟩,⟨.inl tv,By (Aj ⟨tv,tv⟩ rfl tv) rfl⟩,tv⟩,tv,Fm (Hc (e:=Ay) (l0:=p25) (l1:=([As.mk p24 r38]:List As)) rfl rfl tv rfl (by decide) c40 (Wg ⟨[],tv,tv,Ah tv (c_ (Aj ⟨tv,tv⟩ rfl tv) (⟨tv,?_⟩))⟩)) Dl⟩)) Dl⟩))⟩)) Dl⟩))⟩))⟩))⟩))⟩))⟩))⟩))⟩))⟩))⟩)))
     refine Fm (El rfl rfl tv rfl rfl rfl (nl rfl) (Wg ⟨[],tv,tv,Iu (It (An ⟨[(6,.ptr 384 0),(7,.ptr 448 0),(8,Bc 1280 (ovl p13 a1.toNat (a2.take s14.length))),(10,iV v6),(12,iV p24)],[(384,[Bc 385 [],Ai 386 []]),(448,[Bc 896 r1.held,Ai 897 (p25++([As.mk p24 r38]:List As))])],[]⟩ (Ak (by kernel_rfl)) (Ac (st (Ag rfl tv (st (c_ (Aj t3 rfl tv) (st (Ag rfl tv (At ?_))))))))))⟩)) Dl
     obtain rfl:=sj h1
     exact hK1 _ rfl _ ⟨[(6,.ptr 384 0),(7,.ptr 448 0),(8,Bc 1280 (ovl p13 a1.toNat (a2.take s14.length))),(10,iV v6),(12,iV (wi (p24+1)))],[(384,[Bc 385 [],Ai 386 []]),(448,[Bc 896 r1.held,Ai 897 (p25++([As.mk p24 r38]:List As))])],[]⟩ (Ak (by kernel_rfl)) rfl
    ·replace h1:=Do c35 h1
     obtain rfl:=sj h1
     obtain rfl:=hx1 _ rfl
     refine Ke rfl ?_
     exact hE1 _ ⟨[(6,.ptr 384 0),(7,.ptr 448 0)],[(384,[Bc 385 [],Ai 386 []]),(448,[Bc 896 r1.held,Ai 897 p25])],[]⟩ (Ak (by kernel_rfl)) ⟨_,rfl,rfl⟩
  ·replace h0:=ip c44 h0
   refine Ac (st (Ag rfl tv (st (Ag rfl tv (st (Ag rfl tv (st (c_ (Ez (e:=Bo) (l0:=r4) rfl rfl tv) (st (c_ (Aj t3 rfl tv) ?_))))))))))
   obtain ⟨c45,h0⟩:=Kq h0
   obtain ⟨c46,h0⟩:=Kq h0
   refine st (iN (e:=Bo) (l0:=r4) (0:UInt8) rfl rfl rfl (by decide) c45 c46 (st (Ag rfl tv (At ?_))))
   exact J43 _ ⟨[(1,iV a1),(2,Bh a2),(6,.ptr 384 0),(7,.ptr 448 0),(8,.own 1280 0 1 ((r4++List.replicate (wi ((wi (32*(wi (v6+1))))-(r4.length:Int))).toNat (0:UInt8)).map Bo)),(10,iV v6)],[(384,[Bc 385 [],Ai 386 []]),(448,Bd r1 (Dp 896) (Dp 897))],[]⟩ (Ak (by kernel_rfl)) ⟨_,rfl,h0⟩
  ·replace h0:=Do c44 h0
   refine Dn ?_
   exact J43 _ ⟨[(1,iV a1),(2,Bh a2),(6,.ptr 384 0),(7,.ptr 448 0),(8,Bc 1280 r4),(10,iV v6)],[(384,[Bc 385 [],Ai 386 []]),(448,Bd r1 (Dp 896) (Dp 897))],[]⟩ (Ak (by kernel_rfl)) ⟨_,rfl,h0⟩

/- (loop.example/g00149/impl.Device).appended -/
def sO:=[X_ 2 0,a_ 4 [.own 257 0 1 [],.own 258 0 2 []],i_ 5 0]
def sP:=[m_ 9 1,n_ 10 9,B_ .gtr 11 10 2000]
def sQ:=[iQ 12 (.build [.own 769 0 1 [],.own 770 0 2 []] []),s_ 4 12 2,i_ 5 4]
def sR:=[L_ 14 2 2,q_ 15 263 [.t 14],q_ 16 275 [.t 15],m_ 13 16,e_ 17 13 0,e_ 18 13 1,m_ 6 17,m_ 7 18]
def sS:=[m_ 19 1,q_ 20 274 [.t 19],m_ 8 20]
def sT:=[m_ 21 7,m_ 22 8,n_ 23 22,q_ 24 327 [.t 21,.t 23],N_ 25 24]
def sU:=[iQ 26 (.build [.own 1665 0 1 [],.own 1666 0 2 []] []),s_ 4 26 2,i_ 5 9]
def sV:=[L_ 27 2 2,m_ 28 7,m_ 29 8,q_ 30 328 [.t 27,.t 28,.t 29],q_ 31 267 [.t 30],s_ 4 31 2,i_ 5 0]
def VB:Dh:=⟨2,32,[.cell 4 2 true,.t 5],sr sO (.seq (sr sP (iz 11 (rr sQ))) (sr sR (sr sS (.seq (sr sT (iz 25 (rr sU))) (rr sV)))))⟩
def QB (D:Bf):Prop:=∀a0 a1 r,LA a0 a1=some r→D 273 ⟨[.agg (Ap a0),Bh a1],[]⟩ ⟨.tup [.agg (Bd r.1 (Dp 0) (Dp 1)),iV r.2],[],[]⟩
theorem ZH (H263:eU C) (H267:PX C) (H274:QC C) (H275:qB C) (H327:QI C) (H328:QJ C):QB (FO C VB):=by
 intro a0 a1 r h0
 refine f0 (Ab (Ac (st (Hm rfl tv rfl (st (Dt (st (Bg tv (At (An ⟨[(1,Bh a1),(2,.ptr 128 0),(4,.ptr 256 0)],[(128,Ap a0),(256,[Bc 257 [],Ai 258 []])],[]⟩ (Ak (by kernel_rfl)) (Ab (Ab (Ac (st (Ag rfl tv (st (c_ (Cg (e:=Bo) (l0:=a1) rfl rfl tv) (st (c_ (Aj t3 rfl tv) (At (An ⟨[(1,Bh a1),(2,.ptr 128 0),(4,.ptr 256 0),(11,.bool (decide ((a1.length:Int)>2000)))],[(128,Ap a0),(256,[Bc 257 [],Ai 258 []])],[]⟩ (Ak (by kernel_rfl)) (Bs (cb:=(decide ((a1.length:Int)>2000))) rfl (fun c1=>?_) (fun c1=>?_)))))))))))))))))))))))
 ·replace h0:=ip c1 h0
  refine Ab (Ac (st (c_ (v:=.agg [Bc 769 [],Ai 770 []]) (Aj tv rfl tv) (st (El rfl rfl tv rfl rfl rfl (nl rfl) (st (Bg tv (At (An ⟨[(4,.ptr 256 0),(5,iV 4)],[(256,[Bc 769 [],Ai 770 []])],[]⟩ (Ak (by kernel_rfl)) ?_)))))))))
  obtain rfl:=sj h0
  exact Cr (Bj rfl rfl rfl rfl rfl tv)
 ·replace h0:=Do c1 h0
  refine Dn (An ⟨[(1,Bh a1),(2,.ptr 128 0),(4,.ptr 256 0)],[(128,Ap a0),(256,[Bc 257 [],Ai 258 []])],[]⟩ (Ak (by kernel_rfl)) (Ab (Ac (st (c_ (v:=.agg (Ap a0)) (Aj ⟨tv,tv⟩ rfl (nl rfl)) ?_)))))
  obtain ⟨r2,e3,h0⟩:=bnd h0
  refine st (Ax (r:=Bc 0 r2) false (H263 a0 r2 e3) ⟨tv,tv⟩ rfl rfl (fun _=>(Cf (Jo (fun _=>rfl)) rfl)) ?_)
  obtain ⟨r4,e5,h0⟩:=bnd h0
  refine st (Ax (r:=.tup [.own 0 0 1 (r4.1.map (eL 1 Bo)),iV r4.2]) true (H275 r2 r4 e5) ⟨tv,tv⟩ rfl rfl (fun h=>nomatch h) (sw ⟨[(1,Bh a1),(2,.ptr 128 0),(4,.ptr 256 0),(16,.tup [.own 1024 0 1 (r4.1.map (eL 1 Bo)),iV r4.2])],[(128,Ap a0),(256,[Bc 257 [],Ai 258 []])],[]⟩ (Ak (by kernel_rfl)) (Ag rfl tv (st (c_ (Aj ⟨tv,tv⟩ rfl tv) (st (c_ (Aj ⟨tv,tv⟩ rfl tv) (st (Ag rfl tv (st (Ag rfl tv (At (An ⟨[(1,Bh a1),(2,.ptr 128 0),(4,.ptr 256 0),(7,iV r4.2)],[(128,Ap a0),(256,[Bc 257 [],Ai 258 []])],[]⟩ (Ak (by kernel_rfl)) (Ab (Ac (st (Ag rfl tv ?_)))))))))))))))))
  obtain ⟨r6,e7,h0⟩:=bnd h0
  refine st (Ax (r:=Bc 0 r6) false (H274 a1 r6 e7) ⟨tv,tv⟩ rfl rfl (fun _=>(Cf (Jo (fun _=>rfl)) rfl)) (st (Ag rfl tv (At (An ⟨[(2,.ptr 128 0),(4,.ptr 256 0),(7,iV r4.2),(8,Bc 1280 r6)],[(128,Ap a0),(256,[Bc 257 [],Ai 258 []])],[]⟩ (Ak (by kernel_rfl)) (Ab (Ab (Ac (st (Ag rfl tv (st (Ag rfl tv (st (c_ (Ez (e:=Bo) (l0:=r6) rfl rfl tv) ?_))))))))))))))
  obtain ⟨r8,e9,h0⟩:=bnd h0
  refine st (Ax (r:=.bool r8) false (H327 r4.2 (r6.length:Int) r8 e9) ⟨tv,tv,tv⟩ rfl rfl (fun _=>rfl) (st (c_ (Aj ⟨tv,tv⟩ rfl tv) (At (An ⟨[(2,.ptr 128 0),(4,.ptr 256 0),(7,iV r4.2),(8,Bc 1280 r6),(25,.bool (!r8))],[(128,Ap a0),(256,[Bc 257 [],Ai 258 []])],[]⟩ (Ak (by kernel_rfl)) (Bs (cb:=(!r8)) rfl (fun c10=>?_) (fun c10=>?_)))))))
  ·replace h0:=ip c10 h0
   refine Ab (Ac (st (c_ (v:=.agg [Bc 1665 [],Ai 1666 []]) (Aj tv rfl tv) (st (El rfl rfl tv rfl rfl rfl (nl rfl) (st (Bg tv (At (An ⟨[(4,.ptr 256 0),(5,iV 9)],[(256,[Bc 1665 [],Ai 1666 []])],[]⟩ (Ak (by kernel_rfl)) ?_)))))))))
   obtain rfl:=sj h0
   exact Cr (Bj rfl rfl rfl rfl rfl tv)
  ·replace h0:=Do c10 h0
   refine Dn (An ⟨[(2,.ptr 128 0),(4,.ptr 256 0),(7,iV r4.2),(8,Bc 1280 r6)],[(128,Ap a0),(256,[Bc 257 [],Ai 258 []])],[]⟩ (Ak (by kernel_rfl)) (Ab (Ac (st (c_ (v:=.agg (Ap a0)) (Aj ⟨tv,tv⟩ rfl (nl rfl)) (st (Ag rfl tv (st (Ag rfl tv ?_)))))))))
   obtain ⟨r11,e12,h0⟩:=bnd h0
   refine st (Ax (r:=.agg (Bd r11 (Dp 0) (Dp 1))) true (H328 a0 r4.2 r6 r11 e12) ⟨tv,tv,tv,tv⟩ rfl rfl (fun h=>nomatch h) ?_)
   obtain ⟨r13,e14,h0⟩:=bnd h0
   refine sw ⟨[(4,.ptr 256 0),(30,.agg (Bd r11 (Dp 1920) (Dp 1921)))],[(256,[Bc 257 [],Ai 258 []])],[]⟩ (Ak (by kernel_rfl)) (Ax (r:=.agg (Bd r13 (Dp 0) (Dp 1))) true (H267 r11 r13 e14) ⟨tv,tv⟩ rfl rfl (fun h=>nomatch h) (sw ⟨[(4,.ptr 256 0),(31,.agg (Bd r13 (Dp 1984) (Dp 1985)))],[(256,[Bc 257 [],Ai 258 []])],[]⟩ (Ak (by kernel_rfl)) (El rfl rfl tv rfl rfl rfl (nl rfl) (st (Bg tv (At (An ⟨[(4,.ptr 256 0),(5,iV 0)],[(256,Bd r13 (Dp 1984) (Dp 1985))],[]⟩ (Ak (by kernel_rfl)) ?_)))))))
   obtain rfl:=sj h0
   exact Cr (Bj rfl rfl rfl rfl rfl tv)

/- slices.Clone[[]loop.example/g00149/impl.Pair,loop.example/g00149/impl.Pair] -/
def FK:List Bi:=[⟨some 2,.nilS 2,none⟩]
def FL:List Bi:=[m_ 3 0,⟨some 4,.isnil (.t 3) false,none⟩]
def FM:List Bi:=[⟨some 2,.nilS 2,none⟩]
def FN:List Bi:=[⟨some 5,.mkS 2 [.str [],.str []] 0 [],none⟩,m_ 6 0,⟨some 7,.app 2 32 (.t 5) (.t 6),none⟩,m_ 2 7]
def WY:Dh:=⟨1,8,[.t 2],sr FK (.seq (sr FL (iz 4 (rr FM))) (rr FN))⟩
def qL (D:Bf):Prop:=∀a0 r,fV a0=some r→D 403 ⟨[Aw a0],[]⟩ ⟨Aa 0 r,[],[]⟩
theorem AaB:qL (FO C WY):=by
 intro a0 r h0
 refine f0 ?_
 obtain ⟨hc,h0⟩:=Kq h0
 obtain rfl:=sj h0
 refine Ab (Ac (st (Bw (At (An ⟨[(0,Aw a0)],[],[]⟩ (fg ⟨rfl,tv⟩ tv) (Ab (Ab (Ac (st (Ag rfl tv (st (nT (e:=Ao) (l0:=a0) rfl fun b hb=>(At (cF (Bs (cb:=b) rfl (fun h=>?_) (fun h=>?_))))))))))))))))
 ·obtain rfl:=hb h
  refine Ab (Ac (st (Bw (At (cF ?_)))))
  refine Cr (Bj rfl rfl rfl rfl rfl tv)
 ·refine Dn ?_
  refine An ⟨[(0,Aw a0)],[],[]⟩ (fg ⟨rfl,tv⟩ tv) (Ab (Ac (st (Fk tv tv (st (Ag rfl tv (st (Hc (e:=Ao) (l0:=([]:List Al)) (l1:=a0) rfl rfl tv rfl (by decide) ?_ ?_))))))))
  rotate_left
  refine st (Ag rfl tv (At (cF ?_)))
  refine Cr (Bj rfl rfl rfl rfl rfl tv)
  have:=Nat.mul_le_mul_right 32 hc
  exact Nat.le_trans this (by decide)

/- slices.BinarySearchFunc[[]loop.example/g00149/impl.Pair,loop.example/g00149/impl.Pair,string] -/
def HL:=[i_ 6 0,k_ 7 (.bool false)]
def HM:=[m_ 12 0,n_ 13 12,m_ 8 13]
def HN:=[m_ 14 8,i_ 9 0,m_ 10 14]
def HO:=[m_ 15 9,m_ 16 10,b_ .lss 17 15 16]
def HP:List Bi:=[m_ 18 9,m_ 19 10,b_ .add 20 18 19,iQ 21 (.conv .u64 (.t 20)),⟨some 22,.p (.bin .shr (.t 21) (.c (.int .u64 1))),none⟩,iQ 23 (.conv .i64 (.t 22)),m_ 11 23]
def HQ:List Bi:=[m_ 24 2,m_ 25 0,m_ 26 11,x_ 27 25 26 2,L_ 28 27 2,m_ 29 1,⟨some 30,.callv (.t 24) [.t 28,.t 29],none⟩,B_ .lss 31 30 0]
def HR:=[m_ 32 11,B_ .add 33 32 1,m_ 9 33]
def HS:=[m_ 34 11,m_ 10 34]
def HK:IR:=(.seq (sr HO (.ite (.t 17) .skip (.exit 0))) (.block 1 (sr HP (sr HQ (.ite (.t 31) (.reg HR) (.reg HS))))))
def HT:List Bi:=[m_ 35 9,m_ 36 9,m_ 37 8,b_ .lss 38 36 37,m_ 39 38,mT 39 40 2,mT 39 41 0,mT 39 42 9,xT 39 43 41 42 2,lT 39 44 43 2 true,mT 39 45 1,⟨some 46,.callv (.t 40) [.t 44,.t 45],some (39,true)⟩,pT 39 47 (.bin .eql (.t 46) (.c (iV 0))),pa 48 39 47,m_ 6 35,m_ 7 48]
def XI:Dh:=⟨3,49,[.t 6,.t 7],sr HL (sr HM (sr HN (.seq (Li 0 HK) (rr HT))))⟩
def RU (C:Bf) (D:Bf:=C):Prop:=∀(a0:List Al) (a1:List UInt8) (f2:Nat) (k2:List V) (is2:Al→(List UInt8)→Option Int) (hs2:Qr k2) (hf2:∀(x0:Al) (x1:List UInt8) r,is2 x0 x1=some r→C f2 ⟨.agg (Ao x0) :: .str x1::k2,[]⟩ ⟨iV r,[],[]⟩) (r:Int×Bool),NL a0 a1 is2=some r→D 416 ⟨[Aw a0,.str a1,.clo f2 k2],[]⟩ ⟨.tup [iV r.1,.bool r.2],[],[]⟩
theorem AaK:RU C (FO C XI):=by
 intro a0 a1 f2 k2 is2 hs2 hf2 r h0
 refine f0 (Ab (Ac (st (Bg tv (st (Bg tv (At (An ⟨[(0,Aw a0),(1,.str a1),(2,.clo f2 k2)],[],[]⟩ (fg ⟨rfl,rfl,rfl,tv⟩ tv) (Ab (Ac (st (Ag rfl tv (st (c_ (Cg (e:=Ao) (l0:=a0) rfl rfl tv) (st (Ag rfl tv (At (An ⟨[(0,Aw a0),(1,.str a1),(2,.clo f2 k2),(8,iV (a0.length:Int))],[],[]⟩ (fg ⟨rfl,rfl,rfl,rfl,tv⟩ tv) (Ab (Ac (st (Ag rfl tv (st (Bg tv (st (Ag rfl tv (At (An ⟨[(0,Aw a0),(1,.str a1),(2,.clo f2 k2),(8,iV (a0.length:Int)),(9,iV 0),(10,iV (a0.length:Int))],[],[]⟩ (fg ⟨rfl,rfl,rfl,rfl,rfl,rfl,tv⟩ tv) (Ab (Be ?_))))))))))))))))))))))))))))))
 obtain ⟨r30,e31,h0⟩:=bnd h0
 refine Cz (R:=(fun S=>∃p21:Int,p21=r30∧S=⟨[(0,Aw a0),(1,.str a1),(2,.clo f2 k2),(8,iV (a0.length:Int)),(9,iV p21)],[],[]⟩)) (Tc a0 a1 is2) (fun s S=>match s with | (p9,p10)=>S=⟨[(0,Aw a0),(1,.str a1),(2,.clo f2 k2),(8,iV (a0.length:Int)),(9,iV p9),(10,iV p10)],[],[]⟩) e31 ⟨[(0,Aw a0),(1,.str a1),(2,.clo f2 k2),(8,iV (a0.length:Int)),(9,iV 0),(10,iV (a0.length:Int))],[],[]⟩ (fg ⟨rfl,rfl,rfl,rfl,rfl,rfl,tv⟩ tv) rfl 0 (fun _=>rfl) ?_ ?_
 ·rintro S _ hfg ⟨p21,rfl,rfl⟩
  refine An ⟨[(0,Aw a0),(1,.str a1),(2,.clo f2 k2),(8,iV (a0.length:Int)),(9,iV p21)],[],[]⟩ (fgl hfg ⟨rfl,rfl,rfl,rfl,rfl,tv⟩ tv) (Ab (Ac (st (Ag rfl tv (st (Ag rfl tv (st (Ag rfl tv (st (c_ (Aj t3 rfl tv) (st (Ag rfl tv (st (Bu (u:=.clo f2 k2) rfl (fun hg=>(Gx (v:=.clo f2 k2) rfl tv)) (st (Bu (u:=Aw a0) rfl (fun hg=>(Gx (v:=Aw a0) rfl tv)) (st (Bu (u:=iV p21) rfl (fun hg=>(Gx (v:=iV p21) rfl tv)) ?_))))))))))))))))))
  obtain ⟨y32,e33,h0⟩:=bnd h0
  refine st (Bu (u:=.iptr (Ao y32)) rfl (fun hg=>(Eb (e:=Ao) (y:=y32) rfl rfl (fun _=>hg) rfl rfl (fun _=>hg) (ip hg e33))) (st (Bu (u:=.agg (Ao y32)) rfl (fun hg=>(Aj ⟨(fun _=>hg),tv⟩ rfl (nl rfl))) (st (Bu (u:=.str a1) rfl (fun hg=>(Gx (v:=.str a1) rfl tv)) ?_)))))
  obtain ⟨r34,e35,h0⟩:=bnd h0
  refine sw ⟨[(35,iV p21),(39,.bool (decide (p21<(a0.length:Int)))),(40,.may ((decide (p21<(a0.length:Int)))==true) (.clo f2 k2)),(44,.may ((decide (p21<(a0.length:Int)))==true) (.agg (Ao y32))),(45,.may ((decide (p21<(a0.length:Int)))==true) (.str a1))],[],[]⟩ (fg ⟨rfl,rfl,rfl,rfl,rfl,tv⟩ tv) (KJ (r:=iV r34) rfl rfl rfl (fun hg=>hg) false (fun hg=>hf2 _ _ r34 (ip hg e35)) ⟨(fun hg=>hg),(fun hg=>hg),tv⟩ (fun _=>(Cf rfl (Cf rfl hs2.2.2.1))) (fun _=>(Gf rfl (Gf rfl (hs2.2.1 _ _ _ _ _)))) (fun _=>rfl) (fun h=>nomatch h) (st (Bu (u:=.bool (r34==0)) rfl (fun hg=>(Aj ⟨(fun _=>hg),tv,tv⟩ rfl tv)) (st (Ct rfl rfl rfl (fun h=>Zh h) tv rfl (st (Ag rfl tv (st (Ag rfl tv (At (An ⟨[(6,iV p21),(7,.bool (bif (decide (p21<(a0.length:Int))) then (r34==0) else false))],[],[]⟩ (Ak (by kernel_rfl)) ?_)))))))))))
  obtain rfl:=sj h0
  exact Cr (Bj rfl rfl rfl rfl rfl tv)
 ·rintro ⟨p9,p10⟩ o1 _ K1 rfl h1 hx1 hK1 hE1 hR1
  refine Ab (Ab (Ac (st (Ag rfl tv (st (Ag rfl tv (st (c_ (Aj t3 rfl tv) (At (An ⟨[(0,Aw a0),(1,.str a1),(2,.clo f2 k2),(8,iV (a0.length:Int)),(9,iV p9),(10,iV p10),(17,.bool (decide (p9<p10)))],[],[]⟩ (fg ⟨rfl,rfl,rfl,rfl,rfl,rfl,rfl,tv⟩ tv) (Bs (cb:=(decide (p9<p10))) rfl (fun c22=>?_) (fun c22=>?_))))))))))))
  ·replace h1:=ip c22 h1
   refine Dn (An ⟨[(0,Aw a0),(1,.str a1),(2,.clo f2 k2),(8,iV (a0.length:Int)),(9,iV p9),(10,iV p10)],[],[]⟩ (fg ⟨rfl,rfl,rfl,rfl,rfl,rfl,tv⟩ tv) (Be (Ab (Ac (st (Ag rfl tv (st (Ag rfl tv (st (c_ (Aj t3 rfl tv) (st (c_ (Aj ⟨tv,tv⟩ rfl tv) (st (c_ (Aj ⟨tv,tv,tv⟩ rfl (by decide)) (st (c_ (Aj ⟨tv,tv⟩ rfl tv) (st (Ag rfl tv (At ?_)))))))))))))))))))
   obtain ⟨v23,e24,h1⟩:=bl h1
   refine An ⟨[(0,Aw a0),(1,.str a1),(2,.clo f2 k2),(8,iV (a0.length:Int)),(9,iV p9),(10,iV p10),(11,iV v23)],[],[]⟩ (fg ⟨(by subst e24; rfl),(by subst e24; rfl),(by subst e24; rfl),(by subst e24; rfl),(by subst e24; rfl),(by subst e24; rfl),(by subst e24; rfl),tv⟩ tv) (Ab (Ac (st (Ag rfl tv (st (Ag rfl tv (st (Ag rfl tv ?_))))))))
   obtain ⟨y25,e26,h1⟩:=bnd h1
   refine st (c_ (Eb (e:=Ao) (y:=y25) rfl rfl tv rfl rfl tv e26) (st (c_ (v:=.agg (Ao y25)) (Aj ⟨tv,tv⟩ rfl (nl rfl)) (st (Ag rfl tv ?_)))))
   obtain ⟨r27,e28,h1⟩:=bnd h1
   refine st (Kj (r:=iV r27) rfl false (hf2 _ _ r27 e28) ⟨tv,tv,tv⟩ (Cf rfl (Cf rfl hs2.2.2.1)) (Gf rfl (Gf rfl (hs2.2.1 _ _ _ _ _))) (fun _=>rfl) (st (c_ (Aj t3 rfl tv) (At (An ⟨[(0,Aw a0),(1,.str a1),(2,.clo f2 k2),(8,iV (a0.length:Int)),(9,iV p9),(10,iV p10),(11,iV v23),(31,.bool (decide (r27<0)))],[],[]⟩ (fg ⟨rfl,rfl,rfl,rfl,rfl,rfl,rfl,rfl,tv⟩ tv) (Bs (cb:=(decide (r27<0))) rfl (fun c29=>?_) (fun c29=>?_)))))))
   ·replace h1:=ip c29 h1
    refine Ac (st (Ag rfl tv (st (c_ (Aj t3 rfl tv) (st (Ag rfl tv (At (It ?_))))))))
    obtain rfl:=sj h1
    exact hK1 _ rfl _ ⟨[(0,Aw a0),(1,.str a1),(2,.clo f2 k2),(8,iV (a0.length:Int)),(9,iV (wi (v23+1))),(10,iV p10)],[],[]⟩ (fg ⟨rfl,rfl,rfl,rfl,rfl,rfl,tv⟩ tv) rfl
   ·replace h1:=Do c29 h1
    refine Ac (st (Ag rfl tv (st (Ag rfl tv (At (It ?_))))))
    obtain rfl:=sj h1
    exact hK1 _ rfl _ ⟨[(0,Aw a0),(1,.str a1),(2,.clo f2 k2),(8,iV (a0.length:Int)),(9,iV p9),(10,iV v23)],[],[]⟩ (fg ⟨rfl,rfl,rfl,rfl,rfl,rfl,tv⟩ tv) rfl
  ·replace h1:=Do c22 h1
   obtain rfl:=sj h1
   obtain rfl:=hx1 _ rfl
   refine Ke rfl ?_
   exact hE1 _ ⟨[(0,Aw a0),(1,.str a1),(2,.clo f2 k2),(8,iV (a0.length:Int)),(9,iV p9)],[],[]⟩ (fg ⟨rfl,rfl,rfl,rfl,rfl,tv⟩ tv) ⟨_,rfl,rfl⟩

/- internal/bytealg.CompareString -/
def JY:=[i_ 4 0]
def JZ:=[m_ 5 0,m_ 6 1,iQ 7 (.scmp (.t 5) (.t 6)),m_ 4 7]
def XU:Dh:=⟨2,8,[.t 4],sr JY (rr JZ)⟩
def SH (D:Bf):Prop:=∀a0 a1 r,TE a0 a1=some r→D 427 ⟨[.str a0,.str a1],[]⟩ ⟨iV r,[],[]⟩
theorem AaV:SH (FO C XU):=by
 intro a0 a1 r h0
 refine f0 (Ab (Ac (st (Bg tv (At (An ⟨[(0,.str a0),(1,.str a1)],[],[]⟩ (Ak (by kernel_rfl)) (Ab (Ac (st (Ag rfl tv (st (Ag rfl tv (st (c_ (XY rfl rfl tv rfl rfl tv) (st (Ag rfl tv (At (An ⟨[(4,iV (Vj a0 a1))],[],[]⟩ (Ak (by kernel_rfl)) ?_))))))))))))))))))
 obtain rfl:=sj h0
 exact Cr (Bj rfl rfl rfl rfl rfl tv)

/- strings.Compare -/
def HW:=[i_ 4 0]
def HX:=[m_ 5 0,m_ 6 1,q_ 7 427 [.t 5,.t 6],m_ 4 7]
def XK:Dh:=⟨2,8,[.t 4],sr HW (rr HX)⟩
def RY (D:Bf):Prop:=∀a0 a1 r,TC a0 a1=some r→D 418 ⟨[.str a0,.str a1],[]⟩ ⟨iV r,[],[]⟩
theorem AaM (H427:SH C):RY (FO C XK):=by
 intro a0 a1 r h0
 refine f0 (Ab (Ac (st (Bg tv (At (An ⟨[(0,.str a0),(1,.str a1)],[],[]⟩ (Ak (by kernel_rfl)) (Ab (Ac (st (Ag rfl tv (st (Ag rfl tv ?_))))))))))))
 obtain ⟨r1,e2,h0⟩:=bnd h0
 refine st (Ax (r:=iV r1) false (H427 a0 a1 r1 e2) ⟨tv,tv,tv⟩ rfl rfl (fun _=>rfl) (st (Ag rfl tv (At (An ⟨[(4,iV r1)],[],[]⟩ (Ak (by kernel_rfl)) ?_)))))
 obtain rfl:=sj h0
 exact Cr (Bj rfl rfl rfl rfl rfl tv)

/- loop.example/g00149/impl.apply$1 -/
def HU:=[X_ 2 0,i_ 4 0]
def HV:=[f_ 5 2 0,l_ 6 5 1,m_ 7 1,q_ 8 418 [.t 6,.t 7],m_ 4 8]
def XJ:Dh:=⟨2,9,[.t 4],sr HU (rr HV)⟩
def RX (D:Bf):Prop:=∀a0 a1 r,bQ a0 a1=some r→D 417 ⟨[.agg (Ao a0),.str a1],[]⟩ ⟨iV r,[],[]⟩
theorem AaL (H418:RY C):RX (FO C XJ):=by
 intro a0 a1 r h0
 refine f0 (Ab (Ac (st (Hm rfl tv rfl (st (Bg tv (At (An ⟨[(1,.str a1),(2,.ptr 128 0)],[(128,Ao a0)],[]⟩ (Ak (by kernel_rfl)) (Ab (Ac (st (c_ (Aj ⟨tv,tv⟩ rfl tv) (st (c_ (Aj ⟨tv,tv⟩ rfl (nl rfl)) (st (Ag rfl tv ?_))))))))))))))))
 obtain ⟨r1,e2,h0⟩:=bnd h0
 refine st (Ax (r:=iV r1) false (H418 a0.key a1 r1 e2) ⟨tv,tv,tv⟩ rfl rfl (fun _=>rfl) (st (Ag rfl tv (At (An ⟨[(4,iV r1)],[],[]⟩ (Ak (by kernel_rfl)) ?_)))))
 obtain rfl:=sj h0
 exact Cr (Bj rfl rfl rfl rfl rfl tv)

/- slices.Delete[[]loop.example/g00149/impl.Pair,loop.example/g00149/impl.Pair] -/
def HY:List Bi:=[⟨some 6,.nilS 2,none⟩]
def HZ:List Bi:=[m_ 8 0,m_ 9 1,m_ 10 2,m_ 11 0,n_ 12 11,⟨some 13,.chk3 (.t 8) (.t 9) (.t 10) (.t 12),none⟩]
def IA:=[m_ 14 1,m_ 15 2,b_ .eql 16 14 15]
def IB:=[m_ 17 0,m_ 6 17]
def IC:=[m_ 18 0,n_ 19 18,m_ 7 19]
def ID:=tk [m_ 20 0,m_ 21 1,⟨some 22,.p (.slice (.t 20) none (some (.t 21)) 2),none⟩,m_ 23 0,m_ 24 2,⟨some 25,.p (.slice (.t 23) (some (.t 24)) none 2),none⟩] (.alt [] ⟨some 26,.app 2 32 (.t 22) (.t 25),none⟩ (.alt [] (m_ 0 26) .fin .stop) .stop)
def IE:List Bi:=[m_ 27 0,m_ 28 0,n_ 29 28,m_ 30 7,⟨some 31,.p (.slice (.t 27) (some (.t 29)) (some (.t 30)) 2),none⟩,⟨none,.clear 2 [.str [],.str []] (.t 31),none⟩]
def IF:=[m_ 32 0,m_ 6 32]
def XL:Dh:=⟨3,33,[.t 6],sr HY (sr HZ (.seq (sr IA (iz 16 (rr IB))) (sr IC (sd ID (sr IE (rr IF))))))⟩
def RZ (D:Bf):Prop:=∀a0 a1 a2 r,NN a0 a1 a2=some r→D 419 ⟨[Aa 1024000 a0,iV a1,iV a2],[]⟩ ⟨Aa 0 r,[],[]⟩
theorem AaN:RZ (FO C XL):=by
 intro a0 a1 a2 r h0
 refine f0 ?_
 obtain ⟨⟨hb,hl⟩,h0⟩:=Kq h0
 obtain rfl:=sj h0
 obtain ⟨i,rfl⟩:=Int.eq_ofNat_of_zero_le hb.1
 obtain ⟨j,rfl⟩:=Int.eq_ofNat_of_zero_le (Int.le_trans hb.1 hb.2.1)
 have hij:i≤j:=by omega
 have hx63:(a0.length:Int)<Em:=by have:=hl; simp only [Em]; omega
 have hj:j≤a0.length:=by omega
 rw [show ((i:Nat):Int).toNat=i from rfl,show ((j:Nat):Int).toNat=j from rfl]
 refine Ab (Ac (st (Bw (At (An ⟨[(0,Aa 1024000 a0),(1,iV i),(2,iV j)],[],[]⟩ (fg ⟨rfl,rfl,rfl,tv⟩ tv) (Ab (Ac (st (Ag rfl tv (st (Ag rfl tv (st (Ag rfl tv (st (Ag rfl tv (st (c_ (Ez (e:=Ao) (l0:=a0) rfl rfl tv) (st (XW (e:=Ao) (l0:=a0) rfl rfl rfl rfl ⟨by omega,by omega,by omega,Int.le_refl _⟩ (At (An ⟨[(0,Aa 1024000 a0),(1,iV i),(2,iV j)],[],[]⟩ (fg ⟨rfl,rfl,rfl,tv⟩ tv) (Ab (Ab (Ac (st (Ag rfl tv (st (Ag rfl tv (st (c_ (Aj t3 rfl tv) (At (cF (Bs (cb:=(i:Int)==(j:Int)) rfl (fun h=>?_) (fun h=>?_))))))))))))))))))))))))))))))))))
 ·have e1:i=j:=by have:=eq_of_beq h; omega
  subst e1
  rw [List.take_append_drop]
  refine Ab (Ac (st (Ag rfl tv (st (Ag rfl tv (At (cF ?_)))))))
  exact Cr (Bj rfl rfl rfl rfl rfl tv)
 ·have hne:i≠j:=fun e1=>by subst e1; simp at h
  have hemp:a0.map Ao≠[]:=fun e1=>by
   have:=congrArg List.length e1
   simp at this
   subst this
   simp at hj
   omega
  refine Dn (An ⟨[(0,Aa 1024000 a0),(1,iV i),(2,iV j)],[],[]⟩ (fg ⟨rfl,rfl,rfl,tv⟩ tv) (Ab (Ac (st (Ag rfl tv (st (c_ (Ez (e:=Ao) (l0:=a0) rfl rfl tv) (st (Ag rfl tv (At (An ⟨[(0,Aa 1024000 a0),(1,iV i),(2,iV j),(7,iV (a0.length:Int))],[],[(0,(a0.length:Int))]⟩ (YO ⟨rfl,rfl,rfl,rfl,tv⟩ tv ⟨.inr (.inl ⟨_,_,_,_,rfl,hemp,by simp,hx63,by decide⟩),tv⟩) (Ab (Ds (Ah tv (Ag rfl tv (⟨tv,Ah tv (Ag rfl tv (⟨tv,Ah tv (c_ (De (e:=Ao) (y:=a0.take i) rfl rfl tv ⟨tv,tv⟩ rfl rfl (by rw [show (none:Option Int).getD 0=((0:Nat):Int) from rfl]; exact YM a0 0 i (by omega) (by omega))) (⟨tv,Ah tv (Ag rfl tv (⟨tv,Ah tv (Ag rfl tv (⟨tv,Ah tv (c_ (De (e:=Ao) (y:=a0.drop j) rfl rfl tv ⟨tv,tv⟩ rfl rfl (Yj a0 j hj)) (⟨tv,Fm (UN (e:=Ao) (l0:=a0.take i) (l1:=a0.drop j) (t:=1024000) (sz:=2) (vy:=.own 1024000 (0+j) 2 ((a0.drop j).map Ao)) (c:=(a0.length:Int)-0) rfl rfl tv rfl (show (1024000:Nat)<1048576 by decide) ?_ rfl ?_ ?_) Dl⟩))⟩))⟩))⟩))⟩))⟩))))))))))))))))
  ·have:(a0.take i).length+(a0.drop j).length≤a0.length:=by simp; omega
   exact Nat.le_trans (Nat.mul_le_mul_right 32 this) (Nat.le_trans (Nat.mul_le_mul_right 32 hl) (by decide))
  ·rw [Nj (show (a0.length:Int)-0<Em by omega)]; simp; omega
  refine Wg ⟨[],tv,tv,Fm (Ag rfl tv (Wg ⟨[],tv,tv,Iu ?_⟩)) Dl⟩
  generalize hR:a0.take i++a0.drop j=R
  have hRl:R.length≤a0.length:=by rw [←hR]; simp; omega
  refine An ⟨[(0,Aa 1024000 R),(7,iV (a0.length:Int))],[],[(0,(a0.length:Int)-0)]⟩ (YO ⟨rfl,rfl,tv⟩ tv ⟨.inl ⟨_,rfl,.inl rfl⟩,tv⟩) (Ab (Ac (st (Ag rfl tv (st (Ag rfl tv (st (c_ (Ez (e:=Ao) (l0:=R) rfl rfl tv) (st (Ag rfl tv (st (c_ (gR (e:=Ao) (R:=R) (t:=1024000) (sz:=2) (L:=R.length) (H:=a0.length) (c:=(a0.length:Int)-0) rfl rfl rfl rfl hRl (show (0:Nat)<2 by decide) rfl (by rw [Nj (show (a0.length:Int)-0<Em by omega)]; omega)) (st (mI rfl (At (An ⟨[(0,Aa 1024000 R)],[],[]⟩ (fg ⟨YH (Nat.le_refl _),tv⟩ tv) (Ab (Ac (st (Ag rfl tv (st (Ag rfl tv (At (cF ?_))))))))))))))))))))))))
  exact Cr (Bj rfl rfl rfl rfl rfl tv)

/- slices.Insert[[]loop.example/g00149/impl.Pair,loop.example/g00149/impl.Pair] -/
def IG:List Bi:=[⟨some 6,.nilS 2,none⟩]
def IH:List Bi:=[m_ 10 0,m_ 11 1,⟨some 12,.p (.slice (.t 10) (some (.t 11)) none 2),none⟩]
def II:=[m_ 13 2,n_ 14 13,m_ 7 14]
def IJ:=[m_ 15 7,B_ .eql 16 15 0]
def IK:=[m_ 17 0,m_ 6 17]
def IL:=[m_ 18 0,n_ 19 18,m_ 8 19]
def IM:=[m_ 20 1,m_ 21 8,b_ .eql 22 20 21]
def IN:List Bi:=[m_ 23 0,m_ 24 2,⟨some 25,.app 2 32 (.t 23) (.t 24),none⟩,m_ 6 25]
def IP:List Bi:=[m_ 26 8,m_ 27 7,b_ .add 28 26 27,m_ 29 0,⟨some 30,.cap (.t 29),none⟩,b_ .gtr 31 28 30]
def IQ:List Bi:=[m_ 32 0,m_ 33 1,⟨some 34,.p (.slice (.t 32) none (some (.t 33)) 2),none⟩,m_ 35 8,m_ 36 7,b_ .add 37 35 36,m_ 38 1,b_ .sub 39 37 38,⟨some 40,.appz 2 32 [.str [],.str []] (.t 34) (.t 39),none⟩,m_ 9 40]
def lI:List Bi:=[m_ 41 9,m_ 42 1,⟨some 43,.p (.slice (.t 41) (some (.t 42)) none 2),none⟩,m_ 44 2,⟨some 45,.copy 2 (.t 43) (.t 44),none⟩]
def lJ:=tk [m_ 46 9,m_ 47 1,m_ 48 7,b_ .add 49 47 48,⟨some 50,.p (.slice (.t 46) (some (.t 49)) none 2),none⟩,m_ 51 0,m_ 52 1,⟨some 53,.p (.slice (.t 51) (some (.t 52)) none 2),none⟩] (.alt [] ⟨some 54,.copy 2 (.t 50) (.t 53),none⟩ .fin .stop)
def lK:=[m_ 55 9,m_ 6 55]
def lL:List Bi:=[m_ 56 0,m_ 57 8,m_ 58 7,b_ .add 59 57 58,⟨some 60,.p (.slice (.t 56) none (some (.t 59)) 2),none⟩,m_ 0 60]
def lM:List Bi:=[m_ 61 2,m_ 62 0,m_ 63 1,m_ 64 7,b_ .add 65 63 64,⟨some 66,.p (.slice (.t 62) (some (.t 65)) none 2),none⟩,iQ 67 (.ovl (.t 61) (.t 66)),N_ 68 67]
def lN:=tk [m_ 69 0,m_ 70 1,m_ 71 7,b_ .add 72 70 71,⟨some 73,.p (.slice (.t 69) (some (.t 72)) none 2),none⟩,m_ 74 0,m_ 75 1,⟨some 76,.p (.slice (.t 74) (some (.t 75)) none 2),none⟩] (.alt [] ⟨some 77,.copy 2 (.t 73) (.t 76),none⟩ .fin .stop)
def lO:List Bi:=[m_ 78 0,m_ 79 1,⟨some 80,.p (.slice (.t 78) (some (.t 79)) none 2),none⟩,m_ 81 2,⟨some 82,.copy 2 (.t 80) (.t 81),none⟩]
def lP:=[m_ 83 0,m_ 6 83]
def lQ:List Bi:=[m_ 84 0,m_ 85 8,⟨some 86,.p (.slice (.t 84) (some (.t 85)) none 2),none⟩,m_ 87 2,⟨some 88,.copy 2 (.t 86) (.t 87),none⟩]
def lR:List Bi:=[m_ 89 0,m_ 90 1,⟨some 91,.p (.slice (.t 89) (some (.t 90)) none 2),none⟩,m_ 92 7,q_ 93 428 [.t 91,.t 92]]
def lS:=[m_ 94 0,m_ 6 94]
def XM:Dh:=⟨3,95,[.t 6],sr IG (sr IH (sr II (.seq (sr IJ (iz 16 (rr IK))) (sr IL (.seq (sr IM (iz 22 (rr IN))) (.seq (sr IP (iz 31 (sr IQ (sr lI (sd lJ (rr lK)))))) (sr lL (.seq (sr lM (iz 68 (sd lN (sr lO (rr lP))))) (sr lQ (sr lR (rr lS)))))))))))⟩
def SA (D:Bf):Prop:=∀a0 a1 a2 r,NO a0 a1 a2=some r→D 420 ⟨[Aa 1024000 a0,iV a1,Aa 2097152 a2],[]⟩ ⟨Aa 0 r.1,[],[(0,2,r.2.map Ao)]⟩
theorem AaO:SA (FO C XM):=by
 intro a0 a1 a2 r h0
 refine f0 ?_
 obtain ⟨⟨hb,hpos,hl⟩,h0⟩:=Kq h0
 obtain rfl:=sj h0
 obtain ⟨i,rfl⟩:=Int.eq_ofNat_of_zero_le hb.1
 have hi:i≤a0.length:=by omega
 rw [show ((i:Nat):Int).toNat=i from rfl]
 have hbyte:(a0.length+a2.length)*32≤140737488355328:=Nat.le_trans (Nat.mul_le_mul_right 32 hl) (by decide)
 have hsm:a0.length+a2.length≤140737488355328:=by omega
 have w1:wi ((a0.length:Int)+(a2.length:Int))=((a0.length+a2.length:Nat):Int):=pM _ (by omega) (by omega)
 have w2:wi ((i:Int)+(a2.length:Int))=((i+a2.length:Nat):Int):=pM _ (by omega) (by omega)
 have w3:wi (((a0.length+a2.length:Nat):Int)-(i:Int))=((a0.length+a2.length-i:Nat):Int):=pM _ (by omega) (by omega)
 refine Ab (Ac (st (Bw (At (An ⟨[(0,Aa 1024000 a0),(1,iV i),(2,Aa 2097152 a2)],[],[]⟩ (fg ⟨rfl,rfl,rfl,tv⟩ tv) (Ab (Ac (st (Ag rfl tv (st (Ag rfl tv (st (c_ (De (e:=Ao) (y:=a0.drop i) rfl rfl tv ⟨tv,tv⟩ rfl rfl (Yj a0 i hi)) (At (An ⟨[(0,Aa 1024000 a0),(1,iV i),(2,Aa 2097152 a2)],[],[]⟩ (fg ⟨rfl,rfl,rfl,tv⟩ tv) (Ab (Ac (st (Ag rfl tv (st (c_ (Ez (e:=Ao) (l0:=a2) rfl rfl tv) (st (Ag rfl tv (At (An ⟨[(0,Aa 1024000 a0),(1,iV i),(2,Aa 2097152 a2),(7,iV (a2.length:Int))],[],[]⟩ (fg ⟨rfl,rfl,rfl,rfl,tv⟩ tv) (Ab (Ab (Ac (st (Ag rfl tv (st (c_ (Aj t3 rfl tv) (At (cF (Bs (cb:=(a2.length:Int)==0) rfl (fun h=>absurd (eq_of_beq h) (by omega)) (fun _=>(Dn (An ⟨[(0,Aa 1024000 a0),(1,iV i),(2,Aa 2097152 a2),(7,iV (a2.length:Int))],[],[]⟩ (fg ⟨rfl,rfl,rfl,rfl,tv⟩ tv) (Ab (Ac ?_))))))))))))))))))))))))))))))))))))))))
 refine st (Ag rfl tv (st (c_ (Ez (e:=Ao) (l0:=a0) rfl rfl tv) (st (Ag rfl tv (At (An ⟨[(0,Aa 1024000 a0),(1,iV i),(2,Aa 2097152 a2),(7,iV (a2.length:Int)),(8,iV (a0.length:Int))],[],[]⟩ (fg ⟨rfl,rfl,rfl,rfl,rfl,tv⟩ tv) (Ab (Ab (Ac (st (Ag rfl tv (st (Ag rfl tv (st (c_ (Aj t3 rfl tv) (At (cF (Bs (cb:=(i:Int)==(a0.length:Int)) rfl (fun h=>?_) (fun h=>?_))))))))))))))))))))
 ·have e1:i=a0.length:=by have:=eq_of_beq h; omega
  subst e1
  rw [List.take_length,List.drop_length,List.append_nil]
  refine Ab (Ac (st (Ag rfl tv (st (Ag rfl tv (st (Hc (e:=Ao) (l0:=a0) (l1:=a2) rfl rfl tv rfl (show (1024000:Nat)<1048576 by decide) hbyte (st (Ag rfl tv (At (An ⟨[(6,Aa 1024000 (a0++a2)),(2,Aa 2097152 a2)],[],[]⟩ (fg ⟨rfl,rfl,tv⟩ tv) ?_)))))))))))
  exact Cr (Bj rfl rfl rfl rfl rfl ⟨⟨rfl,TM (fun _=>rfl)⟩,tv⟩)
 have hlt:i<a0.length:=by
  have:(i:Int)≠(a0.length:Int):=fun h1=>by rw [h1] at h; simp at h
  omega
 have hemp:a0.map Ao≠[]:=fun e1=>by
  have:=congrArg List.length e1
  simp at this
  subst this
  simp at hlt
 have hemp2:a2.map Ao≠[]:=fun e1=>by
  have:=congrArg List.length e1
  simp at this
  subst this
  simp at hpos
 refine Dn (An ⟨[(0,Aa 1024000 a0),(1,iV i),(2,Aa 2097152 a2),(7,iV (a2.length:Int)),(8,iV (a0.length:Int))],[],[]⟩ (fg ⟨rfl,rfl,rfl,rfl,rfl,tv⟩ tv) (Ab (Ab (Ac (st (Ag rfl tv (st (Ag rfl tv (st (c_ (Aj (v:=iV ((a0.length+a2.length:Nat):Int)) ⟨tv,tv,tv⟩ (congrArg (fun z=>some (True,V.int .i64 z)) w1) tv) (st (Ag rfl tv (st (cap_ (e:=Ao) (l0:=a0) rfl fun c hc _ _=>(st (c_ (Aj t3 rfl tv) (At ?_)))))))))))))))))
 refine An ⟨[(31,.bool (decide (((a0.length+a2.length:Nat):Int)>(c:Int)))),(0,Aa 1024000 a0),(1,iV i),(2,Aa 2097152 a2),(7,iV (a2.length:Int)),(8,iV (a0.length:Int))],[],[(0,Em+(c:Int))]⟩
  (YO ⟨rfl,rfl,rfl,rfl,rfl,rfl,tv⟩ tv ⟨.inr (.inr ⟨29,Em+(c:Int),_,_,0,_,0,_,rfl,rfl,hemp,rfl,hemp,by decide,.inr ⟨rfl,rfl⟩⟩),tv⟩) ?_
 refine Bs (cb:=decide (((a0.length+a2.length:Nat):Int)>(c:Int))) rfl (fun hgt=>?_) (fun hle=>?_)
 ·have hgt':c<a0.length+a2.length:=by have:=of_decide_eq_true hgt; omega
  refine Ab (Ac (st (Ag rfl tv (st (Ag rfl tv (st (c_ (De (e:=Ao) (y:=a0.take i) rfl rfl tv ⟨tv,tv⟩ rfl rfl (by rw [show (none:Option Int).getD 0=((0:Nat):Int) from rfl]; exact YM a0 0 i (by omega) (by omega))) (st (Ag rfl tv (st (Ag rfl tv (st (c_ (Aj (v:=iV ((a0.length+a2.length:Nat):Int)) ⟨tv,tv,tv⟩ (congrArg (fun z=>some (True,V.int .i64 z)) w1) tv) (st (Ag rfl tv (st (c_ (Aj (v:=iV ((a0.length+a2.length-i:Nat):Int)) ⟨tv,tv,tv⟩ (congrArg (fun z=>some (True,V.int .i64 z)) w3) tv) (st (SO (e:=Ao) (l0:=a0.take i) (c:=Em+(c:Int)-0) (t:=1024000) (default:Al) rfl rfl rfl (by decide) (Int.natCast_nonneg _) ?_ rfl (by omega) ?_ ?_)))))))))))))))))))
  ·have e1:(a0.take i).length+(a0.length+a2.length-i)=a0.length+a2.length:=by simp; omega
   have:=Int.ofNat_le.2 hbyte
   rw [Int.natCast_mul] at this
   rw [←Int.natCast_add,e1]
   exact this
  ·have e1:(a0.take i).length=i:=by simp; omega
   rw [e1]; omega
  rw [show ((a0.length+a2.length-i:Nat):Int).toNat=a0.length+a2.length-i from rfl]
  refine st (Ag rfl tv (At (An ⟨[(9,Aa 2560 (a0.take i++List.replicate (a0.length+a2.length-i) (default:Al))),(0,Aa 1024000 a0),(1,iV i),(2,Aa 2097152 a2),(7,iV (a2.length:Int))],[],[]⟩ (fg ⟨rfl,rfl,rfl,rfl,rfl,tv⟩ tv) ?_)))
  generalize hR:a0.take i++List.replicate (a0.length+a2.length-i) (default:Al)=R
  have hRl:R.length=a0.length+a2.length:=by rw [←hR]; simp; omega
  have hRt:R.take i=a0.take i:=by rw [←hR,List.take_append_of_le_length (by simp; omega),List.take_take,Nat.min_self]
  refine Ab (Ac (st (Ag rfl tv (st (Ag rfl tv (st (c_ (De (e:=Ao) (y:=R.drop i) rfl rfl tv ⟨tv,tv⟩ rfl rfl (Yj R i (by omega))) (st (Ag rfl tv (st (copy_ (e:=Ao) (l0:=R.drop i) (l1:=a2) (t:=2560) rfl rfl tv rfl (At (An ⟨[(9,Aa 2560 (ovl R i (a2.take (R.drop i).length))),(0,Aa 1024000 a0),(1,iV i),(2,Aa 2097152 a2),(7,iV (a2.length:Int))],[],[]⟩ (fg ⟨congrArg (fun z=>some (V.own 2560 0 2 z)) (Ee (off:=0)),rfl,rfl,rfl,rfl,tv⟩ tv) ?_)))))))))))))
  have hR2l:(ovl R i (a2.take (R.drop i).length)).length=a0.length+a2.length:=by rw [No,hRl]
  generalize hR2:ovl R i (a2.take (R.drop i).length)=R2 at hR2l
  refine Ab (Ds (Ah tv (Ag rfl tv (⟨tv,Ah tv (Ag rfl tv (⟨tv,Ah tv (Ag rfl tv (⟨tv,Ah tv (c_ (Aj (v:=iV ((i+a2.length:Nat):Int)) ⟨tv,tv,tv⟩ (congrArg (fun z=>some (True,V.int .i64 z)) w2) tv) (⟨tv,Ah tv (c_ (De (e:=Ao) (y:=R2.drop (i+a2.length)) rfl rfl tv ⟨tv,tv⟩ rfl rfl (Yj R2 (i+a2.length) (by omega))) (⟨tv,Ah tv (Ag rfl tv (⟨tv,Ah tv (Ag rfl tv (⟨tv,Ah tv (c_ (De (e:=Ao) (y:=a0.drop i) rfl rfl tv ⟨tv,tv⟩ rfl rfl (Yj a0 i hi)) (⟨tv,Fm (copy_ (e:=Ao) (l0:=R2.drop (i+a2.length)) (l1:=a0.drop i) (t:=2560) rfl rfl tv rfl (Wg ⟨[],tv,tv,Iu ?_⟩)) Dl⟩))⟩))⟩))⟩))⟩))⟩))⟩))⟩))))
  have hfin:ovl R2 (i+a2.length) ((a0.drop i).take (R2.drop (i+a2.length)).length)=a0.take i++a2++a0.drop i:=by
   rw [←hR2]
   exact OE hRl hRt hi
  refine An ⟨[(9,Aa 2560 (a0.take i++a2++a0.drop i)),(2,Aa 2097152 a2)],[],[]⟩ (fg ⟨(congrArg (fun z=>some (V.own 2560 0 2 z)) (Ee (off:=0))).trans (congrArg (fun z=>some (V.own 2560 0 2 (z.map Ao))) hfin),rfl,tv⟩ tv) (Ab (Ac (st (Ag rfl tv (st (Ag rfl tv (At (cF ?_))))))))
  exact Cr (Bj rfl rfl rfl rfl rfl ⟨⟨rfl,TM (fun _=>rfl)⟩,tv⟩)
 ·have hle':a0.length+a2.length≤c:=by have:=of_decide_eq_false hle; omega
  refine Dn ?_
  refine An ⟨[(0,Aa 1024000 a0),(1,iV i),(2,Aa 2097152 a2),(7,iV (a2.length:Int)),(8,iV (a0.length:Int))],[],[(0,Em+(c:Int))]⟩
   (YO ⟨rfl,rfl,rfl,rfl,rfl,tv⟩ tv ⟨.inl ⟨_,rfl,.inl rfl⟩,tv⟩) ?_
  refine Ab (Ac (st (Ag rfl tv (st (Ag rfl tv (st (Ag rfl tv (st (c_ (Aj (v:=iV ((a0.length+a2.length:Nat):Int)) ⟨tv,tv,tv⟩ (congrArg (fun z=>some (True,V.int .i64 z)) w1) tv) (st (c_ (OM (e:=Ao) (l0:=a0) (t:=1024000) (sz:=2) (H:=a0.length+a2.length) (c:=Em+(c:Int)) rfl rfl (Nat.le_add_right _ _) (show (0:Nat)<2 by decide) rfl (by rw [Xx]; omega)) (st (Ag rfl tv (At ?_))))))))))))))
  rw [Nat.add_sub_cancel_left]
  have hA0:(a0.map some++List.replicate a2.length none).length=a0.length+a2.length:=by simp
  have hA1:(a0.map some++List.replicate a2.length none).take i=(a0.take i).map some:=by rw [List.take_append_of_le_length (by simpa using hi),List.map_take]
  have hA2:((a0.map some++List.replicate a2.length none).drop i).take (a0.length-i)=(a0.drop i).map some:=by
   rw [List.drop_append_of_le_length (by simpa using hi),←List.map_drop,List.take_append_of_le_length (by simp),List.take_of_length_le (by simp)]
  generalize (a0.map some++List.replicate a2.length none:List (Option (Al)))=A at hA0 hA1 hA2
  refine An ⟨[(0,.own 1024000 0 2 (A.map (eo Ao 2))),(1,iV i),(2,Aa 2097152 a2),(7,iV (a2.length:Int)),(8,iV (a0.length:Int))],[],[]⟩ (fg ⟨rfl,rfl,rfl,rfl,rfl,tv⟩ tv) (Ab (Ab (Ac (st (Ag rfl tv (st (Ag rfl tv (st (Ag rfl tv (st (Ag rfl tv (st (c_ (Aj (v:=iV ((i+a2.length:Nat):Int)) ⟨tv,tv,tv⟩ (congrArg (fun z=>some (True,V.int .i64 z)) w2) tv) (st (c_ (De (e:=eo Ao 2) (y:=A.drop (i+a2.length)) rfl rfl tv ⟨tv,tv⟩ rfl rfl (Yj A (i+a2.length) (by omega))) (st (c_ (covl rfl rfl (by decide) hemp2 (fun e1=>?_)) ?_)))))))))))))))))
  ·have:=congrArg List.length e1
   simp at this
   omega
  refine st (c_ (Aj ⟨tv,tv⟩ rfl tv) (At (An ⟨[(68,.bool true),(0,.own 1024000 0 2 (A.map (eo Ao 2))),(1,iV i),(2,Aa 2097152 a2),(7,iV (a2.length:Int)),(8,iV (a0.length:Int))],[],[]⟩ (fg ⟨rfl,rfl,rfl,rfl,rfl,rfl,tv⟩ tv) (Bs (cb:=true) rfl (fun _=>(Ab (Ds (Ah tv (Ag rfl tv (⟨tv,Ah tv (Ag rfl tv (⟨tv,Ah tv (Ag rfl tv (⟨tv,Ah tv (c_ (Aj (v:=iV ((i+a2.length:Nat):Int)) ⟨tv,tv,tv⟩ (congrArg (fun z=>some (True,V.int .i64 z)) w2) tv) (⟨tv,Ah tv (c_ (De (e:=eo Ao 2) (y:=A.drop (i+a2.length)) rfl rfl tv ⟨tv,tv⟩ rfl rfl (Yj A (i+a2.length) (by omega))) (⟨tv,Ah tv (Ag rfl tv (⟨tv,Ah tv (Ag rfl tv (⟨tv,Ah tv (c_ (De (e:=eo Ao 2) (y:=A.drop i) rfl rfl tv ⟨tv,tv⟩ rfl rfl (Yj A i (by omega))) (⟨tv,Fm (copy_ (e:=eo Ao 2) (l0:=A.drop (i+a2.length)) (l1:=A.drop i) (t:=1024000) rfl rfl tv rfl (Wg ⟨[],tv,tv,Iu ?_⟩)) Dl⟩))⟩))⟩))⟩))⟩))⟩))⟩))⟩)))))) (fun h=>by cases h)))))
  have hB:(A.drop i).take (A.drop (i+a2.length)).length=(a0.drop i).map some:=by
   rw [←hA2]; congr 1; simp; omega
  rw [hB]
  refine An ⟨[(0,.own 1024000 0 2 ((ovl A (i+a2.length) ((a0.drop i).map some)).map (eo Ao 2))),(1,iV i),(2,Aa 2097152 a2)],[],[]⟩ (fg ⟨congrArg (fun z=>some (V.own 1024000 0 2 z)) (Ee (off:=0)),rfl,rfl,tv⟩ tv) ?_
  have hR2l:(ovl A (i+a2.length) ((a0.drop i).map some)).length=a0.length+a2.length:=by rw [No,hA0]
  have hfin:ovl (ovl A (i+a2.length) ((a0.drop i).map some)) i (a2.map some)=(a0.take i++a2++a0.drop i).map some:=oG hA0 hA1 hi
  generalize ovl A (i+a2.length) ((a0.drop i).map some)=R2 at hR2l hfin
  refine Ab (Ac (st (Ag rfl tv (st (Ag rfl tv (st (c_ (De (e:=eo Ao 2) (y:=R2.drop i) rfl rfl tv ⟨tv,tv⟩ rfl rfl (Yj R2 i (by omega))) (st (Ag rfl tv (st (copy_ (e:=eo Ao 2) (l0:=R2.drop i) (l1:=a2.map some) (t:=1024000) rfl rfl tv (congrArg (fun z=>some (2,z)) (Xi a2)) (At ?_))))))))))))
  have hT:(a2.map some).take (R2.drop i).length=a2.map some:=List.take_of_length_le (by simp; omega)
  rw [hT]
  refine An ⟨[(0,Aa 1024000 (a0.take i++a2++a0.drop i)),(2,Aa 2097152 a2)],[],[]⟩
   (fg ⟨(congrArg (fun z=>some (V.own 1024000 0 2 z)) (Ee (off:=0))).trans (congrArg (fun z=>some (V.own 1024000 0 2 z)) ((congrArg (List.map (eo Ao 2)) hfin).trans (Xi _).symm)),rfl,tv⟩ tv) ?_
  refine Ab (Ac (st (Ag rfl tv (st (Ag rfl tv (At (cF ?_)))))))
  exact Cr (Bj rfl rfl rfl rfl rfl ⟨⟨rfl,TM (fun _=>rfl)⟩,tv⟩)


/- loop.example/g00149/impl.apply -/
def DL:List Bi:=[⟨some 4,.nilS 2,none⟩,k_ 5 (.bool false)]
def DM:=[m_ 11 0,q_ 12 403 [.t 11],m_ 6 12]
def DN:=[m_ 13 1,n_ 14 13,i_ 15 0]
def DO:=[b_ .lss 16 15 14]
def DQ:=[x_ 17 13 15 3,L_ 18 17 3,a_ 8 [.str [],.str [],.bool false],s_ 8 18 3]
def DR:=[m_ 20 6,f_ 21 8 0,l_ 22 21 1,q_ 23 416 [.t 20,.t 22,.c (.clo 417 [])],m_ 19 23,e_ 24 19 0,e_ 25 19 1,m_ 9 24,m_ 10 25]
def DS:=[m_ 26 10]
def DT:=[m_ 27 6,m_ 28 9,m_ 29 9,B_ .add 30 29 1,q_ 31 419 [.t 27,.t 28,.t 30],m_ 6 31]
def DU:=[f_ 32 8 2,l_ 33 32 1,N_ 34 33]
def DV:List Bi:=[m_ 35 6,m_ 36 9,f_ 37 8 0,l_ 38 37 1,f_ 39 8 1,l_ 40 39 1,⟨some 41,.p (.build [.str [],.str []] [(0,1,.t 38),(1,1,.t 40)]),none⟩,⟨some 42,.mkS 2 [.str [],.str []] 1 [(0,.t 41)],none⟩,q_ 43 420 [.t 35,.t 36,.t 42],m_ 6 43]
def kR:=[B_ .add 44 15 1,m_ 15 44]
def DK:IR:=(sr DO (.seq (.ite (.t 16) .skip (.exit 0)) (.seq (.block 1 (sr DQ (sr DR (.seq (sr DS (iz 26 (.reg DT))) (sr DU (iz 34 (.reg DV))))))) (.reg kR))))
def kS:=[m_ 45 6,m_ 46 6,n_ 47 46,B_ .leq 48 47 100,m_ 4 45,m_ 5 48]
def WS:Dh:=⟨2,49,[.t 4,.t 5],sr DL (sr DM (.seq (sr DN (Li 0 DK)) (rr kS)))⟩
def iH (D:Bf):Prop:=∀a0 a1 r,fS a0 a1=some r→D 397 ⟨[Aw a0,Af a1],[]⟩ ⟨.tup [Aa 0 r.1,.bool r.2],[],[]⟩
theorem Aav (H403:qL C) (H416:RU C) (H417:RX C) (H419:RZ C) (H420:SA C):iH (FO C WS):=by
 intro a0 a1 r h0
 refine f0 (Ab (Ac (st (Bw (st (Bg tv (At (An ⟨[(0,Aw a0),(1,Af a1)],[],[]⟩ (Ak (by kernel_rfl)) (Ab (Ac (st (Ag rfl tv ?_))))))))))))
 obtain ⟨r1,e2,h0⟩:=bnd h0
 refine st (Ax (r:=Aa 0 r1) false (H403 a0 r1 e2) ⟨tv,tv⟩ rfl rfl (fun _=>(Cf (Jo (fun _=>rfl)) rfl)) (st (Ag rfl tv (At (An ⟨[(1,Af a1),(6,Aa 768 r1)],[],[]⟩ (Ak (by kernel_rfl)) (Ab (Ab (Ac (st (Ag rfl tv (st (c_ (Cg (e:=Ad) (l0:=a1) rfl rfl tv) (st (Bg tv (At (An ⟨[(6,Aa 768 r1),(13,Af a1),(14,iV (a1.length:Int)),(15,iV 0)],[],[]⟩ (Ak (by kernel_rfl)) (Be ?_)))))))))))))))))
 obtain ⟨r67,e68,h0⟩:=bnd h0
 refine Cz (R:=(fun S=>∃p35:List Al,p35=r67∧S=⟨[(6,Aa 768 p35)],[],[]⟩)) (Nf a1) (fun s S=>match s with | (p17,p18)=>S=⟨[(6,Aa 768 p17),(13,Af a1),(14,iV (a1.length:Int)),(15,iV p18)],[],[]⟩) e68 ⟨[(6,Aa 768 r1),(13,Af a1),(14,iV (a1.length:Int)),(15,iV 0)],[],[]⟩ (Ak (by kernel_rfl)) rfl 0 (fun _=>rfl) ?_ ?_
 ·rintro S _ hfg ⟨p35,rfl,rfl⟩
  refine An ⟨[(6,Aa 768 p35)],[],[]⟩ (Ft hfg (by kernel_rfl)) (Ab (Ac (st (Ag rfl tv (st (Ag rfl tv (st (c_ (Ez (e:=Ao) (l0:=p35) rfl rfl tv) (st (c_ (Aj t3 rfl tv) (st (Ag rfl tv (st (Ag rfl tv (At (An ⟨[(4,Aa 768 p35),(5,.bool (decide ((p35.length:Int)≤100)))],[],[]⟩ (Ak (by kernel_rfl)) ?_))))))))))))))))
  obtain rfl:=sj h0
  exact Cr (Bj rfl rfl rfl rfl rfl tv)
 ·rintro ⟨p17,p18⟩ o1 _ K1 rfl h1 hx1 hK1 hE1 hR1
  refine Ab (Ac (st (c_ (Aj t3 rfl tv) (At (An ⟨[(6,Aa 768 p17),(13,Af a1),(14,iV (a1.length:Int)),(15,iV p18),(16,.bool (decide (p18<(a1.length:Int))))],[],[]⟩ (Ak (by kernel_rfl)) (Ab (Bs (cb:=(decide (p18<(a1.length:Int)))) rfl (fun c36=>?_) (fun c36=>?_))))))))
  ·replace h1:=ip c36 h1
   refine Dn (An ⟨[(6,Aa 768 p17),(13,Af a1),(14,iV (a1.length:Int)),(15,iV p18)],[],[]⟩ (Ak (by kernel_rfl)) (Ab (Tn (fun S=>∃p49:List Al,S=⟨[(6,Aa 2752 p49),(13,Af a1),(14,iV (a1.length:Int)),(15,iV p18)],[],[]⟩∧Sy p18 p49=some o1) ?_ (fun J50=>?_))))
   ·rintro _ ⟨p49,rfl,h1⟩
    refine An ⟨[(6,Aa 2752 p49),(13,Af a1),(14,iV (a1.length:Int)),(15,iV p18)],[],[]⟩ (Ak (by kernel_rfl)) (Ac (st (c_ (Aj t3 rfl tv) (st (Ag rfl tv (At ?_))))))
    obtain rfl:=sj h1
    exact hK1 _ rfl _ ⟨[(6,Aa 768 p49),(13,Af a1),(14,iV (a1.length:Int)),(15,iV (wi (p18+1)))],[],[]⟩ (Zi [] [(2752,768)] rfl (by kernel_rfl)) rfl
   ·refine Ab ?_
    refine Ac ?_
    obtain ⟨y51,e52,h1⟩:=bnd h1
    refine st (c_ (Eb (e:=Ad) (y:=y51) rfl rfl tv rfl rfl tv e52) (st (c_ (v:=.agg (Ad y51)) (Aj ⟨tv,tv⟩ rfl (nl rfl)) (st (Dt (st (El rfl rfl tv rfl rfl rfl (nl rfl) (At (An ⟨[(6,Aa 768 p17),(8,.ptr 512 0),(13,Af a1),(14,iV (a1.length:Int)),(15,iV p18)],[(512,Ad y51)],[]⟩ (Ak (by kernel_rfl)) (Ab (Ac (st (Ag rfl tv (st (c_ (Aj ⟨tv,tv⟩ rfl tv) (st (c_ (Aj ⟨tv,tv⟩ rfl (nl rfl)) ?_)))))))))))))))))
    obtain ⟨r53,e54,h1⟩:=bnd h1
    refine st (Ax (r:=.tup [iV r53.1,.bool r53.2]) false (H416 p17 y51.key 417 [] (fun z417_0 z417_1=>bQ z417_0 z417_1) (⟨fun _ _ _ _ _=>rfl,fun _ _ _ _ _=>rfl,rfl,fun _ _ _ n=>by cases n<;>rfl,fun _=>rfl⟩) (fun z417_0 z417_1 r h=>H417 z417_0 z417_1 r h) r53 e54) ⟨tv,tv,tv,tv⟩ rfl rfl (fun _=>rfl) (st (Ag rfl tv (st (c_ (Aj ⟨tv,tv⟩ rfl tv) (st (c_ (Aj ⟨tv,tv⟩ rfl tv) (st (Ag rfl tv (st (Ag rfl tv (At (An ⟨[(6,Aa 768 p17),(8,.ptr 512 0),(9,iV r53.1),(10,.bool r53.2),(13,Af a1),(14,iV (a1.length:Int)),(15,iV p18)],[(512,Ad y51)],[]⟩ (Ak (by kernel_rfl)) (Ab (Ab (Ac (st (Ag rfl tv (At (An ⟨[(6,Aa 768 p17),(8,.ptr 512 0),(9,iV r53.1),(13,Af a1),(14,iV (a1.length:Int)),(15,iV p18),(26,.bool r53.2)],[(512,Ad y51)],[]⟩ (Ak (by kernel_rfl)) (Zt (cb:=r53.2) (fun S=>∃p58:List Al,S=⟨[(6,Aa 1984 p58),(8,.ptr 512 0),(9,iV r53.1),(13,Af a1),(14,iV (a1.length:Int)),(15,iV p18)],[(512,Ad y51)],[]⟩∧Ps p18 y51 r53 p58=some o1) rfl ?_ (fun c64 J63=>?_) (fun c64 J63=>?_))))))))))))))))))))))
    ·rintro _ ⟨p58,rfl,h1⟩
     refine An ⟨[(6,Aa 1984 p58),(8,.ptr 512 0),(9,iV r53.1),(13,Af a1),(14,iV (a1.length:Int)),(15,iV p18)],[(512,Ad y51)],[]⟩ (Ak (by kernel_rfl)) (Ab (Ac (st (c_ (Aj ⟨tv,tv⟩ rfl tv) (st (c_ (Aj ⟨tv,tv⟩ rfl (nl rfl)) (st (c_ (Aj ⟨tv,tv⟩ rfl tv) (At (An ⟨[(6,Aa 1984 p58),(8,.ptr 512 0),(9,iV r53.1),(13,Af a1),(14,iV (a1.length:Int)),(15,iV p18),(34,.bool (!y51.Dm))],[(512,Ad y51)],[]⟩ (Ak (by kernel_rfl)) (Bs (cb:=(!y51.Dm)) rfl (fun c59=>?_) (fun c59=>?_))))))))))))
     ·replace h1:=ip c59 h1
      refine Ac (st (Ag rfl tv (st (Ag rfl tv (st (c_ (Aj ⟨tv,tv⟩ rfl tv) (st (c_ (Aj ⟨tv,tv⟩ rfl (nl rfl)) (st (c_ (Aj ⟨tv,tv⟩ rfl tv) (st (c_ (Aj ⟨tv,tv⟩ rfl (nl rfl)) (st (c_ (v:=.agg [.str y51.key,.str y51.value]) (Aj ⟨tv,tv,tv⟩ rfl ⟨⟨rfl,rfl,nl rfl⟩,⟨rfl,rfl,nl rfl⟩,tv⟩) (st (Fk ⟨tv,tv⟩ ⟨⟨nl rfl,rfl,rfl⟩,tv⟩ ?_))))))))))))))))
      obtain ⟨r60,e61,h1⟩:=bnd h1
      obtain ⟨c62,h1⟩:=Kq h1
      refine sw ⟨[(13,Af a1),(14,iV (a1.length:Int)),(15,iV p18),(35,Aa 1984 p58),(36,iV r53.1),(42,Aa 2688 ([Al.mk y51.key y51.value]:List Al))],[],[]⟩ (Ak (by kernel_rfl)) (Gm [] [2688] [1984] false (H420 p58 r53.1 ([Al.mk y51.key y51.value]:List Al) r60 e61) ⟨tv,tv,tv,tv⟩ (by kernel_rfl) (by kernel_rfl) (by kernel_rfl) (by kernel_rfl) (fun _=>Cf (Cf (Jo (fun _=>rfl)) rfl) (Cf (fl2 (fun _=>rfl)) rfl)) (sw ⟨[(13,Af a1),(14,iV (a1.length:Int)),(15,iV p18),(43,Aa 2752 r60.1)],[],[]⟩ (Ak (by kernel_rfl)) (Ag rfl tv (At (It ?_)))))
      exact J50 _ ⟨[(6,Aa 2752 r60.1),(13,Af a1),(14,iV (a1.length:Int)),(15,iV p18)],[],[]⟩ (Ak (by kernel_rfl)) ⟨_,rfl,h1⟩
     ·replace h1:=Do c59 h1
      refine Dn (It ?_)
      exact J50 _ ⟨[(6,Aa 2752 p58),(13,Af a1),(14,iV (a1.length:Int)),(15,iV p18)],[],[]⟩ (Zi [] [(1984,2752)] rfl (by kernel_rfl)) ⟨_,rfl,h1⟩
    ·replace h1:=ip c64 h1
     refine Ac (st (Ag rfl tv (st (Ag rfl tv (st (Ag rfl tv (st (c_ (Aj t3 rfl tv) ?_))))))))
     obtain ⟨r65,e66,h1⟩:=bnd h1
     refine st (Gm [] [] [768] false (H419 p17 r53.1 (wi (r53.1+1)) r65 e66) ⟨tv,tv,tv,tv⟩ (by kernel_rfl) (by kernel_rfl) (by kernel_rfl) (by kernel_rfl) (fun _=>Cf (Cf (Jo (fun _=>rfl)) rfl) rfl) (sw ⟨[(8,.ptr 512 0),(9,iV r53.1),(13,Af a1),(14,iV (a1.length:Int)),(15,iV p18),(31,Aa 1984 r65)],[(512,Ad y51)],[]⟩ (Ak (by kernel_rfl)) (Ag rfl tv (At ?_))))
     exact J63 _ ⟨[(6,Aa 1984 r65),(8,.ptr 512 0),(9,iV r53.1),(13,Af a1),(14,iV (a1.length:Int)),(15,iV p18)],[(512,Ad y51)],[]⟩ (Ak (by kernel_rfl)) ⟨_,rfl,h1⟩
    ·replace h1:=Do c64 h1
     refine Dn ?_
     exact J63 _ ⟨[(6,Aa 1984 p17),(8,.ptr 512 0),(9,iV r53.1),(13,Af a1),(14,iV (a1.length:Int)),(15,iV p18)],[(512,Ad y51)],[]⟩ (Zi [] [(768,1984)] rfl (by kernel_rfl)) ⟨_,rfl,h1⟩
  ·replace h1:=Do c36 h1
   obtain rfl:=sj h1
   obtain rfl:=hx1 _ rfl
   refine Ke rfl ?_
   exact hE1 _ ⟨[(6,Aa 768 p17)],[],[]⟩ (Ak (by kernel_rfl)) ⟨_,rfl,rfl⟩

/- (loop.example/g00149/impl.Device).load -/
def DX:List Bi:=[X_ 1 0,⟨some 2,.nilS 2,none⟩]
def DY:=[L_ 12 1 2,q_ 13 263 [.t 12],q_ 14 275 [.t 13],m_ 11 14,e_ 15 11 0,e_ 16 11 1,m_ 3 15,m_ 4 16]
def DZ:List Bi:=[⟨some 5,.nilS 2,none⟩]
def EA:=[m_ 17 3,n_ 18 17,i_ 19 0]
def EB:=[b_ .lss 20 19 18]
def EC:=[x_ 21 17 19 1,l_ 22 21 1,m_ 7 22]
def ED:=[m_ 24 7,q_ 25 396 [.t 24],m_ 23 25,e_ 26 23 0,e_ 27 23 1,m_ 8 26,m_ 9 27]
def EE:=[m_ 28 9,N_ 29 28]
def EF:=[m_ 31 5,m_ 32 8,q_ 33 397 [.t 31,.t 32],m_ 30 33,e_ 34 30 0,e_ 35 30 1,m_ 10 34,m_ 9 35]
def EG:=[m_ 36 9,N_ 37 36]
def kT:=[m_ 38 10,m_ 5 38]
def kU:=[B_ .add 39 19 1,m_ 19 39]
def DW:IR:=(sr EB (.seq (.ite (.t 20) .skip (.exit 0)) (.seq (.block 1 (sr EC (sr ED (.seq (sr EE (iz 29 (.exit 0))) (sr EF (.seq (sr EG (iz 37 (.exit 0))) (.reg kT))))))) (.reg kU))))
def kV:=[m_ 40 5,m_ 2 40]
def WT:Dh:=⟨1,41,[.t 2],sr DX (sr DY (sr DZ (.seq (sr EA (Li 0 DW)) (rr kV))))⟩
def qK (D:Bf):Prop:=∀a0 r,nK a0=some r→D 398 ⟨[.agg (Ap a0)],[]⟩ ⟨Aa 0 r,[],[]⟩
theorem Aaw (H263:eU C) (H275:qB C) (H396:qJ C) (H397:iH C):qK (FO C WT):=by
 intro a0 r h0
 refine f0 (Ab (Ac (st (Hm rfl tv rfl (st (Bw (At (An ⟨[(1,.ptr 64 0)],[(64,Ap a0)],[]⟩ (Ak (by kernel_rfl)) (Ab (Ac (st (c_ (v:=.agg (Ap a0)) (Aj ⟨tv,tv⟩ rfl (nl rfl)) ?_))))))))))))
 obtain ⟨r1,e2,h0⟩:=bnd h0
 refine st (Ax (r:=Bc 0 r1) false (H263 a0 r1 e2) ⟨tv,tv⟩ rfl rfl (fun _=>(Cf (Jo (fun _=>rfl)) rfl)) ?_)
 obtain ⟨r3,e4,h0⟩:=bnd h0
 refine st (Ax (r:=.tup [.own 0 0 1 (r3.1.map (eL 1 Bo)),iV r3.2]) true (H275 r1 r3 e4) ⟨tv,tv⟩ rfl rfl (fun h=>nomatch h) (sw ⟨[(14,.tup [.own 896 0 1 (r3.1.map (eL 1 Bo)),iV r3.2])],[],[]⟩ (Ak (by kernel_rfl)) (Ag rfl tv (st (c_ (Aj ⟨tv,tv⟩ rfl tv) (st (c_ (Aj ⟨tv,tv⟩ rfl tv) (st (Ag rfl tv (st (Ag rfl tv (At (An ⟨[(3,.own 896 0 1 (r3.1.map (eL 1 Bo)))],[],[]⟩ (Ak (by kernel_rfl)) (Ab (Ac (st (Bw (At (An ⟨[(3,.own 896 0 1 (r3.1.map (eL 1 Bo))),(5,.own 320 0 2 ([].map Ao))],[],[]⟩ (Ak (by kernel_rfl)) (Ab (Ab (Ac (st (Ag rfl tv (st (c_ (Ez (e:=(eL 1 Bo)) (l0:=r3.1) rfl rfl tv) (st (Bg tv (At (An ⟨[(5,.own 320 0 2 ([].map Ao)),(17,.own 896 0 1 (r3.1.map (eL 1 Bo))),(18,iV (r3.1.length:Int)),(19,iV 0)],[],[]⟩ (Ak (by kernel_rfl)) (Be ?_)))))))))))))))))))))))))))))))
 obtain ⟨r43,e44,h0⟩:=bnd h0
 refine Cz (R:=(fun S=>∃p31:List Al,p31=r43∧S=⟨[(5,Aa 320 p31)],[],[]⟩)) (Sz r3) (fun s S=>match s with | (p16,p17)=>S=⟨[(5,Aa 320 p16),(17,.own 896 0 1 (r3.1.map (eL 1 Bo))),(18,iV (r3.1.length:Int)),(19,iV p17)],[],[]⟩) e44 ⟨[(5,.own 320 0 2 ([].map Ao)),(17,.own 896 0 1 (r3.1.map (eL 1 Bo))),(18,iV (r3.1.length:Int)),(19,iV 0)],[],[]⟩ (Ak (by kernel_rfl)) rfl 0 (fun _=>rfl) ?_ ?_
 ·rintro S _ hfg ⟨p31,rfl,rfl⟩
  refine An ⟨[(5,Aa 320 p31)],[],[]⟩ (Ft hfg (by kernel_rfl)) (Ab (Ac (st (Ag rfl tv (st (Ag rfl tv (At (An ⟨[(2,Aa 320 p31)],[],[]⟩ (Ak (by kernel_rfl)) ?_))))))))
  obtain rfl:=sj h0
  exact Cr (Bj rfl rfl rfl rfl rfl tv)
 ·rintro ⟨p16,p17⟩ o1 _ K1 rfl h1 hx1 hK1 hE1 hR1
  refine Ab (Ac (st (c_ (Aj t3 rfl tv) (At (An ⟨[(5,Aa 320 p16),(17,.own 896 0 1 (r3.1.map (eL 1 Bo))),(18,iV (r3.1.length:Int)),(19,iV p17),(20,.bool (decide (p17<(r3.1.length:Int))))],[],[]⟩ (Ak (by kernel_rfl)) (Ab (Bs (cb:=(decide (p17<(r3.1.length:Int)))) rfl (fun c32=>?_) (fun c32=>?_))))))))
  ·replace h1:=ip c32 h1
   refine Dn (An ⟨[(5,Aa 320 p16),(17,.own 896 0 1 (r3.1.map (eL 1 Bo))),(18,iV (r3.1.length:Int)),(19,iV p17)],[],[]⟩ (Ak (by kernel_rfl)) (Ab (Be (Ab (Ac ?_)))))
   obtain ⟨y33,e34,h1⟩:=bnd h1
   refine st (c_ (Hw (e:=(eL 1 Bo)) (y:=y33) rfl rfl tv rfl rfl tv e34) ?_)
   obtain ⟨y35,e36,h1⟩:=bnd h1
   refine st (c_ (Cd (e:=(eL 1 Bo)) (y:=y35) (v:=Bh y35) rfl rfl tv rfl rfl e36 rfl (nl rfl) rfl) (st (Ag rfl tv (At (An ⟨[(5,Aa 320 p16),(7,Bh y35),(17,.own 896 0 1 (r3.1.map (eL 1 Bo))),(18,iV (r3.1.length:Int)),(19,iV p17)],[],[]⟩ (Ak (by kernel_rfl)) (Ab (Ac (st (Ag rfl tv ?_)))))))))
   obtain ⟨r37,e38,h1⟩:=bnd h1
   refine st (Ax (r:=.tup [Ar 0 r37.1,.bool r37.2]) false (H396 y35 r37 e38) ⟨tv,tv⟩ rfl rfl (fun _=>(Cf (Jo (fun _=>rfl)) (Cf rfl rfl))) (st (Ag rfl tv (st (c_ (Aj ⟨tv,tv⟩ rfl tv) (st (c_ (Aj ⟨tv,tv⟩ rfl tv) (st (Ag rfl tv (st (Ag rfl tv (At (An ⟨[(5,Aa 320 p16),(8,Ar 1600 r37.1),(9,.bool r37.2),(17,.own 896 0 1 (r3.1.map (eL 1 Bo))),(18,iV (r3.1.length:Int)),(19,iV p17)],[],[]⟩ (Ak (by kernel_rfl)) (Ab (Ab (Ac (st (Ag rfl tv (st (c_ (Aj ⟨tv,tv⟩ rfl tv) (At (An ⟨[(5,Aa 320 p16),(8,Ar 1600 r37.1),(17,.own 896 0 1 (r3.1.map (eL 1 Bo))),(18,iV (r3.1.length:Int)),(19,iV p17),(29,.bool (!r37.2))],[],[]⟩ (Ak (by kernel_rfl)) (Bs (cb:=(!r37.2)) rfl (fun c39=>?_) (fun c39=>?_))))))))))))))))))))))))
   ·replace h1:=ip c39 h1
    obtain rfl:=sj h1
    obtain rfl:=hx1 _ rfl
    refine Ke rfl ?_
    exact hE1 _ ⟨[(5,Aa 320 p16)],[],[]⟩ (Ak (by kernel_rfl)) ⟨_,rfl,rfl⟩
   ·replace h1:=Do c39 h1
    refine Dn (An ⟨[(5,Aa 320 p16),(8,Ar 1600 r37.1),(17,.own 896 0 1 (r3.1.map (eL 1 Bo))),(18,iV (r3.1.length:Int)),(19,iV p17)],[],[]⟩ (Ak (by kernel_rfl)) (Ab (Ac (st (Ag rfl tv (st (Ag rfl tv ?_)))))))
    obtain ⟨r40,e41,h1⟩:=bnd h1
    refine st (Ax (r:=.tup [Aa 0 r40.1,.bool r40.2]) false (H397 p16 r37.1 r40 e41) ⟨tv,tv,tv⟩ rfl rfl (fun _=>(Cf (Jo (fun _=>rfl)) (Cf rfl rfl))) (st (Ag rfl tv (st (c_ (Aj ⟨tv,tv⟩ rfl tv) (st (c_ (Aj ⟨tv,tv⟩ rfl tv) (st (Ag rfl tv (st (Ag rfl tv (At (An ⟨[(5,Aa 320 p16),(9,.bool r40.2),(10,Aa 2112 r40.1),(17,.own 896 0 1 (r3.1.map (eL 1 Bo))),(18,iV (r3.1.length:Int)),(19,iV p17)],[],[]⟩ (Ak (by kernel_rfl)) (Ab (Ab (Ac (st (Ag rfl tv (st (c_ (Aj ⟨tv,tv⟩ rfl tv) (At (An ⟨[(5,Aa 320 p16),(10,Aa 2112 r40.1),(17,.own 896 0 1 (r3.1.map (eL 1 Bo))),(18,iV (r3.1.length:Int)),(19,iV p17),(37,.bool (!r40.2))],[],[]⟩ (Ak (by kernel_rfl)) (Bs (cb:=(!r40.2)) rfl (fun c42=>?_) (fun c42=>?_))))))))))))))))))))))))
    ·replace h1:=ip c42 h1
     obtain rfl:=sj h1
     obtain rfl:=hx1 _ rfl
     refine Ke rfl ?_
     exact hE1 _ ⟨[(5,Aa 320 p16)],[],[]⟩ (Ak (by kernel_rfl)) ⟨_,rfl,rfl⟩
    ·replace h1:=Do c42 h1
     refine Dn (An ⟨[(10,Aa 2112 r40.1),(17,.own 896 0 1 (r3.1.map (eL 1 Bo))),(18,iV (r3.1.length:Int)),(19,iV p17)],[],[]⟩ (Ak (by kernel_rfl)) (Ac (st (Ag rfl tv (st (Ag rfl tv (At (It (An ⟨[(5,Aa 2112 r40.1),(17,.own 896 0 1 (r3.1.map (eL 1 Bo))),(18,iV (r3.1.length:Int)),(19,iV p17)],[],[]⟩ (Ak (by kernel_rfl)) (Ac (st (c_ (Aj t3 rfl tv) (st (Ag rfl tv (At ?_)))))))))))))))
     obtain rfl:=sj h1
     exact hK1 _ rfl _ ⟨[(5,Aa 320 r40.1),(17,.own 896 0 1 (r3.1.map (eL 1 Bo))),(18,iV (r3.1.length:Int)),(19,iV (wi (p17+1)))],[],[]⟩ (Zi [] [(2112,320)] rfl (by kernel_rfl)) rfl
  ·replace h1:=Do c32 h1
   obtain rfl:=sj h1
   obtain rfl:=hx1 _ rfl
   refine Ke rfl ?_
   exact hE1 _ ⟨[(5,Aa 320 p16)],[],[]⟩ (Ak (by kernel_rfl)) ⟨_,rfl,rfl⟩

/- loop.example/g00149/impl.Commit -/
def AV:=[X_ 2 0,a_ 4 [.own 257 0 1 [],.own 258 0 2 []],i_ 5 0]
def AW:=[m_ 9 1,q_ 10 393 [.t 9],N_ 11 10,m_ 8 11]
def AX:=[iQ 12 (.build [.own 769 0 1 [],.own 770 0 2 []] []),s_ 4 12 2,i_ 5 2]
def AY:List Bi:=[L_ 14 2 2,q_ 15 216 [.t 14],N_ 16 15,m_ 17 16,mF 17 18 1,⟨some 19,.call 394 [.t 18],some (17,false)⟩,pF 17 20 (.un .not (.t 19)),po 21 17 20,m_ 13 21]
def AZ:=[iQ 22 (.build [.own 1409 0 1 [],.own 1410 0 2 []] []),s_ 4 22 2,i_ 5 1]
def BA:=[L_ 24 2 2,q_ 25 398 [.t 24],m_ 26 1,q_ 27 397 [.t 25,.t 26],m_ 23 27,e_ 28 23 0,e_ 29 23 1,m_ 6 28,m_ 7 29]
def BB:=[m_ 30 7,N_ 31 30]
def BC:=[iQ 32 (.build [.own 2049 0 1 [],.own 2050 0 2 []] []),s_ 4 32 2,i_ 5 9]
def BD:=tk [L_ 33 2 2,m_ 34 1] (.alt [L_ 33 2 2] (q_ 35 395 [.t 34]) (.alt [] (q_ 36 273 [.t 33,.t 35]) (tk [e_ 37 36 0,e_ 38 36 1] (.alt [] (s_ 4 37 2) (tk [m_ 5 38] .fin) .stop)) .stop) .stop)
def WH:Dh:=⟨2,39,[.cell 4 2 true,.t 5],sr AV (.seq (.block 0 (sr AW (.ite (.t 8) (rr AX) (sr AY (iz 13 (rr AZ)))))) (.seq (sr BA (sr BB (iz 31 (rr BC)))) (sd BD .ret)))⟩
def QW (D:Bf):Prop:=∀a0 a1 r,nE a0 a1=some r→D 382 ⟨[.agg (Ap a0),Af a1],[]⟩ ⟨.tup [.agg (Bd r.1 (Dp 0) (Dp 1)),iV r.2],[],[]⟩
theorem Aal (H216:qA C) (H273:QB C) (H393:iF C) (H394:iG C) (H395:qI C) (H397:iH C) (H398:qK C):QW (FO C WH):=by
 intro a0 a1 r h0
 refine f0 (Ab (Ac (st (Hm rfl tv rfl (st (Dt (st (Bg tv (At (An ⟨[(1,Af a1),(2,.ptr 128 0),(4,.ptr 256 0)],[(128,Ap a0),(256,[Bc 257 [],Ai 258 []])],[]⟩ (Ak (by kernel_rfl)) (Ab (Be (Ab (Ac (st (Ag rfl tv ?_))))))))))))))))
 obtain ⟨r1,e2,h0⟩:=bnd h0
 refine st (Ax (r:=.bool r1) false (H393 a1 r1 e2) ⟨tv,tv⟩ rfl rfl (fun _=>rfl) (st (c_ (Aj ⟨tv,tv⟩ rfl tv) (st (Ag rfl tv (At (An ⟨[(1,Af a1),(2,.ptr 128 0),(4,.ptr 256 0),(8,.bool (!r1))],[(128,Ap a0),(256,[Bc 257 [],Ai 258 []])],[]⟩ (Ak (by kernel_rfl)) (Bs (cb:=(!r1)) rfl (fun c3=>?_) (fun c3=>?_)))))))))
 ·replace h0:=ip c3 h0
  refine Ab (Ac (st (c_ (v:=.agg [Bc 769 [],Ai 770 []]) (Aj tv rfl tv) (st (El rfl rfl tv rfl rfl rfl (nl rfl) (st (Bg tv (At (An ⟨[(4,.ptr 256 0),(5,iV 2)],[(256,[Bc 769 [],Ai 770 []])],[]⟩ (Ak (by kernel_rfl)) ?_)))))))))
  obtain rfl:=sj h0
  exact Cr (Bj rfl rfl rfl rfl rfl tv)
 ·replace h0:=Do c3 h0
  refine Ab (Ac (st (c_ (v:=.agg (Ap a0)) (Aj ⟨tv,tv⟩ rfl (nl rfl)) ?_)))
  obtain ⟨r4,e5,h0⟩:=bnd h0
  refine st (Ax (r:=.bool r4) false (H216 a0 r4 e5) ⟨tv,tv⟩ rfl rfl (fun _=>rfl) (st (c_ (Aj ⟨tv,tv⟩ rfl tv) (st (Ag rfl tv (st (Bu (u:=Af a1) rfl (fun hg=>(Gx (v:=Af a1) rfl tv)) ?_)))))))
  obtain ⟨r6,e7,h0⟩:=bnd h0
  refine sw ⟨[(1,Af a1),(2,.ptr 128 0),(4,.ptr 256 0),(17,.bool (!r4)),(18,.may ((!r4)==false) (Af a1))],[(128,Ap a0),(256,[Bc 257 [],Ai 258 []])],[]⟩ (Ak (by kernel_rfl)) (Hu (r:=.bool r6) rfl false (fun hg=>H394 a1 r6 (ip hg e7)) ⟨(fun hg=>hg),tv⟩ (fun _=>rfl) (fun _=>rfl) (fun _=>rfl) (fun h=>nomatch h) (st (Bu (u:=.bool (!r6)) rfl (fun hg=>(Aj ⟨(fun _=>hg),tv⟩ rfl tv)) (st (Ct rfl rfl rfl tv (fun h=>Sa h) rfl (st (Ag rfl tv (At (An ⟨[(1,Af a1),(2,.ptr 128 0),(4,.ptr 256 0),(13,.bool (bif (!r4) then true else (!r6)))],[(128,Ap a0),(256,[Bc 257 [],Ai 258 []])],[]⟩ (Ak (by kernel_rfl)) (Bs (cb:=(bif (!r4) then true else (!r6))) rfl (fun c8=>?_) (fun c8=>?_)))))))))))
  ·replace h0:=ip c8 h0
   refine Ab (Ac (st (c_ (v:=.agg [Bc 1409 [],Ai 1410 []]) (Aj tv rfl tv) (st (El rfl rfl tv rfl rfl rfl (nl rfl) (st (Bg tv (At (An ⟨[(4,.ptr 256 0),(5,iV 1)],[(256,[Bc 1409 [],Ai 1410 []])],[]⟩ (Ak (by kernel_rfl)) ?_)))))))))
   obtain rfl:=sj h0
   exact Cr (Bj rfl rfl rfl rfl rfl tv)
  ·replace h0:=Do c8 h0
   refine Dn (It (An ⟨[(1,Af a1),(2,.ptr 128 0),(4,.ptr 256 0)],[(128,Ap a0),(256,[Bc 257 [],Ai 258 []])],[]⟩ (Ak (by kernel_rfl)) (Ab (Ab (Ac (st (c_ (v:=.agg (Ap a0)) (Aj ⟨tv,tv⟩ rfl (nl rfl)) ?_)))))))
   obtain ⟨r9,e10,h0⟩:=bnd h0
   refine st (Ax (r:=Aa 0 r9) false (H398 a0 r9 e10) ⟨tv,tv⟩ rfl rfl (fun _=>(Cf (Jo (fun _=>rfl)) rfl)) (st (Ag rfl tv ?_)))
   obtain ⟨r11,e12,h0⟩:=bnd h0
   refine st (Ax (r:=.tup [Aa 0 r11.1,.bool r11.2]) false (H397 r9 a1 r11 e12) ⟨tv,tv,tv⟩ rfl rfl (fun _=>(Cf (Jo (fun _=>rfl)) (Cf rfl rfl))) (st (Ag rfl tv (st (c_ (Aj ⟨tv,tv⟩ rfl tv) (st (c_ (Aj ⟨tv,tv⟩ rfl tv) (st (Ag rfl tv (st (Ag rfl tv (At (An ⟨[(1,Af a1),(2,.ptr 128 0),(4,.ptr 256 0),(7,.bool r11.2)],[(128,Ap a0),(256,[Bc 257 [],Ai 258 []])],[]⟩ (Ak (by kernel_rfl)) (Ab (Ac (st (Ag rfl tv (st (c_ (Aj ⟨tv,tv⟩ rfl tv) (At (An ⟨[(1,Af a1),(2,.ptr 128 0),(4,.ptr 256 0),(31,.bool (!r11.2))],[(128,Ap a0),(256,[Bc 257 [],Ai 258 []])],[]⟩ (Ak (by kernel_rfl)) (Bs (cb:=(!r11.2)) rfl (fun c13=>?_) (fun c13=>?_)))))))))))))))))))))))
   ·replace h0:=ip c13 h0
    refine Ab (Ac (st (c_ (v:=.agg [Bc 2049 [],Ai 2050 []]) (Aj tv rfl tv) (st (El rfl rfl tv rfl rfl rfl (nl rfl) (st (Bg tv (At (An ⟨[(4,.ptr 256 0),(5,iV 9)],[(256,[Bc 2049 [],Ai 2050 []])],[]⟩ (Ak (by kernel_rfl)) ?_)))))))))
    obtain rfl:=sj h0
    exact Cr (Bj rfl rfl rfl rfl rfl tv)
   ·replace h0:=Do c13 h0
    refine Dn (An ⟨[(1,Af a1),(2,.ptr 128 0),(4,.ptr 256 0)],[(128,Ap a0),(256,[Bc 257 [],Ai 258 []])],[]⟩ (Ak (by kernel_rfl)) (Ab ?_))
    obtain ⟨r14,e15,h0⟩:=bnd h0
    obtain ⟨r16,e17,h0⟩:=bnd h0
    refine Ds (Ah tv (c_ (v:=.agg (Ap a0)) (Aj ⟨tv,tv⟩ rfl (nl rfl)) (⟨tv,Ah tv (Ag rfl tv (⟨tv,Fm (Ax (r:=Bc 0 r14) false (H395 a1 r14 e15) ⟨tv,tv⟩ rfl rfl (fun _=>(Cf (Jo (fun _=>rfl)) rfl)) (mP ⟨[(2,.ptr 128 0),(4,.ptr 256 0),(33,.agg (Ap a0)),(35,Bc 2240 r14)],[(128,Ap a0),(256,[Bc 257 [],Ai 258 []])],[]⟩ (Ak (by kernel_rfl)) ⟨[],⟨⟨.inl tv,By (Aj ⟨tv,tv⟩ rfl (nl rfl)) rfl⟩,tv⟩,tv,Fm (Ax (r:=.tup [.agg (Bd r16.1 (Dp 0) (Dp 1)),iV r16.2]) true (H273 a0 r14 r16 e17) ⟨tv,tv,tv⟩ rfl rfl (fun h=>nomatch h) (mP ⟨[(4,.ptr 256 0),(36,.tup [.agg (Bd r16.1 (Dp 2304) (Dp 2305)),iV r16.2])],[(256,[Bc 257 [],Ai 258 []])],[]⟩ (Ak (by kernel_rfl)) ⟨[],tv,tv,Ah tv (c_ (Aj ⟨tv,tv⟩ rfl tv) (⟨tv,Ah tv (c_ (Aj ⟨tv,tv⟩ rfl tv) (⟨tv,Fm (El rfl rfl tv rfl rfl rfl (nl rfl) (Wg ⟨[],tv,tv,Ah tv (Ag rfl tv (⟨tv,Iu (An ⟨[(4,.ptr 256 0),(5,iV r16.2)],[(256,Bd r16.1 (Dp 2304) (Dp 2305))],[]⟩ (Ak (by kernel_rfl)) ?_)⟩))⟩)) Dl⟩))⟩))⟩)) Dl⟩)) Dl⟩))⟩)))
    obtain rfl:=sj h0
    exact Cr (Bj rfl rfl rfl rfl rfl tv)

/- loop.example/g00149/impl.isList[loop.example/g00149/impl.Pair] -/
def uQ:=[k_ 2 (.bool false)]
def uR:=[m_ 3 0,n_ 4 3,B_ .leq 5 4 4096,m_ 2 5]
def VJ:Dh:=⟨1,6,[.t 2],sr uQ (rr uR)⟩
def qC (D:Bf):Prop:=∀a0 r,mZ a0=some r→D 321 ⟨[Aw a0],[]⟩ ⟨.bool r,[],[]⟩
theorem ZO:qC (FO C VJ):=by
 intro a0 r h0
 refine f0 (Sc 3 [(0,Aw a0)] [] (Ab (Ac (st (Ag rfl tv (PJ rfl (o_ ?_)))))))
 obtain rfl:=sj h0
 exact eF 4

/- loop.example/g00149/impl.isStore -/
def uT:=[k_ 2 (.bool false)]
def uU:=[m_ 5 0,n_ 6 5,i_ 7 0]
def uV:=[b_ .lss 8 7 6]
def uW:=[m_ 9 7,x_ 10 5 7 2,L_ 11 10 2,a_ 4 [.str [],.str []],m_ 3 9,s_ 4 11 2]
def uX:=tk [f_ 12 4 0,l_ 13 12 1] (.alt [] (q_ 14 362 [.t 13]) (tk [N_ 15 14,m_ 16 15,fF 16 17 4 1,lF 16 18 17 1 false,pF 16 19 (.lenS (.t 18)),pF 16 20 (.bin .gtr (.t 19) (.c (iV 400))),po 21 16 20,m_ 22 21,mF 22 23 3,pF 22 24 (.bin .gtr (.t 23) (.c (iV 0))),mF 22 25 24,mT 25 26 0,mT 25 27 3,pT 25 28 (.bin .sub (.t 27) (.c (iV 1))),xT 25 29 26 28 2,fT 25 30 29 0,lT 25 31 30 1 false,fT 25 32 4 0,lT 25 33 32 1 false,pT 25 34 (.bin .geq (.t 31) (.t 33)),⟨some 35,.pick (.t 25) (.t 34) (.c (.bool false)),some (22,false)⟩,po 36 22 35] .fin) .stop)
def uY:=[k_ 2 (.bool false)]
def uZ:=[B_ .add 37 7 1,m_ 7 37]
def uS:IR:=(sr uV (.seq (.ite (.t 8) .skip (.exit 0)) (.seq (.block 1 (sr uW (sd uX (iz 36 (rr uY))))) (.reg uZ))))
def vA:=[m_ 38 0,n_ 39 38,B_ .leq 40 39 100,m_ 2 40]
def VK:Dh:=⟨1,41,[.t 2],sr uT (.seq (sr uU (Li 0 uS)) (rr vA))⟩
def qD (D:Bf):Prop:=∀a0 r,nA a0=some r→D 322 ⟨[Aw a0],[]⟩ ⟨.bool r,[],[]⟩
theorem ZP (H362:qH C):qD (FO C VK):=by
 intro a0 r h0
 refine f0 (Sc 3 [(0,Aw a0)] [] (aG 3 (Ac (PJ rfl (o_ (Sc 2 [(0,Aw a0),(5,Aw a0),(6,iV (a0.length:Int)),(7,iV 0)] [] (Be (bb h0 fun r33 e34 h0=>Cz (R:=(fun S=>.inl ()=r33∧S=⟨[(0,Aw a0)],[],[]⟩)) (Mv a0) (fun s S=>match s with | p11=>S=⟨[(0,Aw a0),(5,Aw a0),(6,iV (a0.length:Int)),(7,iV p11)],[],[]⟩) e34 _ (Ak (by kernel_rfl)) rfl 0 (fun _=>rfl) ?_ ?_))))))))
 ·rintro S _ hfg ⟨rfl,rfl⟩
  refine An _ hfg (Ab (Ac (st (Ag rfl tv (PJ rfl (o_ ?_))))))
  obtain rfl:=sj h0
  exact eF 4
 ·rintro p11 o1 _ K1 rfl h1 hx1 hK1 hE1 hR1
  refine Sc 3 [(0,Aw a0),(5,Aw a0),(6,iV (a0.length:Int)),(7,iV p11),(8,.bool (decide (p11<(a0.length:Int))))] [] (Ab (OA h1 (fun c23 h1=>?_) (fun c23 h1=>?_)))
  ·refine aG 6 (Ac (bb h1 fun y24 e25 h1=>xl_ rfl rfl e25 (o_ (Sc 5 [(0,Aw a0),(3,iV p11),(4,.ptr 256 0),(5,Aw a0),(6,iV (a0.length:Int)),(7,iV p11)] [(256,Ao y24)] (Ab (bb h1 fun r26 e27 h1=>bb h1 fun y28 e29 h1=>aG 2 (Ds (dc_ (H362 y24.key r26 e27) rfl (dw [(0,Aw a0),(3,iV p11),(4,.ptr 256 0),(5,Aw a0),(6,iV (a0.length:Int)),(7,iV p11),(14,.bool r26)] [(256,Ao y24)] tv (d_ (aG 2 (Ds (Ah tv (Bu (u:=.ptr 256 1) rfl (fun hg=>(Aj ⟨tv,tv⟩ rfl tv)) (⟨tv,Ah tv (Bu (u:=.str y24.value) rfl (fun hg=>(Aj ⟨(fun _=>hg),tv⟩ rfl (nl rfl))) (⟨tv,Ah tv (Bu (u:=iV (y24.value.length:Int)) rfl (fun hg=>(Aj ⟨(fun _=>hg),tv⟩ rfl tv)) (⟨tv,Ah tv (Bu (u:=.bool (decide ((y24.value.length:Int)>400))) rfl (fun hg=>(Aj ⟨(fun _=>hg),tv,tv⟩ rfl tv)) (⟨tv,Ah tv (Ct rfl rfl rfl tv (fun h=>Sa h) rfl (⟨tv,Ah tv (Ag rfl tv (⟨tv,Ah tv (Bu (u:=iV p11) rfl (fun hg=>(Gx (v:=iV p11) rfl tv)) (⟨tv,Ah tv (Bu (u:=.bool (decide (p11>0))) rfl (fun hg=>(Aj ⟨(fun _=>hg),tv,tv⟩ rfl tv)) (⟨tv,Ah tv (Bu (u:=.bool (decide (p11>0))) rfl (fun hg=>(Gx (v:=.may ((bif (!r26) then true else (decide ((y24.value.length:Int)>400)))==false) (.bool (decide (p11>0)))) rfl (fun _=>hg))) (⟨tv,Ah tv (Bu (u:=Aw a0) rfl (fun hg=>(Gx (v:=Aw a0) rfl tv)) (⟨tv,?_⟩))⟩))⟩))⟩))⟩))⟩))⟩))⟩))⟩))⟩))))))) Dl))))))))
   refine Ah tv (Bu (u:=iV p11) rfl (fun hg=>(Gx (v:=iV p11) rfl tv)) (⟨tv,Ah tv (Bu (u:=iV (wi (p11-1))) rfl (fun hg=>(Aj ⟨(fun _=>hg),tv,tv⟩ rfl tv)) (⟨tv,Ah tv (Bu (u:=.iptr (Ao y28)) rfl (fun hg=>(Eb (e:=Ao) (y:=y28) rfl rfl (fun _=>hg) rfl rfl (fun _=>hg) (ip hg e29))) (⟨tv,Ah tv (Bu (u:=.iptr (Ao y28)) rfl (fun hg=>(Aj ⟨(fun _=>hg),tv⟩ rfl (nl rfl))) (⟨tv,Ah tv (Bu (u:=.str y28.key) rfl (fun hg=>(Aj ⟨(fun _=>hg),tv⟩ rfl (nl rfl))) (⟨tv,Ah tv (Bu (u:=.ptr 256 0) rfl (fun hg=>(Aj ⟨tv,tv⟩ rfl tv)) (⟨tv,Ah tv (Bu (u:=.str y24.key) rfl (fun hg=>(Aj ⟨(fun _=>hg),tv⟩ rfl (nl rfl))) (⟨tv,Ah tv (Bu (u:=.bool (!(Op.bytesLess y28.key y24.key))) rfl (fun hg=>(Aj ⟨(fun _=>hg),(fun _=>hg),tv⟩ rfl tv)) (⟨tv,Ah tv (bW (u:=.bool (bif (decide (p11>0)) then (!(Op.bytesLess y28.key y24.key)) else false)) rfl (fun hg=>mO rfl rfl (fun _=>hg) rfl rfl (fun h=>Cf hg (Zh h)) tv rfl) (⟨tv,Ah tv (Ct rfl rfl rfl tv (fun h=>Sa h) rfl (⟨tv,Iu (bv h1 fun v30 e31 h1=>An ⟨[(0,Aw a0),(5,Aw a0),(6,iV (a0.length:Int)),(7,iV p11),(36,.bool v30)],[],[]⟩ (Ak (by subst e31; kernel_rfl)) (OA h1 (fun c32 h1=>?_) (fun c32 h1=>?_)))⟩))⟩))⟩))⟩))⟩))⟩))⟩))⟩))⟩))⟩))
   ·obtain rfl:=sj h1
    obtain rfl:=hx1 _ rfl
    obtain rfl:=sj h0
    exact rR_ 4 hR1
   ·refine aG 6 ?_
    obtain rfl:=sj h1
    exact kn hK1 rfl rfl
  ·obtain rfl:=sj h1
   obtain rfl:=hx1 _ rfl
   refine Ke rfl ?_
   exact jn hE1 ⟨rfl,rfl⟩

/- loop.example/g00149/impl.ApplyBatch -/
def BE:List Bi:=[⟨some 4,.nilS 2,none⟩,i_ 5 0]
def BF:List Bi:=[m_ 9 0,q_ 10 321 [.t 9],N_ 11 10,m_ 12 11,mF 12 13 1,⟨some 14,.call 393 [.t 13],some (12,false)⟩,pF 12 15 (.un .not (.t 14)),po 16 12 15,m_ 8 16]
def BG:List Bi:=[⟨some 4,.nilS 2,none⟩,i_ 5 2]
def BH:List Bi:=[m_ 18 0,q_ 19 322 [.t 18],N_ 20 19,m_ 21 20,mF 21 22 1,⟨some 23,.call 394 [.t 22],some (21,false)⟩,pF 21 24 (.un .not (.t 23)),po 25 21 24,m_ 17 25]
def BI:List Bi:=[⟨some 4,.nilS 2,none⟩,i_ 5 1]
def BJ:=[m_ 27 0,m_ 28 1,q_ 29 397 [.t 27,.t 28],m_ 26 29,e_ 30 26 0,e_ 31 26 1,m_ 6 30,m_ 7 31]
def BK:=[m_ 32 7,N_ 33 32]
def BL:List Bi:=[⟨some 4,.nilS 2,none⟩,i_ 5 9]
def BM:=[m_ 34 6,m_ 4 34,i_ 5 0]
def WI:Dh:=⟨2,35,[.t 4,.t 5],sr BE (.seq (.block 0 (sr BF (.ite (.t 8) (rr BG) (sr BH (iz 17 (rr BI)))))) (sr BJ (.seq (sr BK (iz 33 (rr BL))) (rr BM))))⟩
def QX (D:Bf):Prop:=∀a0 a1 r,MM a0 a1=some r→D 383 ⟨[Aw a0,Af a1],[]⟩ ⟨.tup [Aa 0 r.1,iV r.2],[],[]⟩
theorem Aam (H321:qC C) (H322:qD C) (H393:iF C) (H394:iG C) (H397:iH C):QX (FO C WI):=by
 intro a0 a1 r h0
 refine f0 (Ab (Ac (st (Bw (st (Bg tv (At (An ⟨[(0,Aw a0),(1,Af a1)],[],[]⟩ (Ak (by kernel_rfl)) (Ab (Be (Ab (Ac (st (Ag rfl tv ?_))))))))))))))
 obtain ⟨r1,e2,h0⟩:=bnd h0
 refine st (Ax (r:=.bool r1) false (H321 a0 r1 e2) ⟨tv,tv⟩ rfl rfl (fun _=>rfl) (st (c_ (Aj ⟨tv,tv⟩ rfl tv) (st (Ag rfl tv (st (Bu (u:=Af a1) rfl (fun hg=>(Gx (v:=Af a1) rfl tv)) ?_)))))))
 obtain ⟨r3,e4,h0⟩:=bnd h0
 refine sw ⟨[(0,Aw a0),(1,Af a1),(12,.bool (!r1)),(13,.may ((!r1)==false) (Af a1))],[],[]⟩ (Ak (by kernel_rfl)) (Hu (r:=.bool r3) rfl false (fun hg=>H393 a1 r3 (ip hg e4)) ⟨(fun hg=>hg),tv⟩ (fun _=>rfl) (fun _=>rfl) (fun _=>rfl) (fun h=>nomatch h) (st (Bu (u:=.bool (!r3)) rfl (fun hg=>(Aj ⟨(fun _=>hg),tv⟩ rfl tv)) (st (Ct rfl rfl rfl tv (fun h=>Sa h) rfl (st (Ag rfl tv (At (An ⟨[(0,Aw a0),(1,Af a1),(8,.bool (bif (!r1) then true else (!r3)))],[],[]⟩ (Ak (by kernel_rfl)) (Bs (cb:=(bif (!r1) then true else (!r3))) rfl (fun c5=>?_) (fun c5=>?_)))))))))))
 ·replace h0:=ip c5 h0
  refine Ab (Ac (st (Bw (st (Bg tv (At (An ⟨[(4,.own 256 0 2 ([].map Ao)),(5,iV 2)],[],[]⟩ (Ak (by kernel_rfl)) ?_)))))))
  obtain rfl:=sj h0
  exact Cr (Bj rfl rfl rfl rfl rfl tv)
 ·replace h0:=Do c5 h0
  refine Ab (Ac (st (Ag rfl tv ?_)))
  obtain ⟨r6,e7,h0⟩:=bnd h0
  refine st (Ax (r:=.bool r6) false (H322 a0 r6 e7) ⟨tv,tv⟩ rfl rfl (fun _=>rfl) (st (c_ (Aj ⟨tv,tv⟩ rfl tv) (st (Ag rfl tv (st (Bu (u:=Af a1) rfl (fun hg=>(Gx (v:=Af a1) rfl tv)) ?_)))))))
  obtain ⟨r8,e9,h0⟩:=bnd h0
  refine sw ⟨[(0,Aw a0),(1,Af a1),(21,.bool (!r6)),(22,.may ((!r6)==false) (Af a1))],[],[]⟩ (Ak (by kernel_rfl)) (Hu (r:=.bool r8) rfl false (fun hg=>H394 a1 r8 (ip hg e9)) ⟨(fun hg=>hg),tv⟩ (fun _=>rfl) (fun _=>rfl) (fun _=>rfl) (fun h=>nomatch h) (st (Bu (u:=.bool (!r8)) rfl (fun hg=>(Aj ⟨(fun _=>hg),tv⟩ rfl tv)) (st (Ct rfl rfl rfl tv (fun h=>Sa h) rfl (st (Ag rfl tv (At (An ⟨[(0,Aw a0),(1,Af a1),(17,.bool (bif (!r6) then true else (!r8)))],[],[]⟩ (Ak (by kernel_rfl)) (Bs (cb:=(bif (!r6) then true else (!r8))) rfl (fun c10=>?_) (fun c10=>?_)))))))))))
  ·replace h0:=ip c10 h0
   refine Ab (Ac (st (Bw (st (Bg tv (At (An ⟨[(4,.own 256 0 2 ([].map Ao)),(5,iV 1)],[],[]⟩ (Ak (by kernel_rfl)) ?_)))))))
   obtain rfl:=sj h0
   exact Cr (Bj rfl rfl rfl rfl rfl tv)
  ·replace h0:=Do c10 h0
   refine Dn (It (An ⟨[(0,Aw a0),(1,Af a1)],[],[]⟩ (Ak (by kernel_rfl)) (Ab (Ac (st (Ag rfl tv (st (Ag rfl tv ?_))))))))
   obtain ⟨r11,e12,h0⟩:=bnd h0
   refine st (Ax (r:=.tup [Aa 0 r11.1,.bool r11.2]) false (H397 a0 a1 r11 e12) ⟨tv,tv,tv⟩ rfl rfl (fun _=>(Cf (Jo (fun _=>rfl)) (Cf rfl rfl))) (st (Ag rfl tv (st (c_ (Aj ⟨tv,tv⟩ rfl tv) (st (c_ (Aj ⟨tv,tv⟩ rfl tv) (st (Ag rfl tv (st (Ag rfl tv (At (An ⟨[(6,Aa 1856 r11.1),(7,.bool r11.2)],[],[]⟩ (Ak (by kernel_rfl)) (Ab (Ab (Ac (st (Ag rfl tv (st (c_ (Aj ⟨tv,tv⟩ rfl tv) (At (An ⟨[(6,Aa 1856 r11.1),(33,.bool (!r11.2))],[],[]⟩ (Ak (by kernel_rfl)) (Bs (cb:=(!r11.2)) rfl (fun c13=>?_) (fun c13=>?_))))))))))))))))))))))))
   ·replace h0:=ip c13 h0
    refine Ab (Ac (st (Bw (st (Bg tv (At (An ⟨[(4,.own 256 0 2 ([].map Ao)),(5,iV 9)],[],[]⟩ (Ak (by kernel_rfl)) ?_)))))))
    obtain rfl:=sj h0
    exact Cr (Bj rfl rfl rfl rfl rfl tv)
   ·replace h0:=Do c13 h0
    refine Dn (An ⟨[(6,Aa 1856 r11.1)],[],[]⟩ (Ak (by kernel_rfl)) (Ab (Ac (st (Ag rfl tv (st (Ag rfl tv (st (Bg tv (At (An ⟨[(4,Aa 1856 r11.1),(5,iV 0)],[],[]⟩ (Ak (by kernel_rfl)) ?_)))))))))))
    obtain rfl:=sj h0
    exact Cr (Bj rfl rfl rfl rfl rfl tv)

/- loop.example/g00149/impl.Load -/
def BN:List Bi:=[X_ 1 0,⟨some 2,.nilS 2,none⟩,i_ 3 0]
def BO:=[L_ 4 1 2,q_ 5 216 [.t 4],N_ 6 5]
def BP:List Bi:=[⟨some 2,.nilS 2,none⟩,i_ 3 1]
def BQ:=[L_ 7 1 2,q_ 8 398 [.t 7],m_ 2 8,i_ 3 0]
def WJ:Dh:=⟨1,9,[.t 2,.t 3],sr BN (.seq (sr BO (iz 6 (rr BP))) (rr BQ))⟩
def QY (D:Bf):Prop:=∀a0 r,MO a0=some r→D 384 ⟨[.agg (Ap a0)],[]⟩ ⟨.tup [Aa 0 r.1,iV r.2],[],[]⟩
theorem Aan (H216:qA C) (H398:qK C):QY (FO C WJ):=by
 intro a0 r h0
 refine f0 (Ab (Ac (st (Hm rfl tv rfl (st (Bw (st (Bg tv (At (An ⟨[(1,.ptr 64 0)],[(64,Ap a0)],[]⟩ (Ak (by kernel_rfl)) (Ab (Ab (Ac (st (c_ (v:=.agg (Ap a0)) (Aj ⟨tv,tv⟩ rfl (nl rfl)) ?_)))))))))))))))
 obtain ⟨r1,e2,h0⟩:=bnd h0
 refine st (Ax (r:=.bool r1) false (H216 a0 r1 e2) ⟨tv,tv⟩ rfl rfl (fun _=>rfl) (st (c_ (Aj ⟨tv,tv⟩ rfl tv) (At (An ⟨[(1,.ptr 64 0),(6,.bool (!r1))],[(64,Ap a0)],[]⟩ (Ak (by kernel_rfl)) (Bs (cb:=(!r1)) rfl (fun c3=>?_) (fun c3=>?_)))))))
 ·replace h0:=ip c3 h0
  refine Ab (Ac (st (Bw (st (Bg tv (At (An ⟨[(2,.own 128 0 2 ([].map Ao)),(3,iV 1)],[],[]⟩ (Ak (by kernel_rfl)) ?_)))))))
  obtain rfl:=sj h0
  exact Cr (Bj rfl rfl rfl rfl rfl tv)
 ·replace h0:=Do c3 h0
  refine Dn (An ⟨[(1,.ptr 64 0)],[(64,Ap a0)],[]⟩ (Ak (by kernel_rfl)) (Ab (Ac (st (c_ (v:=.agg (Ap a0)) (Aj ⟨tv,tv⟩ rfl (nl rfl)) ?_)))))
  obtain ⟨r4,e5,h0⟩:=bnd h0
  refine st (Ax (r:=Aa 0 r4) false (H398 a0 r4 e5) ⟨tv,tv⟩ rfl rfl (fun _=>(Cf (Jo (fun _=>rfl)) rfl)) (st (Ag rfl tv (st (Bg tv (At (An ⟨[(2,Aa 512 r4),(3,iV 0)],[],[]⟩ (Ak (by kernel_rfl)) ?_)))))))
  obtain rfl:=sj h0
  exact Cr (Bj rfl rfl rfl rfl rfl tv)

/- loop.example/g00149/spec.l01In -/
def SQ:=[k_ 6 (.bool false)]
def SR:=[m_ 7 0,m_ 8 1,b_ .geq 9 7 8,m_ 10 9,mT 10 11 0,mT 10 12 2,pT 10 13 (.bin .leq (.t 11) (.t 12)),pa 14 10 13,m_ 6 14]
def pZ:Dh:=⟨3,15,[.t 6],sr SQ (rr SR)⟩
def K56 (D:Bf):Prop:=∀a0 a1 a2 r,YP a0 a1 a2=some r→D 56 ⟨[iV a0,iV a1,iV a2],[]⟩ ⟨.bool r,[],[]⟩
theorem F56:K56 (FO C pZ):=by
 intro a0 a1 a2 r h0
 refine f0 (Sc 3 [(0,iV a0),(1,iV a1),(2,iV a2)] [] (YQ 9 (Ac (o_ ?_))))
 obtain rfl:=sj h0
 exact eF 3

/- loop.example/g00149/spec.DeviceOK -/
def tL:=[X_ 1 0,k_ 2 (.bool false)]
def tM:=[f_ 4 1 0,l_ 5 4 1,n_ 6 5,B_ .rem 7 6 32,B_ .neq 8 7 0,m_ 9 8,fF 9 10 1 0,lF 9 11 10 1 false,pF 9 12 (.len (.t 11)),pF 9 13 (.bin .gtr (.t 12) (.c (iV 4096))),po 14 9 13,m_ 15 14,fF 15 16 1 1,lF 15 17 16 1 false,pF 15 18 (.len (.t 17)),pF 15 19 (.bin .gtr (.t 18) (.c (iV 4096))),po 20 15 19]
def tN:=[k_ 2 (.bool false)]
def tO:=[i_ 3 0]
def tP:=[m_ 21 3,f_ 22 1 1,l_ 23 22 1,n_ 24 23,b_ .lss 25 21 24]
def tQ:=[f_ 28 1 1,l_ 29 28 1,m_ 30 3,x_ 31 29 30 2,f_ 32 31 0,l_ 33 32 1,q_ 34 56 [.t 33,.c (iV 0),.c (iV 127)],N_ 35 34,m_ 36 35,fF 36 37 1 1,lF 36 38 37 1 false,mF 36 39 3,xF 36 40 38 39 2,fF 36 41 40 1,lF 36 42 41 1 false,pF 36 43 (.len (.t 42)),pF 36 44 (.bin .neq (.t 43) (.c (iV 32))),po 45 36 44]
def tR:=[k_ 2 (.bool false)]
def tS:=[m_ 26 3,B_ .add 27 26 1,m_ 3 27]
def tK:IR:=(.seq (sr tP (.ite (.t 25) .skip (.exit 0))) (.seq (.block 1 (sr tQ (iz 45 (rr tR)))) (.reg tS)))
def tT:=[k_ 2 (.bool true)]
def VE:Dh:=⟨1,46,[.t 2],sr tL (.seq (sr tM (iz 20 (rr tN))) (.seq (sr tO (Li 0 tK)) (rr tT)))⟩
def QD (D:Bf):Prop:=∀a0 r,LE a0=some r→D 290 ⟨[.agg (Ap a0)],[]⟩ ⟨.bool r,[],[]⟩
theorem ZK (H56:K56 C):QD (FO C VE):=by
 intro a0 r h0
 refine f0 (Ab (Ac (st (Hm rfl tv rfl (st (Bg tv (At (An ⟨[(1,.ptr 64 0)],[(64,Ap a0)],[]⟩ (Ak (by kernel_rfl)) (Ab (Ab (Ac (st (c_ (Aj ⟨tv,tv⟩ rfl tv) (st (c_ (Aj ⟨tv,tv⟩ rfl (nl rfl)) (st (c_ (Cg (e:=Bo) (l0:=a0.held) rfl rfl tv) (st (c_ (Aj ⟨tv,tv,tv⟩ rfl (by decide)) (st (c_ (Aj t3 rfl tv) (st (Ag rfl tv (st (Bu (u:=.ptr 64 0) rfl (fun hg=>(Aj ⟨tv,tv⟩ rfl tv)) (st (Bu (u:=Bh a0.held) rfl (fun hg=>(Aj ⟨(fun _=>hg),tv⟩ rfl (nl rfl))) (st (Bu (u:=iV (a0.held.length:Int)) rfl (fun hg=>(Cg (e:=Bo) (l0:=a0.held) rfl rfl (fun _=>hg))) (st (Bu (u:=.bool (decide ((a0.held.length:Int)>4096))) rfl (fun hg=>(Aj ⟨(fun _=>hg),tv,tv⟩ rfl tv)) (st (Ct rfl rfl rfl tv (fun h=>Sa h) rfl (st (Ag rfl tv (st (Bu (u:=.ptr 64 1) rfl (fun hg=>(Aj ⟨tv,tv⟩ rfl tv)) (st (Bu (u:=Ba a0.Aq) rfl (fun hg=>(Aj ⟨(fun _=>hg),tv⟩ rfl (nl rfl))) (st (Bu (u:=iV (a0.Aq.length:Int)) rfl (fun hg=>(Cg (e:=Ay) (l0:=a0.Aq) rfl rfl (fun _=>hg))) (sw ⟨[(1,.ptr 64 0),(15,.bool (bif ((((a0.held.length:Int)).tmod 32) != 0) then true else (decide ((a0.held.length:Int)>4096)))),(18,.may ((bif ((((a0.held.length:Int)).tmod 32) != 0) then true else (decide ((a0.held.length:Int)>4096)))==false) (iV (a0.Aq.length:Int)))],[(64,Ap a0)],[]⟩ (Ak (by kernel_rfl)) (Bu (u:=.bool (decide ((a0.Aq.length:Int)>4096))) rfl (fun hg=>(Aj ⟨(fun _=>hg),tv,tv⟩ rfl tv)) (st (Ct rfl rfl rfl tv (fun h=>Sa h) rfl (At ?_))))))))))))))))))))))))))))))))))))))))))))))
 obtain ⟨v1,e2,h0⟩:=bl h0
 refine An ⟨[(1,.ptr 64 0),(20,.bool v1)],[(64,Ap a0)],[]⟩ (Ak (by subst e2; kernel_rfl)) (Bs (cb:=v1) rfl (fun c3=>?_) (fun c3=>?_))
 ·replace h0:=ip c3 h0
  refine Ab (Ac (st (Bg tv (At (An ⟨[(2,.bool false)],[],[]⟩ (Ak (by kernel_rfl)) ?_)))))
  obtain rfl:=sj h0
  exact Cr (Bj rfl rfl rfl rfl rfl tv)
 ·replace h0:=Do c3 h0
  refine Dn (An ⟨[(1,.ptr 64 0)],[(64,Ap a0)],[]⟩ (Ak (by kernel_rfl)) (Ab (Ab (Ac (st (Bg tv (At (An ⟨[(1,.ptr 64 0),(3,iV 0)],[(64,Ap a0)],[]⟩ (Ak (by kernel_rfl)) (Be ?_)))))))))
  obtain ⟨r30,e31,h0⟩:=bnd h0
  refine Cz (R:=(fun S=>.inl ()=r30∧S=⟨[],[],[]⟩)) (Ph a0) (fun s S=>match s with | p12=>S=⟨[(1,.ptr 64 0),(3,iV p12)],[(64,Ap a0)],[]⟩) e31 ⟨[(1,.ptr 64 0),(3,iV 0)],[(64,Ap a0)],[]⟩ (Ak (by kernel_rfl)) rfl 0 (fun _=>rfl) ?_ ?_
  ·rintro S _ hfg ⟨rfl,rfl⟩
   refine An ⟨[],[],[]⟩ (Ft hfg (by kernel_rfl)) (Ab (Ac (st (Bg tv (At (An ⟨[(2,.bool true)],[],[]⟩ (Ak (by kernel_rfl)) ?_))))))
   obtain rfl:=sj h0
   exact Cr (Bj rfl rfl rfl rfl rfl tv)
  ·rintro p12 o1 _ K1 rfl h1 hx1 hK1 hE1 hR1
   refine Ab (Ab (Ac (st (Ag rfl tv (st (c_ (Aj ⟨tv,tv⟩ rfl tv) (st (c_ (Aj ⟨tv,tv⟩ rfl (nl rfl)) (st (c_ (Cg (e:=Ay) (l0:=a0.Aq) rfl rfl tv) (st (c_ (Aj t3 rfl tv) (At (An ⟨[(1,.ptr 64 0),(3,iV p12),(25,.bool (decide (p12<(a0.Aq.length:Int))))],[(64,Ap a0)],[]⟩ (Ak (by kernel_rfl)) (Bs (cb:=(decide (p12<(a0.Aq.length:Int)))) rfl (fun c22=>?_) (fun c22=>?_))))))))))))))))
   ·replace h1:=ip c22 h1
    refine Dn (An ⟨[(1,.ptr 64 0),(3,iV p12)],[(64,Ap a0)],[]⟩ (Ak (by kernel_rfl)) (Ab (Be (Ab (Ac (st (c_ (Aj ⟨tv,tv⟩ rfl tv) (st (c_ (Aj ⟨tv,tv⟩ rfl (nl rfl)) (st (Ag rfl tv ?_)))))))))))
    obtain ⟨y23,e24,h1⟩:=bnd h1
    refine st (c_ (Eb (e:=Ay) (y:=y23) rfl rfl tv rfl rfl tv e24) (st (c_ (Aj ⟨tv,tv⟩ rfl (nl rfl)) (st (c_ (Aj ⟨tv,tv⟩ rfl (nl rfl)) ?_)))))
    obtain ⟨r25,e26,h1⟩:=bnd h1
    refine st (Ax (r:=.bool r25) false (H56 y23.at_ 0 127 r25 e26) ⟨tv,tv,tv,tv⟩ rfl rfl (fun _=>rfl) (st (c_ (Aj ⟨tv,tv⟩ rfl tv) (st (Ag rfl tv (st (Bu (u:=.ptr 64 1) rfl (fun hg=>(Aj ⟨tv,tv⟩ rfl tv)) (st (Bu (u:=Ba a0.Aq) rfl (fun hg=>(Aj ⟨(fun _=>hg),tv⟩ rfl (nl rfl))) (st (Bu (u:=iV p12) rfl (fun hg=>(Gx (v:=iV p12) rfl tv)) ?_)))))))))))
    obtain ⟨y27,e28,h1⟩:=bnd h1
    refine sw ⟨[(1,.ptr 64 0),(3,iV p12),(36,.bool (!r25)),(38,.may ((!r25)==false) (Ba a0.Aq)),(39,.may ((!r25)==false) (iV p12))],[(64,Ap a0)],[]⟩ (Ak (by kernel_rfl)) (Bu (u:=.iptr (Ay y27)) rfl (fun hg=>(Eb (e:=Ay) (y:=y27) rfl rfl (fun _=>hg) rfl rfl (fun _=>hg) (ip hg e28))) (st (Bu (u:=.iptr [Bh y27.data]) rfl (fun hg=>(Aj ⟨(fun _=>hg),tv⟩ rfl (nl rfl))) (st (Bu (u:=Bh y27.data) rfl (fun hg=>(Aj ⟨(fun _=>hg),tv⟩ rfl (nl rfl))) (st (Bu (u:=iV (y27.data.length:Int)) rfl (fun hg=>(Cg (e:=Bo) (l0:=y27.data) rfl rfl (fun _=>hg))) (st (Bu (u:=.bool ((y27.data.length:Int) != 32)) rfl (fun hg=>(Aj ⟨(fun _=>hg),tv,tv⟩ rfl tv)) (st (Ct rfl rfl rfl tv (fun h=>Sa h) rfl (At (An ⟨[(1,.ptr 64 0),(3,iV p12),(45,.bool (bif (!r25) then true else ((y27.data.length:Int) != 32)))],[(64,Ap a0)],[]⟩ (Ak (by kernel_rfl)) (Bs (cb:=(bif (!r25) then true else ((y27.data.length:Int) != 32))) rfl (fun c29=>?_) (fun c29=>?_)))))))))))))))
    ·replace h1:=ip c29 h1
     refine Ab (Ac (st (Bg tv (At (An ⟨[(2,.bool false)],[],[]⟩ (Ak (by kernel_rfl)) ?_)))))
     obtain rfl:=sj h1
     obtain rfl:=hx1 _ rfl
     obtain rfl:=sj h0
     exact Cr (hR1 _ (Bj rfl rfl rfl rfl rfl tv))
    ·replace h1:=Do c29 h1
     refine Dn (It (An ⟨[(1,.ptr 64 0),(3,iV p12)],[(64,Ap a0)],[]⟩ (Ak (by kernel_rfl)) (Ac (st (Ag rfl tv (st (c_ (Aj t3 rfl tv) (st (Ag rfl tv (At ?_))))))))))
     obtain rfl:=sj h1
     exact hK1 _ rfl _ ⟨[(1,.ptr 64 0),(3,iV (wi (p12+1)))],[(64,Ap a0)],[]⟩ (Ak (by kernel_rfl)) rfl
   ·replace h1:=Do c22 h1
    obtain rfl:=sj h1
    obtain rfl:=hx1 _ rfl
    refine Ke rfl ?_
    exact hE1 _ ⟨[],[],[]⟩ (Ak (by kernel_rfl)) ⟨rfl,rfl⟩

/- loop.example/g00149/spec.l02Crc -/
def yC:=[i_ 2 0]
def yD:=[i_ 3 4294967295]
def yE:=[i_ 4 0]
def yF:=[m_ 6 4,m_ 7 0,n_ 8 7,b_ .lss 9 6 8]
def yG:=[m_ 12 3,m_ 13 0,m_ 14 4,x_ 15 13 14 1,l_ 16 15 1,iQ 17 (.conv .i64 (.t 16)),b_ .xor 18 12 17,m_ 3 18]
def yH:=[i_ 5 0]
def yI:=[m_ 19 5,B_ .lss 20 19 8]
def yJ:=[m_ 23 3,B_ .rem 24 23 2,B_ .eql 25 24 1]
def yK:=[m_ 26 3,B_ .quo 27 26 2,B_ .xor 28 27 3988292384,m_ 3 28]
def yL:=[m_ 29 3,B_ .quo 30 29 2,m_ 3 30]
def jI:=[m_ 21 5,B_ .add 22 21 1,m_ 5 22]
def yA:IR:=(.seq (sr yI (.ite (.t 20) .skip (.exit 2))) (.seq (.block 3 (sr yJ (.ite (.t 25) (.reg yK) (.reg yL)))) (.reg jI)))
def jJ:=[m_ 10 4,B_ .add 11 10 1,m_ 4 11]
def yB:IR:=(.seq (sr yF (.ite (.t 9) .skip (.exit 0))) (.seq (.block 1 (sr yG (sr yH (Li 2 yA)))) (.reg jJ)))
def jK:=[m_ 31 3,B_ .xor 32 31 4294967295,m_ 2 32]
def VW:Dh:=⟨1,33,[.t 2],sr yC (sr yD (.seq (sr yE (Li 0 yB)) (rr jK)))⟩
def QO (D:Bf):Prop:=∀a0 r,MA a0=some r→D 353 ⟨[Bh a0],[]⟩ ⟨iV r,[],[]⟩
theorem Aab:QO (FO C VW):=by
 intro a0 r h0
 refine f0 (Ab (Ac (st (Bg tv (At (An ⟨[(0,Bh a0)],[],[]⟩ (Ak (by kernel_rfl)) (Ab (Ac (st (Bg tv (At (An ⟨[(0,Bh a0),(3,iV 4294967295)],[],[]⟩ (Ak (by kernel_rfl)) (Ab (Ab (Ac (st (Bg tv (At (An ⟨[(0,Bh a0),(3,iV 4294967295),(4,iV 0)],[],[]⟩ (Ak (by kernel_rfl)) (Be ?_))))))))))))))))))))
 obtain ⟨r61,e62,h0⟩:=bnd h0
 refine Cz (R:=(fun S=>∃p37:Int,p37=r61∧S=⟨[(3,iV p37)],[],[]⟩)) (Na a0) (fun s S=>match s with | (p17,p18)=>S=⟨[(0,Bh a0),(3,iV p17),(4,iV p18)],[],[]⟩) e62 ⟨[(0,Bh a0),(3,iV 4294967295),(4,iV 0)],[],[]⟩ (Ak (by kernel_rfl)) rfl 0 (fun _=>rfl) ?_ ?_
 ·rintro S _ hfg ⟨p37,rfl,rfl⟩
  refine An ⟨[(3,iV p37)],[],[]⟩ (Ft hfg (by kernel_rfl)) (Ab (Ac (st (Ag rfl tv (st (c_ (Aj t3 rfl tv) (st (Ag rfl tv (At (An ⟨[(2,iV (Ks .i64 p37 4294967295))],[],[]⟩ (Ak (by kernel_rfl)) ?_))))))))))
  obtain rfl:=sj h0
  exact Cr (Bj rfl rfl rfl rfl rfl tv)
 ·rintro ⟨p17,p18⟩ o1 _ K1 rfl h1 hx1 hK1 hE1 hR1
  refine Ab (Ab (Ac (st (Ag rfl tv (st (Ag rfl tv (st (c_ (Cg (e:=Bo) (l0:=a0) rfl rfl tv) (st (c_ (Aj t3 rfl tv) (At (An ⟨[(0,Bh a0),(3,iV p17),(4,iV p18),(9,.bool (decide (p18<(a0.length:Int))))],[],[]⟩ (Ak (by kernel_rfl)) (Bs (cb:=(decide (p18<(a0.length:Int)))) rfl (fun c38=>?_) (fun c38=>?_))))))))))))))
  ·replace h1:=ip c38 h1
   refine Dn (An ⟨[(0,Bh a0),(3,iV p17),(4,iV p18)],[],[]⟩ (Ak (by kernel_rfl)) (Ab (Be (Ab (Ac (st (Ag rfl tv (st (Ag rfl tv (st (Ag rfl tv ?_)))))))))))
   obtain ⟨y39,e40,h1⟩:=bnd h1
   refine st (c_ (Eb (e:=Bo) (y:=y39) rfl rfl tv rfl rfl tv e40) (st (c_ (Aj ⟨tv,tv⟩ rfl (nl rfl)) (st (c_ (Aj ⟨tv,tv⟩ rfl tv) (st (c_ (Aj t3 rfl tv) (st (Ag rfl tv (At (An ⟨[(0,Bh a0),(3,iV (Ks .i64 p17 (wi ((y39).toNat:Int)))),(4,iV p18)],[],[]⟩ (Ak (by kernel_rfl)) (Ab (Ac (st (Bg tv (At (An ⟨[(0,Bh a0),(3,iV (Ks .i64 p17 (wi ((y39).toNat:Int)))),(4,iV p18),(5,iV 0)],[],[]⟩ (Ak (by kernel_rfl)) (Be ?_))))))))))))))))))
   obtain ⟨r59,e60,h1⟩:=bnd h1
   refine Cz (R:=(fun S=>∃p53:Int,p53=r59∧S=⟨[(0,Bh a0),(3,iV p53),(4,iV p18)],[],[]⟩)) (Nb) (fun s S=>match s with | (p46,p47)=>S=⟨[(0,Bh a0),(3,iV p46),(4,iV p18),(5,iV p47)],[],[]⟩) e60 ⟨[(0,Bh a0),(3,iV (Ks .i64 p17 (wi ((y39).toNat:Int)))),(4,iV p18),(5,iV 0)],[],[]⟩ (Ak (by kernel_rfl)) rfl 2 (fun _=>rfl) ?_ ?_
   ·rintro S _ hfg ⟨p53,rfl,rfl⟩
    refine It (An ⟨[(0,Bh a0),(3,iV p53),(4,iV p18)],[],[]⟩ (Ft hfg (by kernel_rfl)) (Ac (st (Ag rfl tv (st (c_ (Aj t3 rfl tv) (st (Ag rfl tv (At ?_)))))))))
    obtain rfl:=sj h1
    exact hK1 _ rfl _ ⟨[(0,Bh a0),(3,iV p53),(4,iV (wi (p18+1)))],[],[]⟩ (Ak (by kernel_rfl)) rfl
   ·rintro ⟨p46,p47⟩ o2 _ K2 rfl h2 hx2 hK2 hE2 hR2
    refine Ab (Ab (Ac (st (Ag rfl tv (st (c_ (Aj t3 rfl tv) (At (An ⟨[(0,Bh a0),(3,iV p46),(4,iV p18),(5,iV p47),(20,.bool (decide (p47<8)))],[],[]⟩ (Ak (by kernel_rfl)) (Bs (cb:=(decide (p47<8))) rfl (fun c54=>?_) (fun c54=>?_))))))))))
    ·replace h2:=ip c54 h2
     refine Dn (An ⟨[(0,Bh a0),(3,iV p46),(4,iV p18),(5,iV p47)],[],[]⟩ (Ak (by kernel_rfl)) (Ab (Tn (fun S=>∃p56:Int,S=⟨[(0,Bh a0),(3,iV p56),(4,iV p18),(5,iV p47)],[],[]⟩∧Sr p47 p56=some o2) ?_ (fun J57=>?_))))
     ·rintro _ ⟨p56,rfl,h2⟩
      refine An ⟨[(0,Bh a0),(3,iV p56),(4,iV p18),(5,iV p47)],[],[]⟩ (Ak (by kernel_rfl)) (Ac (st (Ag rfl tv (st (c_ (Aj t3 rfl tv) (st (Ag rfl tv (At ?_))))))))
      obtain rfl:=sj h2
      exact hK2 _ rfl _ ⟨[(0,Bh a0),(3,iV p56),(4,iV p18),(5,iV (wi (p47+1)))],[],[]⟩ (Ak (by kernel_rfl)) rfl
     ·refine Ab ?_
      refine Ac (st (Ag rfl tv (st (c_ (Aj ⟨tv,tv,tv⟩ rfl (by decide)) (st (c_ (Aj t3 rfl tv) (At (An ⟨[(0,Bh a0),(3,iV p46),(4,iV p18),(5,iV p47),(25,.bool (((p46).tmod 2)==1))],[],[]⟩ (Ak (by kernel_rfl)) (Bs (cb:=(((p46).tmod 2)==1)) rfl (fun c58=>?_) (fun c58=>?_))))))))))
      ·replace h2:=ip c58 h2
       refine Ac (st (Ag rfl tv (st (c_ (Aj ⟨tv,tv,tv⟩ rfl (by decide)) (st (c_ (Aj t3 rfl tv) (st (Ag rfl tv (At (It ?_))))))))))
       exact J57 _ ⟨[(0,Bh a0),(3,iV (Ks .i64 (wi ((p46).tdiv 2)) 3988292384)),(4,iV p18),(5,iV p47)],[],[]⟩ (Ak (by kernel_rfl)) ⟨_,rfl,h2⟩
      ·replace h2:=Do c58 h2
       refine Ac (st (Ag rfl tv (st (c_ (Aj ⟨tv,tv,tv⟩ rfl (by decide)) (st (Ag rfl tv (At (It ?_))))))))
       exact J57 _ ⟨[(0,Bh a0),(3,iV (wi ((p46).tdiv 2))),(4,iV p18),(5,iV p47)],[],[]⟩ (Ak (by kernel_rfl)) ⟨_,rfl,h2⟩
    ·replace h2:=Do c54 h2
     obtain rfl:=sj h2
     obtain rfl:=hx2 _ rfl
     refine Ke rfl ?_
     exact hE2 _ ⟨[(0,Bh a0),(3,iV p46),(4,iV p18)],[],[]⟩ (Ak (by kernel_rfl)) ⟨_,rfl,rfl⟩
  ·replace h1:=Do c38 h1
   obtain rfl:=sj h1
   obtain rfl:=hx1 _ rfl
   refine Ke rfl ?_
   exact hE1 _ ⟨[(3,iV p17)],[],[]⟩ (Ak (by kernel_rfl)) ⟨_,rfl,rfl⟩

/- loop.example/g00149/spec.l02Frame -/
def uL:List Bi:=[⟨some 2,.nilS 1,none⟩]
def uM:=[m_ 6 0,n_ 7 6,B_ .add 8 7 1,m_ 3 8]
def uN:List Bi:=[m_ 9 3,B_ .quo 10 9 256,iQ 11 (.conv .u8 (.t 10)),m_ 12 3,B_ .rem 13 12 256,iQ 14 (.conv .u8 (.t 13)),⟨some 15,.mkS 1 [.int .u8 0] 2 [(0,.t 11),(1,.t 14)],none⟩,m_ 16 0,⟨some 17,.app 1 1 (.t 15) (.t 16),none⟩,m_ 4 17]
def uO:=[m_ 18 4,q_ 19 353 [.t 18],m_ 5 19]
def uP:List Bi:=[m_ 20 4,m_ 21 5,B_ .quo 22 21 16777216,iQ 23 (.conv .u8 (.t 22)),m_ 24 5,B_ .quo 25 24 65536,B_ .rem 26 25 256,iQ 27 (.conv .u8 (.t 26)),m_ 28 5,B_ .quo 29 28 256,B_ .rem 30 29 256,iQ 31 (.conv .u8 (.t 30)),m_ 32 5,B_ .rem 33 32 256,iQ 34 (.conv .u8 (.t 33)),⟨some 35,.mkS 1 [.int .u8 0] 4 [(0,.t 23),(1,.t 27),(2,.t 31),(3,.t 34)],none⟩,⟨some 36,.app 1 1 (.t 20) (.t 35),none⟩,m_ 2 36]
def VI:Dh:=⟨1,37,[.t 2],sr uL (sr uM (sr uN (sr uO (rr uP))))⟩
def QG (D:Bf):Prop:=∀a0 r,LJ a0=some r→D 304 ⟨[Bh a0],[]⟩ ⟨Bc 0 r,[],[]⟩
theorem ZN (H353:QO C):QG (FO C VI):=by
 intro a0 r h0
 refine f0 (Ab (Ac (st (Bw (At (An ⟨[(0,Bh a0)],[],[]⟩ (Ak (by kernel_rfl)) (Ab (Ac (st (Ag rfl tv (st (c_ (Cg (e:=Bo) (l0:=a0) rfl rfl tv) (st (c_ (Aj t3 rfl tv) (st (Ag rfl tv (At (An ⟨[(0,Bh a0),(3,iV (wi ((a0.length:Int)+1)))],[],[]⟩ (Ak (by kernel_rfl)) (Ab (Ac (st (Ag rfl tv (st (c_ (Aj ⟨tv,tv,tv⟩ rfl (by decide)) (st (c_ (PD (Aj ⟨tv,tv⟩ rfl tv)) (st (Ag rfl tv (st (c_ (Aj ⟨tv,tv,tv⟩ rfl (by decide)) (st (c_ (PD (Aj ⟨tv,tv⟩ rfl tv)) (st (Fk ⟨tv,tv,tv⟩ ⟨⟨nl rfl,rfl,rfl⟩,⟨nl rfl,rfl,rfl⟩,tv⟩ (st (Ag rfl tv ?_))))))))))))))))))))))))))))))))))))
 obtain ⟨c1,h0⟩:=Kq h0
 refine st (Hc (e:=Bo) (l0:=([b8 (wi (((wi ((a0.length:Int)+1))).tdiv 256)),b8 (((wi ((a0.length:Int)+1))).tmod 256)]:List UInt8)) (l1:=a0) rfl rfl tv rfl (by decide) c1 (st (Ag rfl tv (At ?_))))
 obtain ⟨v2,e3,h0⟩:=bl h0
 refine An ⟨[(4,Bc 960 v2)],[],[]⟩ (Ak (by subst e3; kernel_rfl)) (Ab (Ac (st (Ag rfl tv ?_))))
 obtain ⟨r4,e5,h0⟩:=bnd h0
 refine st (Ax (r:=iV r4) false (H353 v2 r4 e5) ⟨tv,tv⟩ rfl rfl (fun _=>rfl) (st (Ag rfl tv (At (An ⟨[(4,Bc 960 v2),(5,iV r4)],[],[]⟩ (Ak (by kernel_rfl)) (Ab (Ac (st (Ag rfl tv (st (Ag rfl tv (st (c_ (Aj ⟨tv,tv,tv⟩ rfl (by decide)) (st (c_ (PD (Aj ⟨tv,tv⟩ rfl tv)) (st (Ag rfl tv (st (c_ (Aj ⟨tv,tv,tv⟩ rfl (by decide)) (st (c_ (Aj ⟨tv,tv,tv⟩ rfl (by decide)) (st (c_ (PD (Aj ⟨tv,tv⟩ rfl tv)) (st (Ag rfl tv (st (c_ (Aj ⟨tv,tv,tv⟩ rfl (by decide)) (st (c_ (Aj ⟨tv,tv,tv⟩ rfl (by decide)) (st (c_ (PD (Aj ⟨tv,tv⟩ rfl tv)) (st (Ag rfl tv (st (c_ (Aj ⟨tv,tv,tv⟩ rfl (by decide)) (st (c_ (PD (Aj ⟨tv,tv⟩ rfl tv)) (sw ⟨[(20,Bc 960 v2),(23,.int .u8 ((b8 (wi ((r4).tdiv 16777216))).toNat:Int)),(27,.int .u8 ((b8 (((wi ((r4).tdiv 65536))).tmod 256)).toNat:Int)),(31,.int .u8 ((b8 (((wi ((r4).tdiv 256))).tmod 256)).toNat:Int)),(34,.int .u8 ((b8 ((r4).tmod 256)).toNat:Int))],[],[]⟩ (Ak (by kernel_rfl)) (Fk ⟨tv,tv,tv,tv,tv⟩ ⟨⟨nl rfl,rfl,rfl⟩,⟨nl rfl,rfl,rfl⟩,⟨nl rfl,rfl,rfl⟩,⟨nl rfl,rfl,rfl⟩,tv⟩ ?_)))))))))))))))))))))))))))))))))))))))
 obtain ⟨c6,h0⟩:=Kq h0
 refine st (Hc (e:=Bo) (l0:=v2) (l1:=([b8 (wi ((r4).tdiv 16777216)),b8 (((wi ((r4).tdiv 65536))).tmod 256),b8 (((wi ((r4).tdiv 256))).tmod 256),b8 ((r4).tmod 256)]:List UInt8)) rfl rfl tv rfl (by decide) c6 (st (Ag rfl tv (At ?_))))
 obtain ⟨v7,e8,h0⟩:=bl h0
 refine An ⟨[(2,Bc 960 v7)],[],[]⟩ (Ak (by subst e8; kernel_rfl)) ?_
 obtain rfl:=sj h0
 exact Cr (Bj rfl rfl rfl rfl rfl tv)

/- loop.example/g00149/spec.l02Next -/
def xI:List Bi:=[⟨some 4,.nilS 1,none⟩,k_ 5 (.bool false)]
def xJ:=[m_ 10 1,B_ .add 11 10 2,m_ 12 0,n_ 13 12,b_ .gtr 14 11 13]
def xK:List Bi:=[⟨some 15,.mkS 1 [.int .u8 0] 0 [],none⟩,m_ 4 15,k_ 5 (.bool false)]
def xL:=tk [m_ 16 0,m_ 17 1,x_ 18 16 17 1,l_ 19 18 1,iQ 20 (.conv .i64 (.t 19)),B_ .mul 21 20 256,m_ 22 0,m_ 23 1,B_ .add 24 23 1,x_ 25 22 24 1,l_ 26 25 1,iQ 27 (.conv .i64 (.t 26)),b_ .add 28 21 27,B_ .sub 29 28 1,m_ 6 29] .fin
def xM:=[m_ 30 6,B_ .lss 31 30 0,m_ 32 31,mF 32 33 6,pF 32 34 (.bin .gtr (.t 33) (.c (iV 2000))),po 35 32 34,m_ 36 35,mF 36 37 1,mF 36 38 6,pF 36 39 (.bin .add (.t 37) (.t 38)),pF 36 40 (.bin .add (.t 39) (.c (iV 6))),mF 36 41 0,pF 36 42 (.len (.t 41)),pF 36 43 (.bin .gtr (.t 40) (.t 42)),po 44 36 43]
def xN:List Bi:=[⟨some 45,.mkS 1 [.int .u8 0] 0 [],none⟩,m_ 4 45,k_ 5 (.bool false)]
def xO:List Bi:=[⟨some 46,.mkS 1 [.int .u8 0] 0 [],none⟩,m_ 47 0,m_ 48 1,B_ .add 49 48 2,m_ 50 1,B_ .add 51 50 2,m_ 52 6,b_ .add 53 51 52,⟨some 54,.p (.slice (.t 47) (some (.t 49)) (some (.t 53)) 1),none⟩,⟨some 55,.app 1 1 (.t 46) (.t 54),none⟩,m_ 7 55]
def xP:=[m_ 56 7,q_ 57 304 [.t 56],m_ 8 57]
def xQ:=[i_ 9 0]
def xR:=[m_ 58 9,B_ .lss 59 58 4]
def jE:=tk [m_ 62 0,m_ 63 1,B_ .add 64 63 2,m_ 65 6,b_ .add 66 64 65,m_ 67 9,b_ .add 68 66 67,x_ 69 62 68 1,l_ 70 69 1,m_ 71 8,m_ 72 6,⟨some 73,.p (.bin .add (.c (iV 2)) (.t 72)),none⟩,m_ 74 9,b_ .add 75 73 74,x_ 76 71 75 1,l_ 77 76 1,b_ .neq 78 70 77] .fin
def jF:List Bi:=[⟨some 79,.mkS 1 [.int .u8 0] 0 [],none⟩,m_ 4 79,k_ 5 (.bool false)]
def jG:=[m_ 60 9,B_ .add 61 60 1,m_ 9 61]
def xH:IR:=(.seq (sr xR (.ite (.t 59) .skip (.exit 0))) (.seq (.block 1 (sd jE (iz 78 (rr jF)))) (.reg jG)))
def jH:=[m_ 80 7,m_ 4 80,k_ 5 (.bool true)]
def VU:Dh:=⟨2,81,[.t 4,.t 5],sr xI (.seq (sr xJ (iz 14 (rr xK))) (sd xL (.seq (sr xM (iz 44 (rr xN))) (sr xO (sr xP (.seq (sr xQ (Li 0 xH)) (rr jH)))))))⟩
def QM (D:Bf):Prop:=∀a0 a1 r,LW a0 a1=some r→D 351 ⟨[Bh a0,iV a1],[]⟩ ⟨.tup [Bc 0 r.1,.bool r.2],[],[]⟩
theorem ZZ (H304:QG C):QM (FO C VU):=by
 intro a0 a1 r h0
 refine f0 (Ab (Ac (st (Bw (st (Bg tv (At (An ⟨[(0,Bh a0),(1,iV a1)],[],[]⟩ (Ak (by kernel_rfl)) (Ab (Ab (Ac (st (Ag rfl tv (st (c_ (Aj t3 rfl tv) (st (Ag rfl tv (st (c_ (Cg (e:=Bo) (l0:=a0) rfl rfl tv) (st (c_ (Aj t3 rfl tv) (At (An ⟨[(0,Bh a0),(1,iV a1),(14,.bool (decide ((wi (a1+2))>(a0.length:Int))))],[],[]⟩ (Ak (by kernel_rfl)) (Bs (cb:=(decide ((wi (a1+2))>(a0.length:Int)))) rfl (fun c1=>?_) (fun c1=>?_)))))))))))))))))))))))))
 ·replace h0:=ip c1 h0
  refine Ab (Ac (st (Fk tv tv (st (Ag rfl tv (st (Bg tv (At (An ⟨[(4,Bc 960 []),(5,.bool false)],[],[]⟩ (Ak (by kernel_rfl)) ?_)))))))))
  obtain rfl:=sj h0
  exact Cr (Bj rfl rfl rfl rfl rfl tv)
 ·replace h0:=Do c1 h0
  refine Dn (An ⟨[(0,Bh a0),(1,iV a1)],[],[]⟩ (Ak (by kernel_rfl)) (Ab ?_))
  obtain ⟨y2,e3,h0⟩:=bnd h0
  obtain ⟨y4,e5,h0⟩:=bnd h0
  refine Ds (Ah tv (Ag rfl tv (⟨tv,Ah tv (Ag rfl tv (⟨tv,Ah tv (c_ (Eb (e:=Bo) (y:=y2) rfl rfl tv rfl rfl tv e3) (⟨tv,Ah tv (c_ (Aj ⟨tv,tv⟩ rfl (nl rfl)) (⟨tv,Ah tv (c_ (Aj ⟨tv,tv⟩ rfl tv) (⟨tv,Ah tv (c_ (Aj t3 rfl tv) (⟨tv,Ah tv (Ag rfl tv (⟨tv,Ah tv (Ag rfl tv (⟨tv,Ah tv (c_ (Aj t3 rfl tv) (⟨tv,Ah tv (c_ (Eb (e:=Bo) (y:=y4) rfl rfl tv rfl rfl tv e5) (⟨tv,Ah tv (c_ (Aj ⟨tv,tv⟩ rfl (nl rfl)) (⟨tv,Ah tv (c_ (Aj ⟨tv,tv⟩ rfl tv) (⟨tv,Ah tv (c_ (Aj t3 rfl tv) (⟨tv,Ah tv (c_ (Aj t3 rfl tv) (⟨tv,Ah tv (Ag rfl tv (⟨tv,?_⟩))⟩))⟩))⟩))⟩))⟩))⟩))⟩))⟩))⟩))⟩))⟩))⟩))⟩))⟩)))
  refine Iu ?_
  obtain ⟨v6,e7,h0⟩:=bl h0
  refine An ⟨[(0,Bh a0),(1,iV a1),(6,iV v6)],[],[]⟩ (Ak (by subst e7; kernel_rfl)) (Ab (Ab (Ac (st (Ag rfl tv (st (c_ (Aj t3 rfl tv) (st (Ag rfl tv (st (Bu (u:=iV v6) rfl (fun hg=>(Gx (v:=iV v6) rfl tv)) (st (Bu (u:=.bool (decide (v6>2000))) rfl (fun hg=>(Aj ⟨(fun _=>hg),tv,tv⟩ rfl tv)) (st (Ct rfl rfl rfl tv (fun h=>Sa h) rfl (st (Ag rfl tv (st (Bu (u:=iV a1) rfl (fun hg=>(Gx (v:=iV a1) rfl tv)) (st (Bu (u:=iV v6) rfl (fun hg=>(Gx (v:=iV v6) rfl tv)) (st (Bu (u:=iV (wi (a1+v6))) rfl (fun hg=>(Aj ⟨(fun _=>hg),(fun _=>hg),tv⟩ rfl tv)) (st (Bu (u:=iV (wi ((wi (a1+v6))+6))) rfl (fun hg=>(Aj ⟨(fun _=>hg),tv,tv⟩ rfl tv)) (st (Bu (u:=Bh a0) rfl (fun hg=>(Gx (v:=Bh a0) rfl tv)) (st (Bu (u:=iV (a0.length:Int)) rfl (fun hg=>(Cg (e:=Bo) (l0:=a0) rfl rfl (fun _=>hg))) (st (Bu (u:=.bool (decide ((wi ((wi (a1+v6))+6))>(a0.length:Int)))) rfl (fun hg=>(Aj ⟨(fun _=>hg),(fun _=>hg),tv⟩ rfl tv)) (st (Ct rfl rfl rfl tv (fun h=>Sa h) rfl (At ?_))))))))))))))))))))))))))))))))))
  obtain ⟨v8,e9,h0⟩:=bl h0
  refine An ⟨[(0,Bh a0),(1,iV a1),(6,iV v6),(44,.bool v8)],[],[]⟩ (Ak (by subst e9; kernel_rfl)) (Bs (cb:=v8) rfl (fun c10=>?_) (fun c10=>?_))
  ·replace h0:=ip c10 h0
   refine Ab (Ac (st (Fk tv tv (st (Ag rfl tv (st (Bg tv (At (An ⟨[(4,Bc 2880 []),(5,.bool false)],[],[]⟩ (Ak (by kernel_rfl)) ?_)))))))))
   obtain rfl:=sj h0
   exact Cr (Bj rfl rfl rfl rfl rfl tv)
  ·replace h0:=Do c10 h0
   refine Dn (An ⟨[(0,Bh a0),(1,iV a1),(6,iV v6)],[],[]⟩ (Ak (by kernel_rfl)) (Ab (Ac (st (Fk tv tv (st (Ag rfl tv (st (Ag rfl tv (st (c_ (Aj t3 rfl tv) (st (Ag rfl tv (st (c_ (Aj t3 rfl tv) (st (Ag rfl tv (st (c_ (Aj t3 rfl tv) ?_)))))))))))))))))))
   obtain ⟨s11,e12,h0⟩:=bnd h0
   refine st (c_ (Gp (e:=Bo) (y:=s11) rfl rfl tv ⟨tv,tv,tv⟩ rfl rfl e12) ?_)
   obtain ⟨c13,h0⟩:=Kq h0
   refine st (Hc (e:=Bo) (l0:=([]:List UInt8)) (l1:=s11) rfl rfl tv rfl (by decide) c13 (st (Ag rfl tv (At (An ⟨[(0,Bh a0),(1,iV a1),(6,iV v6),(7,Bc 2944 (([]:List UInt8)++s11))],[],[]⟩ (Ak (by kernel_rfl)) (Ab (Ac (st (Ag rfl tv ?_)))))))))
   obtain ⟨r14,e15,h0⟩:=bnd h0
   refine st (Ax (r:=Bc 0 r14) false (H304 (([]:List UInt8)++s11) r14 e15) ⟨tv,tv⟩ rfl rfl (fun _=>(Cf (Jo (fun _=>rfl)) rfl)) (st (Ag rfl tv (At (An ⟨[(0,Bh a0),(1,iV a1),(6,iV v6),(7,Bc 2944 (([]:List UInt8)++s11)),(8,Bc 3648 r14)],[],[]⟩ (Ak (by kernel_rfl)) (Ab (Ab (Ac (st (Bg tv (At (An ⟨[(0,Bh a0),(1,iV a1),(6,iV v6),(7,Bc 2944 (([]:List UInt8)++s11)),(8,Bc 3648 r14),(9,iV 0)],[],[]⟩ (Ak (by kernel_rfl)) (Be ?_)))))))))))))
   obtain ⟨r42,e43,h0⟩:=bnd h0
   refine Cz (R:=(fun S=>.inl ()=r42∧S=⟨[(7,Bc 2944 (([]:List UInt8)++s11))],[],[]⟩)) (Jd a0 a1 v6 r14) (fun s S=>match s with | p24=>S=⟨[(0,Bh a0),(1,iV a1),(6,iV v6),(7,Bc 2944 (([]:List UInt8)++s11)),(8,Bc 3648 r14),(9,iV p24)],[],[]⟩) e43 ⟨[(0,Bh a0),(1,iV a1),(6,iV v6),(7,Bc 2944 (([]:List UInt8)++s11)),(8,Bc 3648 r14),(9,iV 0)],[],[]⟩ (Ak (by kernel_rfl)) rfl 0 (fun _=>rfl) ?_ ?_
   ·rintro S _ hfg ⟨rfl,rfl⟩
    refine An ⟨[(7,Bc 2944 (([]:List UInt8)++s11))],[],[]⟩ (Ft hfg (by kernel_rfl)) (Ab (Ac (st (Ag rfl tv (st (Ag rfl tv (st (Bg tv (At (An ⟨[(4,Bc 2944 (([]:List UInt8)++s11)),(5,.bool true)],[],[]⟩ (Ak (by kernel_rfl)) ?_))))))))))
    obtain rfl:=sj h0
    exact Cr (Bj rfl rfl rfl rfl rfl tv)
   ·rintro p24 o1 _ K1 rfl h1 hx1 hK1 hE1 hR1
    refine Ab (Ab (Ac (st (Ag rfl tv (st (c_ (Aj t3 rfl tv) (At (An ⟨[(0,Bh a0),(1,iV a1),(6,iV v6),(7,Bc 2944 (([]:List UInt8)++s11)),(8,Bc 3648 r14),(9,iV p24),(59,.bool (decide (p24<4)))],[],[]⟩ (Ak (by kernel_rfl)) (Bs (cb:=(decide (p24<4))) rfl (fun c34=>?_) (fun c34=>?_))))))))))
    ·replace h1:=ip c34 h1
     refine Dn (An ⟨[(0,Bh a0),(1,iV a1),(6,iV v6),(7,Bc 2944 (([]:List UInt8)++s11)),(8,Bc 3648 r14),(9,iV p24)],[],[]⟩ (Ak (by kernel_rfl)) (Ab (Be (Ab ?_))))
     obtain ⟨y35,e36,h1⟩:=bnd h1
     obtain ⟨y37,e38,h1⟩:=bnd h1
     obtain ⟨y39,e40,h1⟩:=bnd h1
     refine Ds (Ah tv (Ag rfl tv (⟨tv,Ah tv (Ag rfl tv (⟨tv,Ah tv (c_ (Aj t3 rfl tv) (⟨tv,Ah tv (Ag rfl tv (⟨tv,Ah tv (c_ (Aj t3 rfl tv) (⟨tv,Ah tv (Ag rfl tv (⟨tv,Ah tv (c_ (Aj t3 rfl tv) (⟨tv,Ah tv (c_ (Eb (e:=Bo) (y:=y35) rfl rfl tv rfl rfl tv e36) (⟨tv,Ah tv (c_ (Aj ⟨tv,tv⟩ rfl (nl rfl)) (⟨tv,Ah tv (Ag rfl tv (⟨tv,Ah tv (Ag rfl tv (⟨tv,Ah tv (c_ (Aj t3 rfl tv) (⟨tv,Ah tv (Ag rfl tv (⟨tv,Ah tv (c_ (Aj t3 rfl tv) (⟨tv,Ah tv (c_ (Hw (e:=Bo) (y:=y37) rfl rfl tv rfl rfl tv e38) (⟨tv,?_⟩))⟩))⟩))⟩))⟩))⟩))⟩))⟩))⟩))⟩))⟩))⟩))⟩))⟩))⟩)))
     refine Qz (c_ (Cd (e:=Bo) (y:=y39) (v:=.int .u8 ((y39).toNat:Int)) rfl rfl tv rfl rfl e40 rfl (nl rfl) rfl) (⟨⟨By (Cd (e:=Bo) (y:=y39) (v:=.int .u8 ((y39).toNat:Int)) rfl rfl tv rfl rfl e40 rfl (nl rfl) rfl) rfl,tv⟩,Ah tv (c_ (Aj t3 rfl tv) (⟨⟨By (Cd (e:=Bo) (y:=y39) (v:=.int .u8 ((y39).toNat:Int)) rfl rfl tv rfl rfl e40 rfl (nl rfl) rfl) rfl,tv⟩,Iu (An ⟨[(0,Bh a0),(1,iV a1),(6,iV v6),(7,Bc 2944 (([]:List UInt8)++s11)),(8,Bc 3648 r14),(9,iV p24),(78,.bool (((y35).toNat:Int) != ((y39).toNat:Int)))],[],[]⟩ (Ak (by kernel_rfl)) (Bs (cb:=(((y35).toNat:Int) != ((y39).toNat:Int))) rfl (fun c41=>?_) (fun c41=>?_)))⟩))⟩))
     ·replace h1:=ip c41 h1
      refine Ab (Ac (st (Fk tv tv (st (Ag rfl tv (st (Bg tv (At (An ⟨[(4,Bc 5056 []),(5,.bool false)],[],[]⟩ (Ak (by kernel_rfl)) ?_)))))))))
      obtain rfl:=sj h1
      obtain rfl:=hx1 _ rfl
      obtain rfl:=sj h0
      exact Cr (hR1 _ (Bj rfl rfl rfl rfl rfl tv))
     ·replace h1:=Do c41 h1
      refine Dn (It (An ⟨[(0,Bh a0),(1,iV a1),(6,iV v6),(7,Bc 2944 (([]:List UInt8)++s11)),(8,Bc 3648 r14),(9,iV p24)],[],[]⟩ (Ak (by kernel_rfl)) (Ac (st (Ag rfl tv (st (c_ (Aj t3 rfl tv) (st (Ag rfl tv (At ?_))))))))))
      obtain rfl:=sj h1
      exact hK1 _ rfl _ ⟨[(0,Bh a0),(1,iV a1),(6,iV v6),(7,Bc 2944 (([]:List UInt8)++s11)),(8,Bc 3648 r14),(9,iV (wi (p24+1)))],[],[]⟩ (Ak (by kernel_rfl)) rfl
    ·replace h1:=Do c34 h1
     obtain rfl:=sj h1
     obtain rfl:=hx1 _ rfl
     refine Ke rfl ?_
     exact hE1 _ ⟨[(7,Bc 2944 (([]:List UInt8)++s11))],[],[]⟩ (Ak (by kernel_rfl)) ⟨rfl,rfl⟩

/- loop.example/g00149/spec.l02Scan -/
def tV:List Bi:=[⟨some 2,.nilS 1,none⟩,i_ 3 0]
def tW:List Bi:=[⟨some 8,.mkS 1 [.lst 1 []] 0 [],none⟩,m_ 4 8]
def tX:=[i_ 5 0]
def tY:=[m_ 10 0,m_ 11 5,q_ 12 351 [.t 10,.t 11],m_ 9 12,e_ 13 9 0,e_ 14 9 1,m_ 6 13,m_ 7 14]
def tZ:=[m_ 15 7,N_ 16 15]
def uA:=[m_ 17 4,m_ 18 5,m_ 2 17,m_ 3 18]
def uB:List Bi:=[m_ 19 4,m_ 20 6,⟨some 21,.mkS 1 [.lst 1 []] 1 [(0,.t 20)],none⟩,⟨some 22,.app 1 24 (.t 19) (.t 21),none⟩,m_ 4 22]
def uC:=[m_ 23 5,m_ 24 6,n_ 25 24,B_ .add 26 25 6,b_ .add 27 23 26,m_ 5 27]
def tU:IR:=(.block 1 (sr tY (.seq (sr tZ (iz 16 (rr uA))) (sr uB (.reg uC)))))
def VG:Dh:=⟨1,28,[.t 2,.t 3],sr tV (sr tW (sr tX (Li 0 tU)))⟩
def QE (D:Bf):Prop:=∀a0 r,LG a0=some r→D 302 ⟨[Bh a0],[]⟩ ⟨.tup [.own 0 0 1 (r.1.map (eL 1 Bo)),iV r.2],[],[]⟩
theorem ZL (H351:QM C):QE (FO C VG):=by
 intro a0 r h0
 refine f0 (Ab (Ac (st (Bw (st (Bg tv (At (An ⟨[(0,Bh a0)],[],[]⟩ (Ak (by kernel_rfl)) (Ab (Ac (st (Fk tv tv (st (Ag rfl tv (At (An ⟨[(0,Bh a0),(4,.own 512 0 1 (([]:List (List UInt8)).map (eL 1 Bo)))],[],[]⟩ (Ak (by kernel_rfl)) (Ab (Ac (st (Bg tv (At (An ⟨[(0,Bh a0),(4,.own 512 0 1 (([]:List (List UInt8)).map (eL 1 Bo))),(5,iV 0)],[],[]⟩ (Ak (by kernel_rfl)) (Be ?_)))))))))))))))))))))))
 obtain ⟨r17,e18,h0⟩:=bnd h0
 refine Cz (R:=(fun _=>False)) (Pi a0) (fun s S=>match s with | (p5,p6)=>S=⟨[(0,Bh a0),(4,.own 512 0 1 (p5.map (eL 1 Bo))),(5,iV p6)],[],[]⟩) e18 ⟨[(0,Bh a0),(4,.own 512 0 1 (([]:List (List UInt8)).map (eL 1 Bo))),(5,iV 0)],[],[]⟩ (Ak (by kernel_rfl)) rfl 0 (fun h=>h.elim fun _ h=>h.elim) ?_ ?_
 ·exact fun _ _ _ h=>h.elim
 ·rintro ⟨p5,p6⟩ o1 _ K1 rfl h1 hx1 hK1 hE1 hR1
  refine Be (Ab (Ac (st (Ag rfl tv (st (Ag rfl tv ?_))))))
  obtain ⟨r13,e14,h1⟩:=bnd h1
  refine st (Ax (r:=.tup [Bc 0 r13.1,.bool r13.2]) false (H351 a0 p6 r13 e14) ⟨tv,tv,tv⟩ rfl rfl (fun _=>(Cf (Jo (fun _=>rfl)) (Cf rfl rfl))) (st (Ag rfl tv (st (c_ (Aj ⟨tv,tv⟩ rfl tv) (st (c_ (Aj ⟨tv,tv⟩ rfl tv) (st (Ag rfl tv (st (Ag rfl tv (At (An ⟨[(0,Bh a0),(4,.own 512 0 1 (p5.map (eL 1 Bo))),(5,iV p6),(6,Bc 768 r13.1),(7,.bool r13.2)],[],[]⟩ (Ak (by kernel_rfl)) (Ab (Ab (Ac (st (Ag rfl tv (st (c_ (Aj ⟨tv,tv⟩ rfl tv) (At (An ⟨[(0,Bh a0),(4,.own 512 0 1 (p5.map (eL 1 Bo))),(5,iV p6),(6,Bc 768 r13.1),(16,.bool (!r13.2))],[],[]⟩ (Ak (by kernel_rfl)) (Bs (cb:=(!r13.2)) rfl (fun c15=>?_) (fun c15=>?_))))))))))))))))))))))))
  ·replace h1:=ip c15 h1
   refine Ab (Ac (st (Ag rfl tv (st (Ag rfl tv (st (Ag rfl tv (st (Ag rfl tv (At (An ⟨[(2,.own 512 0 1 (p5.map (eL 1 Bo))),(3,iV p6)],[],[]⟩ (Ak (by kernel_rfl)) ?_)))))))))))
   obtain rfl:=sj h1
   obtain rfl:=hx1 _ rfl
   obtain rfl:=sj h0
   exact Cr (hR1 _ (Bj rfl rfl rfl rfl rfl tv))
  ·replace h1:=Do c15 h1
   refine Dn (An ⟨[(0,Bh a0),(4,.own 512 0 1 (p5.map (eL 1 Bo))),(5,iV p6),(6,Bc 768 r13.1)],[],[]⟩ (Ak (by kernel_rfl)) (Ab (Ac (st (Ag rfl tv (st (Ag rfl tv (st (Fk ⟨tv,tv⟩ ⟨⟨nl rfl,rfl,rfl⟩,tv⟩ ?_)))))))))
   obtain ⟨c16,h1⟩:=Kq h1
   refine st (Hc (e:=(eL 1 Bo)) (l0:=p5) (l1:=([r13.1]:List (List UInt8))) rfl rfl tv rfl (by decide) c16 (st (Ag rfl tv (At (An ⟨[(0,Bh a0),(4,.own 512 0 1 ((p5++([r13.1]:List (List UInt8))).map (eL 1 Bo))),(5,iV p6),(6,Bh r13.1)],[],[]⟩ (Ak (by kernel_rfl)) (Ac (st (Ag rfl tv (st (Ag rfl tv (st (c_ (Cg (e:=Bo) (l0:=r13.1) rfl rfl tv) (st (c_ (Aj t3 rfl tv) (st (c_ (Aj t3 rfl tv) (st (Ag rfl tv (At (It ?_))))))))))))))))))))
   obtain rfl:=sj h1
   exact hK1 _ rfl _ ⟨[(0,Bh a0),(4,.own 512 0 1 ((p5++([r13.1]:List (List UInt8))).map (eL 1 Bo))),(5,iV (wi (p6+(wi ((r13.1.length:Int)+6)))))],[],[]⟩ (Ak (by kernel_rfl)) rfl

/- loop.example/g00149/spec.l01Put -/
def xU:List Bi:=[X_ 3 1,⟨some 4,.nilS 1,none⟩]
def xV:List Bi:=[⟨some 6,.mkS 1 [.int .u8 0] 0 [],none⟩,m_ 7 0,⟨some 8,.app 1 1 (.t 6) (.t 7),none⟩,m_ 5 8]
def xW:=[m_ 9 5,n_ 10 9,f_ 11 3 0,l_ 12 11 1,B_ .add 13 12 1,B_ .mul 14 13 32,b_ .lss 15 10 14]
def xX:List Bi:=[m_ 16 5,⟨some 17,.appz 1 1 [.int .u8 0] (.t 16) (.c (iV 32)),none⟩,m_ 5 17]
def xS:IR:=(.seq (sr xW (.ite (.t 15) .skip (.exit 0))) (.block 1 (.reg xX)))
def xY:=tk [m_ 18 5,f_ 19 3 0,l_ 20 19 1,B_ .mul 21 20 32,⟨some 22,.p (.slice (.t 18) (some (.t 21)) none 1),none⟩,f_ 23 3 1,l_ 24 23 1] (.alt [] ⟨some 25,.copy 1 (.t 22) (.t 24),none⟩ .fin .stop)
def xZ:=[m_ 26 5,m_ 4 26]
def VV:Dh:=⟨2,27,[.t 4],sr xU (sr xV (.seq (Li 0 xS) (sd xY (rr xZ))))⟩
def QN (D:Bf):Prop:=∀a0 a1 r,LY a0 a1=some r→D 352 ⟨[Bh a0,.agg (Ay a1)],[]⟩ ⟨Bc 0 r,[],[]⟩
theorem Aaa:QN (FO C VV):=by
 intro a0 a1 r h0
 refine f0 (Ab (Ac (st (Hm rfl tv rfl (st (Bw (At (An ⟨[(0,Bh a0),(3,.ptr 192 0)],[(192,Ay a1)],[]⟩ (Ak (by kernel_rfl)) (Ab (Ac (st (Fk tv tv (st (Ag rfl tv ?_))))))))))))))
 obtain ⟨c1,h0⟩:=Kq h0
 refine st (Hc (e:=Bo) (l0:=([]:List UInt8)) (l1:=a0) rfl rfl tv rfl (by decide) c1 (st (Ag rfl tv (At (An ⟨[(3,.ptr 192 0),(5,Bc 384 (([]:List UInt8)++a0))],[(192,Ay a1)],[]⟩ (Ak (by kernel_rfl)) (Ab (Be ?_)))))))
 obtain ⟨r20,e21,h0⟩:=bnd h0
 refine Cz (R:=(fun S=>∃p14:List UInt8,p14=r20∧S=⟨[(3,.ptr 192 0),(5,Bc 384 p14)],[(192,Ay a1)],[]⟩)) (Po a1) (fun s S=>match s with | p7=>S=⟨[(3,.ptr 192 0),(5,Bc 384 p7)],[(192,Ay a1)],[]⟩) e21 ⟨[(3,.ptr 192 0),(5,Bc 384 (([]:List UInt8)++a0))],[(192,Ay a1)],[]⟩ (Ak (by kernel_rfl)) rfl 0 (fun _=>rfl) ?_ ?_
 ·rintro S _ hfg ⟨p14,rfl,rfl⟩
  refine An ⟨[(3,.ptr 192 0),(5,Bc 384 p14)],[(192,Ay a1)],[]⟩ (Ft hfg (by kernel_rfl)) (Ab ?_)
  obtain ⟨s22,e23,h0⟩:=bnd h0
  refine Ds (Ah tv (Ag rfl tv (⟨tv,Ah tv (c_ (Aj ⟨tv,tv⟩ rfl tv) (⟨tv,Ah tv (c_ (Aj ⟨tv,tv⟩ rfl (nl rfl)) (⟨tv,Ah tv (c_ (Aj t3 rfl tv) (⟨tv,Ah tv (c_ (De (e:=Bo) (y:=s22) rfl rfl tv ⟨tv,tv⟩ rfl rfl e23) (⟨tv,Ah tv (c_ (Aj ⟨tv,tv⟩ rfl tv) (⟨tv,Ah tv (c_ (Aj ⟨tv,tv⟩ rfl (nl rfl)) (⟨tv,Fm (copy_ (e:=Bo) (l1:=a1.data) rfl rfl tv rfl (Wg ⟨[],tv,tv,Iu (An ⟨[(5,Bc 384 (ovl p14 ((wi (a1.at_*32)).toNat) (a1.data.take s22.length)))],[],[]⟩ (fg ⟨congrArg (fun z=>some ((.own 384 0 1 z:V))) Ee,tv⟩ tv) (Ab (Ac (st (Ag rfl tv (st (Ag rfl tv (At ?_))))))))⟩)) Dl⟩))⟩))⟩))⟩))⟩))⟩))⟩)))
  obtain ⟨v24,e25,h0⟩:=bl h0
  refine An ⟨[(4,Bc 384 v24)],[],[]⟩ (Ak (by subst e25; kernel_rfl)) ?_
  obtain rfl:=sj h0
  exact Cr (Bj rfl rfl rfl rfl rfl tv)
 ·rintro p7 o1 _ K1 rfl h1 hx1 hK1 hE1 hR1
  unfold Po at h1
  refine Ab (Ab (Ac (st (Ag rfl tv (st (c_ (Ez (e:=Bo) (l0:=p7) rfl rfl tv) (st (c_ (Aj ⟨tv,tv⟩ rfl tv) (st (c_ (Aj ⟨tv,tv⟩ rfl (nl rfl)) (st (c_ (Aj t3 rfl tv) (st (c_ (Aj t3 rfl tv) (st (c_ (Aj t3 rfl tv) (At ?_)))))))))))))))))
  obtain ⟨v15,e16,h1⟩:=bl h1
  refine An ⟨[(3,.ptr 192 0),(5,Bc 384 p7),(15,.bool v15)],[(192,Ay a1)],[]⟩ (Ak (by subst e16; kernel_rfl)) (Bs (cb:=v15) rfl (fun c17=>?_) (fun c17=>?_))
  ·replace h1:=ip c17 h1
   refine Dn (An ⟨[(3,.ptr 192 0),(5,Bc 384 p7)],[(192,Ay a1)],[]⟩ (Ak (by kernel_rfl)) (Be (Ac (st (Ag rfl tv ?_)))))
   obtain ⟨c18,h1⟩:=Kq h1
   obtain ⟨c19,h1⟩:=Kq h1
   refine st (iN (e:=Bo) (l0:=p7) (0:UInt8) rfl rfl rfl (by decide) c18 c19 (st (Ag rfl tv (At (It ?_)))))
   obtain rfl:=sj h1
   exact hK1 _ rfl _ ⟨[(3,.ptr 192 0),(5,Bc 384 (p7++List.replicate (32:Int).toNat (0:UInt8)))],[(192,Ay a1)],[]⟩ (Ak (by kernel_rfl)) rfl
  ·replace h1:=Do c17 h1
   obtain rfl:=sj h1
   obtain rfl:=hx1 _ rfl
   refine Ke rfl ?_
   exact hE1 _ ⟨[(3,.ptr 192 0),(5,Bc 384 p7)],[(192,Ay a1)],[]⟩ (Ak (by kernel_rfl)) ⟨_,rfl,rfl⟩

/- loop.example/g00149/spec.l01Read -/
def uE:List Bi:=[X_ 1 0,⟨some 2,.nilS 1,none⟩]
def uF:List Bi:=[⟨some 5,.mkS 1 [.int .u8 0] 0 [],none⟩,f_ 6 1 0,l_ 7 6 1,⟨some 8,.app 1 1 (.t 5) (.t 7),none⟩,m_ 3 8]
def uG:=[i_ 4 0]
def uH:=[m_ 9 4,f_ 10 1 1,l_ 11 10 1,n_ 12 11,b_ .lss 13 9 12]
def uI:=[m_ 16 3,f_ 17 1 1,l_ 18 17 1,m_ 19 4,x_ 20 18 19 2,L_ 21 20 2,q_ 22 352 [.t 16,.t 21],m_ 3 22]
def uJ:=[m_ 14 4,B_ .add 15 14 1,m_ 4 15]
def uD:IR:=(.seq (sr uH (.ite (.t 13) .skip (.exit 0))) (.seq (.block 1 (.reg uI)) (.reg uJ)))
def uK:=[m_ 23 3,m_ 2 23]
def VH:Dh:=⟨1,24,[.t 2],sr uE (sr uF (.seq (sr uG (Li 0 uD)) (rr uK)))⟩
def QF (D:Bf):Prop:=∀a0 r,LH a0=some r→D 303 ⟨[.agg (Ap a0)],[]⟩ ⟨Bc 0 r,[],[]⟩
theorem ZM (H352:QN C):QF (FO C VH):=by
 intro a0 r h0
 refine f0 (Ab (Ac (st (Hm rfl tv rfl (st (Bw (At (An ⟨[(1,.ptr 64 0)],[(64,Ap a0)],[]⟩ (Ak (by kernel_rfl)) (Ab (Ac (st (Fk tv tv (st (c_ (Aj ⟨tv,tv⟩ rfl tv) (st (c_ (Aj ⟨tv,tv⟩ rfl (nl rfl)) ?_))))))))))))))))
 obtain ⟨c1,h0⟩:=Kq h0
 refine st (Hc (e:=Bo) (l0:=([]:List UInt8)) (l1:=a0.held) rfl rfl tv rfl (by decide) c1 (st (Ag rfl tv (At (An ⟨[(1,.ptr 64 0),(3,Bc 320 (([]:List UInt8)++a0.held))],[(64,Ap a0)],[]⟩ (Ak (by kernel_rfl)) (Ab (Ab (Ac (st (Bg tv (At (An ⟨[(1,.ptr 64 0),(3,Bc 320 (([]:List UInt8)++a0.held)),(4,iV 0)],[(64,Ap a0)],[]⟩ (Ak (by kernel_rfl)) (Be ?_)))))))))))))
 obtain ⟨r22,e23,h0⟩:=bnd h0
 refine Cz (R:=(fun S=>∃p16:List UInt8,p16=r22∧S=⟨[(3,Bc 320 p16)],[],[]⟩)) (Pj a0) (fun s S=>match s with | (p7,p8)=>S=⟨[(1,.ptr 64 0),(3,Bc 320 p7),(4,iV p8)],[(64,Ap a0)],[]⟩) e23 ⟨[(1,.ptr 64 0),(3,Bc 320 (([]:List UInt8)++a0.held)),(4,iV 0)],[(64,Ap a0)],[]⟩ (Ak (by kernel_rfl)) rfl 0 (fun _=>rfl) ?_ ?_
 ·rintro S _ hfg ⟨p16,rfl,rfl⟩
  refine An ⟨[(3,Bc 320 p16)],[],[]⟩ (Ft hfg (by kernel_rfl)) (Ab (Ac (st (Ag rfl tv (st (Ag rfl tv (At (An ⟨[(2,Bc 320 p16)],[],[]⟩ (Ak (by kernel_rfl)) ?_))))))))
  obtain rfl:=sj h0
  exact Cr (Bj rfl rfl rfl rfl rfl tv)
 ·rintro ⟨p7,p8⟩ o1 _ K1 rfl h1 hx1 hK1 hE1 hR1
  refine Ab (Ab (Ac (st (Ag rfl tv (st (c_ (Aj ⟨tv,tv⟩ rfl tv) (st (c_ (Aj ⟨tv,tv⟩ rfl (nl rfl)) (st (c_ (Cg (e:=Ay) (l0:=a0.Aq) rfl rfl tv) (st (c_ (Aj t3 rfl tv) (At (An ⟨[(1,.ptr 64 0),(3,Bc 320 p7),(4,iV p8),(13,.bool (decide (p8<(a0.Aq.length:Int))))],[(64,Ap a0)],[]⟩ (Ak (by kernel_rfl)) (Bs (cb:=(decide (p8<(a0.Aq.length:Int)))) rfl (fun c17=>?_) (fun c17=>?_))))))))))))))))
  ·replace h1:=ip c17 h1
   refine Dn (An ⟨[(1,.ptr 64 0),(3,Bc 320 p7),(4,iV p8)],[(64,Ap a0)],[]⟩ (Ak (by kernel_rfl)) (Ab (Be (Ac (st (Ag rfl tv (st (c_ (Aj ⟨tv,tv⟩ rfl tv) (st (c_ (Aj ⟨tv,tv⟩ rfl (nl rfl)) (st (Ag rfl tv ?_))))))))))))
   obtain ⟨y18,e19,h1⟩:=bnd h1
   refine st (c_ (Eb (e:=Ay) (y:=y18) rfl rfl tv rfl rfl tv e19) (st (c_ (v:=.agg (Ay y18)) (Aj ⟨tv,tv⟩ rfl (nl rfl)) ?_)))
   obtain ⟨r20,e21,h1⟩:=bnd h1
   refine st (Ax (r:=Bc 0 r20) false (H352 p7 y18 r20 e21) ⟨tv,tv,tv⟩ rfl rfl (fun _=>(Cf (Jo (fun _=>rfl)) rfl)) (st (Ag rfl tv (At (It (An ⟨[(1,.ptr 64 0),(3,Bc 1408 r20),(4,iV p8)],[(64,Ap a0)],[]⟩ (Ak (by kernel_rfl)) (Ac (st (Ag rfl tv (st (c_ (Aj t3 rfl tv) (st (Ag rfl tv (At ?_))))))))))))))
   obtain rfl:=sj h1
   exact hK1 _ rfl _ ⟨[(1,.ptr 64 0),(3,Bc 320 r20),(4,iV (wi (p8+1)))],[(64,Ap a0)],[]⟩ (Zi [] [(1408,320)] rfl (by kernel_rfl)) rfl
  ·replace h1:=Do c17 h1
   obtain rfl:=sj h1
   obtain rfl:=hx1 _ rfl
   refine Ke rfl ?_
   exact hE1 _ ⟨[(3,Bc 320 p7)],[],[]⟩ (Ak (by kernel_rfl)) ⟨_,rfl,rfl⟩

/- loop.example/g00149/spec.LogOf -/
def EH:List Bi:=[X_ 1 0,⟨some 2,.nilS 1,none⟩,i_ 3 0]
def EI:=[L_ 6 1 2,q_ 7 290 [.t 6],N_ 8 7]
def EJ:List Bi:=[⟨some 9,.mkS 1 [.lst 1 []] 0 [],none⟩,m_ 2 9,i_ 3 1]
def EK:=[L_ 11 1 2,q_ 12 303 [.t 11],q_ 13 302 [.t 12],m_ 10 13,e_ 14 10 0,e_ 15 10 1,m_ 4 14,m_ 5 15]
def EL:=[m_ 16 4,m_ 2 16,i_ 3 0]
def WU:Dh:=⟨1,17,[.t 2,.t 3],sr EH (.seq (sr EI (iz 8 (rr EJ))) (sr EK (rr EL)))⟩
def RF (D:Bf):Prop:=∀a0 r,MU a0=some r→D 399 ⟨[.agg (Ap a0)],[]⟩ ⟨.tup [.own 0 0 1 (r.1.map (eL 1 Bo)),iV r.2],[],[]⟩
theorem Aax (H290:QD C) (H302:QE C) (H303:QF C):RF (FO C WU):=by
 intro a0 r h0
 refine f0 (Ab (Ac (st (Hm rfl tv rfl (st (Bw (st (Bg tv (At (An ⟨[(1,.ptr 64 0)],[(64,Ap a0)],[]⟩ (Ak (by kernel_rfl)) (Ab (Ab (Ac (st (c_ (v:=.agg (Ap a0)) (Aj ⟨tv,tv⟩ rfl (nl rfl)) ?_)))))))))))))))
 obtain ⟨r1,e2,h0⟩:=bnd h0
 refine st (Ax (r:=.bool r1) false (H290 a0 r1 e2) ⟨tv,tv⟩ rfl rfl (fun _=>rfl) (st (c_ (Aj ⟨tv,tv⟩ rfl tv) (At (An ⟨[(1,.ptr 64 0),(8,.bool (!r1))],[(64,Ap a0)],[]⟩ (Ak (by kernel_rfl)) (Bs (cb:=(!r1)) rfl (fun c3=>?_) (fun c3=>?_)))))))
 ·replace h0:=ip c3 h0
  refine Ab (Ac (st (Fk tv tv (st (Ag rfl tv (st (Bg tv (At (An ⟨[(2,.own 576 0 1 (([]:List (List UInt8)).map (eL 1 Bo))),(3,iV 1)],[],[]⟩ (Ak (by kernel_rfl)) ?_)))))))))
  obtain rfl:=sj h0
  exact Cr (Bj rfl rfl rfl rfl rfl tv)
 ·replace h0:=Do c3 h0
  refine Dn (An ⟨[(1,.ptr 64 0)],[(64,Ap a0)],[]⟩ (Ak (by kernel_rfl)) (Ab (Ac (st (c_ (v:=.agg (Ap a0)) (Aj ⟨tv,tv⟩ rfl (nl rfl)) ?_)))))
  obtain ⟨r4,e5,h0⟩:=bnd h0
  refine st (Ax (r:=Bc 0 r4) false (H303 a0 r4 e5) ⟨tv,tv⟩ rfl rfl (fun _=>(Cf (Jo (fun _=>rfl)) rfl)) ?_)
  obtain ⟨r6,e7,h0⟩:=bnd h0
  refine st (Ax (r:=.tup [.own 0 0 1 (r6.1.map (eL 1 Bo)),iV r6.2]) true (H302 r4 r6 e7) ⟨tv,tv⟩ rfl rfl (fun h=>nomatch h) (sw ⟨[(13,.tup [.own 832 0 1 (r6.1.map (eL 1 Bo)),iV r6.2])],[],[]⟩ (Ak (by kernel_rfl)) (Ag rfl tv (st (c_ (Aj ⟨tv,tv⟩ rfl tv) (st (c_ (Aj ⟨tv,tv⟩ rfl tv) (st (Ag rfl tv (st (Ag rfl tv (At (An ⟨[(4,.own 832 0 1 (r6.1.map (eL 1 Bo)))],[],[]⟩ (Ak (by kernel_rfl)) (Ab (Ac (st (Ag rfl tv (st (Ag rfl tv (st (Bg tv (At (An ⟨[(2,.own 832 0 1 (r6.1.map (eL 1 Bo))),(3,iV 0)],[],[]⟩ (Ak (by kernel_rfl)) ?_)))))))))))))))))))))))
  obtain rfl:=sj h0
  exact Cr (Bj rfl rfl rfl rfl rfl tv)
end Go.Ev
