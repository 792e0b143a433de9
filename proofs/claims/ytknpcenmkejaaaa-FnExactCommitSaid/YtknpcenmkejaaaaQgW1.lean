/- The walks of functions: the code comes to the answers that QgD tells. Written by a program of ours. -/
import Derived.Test.YtknpcenmkejaaaaQgW0
set_option linter.all false
set_option maxHeartbeats 4000000
set_option linter.unusedVariables false
set_option maxRecDepth 100000
namespace Go.Ev
variable {C:Az}

/- loop.example/g00149/impl.apply -/
def OJ:List Bg:=[⟨some 4,.nilS 2,none⟩,k_ 5 (.bool false)]
def OK:=[m_ 11 0,q_ 12 403 [.t 11],m_ 6 12]
def OM:=[m_ 13 1,n_ 14 13,i_ 15 0]
def ON:=[b_ .lss 16 15 14]
def OO:=[x_ 17 13 15 3,L_ 18 17 3,a_ 8 [.str [],.str [],.bool false],s_ 8 18 3]
def OP:=[m_ 20 6,f_ 21 8 0,l_ 22 21 1,q_ 23 416 [.t 20,.t 22,.c (.clo 417 [])],m_ 19 23,e_ 24 19 0,e_ 25 19 1,m_ 9 24,m_ 10 25]
def OQ:=[m_ 26 10]
def OR:=[m_ 27 6,m_ 28 9,m_ 29 9,B_ .add 30 29 1,q_ 31 419 [.t 27,.t 28,.t 30],m_ 6 31]
def OS:=[f_ 32 8 2,l_ 33 32 1,N_ 34 33]
def OT:List Bg:=[m_ 35 6,m_ 36 9,f_ 37 8 0,l_ 38 37 1,f_ 39 8 1,l_ 40 39 1,⟨some 41,.p (.build [.str [],.str []] [(0,1,.t 38),(1,1,.t 40)]),none⟩,⟨some 42,.mkS 2 [.str [],.str []] 1 [(0,.t 41)],none⟩,q_ 43 420 [.t 35,.t 36,.t 42],m_ 6 43]
def qA:=[B_ .add 44 15 1,m_ 15 44]
def OI:IR:=(sr ON (.seq (.ite (.t 16) .skip (.exit 0)) (.seq (.block 1 (sr OO (sr OP (.seq (sr OQ (iz 26 (.reg OR))) (sr OS (iz 34 (.reg OT))))))) (.reg qA))))
def qB:=[m_ 45 6,m_ 46 6,n_ 47 46,B_ .leq 48 47 100,m_ 4 45,m_ 5 48]
def c397:Dl:=⟨2,49,[.t 4,.t 5],sr OJ (sr OK (.seq (sr OM (Jt 0 OI)) (rr qB)))⟩
def wG (D:Az):Prop:=∀a0 a1 r,sR a0 a1=some r→D 397 ⟨[Cn a0,Aa a1],[]⟩ ⟨.tup [Al 0 r.1,.bool r.2],[],[]⟩
theorem F397 (H403:K403 C) (H416:K416 C) (H417:K417 C) (H419:K419 C) (H420:K420 C):wG (FO C c397):=by
 intro a0 a1 r h0
 refine f0 (Ag (Ac (st (Ed (st (Bn tv (Aw (At ⟨[(0,Cn a0),(1,Aa a1)],[],[]⟩ (Ar (by kernel_rfl)) (Ag (Ac (st (An rfl tv ?_))))))))))))
 obtain ⟨r1,e2,h0⟩:=bnd h0
 refine st (Bb (r:=Al 0 r1) false (H403 a0 r1 e2) ⟨tv,tv⟩ rfl rfl (fun _=>(Cd (Qo (fun _=>rfl)) rfl)) (st (An rfl tv (Aw (At ⟨[(1,Aa a1),(6,Al 768 r1)],[],[]⟩ (Ar (by kernel_rfl)) (Ag (Ag (Ac (st (An rfl tv (st (c_ (Dv (e:=Af) (l0:=a1) rfl rfl tv) (st (Bn tv (Aw (At ⟨[(6,Al 768 r1),(13,Aa a1),(14,iV (a1.length:Int)),(15,iV 0)],[],[]⟩ (Ar (by kernel_rfl)) (Be ?_)))))))))))))))))
 obtain ⟨r67,e68,h0⟩:=bnd h0
 refine Cs (R:=(fun S=>∃p35:List Au,p35=r67∧S=⟨[(6,Al 768 p35)],[],[]⟩)) (Oi a1) (fun s S=>match s with | (p17,p18)=>S=⟨[(6,Al 768 p17),(13,Aa a1),(14,iV (a1.length:Int)),(15,iV p18)],[],[]⟩) e68 ⟨[(6,Al 768 r1),(13,Aa a1),(14,iV (a1.length:Int)),(15,iV 0)],[],[]⟩ (Ar (by kernel_rfl)) rfl 0 (fun _=>rfl) ?_ ?_
 ·rintro S _ hfg ⟨p35,rfl,rfl⟩
  refine At ⟨[(6,Al 768 p35)],[],[]⟩ (Oz hfg (by kernel_rfl)) (Ag (Ac (st (An rfl tv (st (An rfl tv (st (c_ (Jb (e:=Ay) (l0:=p35) rfl rfl tv) (st (c_ (Aq t3 rfl tv) (st (An rfl tv (st (An rfl tv (Aw (At ⟨[(4,Al 768 p35),(5,.bool (decide ((p35.length:Int)≤100)))],[],[]⟩ (Ar (by kernel_rfl)) ?_))))))))))))))))
  obtain rfl:=sj h0
  exact Du (Bp rfl rfl rfl rfl rfl tv)
 ·rintro ⟨p17,p18⟩ o1 _ K1 rfl h1 hx1 hK1 hE1 hR1
  refine Ag (Ac (st (c_ (Aq t3 rfl tv) (Aw (At ⟨[(6,Al 768 p17),(13,Aa a1),(14,iV (a1.length:Int)),(15,iV p18),(16,.bool (decide (p18<(a1.length:Int))))],[],[]⟩ (Ar (by kernel_rfl)) (Ag (Cj (cb:=(decide (p18<(a1.length:Int)))) rfl (fun c36=>?_) (fun c36=>?_))))))))
  ·replace h1:=ip c36 h1
   refine En (At ⟨[(6,Al 768 p17),(13,Aa a1),(14,iV (a1.length:Int)),(15,iV p18)],[],[]⟩ (Ar (by kernel_rfl)) (Ag (eR (fun S=>∃p49:List Au,S=⟨[(6,Al 2752 p49),(13,Aa a1),(14,iV (a1.length:Int)),(15,iV p18)],[],[]⟩∧Vf p18 p49=some o1) ?_ (fun J50=>?_))))
   ·rintro _ ⟨p49,rfl,h1⟩
    refine At ⟨[(6,Al 2752 p49),(13,Aa a1),(14,iV (a1.length:Int)),(15,iV p18)],[],[]⟩ (Ar (by kernel_rfl)) (Ac (st (c_ (Aq t3 rfl tv) (st (An rfl tv (Aw ?_))))))
    obtain rfl:=sj h1
    exact hK1 _ rfl _ ⟨[(6,Al 768 p49),(13,Aa a1),(14,iV (a1.length:Int)),(15,iV (wi (p18+1)))],[],[]⟩ (Jp [] [(2752,768)] rfl (by kernel_rfl)) rfl
   ·refine Ag ?_
    refine Ac ?_
    obtain ⟨y51,e52,h1⟩:=bnd h1
    refine st (c_ (Hi (e:=Af) (y:=y51) rfl rfl tv rfl rfl tv e52) (st (c_ (v:=.agg (Af y51)) (Aq ⟨tv,tv⟩ rfl (nl rfl)) (st (Eb (st (Ej rfl rfl tv rfl rfl rfl (nl rfl) (Aw (At ⟨[(6,Al 768 p17),(8,.ptr 512 0),(13,Aa a1),(14,iV (a1.length:Int)),(15,iV p18)],[(512,Af y51)],[]⟩ (Ar (by kernel_rfl)) (Ag (Ac (st (An rfl tv (st (c_ (Aq ⟨tv,tv⟩ rfl tv) (st (c_ (Aq ⟨tv,tv⟩ rfl (nl rfl)) ?_)))))))))))))))))
    obtain ⟨r53,e54,h1⟩:=bnd h1
    refine st (Bb (r:=.tup [iV r53.1,.bool r53.2]) false (H416 p17 y51.key 417 [] (fun z417_0 z417_1=>fW z417_0 z417_1) (⟨fun _ _ _ _ _=>rfl,fun _ _ _ _ _=>rfl,rfl,fun _ _ _ n=>by cases n<;>rfl,fun _=>rfl⟩) (fun z417_0 z417_1 r h=>H417 z417_0 z417_1 r h) r53 e54) ⟨tv,tv,tv,tv⟩ rfl rfl (fun _=>rfl) (st (An rfl tv (st (c_ (Aq ⟨tv,tv⟩ rfl tv) (st (c_ (Aq ⟨tv,tv⟩ rfl tv) (st (An rfl tv (st (An rfl tv (Aw (At ⟨[(6,Al 768 p17),(8,.ptr 512 0),(9,iV r53.1),(10,.bool r53.2),(13,Aa a1),(14,iV (a1.length:Int)),(15,iV p18)],[(512,Af y51)],[]⟩ (Ar (by kernel_rfl)) (Ag (Ag (Ac (st (An rfl tv (Aw (At ⟨[(6,Al 768 p17),(8,.ptr 512 0),(9,iV r53.1),(13,Aa a1),(14,iV (a1.length:Int)),(15,iV p18),(26,.bool r53.2)],[(512,Af y51)],[]⟩ (Ar (by kernel_rfl)) (dG (cb:=r53.2) (fun S=>∃p58:List Au,S=⟨[(6,Al 1984 p58),(8,.ptr 512 0),(9,iV r53.1),(13,Aa a1),(14,iV (a1.length:Int)),(15,iV p18)],[(512,Af y51)],[]⟩∧Rh p18 y51 r53 p58=some o1) rfl ?_ (fun c64 J63=>?_) (fun c64 J63=>?_))))))))))))))))))))))
    ·rintro _ ⟨p58,rfl,h1⟩
     refine At ⟨[(6,Al 1984 p58),(8,.ptr 512 0),(9,iV r53.1),(13,Aa a1),(14,iV (a1.length:Int)),(15,iV p18)],[(512,Af y51)],[]⟩ (Ar (by kernel_rfl)) (Ag (Ac (st (c_ (Aq ⟨tv,tv⟩ rfl tv) (st (c_ (Aq ⟨tv,tv⟩ rfl (nl rfl)) (st (c_ (Aq ⟨tv,tv⟩ rfl tv) (Aw (At ⟨[(6,Al 1984 p58),(8,.ptr 512 0),(9,iV r53.1),(13,Aa a1),(14,iV (a1.length:Int)),(15,iV p18),(34,.bool (!y51.Dm))],[(512,Af y51)],[]⟩ (Ar (by kernel_rfl)) (Cj (cb:=(!y51.Dm)) rfl (fun c59=>?_) (fun c59=>?_))))))))))))
     ·replace h1:=ip c59 h1
      refine Ac (st (An rfl tv (st (An rfl tv (st (c_ (Aq ⟨tv,tv⟩ rfl tv) (st (c_ (Aq ⟨tv,tv⟩ rfl (nl rfl)) (st (c_ (Aq ⟨tv,tv⟩ rfl tv) (st (c_ (Aq ⟨tv,tv⟩ rfl (nl rfl)) (st (c_ (v:=.agg [.str y51.key,.str y51.value]) (Aq ⟨tv,tv,tv⟩ rfl ⟨⟨rfl,rfl,nl rfl⟩,⟨rfl,rfl,nl rfl⟩,tv⟩) (st (Ia ⟨tv,tv⟩ ⟨⟨nl rfl,rfl,rfl⟩,tv⟩ ?_))))))))))))))))
      obtain ⟨r60,e61,h1⟩:=bnd h1
      obtain ⟨c62,h1⟩:=Qd h1
      refine sw ⟨[(13,Aa a1),(14,iV (a1.length:Int)),(15,iV p18),(35,Al 1984 p58),(36,iV r53.1),(42,Al 2688 ([Au.mk y51.key y51.value]:List Au))],[],[]⟩ (Ar (by kernel_rfl)) (Po [] [2688] [1984] false (H420 p58 r53.1 ([Au.mk y51.key y51.value]:List Au) r60 e61) ⟨tv,tv,tv,tv⟩ (by kernel_rfl) (by kernel_rfl) (by kernel_rfl) (by kernel_rfl) (fun _=>Cd (Cd (Qo (fun _=>rfl)) rfl) (Cd (fl2 (fun _=>rfl)) rfl)) (sw ⟨[(13,Aa a1),(14,iV (a1.length:Int)),(15,iV p18),(43,Al 2752 r60.1)],[],[]⟩ (Ar (by kernel_rfl)) (An rfl tv (Aw (Qc ?_)))))
      exact J50 _ ⟨[(6,Al 2752 r60.1),(13,Aa a1),(14,iV (a1.length:Int)),(15,iV p18)],[],[]⟩ (Ar (by kernel_rfl)) ⟨_,rfl,h1⟩
     ·replace h1:=Fi c59 h1
      refine En (Qc ?_)
      exact J50 _ ⟨[(6,Al 2752 p58),(13,Aa a1),(14,iV (a1.length:Int)),(15,iV p18)],[],[]⟩ (Jp [] [(1984,2752)] rfl (by kernel_rfl)) ⟨_,rfl,h1⟩
    ·replace h1:=ip c64 h1
     refine Ac (st (An rfl tv (st (An rfl tv (st (An rfl tv (st (c_ (Aq t3 rfl tv) ?_))))))))
     obtain ⟨r65,e66,h1⟩:=bnd h1
     refine st (Po [] [] [768] false (H419 p17 r53.1 (wi (r53.1+1)) r65 e66) ⟨tv,tv,tv,tv⟩ (by kernel_rfl) (by kernel_rfl) (by kernel_rfl) (by kernel_rfl) (fun _=>Cd (Cd (Qo (fun _=>rfl)) rfl) rfl) (sw ⟨[(8,.ptr 512 0),(9,iV r53.1),(13,Aa a1),(14,iV (a1.length:Int)),(15,iV p18),(31,Al 1984 r65)],[(512,Af y51)],[]⟩ (Ar (by kernel_rfl)) (An rfl tv (Aw ?_))))
     exact J63 _ ⟨[(6,Al 1984 r65),(8,.ptr 512 0),(9,iV r53.1),(13,Aa a1),(14,iV (a1.length:Int)),(15,iV p18)],[(512,Af y51)],[]⟩ (Ar (by kernel_rfl)) ⟨_,rfl,h1⟩
    ·replace h1:=Fi c64 h1
     refine En ?_
     exact J63 _ ⟨[(6,Al 1984 p17),(8,.ptr 512 0),(9,iV r53.1),(13,Aa a1),(14,iV (a1.length:Int)),(15,iV p18)],[(512,Af y51)],[]⟩ (Jp [] [(768,1984)] rfl (by kernel_rfl)) ⟨_,rfl,h1⟩
  ·replace h1:=Fi c36 h1
   obtain rfl:=sj h1
   obtain rfl:=hx1 _ rfl
   refine In rfl ?_
   exact hE1 _ ⟨[(6,Al 768 p17)],[],[]⟩ (Ar (by kernel_rfl)) ⟨_,rfl,rfl⟩

/- loop.example/g00149/impl.taken -/
def UY:List Bg:=[⟨some 4,.nilS 1,none⟩,⟨some 5,.nilS 1,none⟩,k_ 6 (.bool false)]
def UZ:=[m_ 7 1,m_ 8 0,n_ 9 8,b_ .gtr 10 7 9]
def VA:List Bg:=[⟨some 4,.nilS 1,none⟩,⟨some 5,.nilS 1,none⟩,k_ 6 (.bool false)]
def VB:=tk [m_ 11 0,m_ 12 1,⟨some 13,.p (.slice (.t 11) none (some (.t 12)) 1),none⟩,m_ 14 0,m_ 15 1,⟨some 16,.p (.slice (.t 14) (some (.t 15)) none 1),none⟩,m_ 4 13,m_ 5 16,k_ 6 (.bool true)] .fin
def c426:Dl:=⟨2,17,[.t 4,.t 5,.t 6],sr UY (.seq (sr UZ (iz 10 (rr VA))) (sd VB .ret))⟩
def K426 (D:Az):Prop:=∀a0 a1 r,Wq a0 a1=some r→D 426 ⟨[Bl a0,iV a1],[]⟩ ⟨.tup [Bl r.1,Bl r.2.1,.bool r.2.2],[],[]⟩
theorem F426:K426 (FO C c426):=by
 intro a0 a1 r h0
 refine f0 (Ag (Ac (st (Ed (st (Ed (st (Bn tv (Aw (At ⟨[(0,Bl a0),(1,iV a1)],[],[]⟩ (Ar (by kernel_rfl)) (Ag (Ag (Ac (st (An rfl tv (st (An rfl tv (st (c_ (Dv (e:=By) (l0:=a0) rfl rfl tv) (st (c_ (Aq t3 rfl tv) (Aw (At ⟨[(0,Bl a0),(1,iV a1),(10,.bool (decide (a1>(a0.length:Int))))],[],[]⟩ (Ar (by kernel_rfl)) (Cj (cb:=(decide (a1>(a0.length:Int)))) rfl (fun c1=>?_) (fun c1=>?_)))))))))))))))))))))))))
 ·replace h0:=ip c1 h0
  refine Ag (Ac (st (Ed (st (Ed (st (Bn tv (Aw (At ⟨[(4,.lst 1 ([].map By)),(5,.lst 1 ([].map By)),(6,.bool false)],[],[]⟩ (rY [256,320] (by kernel_rfl)) ?_)))))))))
  obtain rfl:=sj h0
  exact Du (Bp rfl rfl rfl rfl rfl tv)
 ·replace h0:=Fi c1 h0
  refine En (At ⟨[(0,Bl a0),(1,iV a1)],[],[]⟩ (Ar (by kernel_rfl)) (Ag ?_))
  obtain ⟨s2,e3,h0⟩:=bnd h0
  obtain ⟨s4,e5,h0⟩:=bnd h0
  refine Dj (Ao tv (An rfl tv (⟨tv,Ao tv (An rfl tv (⟨tv,Ao tv (c_ (Ha (e:=By) (y:=s2) rfl rfl tv ⟨tv,tv⟩ rfl rfl e3) (⟨tv,Ao tv (An rfl tv (⟨tv,Ao tv (An rfl tv (⟨tv,Ao tv (c_ (Ha (e:=By) (y:=s4) rfl rfl tv ⟨tv,tv⟩ rfl rfl e5) (⟨tv,Ao tv (An rfl tv (⟨tv,Ao tv (An rfl tv (⟨tv,Ao tv (Bn tv (⟨tv,Jo (At ⟨[(4,Bl s2),(5,Bl s4),(6,.bool true)],[],[]⟩ (Ar (by kernel_rfl)) ?_)⟩))⟩))⟩))⟩))⟩))⟩))⟩))⟩))⟩)))
  obtain rfl:=sj h0
  exact Du (Bp rfl rfl rfl rfl rfl tv)

/- loop.example/g00149/impl.readChange -/
def SS:List Bg:=[a_ 2 [.str [],.str [],.bool false],⟨some 3,.nilS 1,none⟩,k_ 4 (.bool false)]
def ST:=tk [m_ 12 0,⟨some 13,.p (.slice (.t 12) (some (.c (iV 1))) none 1),none⟩,m_ 14 0,⟨some 15,.p (.idxA (.t 14) (.c (iV 0)) 1),none⟩,l_ 16 15 1,iQ 17 (.conv .i64 (.t 16))] (.alt [] (q_ 18 426 [.t 13,.t 17]) (tk [m_ 11 18,e_ 19 11 0,e_ 20 11 1,e_ 21 11 2,m_ 5 19,m_ 6 20,m_ 7 21] .fin) .stop)
def SU:=[m_ 22 7,N_ 23 22]
def SV:List Bg:=[iQ 24 (.build [.str [],.str [],.bool false] []),s_ 2 24 3,⟨some 3,.nilS 1,none⟩,k_ 4 (.bool false)]
def SW:=[m_ 26 6,q_ 27 426 [.t 26,.c (iV 2)],m_ 25 27,e_ 28 25 0,e_ 29 25 1,e_ 30 25 2,m_ 8 28,m_ 6 29,m_ 7 30]
def SX:=[m_ 31 7,N_ 32 31]
def SY:List Bg:=[iQ 33 (.build [.str [],.str [],.bool false] []),s_ 2 33 3,⟨some 3,.nilS 1,none⟩,k_ 4 (.bool false)]
def SZ:=[m_ 34 8,q_ 35 333 [.t 34],m_ 9 35]
def TA:List Bg:=[m_ 37 6,m_ 38 9,B_ .sub 39 38 1,⟨some 40,.p (.mx (.t 39) (.c (iV 0))),none⟩,q_ 41 426 [.t 37,.t 40],m_ 36 41,e_ 42 36 0,e_ 43 36 1,e_ 44 36 2,m_ 10 42,m_ 6 43,m_ 7 44]
def TB:List Bg:=[m_ 45 5,iQ 46 (.toStr (.t 45)),m_ 47 10,iQ 48 (.toStr (.t 47)),m_ 49 9,B_ .eql 50 49 0,⟨some 51,.p (.build [.str [],.str [],.bool false] [(0,1,.t 46),(1,1,.t 48),(2,1,.t 50)]),none⟩,m_ 52 6,m_ 53 7,s_ 2 51 3,m_ 3 52,m_ 4 53]
def c415:Dl:=⟨1,54,[.cell 2 3 true,.t 3,.t 4],sr SS (sd ST (.seq (sr SU (iz 23 (rr SV))) (sr SW (.seq (sr SX (iz 32 (rr SY))) (sr SZ (sr TA (rr TB)))))))⟩
def K415 (D:Az):Prop:=∀a0 r,dA a0=some r→D 415 ⟨[Bl a0],[]⟩ ⟨.tup [.agg (Af r.1),Bl r.2.1,.bool r.2.2],[],[]⟩
theorem F415 (H333:wF C) (H426:K426 C):K415 (FO C c415):=by
 intro a0 r h0
 refine f0 (Ag (Ac (st (Eb (st (Ed (st (Bn tv (Aw (At ⟨[(0,Bl a0),(2,.ptr 128 0)],[(128,Bf ([]:List UInt8) ([]:List UInt8) false)],[]⟩ (Ar (by kernel_rfl)) (Ag ?_)))))))))))
 obtain ⟨s1,e2,h0⟩:=bnd h0
 obtain ⟨y3,e4,h0⟩:=bnd h0
 obtain ⟨r5,e6,h0⟩:=bnd h0
 refine Dj (Ao tv (An rfl tv (⟨tv,Ao tv (c_ (Ha (e:=By) (y:=s1) rfl rfl tv ⟨tv,tv⟩ rfl rfl e2) (⟨tv,Ao tv (An rfl tv (⟨tv,Ao tv (c_ (Hi (e:=By) (y:=y3) rfl rfl tv rfl rfl tv e4) (⟨tv,Ao tv (c_ (Aq ⟨tv,tv⟩ rfl (nl rfl)) (⟨tv,Ao tv (c_ (Aq ⟨tv,tv⟩ rfl tv) (⟨tv,Do (Bb (r:=.tup [Bl r5.1,Bl r5.2.1,.bool r5.2.2]) true (H426 s1 (wi ((y3).toNat:Int)) r5 e6) ⟨tv,tv,tv⟩ rfl rfl (fun h=>nomatch h) (VW ⟨[(2,.ptr 128 0),(18,.tup [Bl r5.1,Bl r5.2.1,.bool r5.2.2])],[(128,Bf ([]:List UInt8) ([]:List UInt8) false)],[]⟩ (Ar (by kernel_rfl)) ⟨[],tv,tv,Ao tv (An rfl tv (⟨tv,Ao tv (c_ (Aq ⟨tv,tv⟩ rfl tv) (⟨tv,Ao tv (c_ (Aq ⟨tv,tv⟩ rfl tv) (⟨tv,Ao tv (c_ (Aq ⟨tv,tv⟩ rfl tv) (⟨tv,Ao tv (An rfl tv (⟨tv,Ao tv (An rfl tv (⟨tv,Ao tv (An rfl tv (⟨tv,Jo (At ⟨[(2,.ptr 128 0),(5,Bl r5.1),(6,Bl r5.2.1),(7,.bool r5.2.2)],[(128,Bf ([]:List UInt8) ([]:List UInt8) false)],[]⟩ (Ar (by kernel_rfl)) ?_)⟩))⟩))⟩))⟩))⟩))⟩))⟩))⟩)) Ca⟩))⟩))⟩))⟩))⟩))⟩)))
 refine Ag (Ag (Ac (st (An rfl tv (st (c_ (Aq ⟨tv,tv⟩ rfl tv) (Aw (At ⟨[(2,.ptr 128 0),(5,Bl r5.1),(6,Bl r5.2.1),(23,.bool (!r5.2.2))],[(128,Bf ([]:List UInt8) ([]:List UInt8) false)],[]⟩ (Ar (by kernel_rfl)) (Cj (cb:=(!r5.2.2)) rfl (fun c7=>?_) (fun c7=>?_))))))))))
 ·replace h0:=ip c7 h0
  refine Ag (Ac (st (c_ (v:=.agg (Bf ([]:List UInt8) ([]:List UInt8) false)) (Aq tv rfl tv) (st (Ej rfl rfl tv rfl rfl rfl (nl rfl) (st (Ed (st (Bn tv (Aw (At ⟨[(2,.ptr 128 0),(3,.lst 1 ([].map By)),(4,.bool false)],[(128,Bf ([]:List UInt8) ([]:List UInt8) false)],[]⟩ (rY [192] (by kernel_rfl)) ?_)))))))))))
  obtain rfl:=sj h0
  exact Du (Bp rfl rfl rfl rfl rfl tv)
 ·replace h0:=Fi c7 h0
  refine En (At ⟨[(2,.ptr 128 0),(5,Bl r5.1),(6,Bl r5.2.1)],[(128,Bf ([]:List UInt8) ([]:List UInt8) false)],[]⟩ (Ar (by kernel_rfl)) (Ag (Ac (st (An rfl tv ?_)))))
  obtain ⟨r8,e9,h0⟩:=bnd h0
  refine st (Bb (r:=.tup [Bl r8.1,Bl r8.2.1,.bool r8.2.2]) true (H426 r5.2.1 2 r8 e9) ⟨tv,tv,tv⟩ rfl rfl (fun h=>nomatch h) (st (An rfl tv (st (c_ (Aq ⟨tv,tv⟩ rfl tv) (st (c_ (Aq ⟨tv,tv⟩ rfl tv) (st (c_ (Aq ⟨tv,tv⟩ rfl tv) (st (An rfl tv (st (An rfl tv (st (An rfl tv (Aw (At ⟨[(2,.ptr 128 0),(5,Bl r5.1),(6,Bl r8.2.1),(7,.bool r8.2.2),(8,Bl r8.1)],[(128,Bf ([]:List UInt8) ([]:List UInt8) false)],[]⟩ (Ar (by kernel_rfl)) (Ag (Ag (Ac (st (An rfl tv (st (c_ (Aq ⟨tv,tv⟩ rfl tv) (Aw (At ⟨[(2,.ptr 128 0),(5,Bl r5.1),(6,Bl r8.2.1),(8,Bl r8.1),(32,.bool (!r8.2.2))],[(128,Bf ([]:List UInt8) ([]:List UInt8) false)],[]⟩ (Ar (by kernel_rfl)) (Cj (cb:=(!r8.2.2)) rfl (fun c10=>?_) (fun c10=>?_))))))))))))))))))))))))))))
  ·replace h0:=ip c10 h0
   refine Ag (Ac (st (c_ (v:=.agg (Bf ([]:List UInt8) ([]:List UInt8) false)) (Aq tv rfl tv) (st (Ej rfl rfl tv rfl rfl rfl (nl rfl) (st (Ed (st (Bn tv (Aw (At ⟨[(2,.ptr 128 0),(3,.lst 1 ([].map By)),(4,.bool false)],[(128,Bf ([]:List UInt8) ([]:List UInt8) false)],[]⟩ (rY [192] (by kernel_rfl)) ?_)))))))))))
   obtain rfl:=sj h0
   exact Du (Bp rfl rfl rfl rfl rfl tv)
  ·replace h0:=Fi c10 h0
   refine En (At ⟨[(2,.ptr 128 0),(5,Bl r5.1),(6,Bl r8.2.1),(8,Bl r8.1)],[(128,Bf ([]:List UInt8) ([]:List UInt8) false)],[]⟩ (Ar (by kernel_rfl)) (Ag (Ac (st (An rfl tv ?_)))))
   obtain ⟨r11,e12,h0⟩:=bnd h0
   refine st (Bb (r:=iV r11) false (H333 r8.1 r11 e12) ⟨tv,tv⟩ rfl rfl (fun _=>rfl) (st (An rfl tv (Aw (At ⟨[(2,.ptr 128 0),(5,Bl r5.1),(6,Bl r8.2.1),(9,iV r11)],[(128,Bf ([]:List UInt8) ([]:List UInt8) false)],[]⟩ (Ar (by kernel_rfl)) (Ag (Ac (st (An rfl tv (st (An rfl tv (st (c_ (Aq t3 rfl tv) (st (c_ (Aq ⟨tv,tv,tv⟩ rfl rfl) ?_)))))))))))))))
   obtain ⟨r13,e14,h0⟩:=bnd h0
   refine st (Bb (r:=.tup [Bl r13.1,Bl r13.2.1,.bool r13.2.2]) true (H426 r8.2.1 (if 0>(wi (r11-1)) then 0 else (wi (r11-1))) r13 e14) ⟨tv,tv,tv⟩ rfl rfl (fun h=>nomatch h) (st (An rfl tv (st (c_ (Aq ⟨tv,tv⟩ rfl tv) (st (c_ (Aq ⟨tv,tv⟩ rfl tv) (st (c_ (Aq ⟨tv,tv⟩ rfl tv) (st (An rfl tv (st (An rfl tv (st (An rfl tv (Aw (At ⟨[(2,.ptr 128 0),(5,Bl r5.1),(6,Bl r13.2.1),(7,.bool r13.2.2),(9,iV r11),(10,Bl r13.1)],[(128,Bf ([]:List UInt8) ([]:List UInt8) false)],[]⟩ (Ar (by kernel_rfl)) (Ag (Ac (st (An rfl tv (st (c_ (Ux (s:=r5.1) rfl rfl tv) (st (An rfl tv (st (c_ (Ux (s:=r13.1) rfl rfl tv) (st (An rfl tv (st (c_ (Aq t3 rfl tv) (st (c_ (v:=.agg (Bf r5.1 r13.1 (r11==0))) (Aq ⟨tv,tv,tv,tv⟩ rfl ⟨⟨rfl,rfl,nl rfl⟩,⟨rfl,rfl,nl rfl⟩,⟨rfl,rfl,nl rfl⟩,tv⟩) (st (An rfl tv (st (An rfl tv (st (Ej rfl rfl tv rfl rfl rfl (nl rfl) (st (An rfl tv (st (An rfl tv (Aw (At ⟨[(2,.ptr 128 0),(3,Bl r13.2.1),(4,.bool r13.2.2)],[(128,Bf r5.1 r13.1 (r11==0))],[]⟩ (Ar (by kernel_rfl)) ?_)))))))))))))))))))))))))))))))))))))))))))))
   obtain rfl:=sj h0
   exact Du (Bp rfl rfl rfl rfl rfl tv)

/- loop.example/g00149/impl.readBatch -/
def NZ:List Bg:=[⟨some 2,.nilS 3,none⟩,k_ 3 (.bool false)]
def OA:List Bg:=[⟨some 4,.nilS 3,none⟩]
def OB:=[m_ 8 0,n_ 9 8,B_ .gtr 10 9 0]
def OC:=[m_ 12 0,q_ 13 415 [.t 12],m_ 11 13,e_ 14 11 0,e_ 15 11 1,e_ 16 11 2,a_ 5 [.str [],.str [],.bool false],s_ 5 14 3,m_ 6 15,m_ 7 16]
def OD:List Bg:=[m_ 17 7,N_ 18 17,m_ 19 18,mF 19 20 4,pF 19 21 (.len (.t 20)),pF 19 22 (.bin .eql (.t 21) (.c (iV 30))),po 23 19 22,m_ 24 23,lF 24 25 5 3 true,⟨some 26,.call 414 [.t 25],some (24,false)⟩,pF 24 27 (.un .not (.t 26)),po 28 24 27]
def OE:List Bg:=[⟨some 2,.nilS 3,none⟩,k_ 3 (.bool false)]
def OF:List Bg:=[m_ 29 4,L_ 30 5 3,⟨some 31,.mkS 3 [.str [],.str [],.bool false] 1 [(0,.t 30)],none⟩,⟨some 32,.app 3 40 (.t 29) (.t 31),none⟩,m_ 4 32]
def OG:=[m_ 33 6,m_ 0 33]
def NY:IR:=(.seq (sr OB (.ite (.t 10) .skip (.exit 0))) (.block 1 (sr OC (.seq (sr OD (iz 28 (rr OE))) (sr OF (.reg OG))))))
def OH:=[m_ 34 4,m_ 2 34,k_ 3 (.bool true)]
def c396:Dl:=⟨1,35,[.t 2,.t 3],sr NZ (sr OA (.seq (Jt 0 NY) (rr OH)))⟩
def K396 (D:Az):Prop:=∀a0 r,fQ a0=some r→D 396 ⟨[Bl a0],[]⟩ ⟨.tup [Am 0 r.1,.bool r.2],[],[]⟩
theorem F396 (H414:wJ C) (H415:K415 C):K396 (FO C c396):=by
 intro a0 r h0
 refine f0 (Ag (Ac (st (Ed (st (Bn tv (Aw (At ⟨[(0,Bl a0)],[],[]⟩ (Ar (by kernel_rfl)) (Ag (Ac (st (Ed (Aw (At ⟨[(0,Bl a0),(4,.own 256 0 3 ([].map Af))],[],[]⟩ (Ar (by kernel_rfl)) (Ag (Be ?_))))))))))))))))
 obtain ⟨r33,e34,h0⟩:=bnd h0
 refine Cs (R:=(fun S=>∃p23:List Ab,.inl p23=r33∧S=⟨[(4,Am 256 p23)],[],[]⟩)) (Hb) (fun s S=>match s with | (p10,p11)=>S=⟨[(0,Bl p10),(4,Am 256 p11)],[],[]⟩) e34 ⟨[(0,Bl a0),(4,.own 256 0 3 ([].map Af))],[],[]⟩ (Ar (by kernel_rfl)) rfl 0 (fun _=>rfl) ?_ ?_
 ·rintro S _ hfg ⟨p23,rfl,rfl⟩
  refine At ⟨[(4,Am 256 p23)],[],[]⟩ (Oz hfg (by kernel_rfl)) (Ag (Ac (st (An rfl tv (st (An rfl tv (st (Bn tv (Aw (At ⟨[(2,Am 256 p23),(3,.bool true)],[],[]⟩ (Ar (by kernel_rfl)) ?_))))))))))
  obtain rfl:=sj h0
  exact Du (Bp rfl rfl rfl rfl rfl tv)
 ·rintro ⟨p10,p11⟩ o1 _ K1 rfl h1 hx1 hK1 hE1 hR1
  refine Ag (Ag (Ac (st (An rfl tv (st (c_ (Dv (e:=By) (l0:=p10) rfl rfl tv) (st (c_ (Aq t3 rfl tv) (Aw (At ⟨[(0,Bl p10),(4,Am 256 p11),(10,.bool (decide ((p10.length:Int)>0)))],[],[]⟩ (Ar (by kernel_rfl)) (Cj (cb:=(decide ((p10.length:Int)>0))) rfl (fun c24=>?_) (fun c24=>?_))))))))))))
  ·replace h1:=ip c24 h1
   refine En (At ⟨[(0,Bl p10),(4,Am 256 p11)],[],[]⟩ (Ar (by kernel_rfl)) (Be (Ag (Ac (st (An rfl tv ?_))))))
   obtain ⟨r25,e26,h1⟩:=bnd h1
   refine st (Bb (r:=.tup [.agg (Af r25.1),Bl r25.2.1,.bool r25.2.2]) true (H415 p10 r25 e26) ⟨tv,tv⟩ rfl rfl (fun h=>nomatch h) (st (An rfl tv (st (c_ (Aq ⟨tv,tv⟩ rfl tv) (st (c_ (Aq ⟨tv,tv⟩ rfl tv) (st (c_ (Aq ⟨tv,tv⟩ rfl tv) (st (Eb (st (Ej rfl rfl tv rfl rfl rfl (nl rfl) (sw ⟨[(4,Am 256 p11),(5,.ptr 320 0),(15,Bl r25.2.1),(16,.bool r25.2.2)],[(320,Af r25.1)],[]⟩ (Ar (by kernel_rfl)) (An rfl tv (st (An rfl tv (Aw (At ⟨[(4,Am 256 p11),(5,.ptr 320 0),(6,Bl r25.2.1),(7,.bool r25.2.2)],[(320,Af r25.1)],[]⟩ (Ar (by kernel_rfl)) (Ag (Ag (Ac (st (An rfl tv (st (c_ (Aq ⟨tv,tv⟩ rfl tv) (st (An rfl tv (st (Cx (u:=Am 256 p11) rfl (fun hg=>(Ki (v:=Am 256 p11) rfl tv)) (st (Cx (u:=iV (p11.length:Int)) rfl (fun hg=>(Jb (e:=Af) (l0:=p11) rfl rfl (fun _=>hg))) (st (Cx (u:=.bool ((p11.length:Int)==30)) rfl (fun hg=>(Aq ⟨(fun _=>hg),tv,tv⟩ rfl tv)) (st (Ea rfl rfl rfl tv (fun h=>aX h) rfl (st (An rfl tv (st (Cx (u:=.agg (Af r25.1)) rfl (fun hg=>(Aq ⟨tv,tv⟩ rfl (nl rfl))) ?_))))))))))))))))))))))))))))))))))))))))
   obtain ⟨r27,e28,h1⟩:=bnd h1
   refine sw ⟨[(4,Am 256 p11),(5,.ptr 320 0),(6,Bl r25.2.1),(24,.bool (bif (!r25.2.2) then true else ((p11.length:Int)==30))),(25,.may ((bif (!r25.2.2) then true else ((p11.length:Int)==30))==false) (.agg (Af r25.1)))],[(320,Af r25.1)],[]⟩ (Ar (by kernel_rfl)) (Lb (r:=.bool r27) rfl false (fun hg=>H414 r25.1 r27 (ip hg e28)) ⟨(fun hg=>hg),tv⟩ (fun _=>rfl) (fun _=>rfl) (fun _=>rfl) (fun h=>nomatch h) (st (Cx (u:=.bool (!r27)) rfl (fun hg=>(Aq ⟨(fun _=>hg),tv⟩ rfl tv)) (st (Ea rfl rfl rfl tv (fun h=>aX h) rfl (Aw ?_))))))
   obtain ⟨v29,e30,h1⟩:=bl h1
   refine At ⟨[(4,Am 256 p11),(5,.ptr 320 0),(6,Bl r25.2.1),(28,.bool v29)],[(320,Af r25.1)],[]⟩ (Ar (by subst e30; kernel_rfl)) (Cj (cb:=v29) rfl (fun c31=>?_) (fun c31=>?_))
   ·replace h1:=ip c31 h1
    refine Ag (Ac (st (Ed (st (Bn tv (Aw (At ⟨[(2,.own 128 0 3 ([].map Af)),(3,.bool false)],[],[]⟩ (Ar (by kernel_rfl)) ?_)))))))
    obtain rfl:=sj h1
    obtain rfl:=hx1 _ rfl
    obtain rfl:=sj h0
    exact Du (hR1 _ (Bp rfl rfl rfl rfl rfl tv))
   ·replace h1:=Fi c31 h1
    refine En (At ⟨[(4,Am 256 p11),(5,.ptr 320 0),(6,Bl r25.2.1)],[(320,Af r25.1)],[]⟩ (Ar (by kernel_rfl)) (Ag (Ac (st (An rfl tv (st (c_ (v:=.agg (Af r25.1)) (Aq ⟨tv,tv⟩ rfl (nl rfl)) (st (Ia ⟨tv,tv⟩ ⟨⟨nl rfl,rfl,rfl⟩,tv⟩ ?_)))))))))
    obtain ⟨c32,h1⟩:=Qd h1
    refine st (Fx (e:=Af) (l0:=p11) (l1:=([r25.1]:List Ab)) rfl rfl tv rfl (by decide) c32 (st (An rfl tv (Aw (At ⟨[(4,Am 256 (p11++([r25.1]:List Ab))),(6,Bl r25.2.1)],[],[]⟩ (Ar (by kernel_rfl)) (Ac (st (An rfl tv (st (An rfl tv (Aw (Qc ?_))))))))))))
    obtain rfl:=sj h1
    exact hK1 _ rfl _ ⟨[(0,Bl r25.2.1),(4,Am 256 (p11++([r25.1]:List Ab)))],[],[]⟩ (Ar (by kernel_rfl)) rfl
  ·replace h1:=Fi c24 h1
   obtain rfl:=sj h1
   obtain rfl:=hx1 _ rfl
   refine In rfl ?_
   exact hE1 _ ⟨[(4,Am 256 p11)],[],[]⟩ (Ar (by kernel_rfl)) ⟨_,rfl,rfl⟩

/- (loop.example/g00149/impl.Device).load -/
def OV:List Bg:=[X_ 1 0,⟨some 2,.nilS 2,none⟩]
def OW:=[L_ 12 1 2,q_ 13 263 [.t 12],q_ 14 275 [.t 13],m_ 11 14,e_ 15 11 0,e_ 16 11 1,m_ 3 15,m_ 4 16]
def OX:List Bg:=[⟨some 5,.nilS 2,none⟩]
def OY:=[m_ 17 3,n_ 18 17,i_ 19 0]
def OZ:=[b_ .lss 20 19 18]
def PA:=[x_ 21 17 19 1,l_ 22 21 1,m_ 7 22]
def PB:=[m_ 24 7,q_ 25 396 [.t 24],m_ 23 25,e_ 26 23 0,e_ 27 23 1,m_ 8 26,m_ 9 27]
def PC:=[m_ 28 9,N_ 29 28]
def PD:=[m_ 31 5,m_ 32 8,q_ 33 397 [.t 31,.t 32],m_ 30 33,e_ 34 30 0,e_ 35 30 1,m_ 10 34,m_ 9 35]
def PE:=[m_ 36 9,N_ 37 36]
def qC:=[m_ 38 10,m_ 5 38]
def qD:=[B_ .add 39 19 1,m_ 19 39]
def OU:IR:=(sr OZ (.seq (.ite (.t 20) .skip (.exit 0)) (.seq (.block 1 (sr PA (sr PB (.seq (sr PC (iz 29 (.exit 0))) (sr PD (.seq (sr PE (iz 37 (.exit 0))) (.reg qC))))))) (.reg qD))))
def qE:=[m_ 40 5,m_ 2 40]
def c398:Dl:=⟨1,41,[.t 2],sr OV (sr OW (sr OX (.seq (sr OY (Jt 0 OU)) (rr qE))))⟩
def K398 (D:Az):Prop:=∀a0 r,XW a0=some r→D 398 ⟨[.agg (Ah a0)],[]⟩ ⟨Al 0 r,[],[]⟩
theorem F398 (H263:kH C) (H275:vY C) (H396:K396 C) (H397:wG C):K398 (FO C c398):=by
 intro a0 r h0
 refine f0 (Ag (Ac (st (Mk rfl tv rfl (st (Ed (Aw (At ⟨[(1,.ptr 64 0)],[(64,Ah a0)],[]⟩ (Ar (by kernel_rfl)) (Ag (Ac (st (c_ (v:=.agg (Ah a0)) (Aq ⟨tv,tv⟩ rfl (nl rfl)) ?_))))))))))))
 obtain ⟨r1,e2,h0⟩:=bnd h0
 refine st (Bb (r:=Ba 0 r1) false (H263 a0 r1 e2) ⟨tv,tv⟩ rfl rfl (fun _=>(Cd (Qo (fun _=>rfl)) rfl)) ?_)
 obtain ⟨r3,e4,h0⟩:=bnd h0
 refine st (Bb (r:=.tup [.own 0 0 1 (r3.1.map (eL 1 By)),iV r3.2]) true (H275 r1 r3 e4) ⟨tv,tv⟩ rfl rfl (fun h=>nomatch h) (sw ⟨[(14,.tup [.own 896 0 1 (r3.1.map (eL 1 By)),iV r3.2])],[],[]⟩ (Ar (by kernel_rfl)) (An rfl tv (st (c_ (Aq ⟨tv,tv⟩ rfl tv) (st (c_ (Aq ⟨tv,tv⟩ rfl tv) (st (An rfl tv (st (An rfl tv (Aw (At ⟨[(3,.own 896 0 1 (r3.1.map (eL 1 By)))],[],[]⟩ (Ar (by kernel_rfl)) (Ag (Ac (st (Ed (Aw (At ⟨[(3,.own 896 0 1 (r3.1.map (eL 1 By))),(5,.own 320 0 2 ([].map Ay))],[],[]⟩ (Ar (by kernel_rfl)) (Ag (Ag (Ac (st (An rfl tv (st (c_ (Jb (e:=(eL 1 By)) (l0:=r3.1) rfl rfl tv) (st (Bn tv (Aw (At ⟨[(5,.own 320 0 2 ([].map Ay)),(17,.own 896 0 1 (r3.1.map (eL 1 By))),(18,iV (r3.1.length:Int)),(19,iV 0)],[],[]⟩ (Ar (by kernel_rfl)) (Be ?_)))))))))))))))))))))))))))))))
 obtain ⟨r43,e44,h0⟩:=bnd h0
 refine Cs (R:=(fun S=>∃p31:List Au,p31=r43∧S=⟨[(5,Al 320 p31)],[],[]⟩)) (Li r3) (fun s S=>match s with | (p16,p17)=>S=⟨[(5,Al 320 p16),(17,.own 896 0 1 (r3.1.map (eL 1 By))),(18,iV (r3.1.length:Int)),(19,iV p17)],[],[]⟩) e44 ⟨[(5,.own 320 0 2 ([].map Ay)),(17,.own 896 0 1 (r3.1.map (eL 1 By))),(18,iV (r3.1.length:Int)),(19,iV 0)],[],[]⟩ (Ar (by kernel_rfl)) rfl 0 (fun _=>rfl) ?_ ?_
 ·rintro S _ hfg ⟨p31,rfl,rfl⟩
  refine At ⟨[(5,Al 320 p31)],[],[]⟩ (Oz hfg (by kernel_rfl)) (Ag (Ac (st (An rfl tv (st (An rfl tv (Aw (At ⟨[(2,Al 320 p31)],[],[]⟩ (Ar (by kernel_rfl)) ?_))))))))
  obtain rfl:=sj h0
  exact Du (Bp rfl rfl rfl rfl rfl tv)
 ·rintro ⟨p16,p17⟩ o1 _ K1 rfl h1 hx1 hK1 hE1 hR1
  refine Ag (Ac (st (c_ (Aq t3 rfl tv) (Aw (At ⟨[(5,Al 320 p16),(17,.own 896 0 1 (r3.1.map (eL 1 By))),(18,iV (r3.1.length:Int)),(19,iV p17),(20,.bool (decide (p17<(r3.1.length:Int))))],[],[]⟩ (Ar (by kernel_rfl)) (Ag (Cj (cb:=(decide (p17<(r3.1.length:Int)))) rfl (fun c32=>?_) (fun c32=>?_))))))))
  ·replace h1:=ip c32 h1
   refine En (At ⟨[(5,Al 320 p16),(17,.own 896 0 1 (r3.1.map (eL 1 By))),(18,iV (r3.1.length:Int)),(19,iV p17)],[],[]⟩ (Ar (by kernel_rfl)) (Ag (Be (Ag (Ac ?_)))))
   obtain ⟨y33,e34,h1⟩:=bnd h1
   refine st (c_ (Tq (e:=(eL 1 By)) (y:=y33) rfl rfl tv rfl rfl tv e34) ?_)
   obtain ⟨y35,e36,h1⟩:=bnd h1
   refine st (c_ (Gz (e:=(eL 1 By)) (y:=y35) (v:=Bl y35) rfl rfl tv rfl rfl e36 rfl (nl rfl) rfl) (st (An rfl tv (Aw (At ⟨[(5,Al 320 p16),(7,Bl y35),(17,.own 896 0 1 (r3.1.map (eL 1 By))),(18,iV (r3.1.length:Int)),(19,iV p17)],[],[]⟩ (Ar (by kernel_rfl)) (Ag (Ac (st (An rfl tv ?_)))))))))
   obtain ⟨r37,e38,h1⟩:=bnd h1
   refine st (Bb (r:=.tup [Am 0 r37.1,.bool r37.2]) false (H396 y35 r37 e38) ⟨tv,tv⟩ rfl rfl (fun _=>(Cd (Qo (fun _=>rfl)) (Cd rfl rfl))) (st (An rfl tv (st (c_ (Aq ⟨tv,tv⟩ rfl tv) (st (c_ (Aq ⟨tv,tv⟩ rfl tv) (st (An rfl tv (st (An rfl tv (Aw (At ⟨[(5,Al 320 p16),(8,Am 1600 r37.1),(9,.bool r37.2),(17,.own 896 0 1 (r3.1.map (eL 1 By))),(18,iV (r3.1.length:Int)),(19,iV p17)],[],[]⟩ (Ar (by kernel_rfl)) (Ag (Ag (Ac (st (An rfl tv (st (c_ (Aq ⟨tv,tv⟩ rfl tv) (Aw (At ⟨[(5,Al 320 p16),(8,Am 1600 r37.1),(17,.own 896 0 1 (r3.1.map (eL 1 By))),(18,iV (r3.1.length:Int)),(19,iV p17),(29,.bool (!r37.2))],[],[]⟩ (Ar (by kernel_rfl)) (Cj (cb:=(!r37.2)) rfl (fun c39=>?_) (fun c39=>?_))))))))))))))))))))))))
   ·replace h1:=ip c39 h1
    obtain rfl:=sj h1
    obtain rfl:=hx1 _ rfl
    refine In rfl ?_
    exact hE1 _ ⟨[(5,Al 320 p16)],[],[]⟩ (Ar (by kernel_rfl)) ⟨_,rfl,rfl⟩
   ·replace h1:=Fi c39 h1
    refine En (At ⟨[(5,Al 320 p16),(8,Am 1600 r37.1),(17,.own 896 0 1 (r3.1.map (eL 1 By))),(18,iV (r3.1.length:Int)),(19,iV p17)],[],[]⟩ (Ar (by kernel_rfl)) (Ag (Ac (st (An rfl tv (st (An rfl tv ?_)))))))
    obtain ⟨r40,e41,h1⟩:=bnd h1
    refine st (Bb (r:=.tup [Al 0 r40.1,.bool r40.2]) false (H397 p16 r37.1 r40 e41) ⟨tv,tv,tv⟩ rfl rfl (fun _=>(Cd (Qo (fun _=>rfl)) (Cd rfl rfl))) (st (An rfl tv (st (c_ (Aq ⟨tv,tv⟩ rfl tv) (st (c_ (Aq ⟨tv,tv⟩ rfl tv) (st (An rfl tv (st (An rfl tv (Aw (At ⟨[(5,Al 320 p16),(9,.bool r40.2),(10,Al 2112 r40.1),(17,.own 896 0 1 (r3.1.map (eL 1 By))),(18,iV (r3.1.length:Int)),(19,iV p17)],[],[]⟩ (Ar (by kernel_rfl)) (Ag (Ag (Ac (st (An rfl tv (st (c_ (Aq ⟨tv,tv⟩ rfl tv) (Aw (At ⟨[(5,Al 320 p16),(10,Al 2112 r40.1),(17,.own 896 0 1 (r3.1.map (eL 1 By))),(18,iV (r3.1.length:Int)),(19,iV p17),(37,.bool (!r40.2))],[],[]⟩ (Ar (by kernel_rfl)) (Cj (cb:=(!r40.2)) rfl (fun c42=>?_) (fun c42=>?_))))))))))))))))))))))))
    ·replace h1:=ip c42 h1
     obtain rfl:=sj h1
     obtain rfl:=hx1 _ rfl
     refine In rfl ?_
     exact hE1 _ ⟨[(5,Al 320 p16)],[],[]⟩ (Ar (by kernel_rfl)) ⟨_,rfl,rfl⟩
    ·replace h1:=Fi c42 h1
     refine En (At ⟨[(10,Al 2112 r40.1),(17,.own 896 0 1 (r3.1.map (eL 1 By))),(18,iV (r3.1.length:Int)),(19,iV p17)],[],[]⟩ (Ar (by kernel_rfl)) (Ac (st (An rfl tv (st (An rfl tv (Aw (Qc (At ⟨[(5,Al 2112 r40.1),(17,.own 896 0 1 (r3.1.map (eL 1 By))),(18,iV (r3.1.length:Int)),(19,iV p17)],[],[]⟩ (Ar (by kernel_rfl)) (Ac (st (c_ (Aq t3 rfl tv) (st (An rfl tv (Aw ?_)))))))))))))))
     obtain rfl:=sj h1
     exact hK1 _ rfl _ ⟨[(5,Al 320 r40.1),(17,.own 896 0 1 (r3.1.map (eL 1 By))),(18,iV (r3.1.length:Int)),(19,iV (wi (p17+1)))],[],[]⟩ (Jp [] [(2112,320)] rfl (by kernel_rfl)) rfl
  ·replace h1:=Fi c32 h1
   obtain rfl:=sj h1
   obtain rfl:=hx1 _ rfl
   refine In rfl ?_
   exact hE1 _ ⟨[(5,Al 320 p16)],[],[]⟩ (Ar (by kernel_rfl)) ⟨_,rfl,rfl⟩

/- loop.example/g00149/impl.Commit -/
def KR:=[X_ 2 0,a_ 4 [.own 257 0 1 [],.own 258 0 2 []],i_ 5 0]
def KS:=[m_ 9 1,q_ 10 393 [.t 9],N_ 11 10,m_ 8 11]
def KT:=[iQ 12 (.build [.own 769 0 1 [],.own 770 0 2 []] []),s_ 4 12 2,i_ 5 2]
def KU:List Bg:=[L_ 14 2 2,q_ 15 216 [.t 14],N_ 16 15,m_ 17 16,mF 17 18 1,⟨some 19,.call 394 [.t 18],some (17,false)⟩,pF 17 20 (.un .not (.t 19)),po 21 17 20,m_ 13 21]
def KV:=[iQ 22 (.build [.own 1409 0 1 [],.own 1410 0 2 []] []),s_ 4 22 2,i_ 5 1]
def KW:=[L_ 24 2 2,q_ 25 398 [.t 24],m_ 26 1,q_ 27 397 [.t 25,.t 26],m_ 23 27,e_ 28 23 0,e_ 29 23 1,m_ 6 28,m_ 7 29]
def KX:=[m_ 30 7,N_ 31 30]
def KY:=[iQ 32 (.build [.own 2049 0 1 [],.own 2050 0 2 []] []),s_ 4 32 2,i_ 5 9]
def KZ:=tk [L_ 33 2 2,m_ 34 1] (.alt [L_ 33 2 2] (q_ 35 395 [.t 34]) (.alt [] (q_ 36 273 [.t 33,.t 35]) (tk [e_ 37 36 0,e_ 38 36 1] (.alt [] (s_ 4 37 2) (tk [m_ 5 38] .fin) .stop)) .stop) .stop)
def c382:Dl:=⟨2,39,[.cell 4 2 true,.t 5],sr KR (.seq (.block 0 (sr KS (.ite (.t 8) (rr KT) (sr KU (iz 13 (rr KV)))))) (.seq (sr KW (sr KX (iz 31 (rr KY)))) (sd KZ .ret)))⟩
def K382 (D:Az):Prop:=∀a0 a1 r,sQ a0 a1=some r→D 382 ⟨[.agg (Ah a0),Aa a1],[]⟩ ⟨.tup [.agg (Ak r.1 (Bk 0) (Bk 33)),iV r.2],[],[]⟩
theorem F382 (H216:K216 C) (H273:K273 C) (H393:K393 C) (H394:K394 C) (H395:K395 C) (H397:wG C) (H398:K398 C):K382 (FO C c382):=by
 intro a0 a1 r h0
 refine f0 (Ag (Ac (st (Mk rfl tv rfl (st (Eb (sw ⟨[(1,Aa a1),(2,.ptr 128 0),(4,.ptr 256 0)],[(128,Ah a0),(256,[Ba 257 [],Ad 290 []])],[]⟩ (Jp [] [(258,290)] rfl (by kernel_rfl)) (Bn tv (Aw (At ⟨[(1,Aa a1),(2,.ptr 128 0),(4,.ptr 256 0)],[(128,Ah a0),(256,[Ba 257 [],Ad 290 []])],[]⟩ (Ar (by kernel_rfl)) (Ag (Be (Ag (Ac (st (An rfl tv ?_))))))))))))))))
 obtain ⟨r1,e2,h0⟩:=bnd h0
 refine st (Bb (r:=.bool r1) false (H393 a1 r1 e2) ⟨tv,tv⟩ rfl rfl (fun _=>rfl) (st (c_ (Aq ⟨tv,tv⟩ rfl tv) (st (An rfl tv (Aw (At ⟨[(1,Aa a1),(2,.ptr 128 0),(4,.ptr 256 0),(8,.bool (!r1))],[(128,Ah a0),(256,[Ba 257 [],Ad 290 []])],[]⟩ (Ar (by kernel_rfl)) (Cj (cb:=(!r1)) rfl (fun c3=>?_) (fun c3=>?_)))))))))
 ·replace h0:=ip c3 h0
  refine Ag (Ac (st (c_ (v:=.agg [Ba 769 [],Ad 770 []]) (Aq tv rfl tv) (sw ⟨[(4,.ptr 256 0),(12,.agg [Ba 769 [],Ad 802 []])],[(256,[Ba 257 [],Ad 290 []])],[]⟩ (Jp [] [(770,802)] rfl (by kernel_rfl)) (Ej rfl rfl tv rfl rfl rfl (nl rfl) (st (Bn tv (Aw (At ⟨[(4,.ptr 256 0),(5,iV 2)],[(256,[Ba 769 [],Ad 802 []])],[]⟩ (Ar (by kernel_rfl)) ?_)))))))))
  obtain rfl:=sj h0
  exact Du (Bp rfl rfl rfl rfl rfl tv)
 ·replace h0:=Fi c3 h0
  refine Ag (Ac (st (c_ (v:=.agg (Ah a0)) (Aq ⟨tv,tv⟩ rfl (nl rfl)) ?_)))
  obtain ⟨r4,e5,h0⟩:=bnd h0
  refine st (Bb (r:=.bool r4) false (H216 a0 r4 e5) ⟨tv,tv⟩ rfl rfl (fun _=>rfl) (st (c_ (Aq ⟨tv,tv⟩ rfl tv) (st (An rfl tv (st (Cx (u:=Aa a1) rfl (fun hg=>(Ki (v:=Aa a1) rfl tv)) ?_)))))))
  obtain ⟨r6,e7,h0⟩:=bnd h0
  refine sw ⟨[(1,Aa a1),(2,.ptr 128 0),(4,.ptr 256 0),(17,.bool (!r4)),(18,.may ((!r4)==false) (Aa a1))],[(128,Ah a0),(256,[Ba 257 [],Ad 290 []])],[]⟩ (Ar (by kernel_rfl)) (Lb (r:=.bool r6) rfl false (fun hg=>H394 a1 r6 (ip hg e7)) ⟨(fun hg=>hg),tv⟩ (fun _=>rfl) (fun _=>rfl) (fun _=>rfl) (fun h=>nomatch h) (st (Cx (u:=.bool (!r6)) rfl (fun hg=>(Aq ⟨(fun _=>hg),tv⟩ rfl tv)) (st (Ea rfl rfl rfl tv (fun h=>aX h) rfl (st (An rfl tv (Aw (At ⟨[(1,Aa a1),(2,.ptr 128 0),(4,.ptr 256 0),(13,.bool (bif (!r4) then true else (!r6)))],[(128,Ah a0),(256,[Ba 257 [],Ad 290 []])],[]⟩ (Ar (by kernel_rfl)) (Cj (cb:=(bif (!r4) then true else (!r6))) rfl (fun c8=>?_) (fun c8=>?_)))))))))))
  ·replace h0:=ip c8 h0
   refine Ag (Ac (st (c_ (v:=.agg [Ba 1409 [],Ad 1410 []]) (Aq tv rfl tv) (sw ⟨[(4,.ptr 256 0),(22,.agg [Ba 1409 [],Ad 1442 []])],[(256,[Ba 257 [],Ad 290 []])],[]⟩ (Jp [] [(1410,1442)] rfl (by kernel_rfl)) (Ej rfl rfl tv rfl rfl rfl (nl rfl) (st (Bn tv (Aw (At ⟨[(4,.ptr 256 0),(5,iV 1)],[(256,[Ba 1409 [],Ad 1442 []])],[]⟩ (Ar (by kernel_rfl)) ?_)))))))))
   obtain rfl:=sj h0
   exact Du (Bp rfl rfl rfl rfl rfl tv)
  ·replace h0:=Fi c8 h0
   refine En (Qc (At ⟨[(1,Aa a1),(2,.ptr 128 0),(4,.ptr 256 0)],[(128,Ah a0),(256,[Ba 257 [],Ad 290 []])],[]⟩ (Ar (by kernel_rfl)) (Ag (Ag (Ac (st (c_ (v:=.agg (Ah a0)) (Aq ⟨tv,tv⟩ rfl (nl rfl)) ?_)))))))
   obtain ⟨r9,e10,h0⟩:=bnd h0
   refine st (Bb (r:=Al 0 r9) false (H398 a0 r9 e10) ⟨tv,tv⟩ rfl rfl (fun _=>(Cd (Qo (fun _=>rfl)) rfl)) (st (An rfl tv ?_)))
   obtain ⟨r11,e12,h0⟩:=bnd h0
   refine st (Bb (r:=.tup [Al 0 r11.1,.bool r11.2]) false (H397 r9 a1 r11 e12) ⟨tv,tv,tv⟩ rfl rfl (fun _=>(Cd (Qo (fun _=>rfl)) (Cd rfl rfl))) (st (An rfl tv (st (c_ (Aq ⟨tv,tv⟩ rfl tv) (st (c_ (Aq ⟨tv,tv⟩ rfl tv) (st (An rfl tv (st (An rfl tv (Aw (At ⟨[(1,Aa a1),(2,.ptr 128 0),(4,.ptr 256 0),(7,.bool r11.2)],[(128,Ah a0),(256,[Ba 257 [],Ad 290 []])],[]⟩ (Ar (by kernel_rfl)) (Ag (Ac (st (An rfl tv (st (c_ (Aq ⟨tv,tv⟩ rfl tv) (Aw (At ⟨[(1,Aa a1),(2,.ptr 128 0),(4,.ptr 256 0),(31,.bool (!r11.2))],[(128,Ah a0),(256,[Ba 257 [],Ad 290 []])],[]⟩ (Ar (by kernel_rfl)) (Cj (cb:=(!r11.2)) rfl (fun c13=>?_) (fun c13=>?_)))))))))))))))))))))))
   ·replace h0:=ip c13 h0
    refine Ag (Ac (st (c_ (v:=.agg [Ba 2049 [],Ad 2050 []]) (Aq tv rfl tv) (sw ⟨[(4,.ptr 256 0),(32,.agg [Ba 2049 [],Ad 2082 []])],[(256,[Ba 257 [],Ad 290 []])],[]⟩ (Jp [] [(2050,2082)] rfl (by kernel_rfl)) (Ej rfl rfl tv rfl rfl rfl (nl rfl) (st (Bn tv (Aw (At ⟨[(4,.ptr 256 0),(5,iV 9)],[(256,[Ba 2049 [],Ad 2082 []])],[]⟩ (Ar (by kernel_rfl)) ?_)))))))))
    obtain rfl:=sj h0
    exact Du (Bp rfl rfl rfl rfl rfl tv)
   ·replace h0:=Fi c13 h0
    refine En (At ⟨[(1,Aa a1),(2,.ptr 128 0),(4,.ptr 256 0)],[(128,Ah a0),(256,[Ba 257 [],Ad 290 []])],[]⟩ (Ar (by kernel_rfl)) (Ag ?_))
    obtain ⟨r14,e15,h0⟩:=bnd h0
    obtain ⟨r16,e17,h0⟩:=bnd h0
    refine Dj (Ao tv (c_ (v:=.agg (Ah a0)) (Aq ⟨tv,tv⟩ rfl (nl rfl)) (⟨tv,Ao tv (An rfl tv (⟨tv,Do (Bb (r:=Ba 0 r14) false (H395 a1 r14 e15) ⟨tv,tv⟩ rfl rfl (fun _=>(Cd (Qo (fun _=>rfl)) rfl)) (VW ⟨[(2,.ptr 128 0),(4,.ptr 256 0),(33,.agg (Ah a0)),(35,Ba 2240 r14)],[(128,Ah a0),(256,[Ba 257 [],Ad 290 []])],[]⟩ (Ar (by kernel_rfl)) ⟨[],⟨⟨.inl tv,Cq (Aq ⟨tv,tv⟩ rfl (nl rfl)) rfl⟩,tv⟩,tv,Do (Bb (r:=.tup [.agg (Ak r16.1 (Bk 0) (Bk 33)),iV r16.2]) false (H273 a0 r14 r16 e17) ⟨tv,tv,tv⟩ rfl rfl (fun _=>(Cd (Qo (fun _=>rfl)) (Cd (Wj rfl) (Cd rfl rfl)))) (VW ⟨[(4,.ptr 256 0),(36,.tup [.agg (Ak r16.1 (Bk 2304) (Bk 2337)),iV r16.2])],[(256,[Ba 257 [],Ad 290 []])],[]⟩ (Ar (by kernel_rfl)) ⟨[],tv,tv,Ao tv (c_ (Aq ⟨tv,tv⟩ rfl tv) (⟨tv,Ao tv (c_ (Aq ⟨tv,tv⟩ rfl tv) (⟨tv,Do (Ej rfl rfl tv rfl rfl rfl (nl rfl) (iK ⟨[],tv,tv,Ao tv (An rfl tv (⟨tv,Jo (At ⟨[(4,.ptr 256 0),(5,iV r16.2)],[(256,Ak r16.1 (Bk 2304) (Bk 2337))],[]⟩ (Ar (by kernel_rfl)) ?_)⟩))⟩)) Ca⟩))⟩))⟩)) Ca⟩)) Ca⟩))⟩)))
    obtain rfl:=sj h0
    exact Du (Bp rfl rfl rfl rfl rfl tv)

/- loop.example/g00149/laws.szChange -/
def QA:=[X_ 2 0,i_ 4 0]
def QB:=[m_ 5 1,f_ 6 2 0,l_ 7 6 1,iQ 8 (.lenS (.t 7)),b_ .sub 9 5 8,m_ 1 9]
def QC:=[m_ 10 1,B_ .lss 11 10 0]
def QD:=[i_ 4 (-1)]
def QE:=[m_ 12 1,f_ 13 2 1,l_ 14 13 1,iQ 15 (.lenS (.t 14)),b_ .sub 16 12 15,m_ 1 16]
def QF:=[m_ 17 1,B_ .lss 18 17 0]
def QG:=[i_ 4 (-1)]
def QH:=[m_ 19 1,m_ 4 19]
def c406:Dl:=⟨2,20,[.t 4],sr QA (sr QB (.seq (sr QC (iz 11 (rr QD))) (sr QE (.seq (sr QF (iz 18 (rr QG))) (rr QH)))))⟩
def K406 (D:Az):Prop:=∀a0 a1 r,g406 a0 a1=some r→D 406 ⟨[.agg (Af a0),iV a1],[]⟩ ⟨iV r,[],[]⟩
theorem F406:K406 (FO C c406):=by
 intro a0 a1 r h0
 refine f0 (Ag (Ac (st (Mk rfl tv rfl (st (Bn tv (Aw (At ⟨[(1,iV a1),(2,.ptr 128 0)],[(128,Af a0)],[]⟩ (Ar (by kernel_rfl)) (Ag (Ac (st (An rfl tv (st (c_ (Aq ⟨tv,tv⟩ rfl tv) (st (c_ (Aq ⟨tv,tv⟩ rfl (nl rfl)) (st (c_ (Aq ⟨tv,tv⟩ rfl tv) (st (c_ (Aq t3 rfl tv) (st (An rfl tv (Aw (At ⟨[(1,iV (wi (a1-(a0.key.length:Int)))),(2,.ptr 128 0)],[(128,Af a0)],[]⟩ (Ar (by kernel_rfl)) (Ag (Ag (Ac (st (An rfl tv (st (c_ (Aq t3 rfl tv) (Aw (At ⟨[(1,iV (wi (a1-(a0.key.length:Int)))),(2,.ptr 128 0),(11,.bool (decide ((wi (a1-(a0.key.length:Int)))<0)))],[(128,Af a0)],[]⟩ (Ar (by kernel_rfl)) (Cj (cb:=(decide ((wi (a1-(a0.key.length:Int)))<0))) rfl (fun c1=>?_) (fun c1=>?_)))))))))))))))))))))))))))))))))))
 ·replace h0:=ip c1 h0
  refine Ag (Ac (st (Bn tv (Aw (At ⟨[(4,iV (-1))],[],[]⟩ (Ar (by kernel_rfl)) ?_)))))
  obtain rfl:=sj h0
  exact Du (Bp rfl rfl rfl rfl rfl tv)
 ·replace h0:=Fi c1 h0
  refine En (At ⟨[(1,iV (wi (a1-(a0.key.length:Int)))),(2,.ptr 128 0)],[(128,Af a0)],[]⟩ (Ar (by kernel_rfl)) (Ag (Ac (st (An rfl tv (st (c_ (Aq ⟨tv,tv⟩ rfl tv) (st (c_ (Aq ⟨tv,tv⟩ rfl (nl rfl)) (st (c_ (Aq ⟨tv,tv⟩ rfl tv) (st (c_ (Aq t3 rfl tv) (st (An rfl tv (Aw ?_))))))))))))))))
  obtain ⟨v2,e3,h0⟩:=bl h0
  refine At ⟨[(1,iV v2)],[],[]⟩ (Ar (by subst e3; kernel_rfl)) (Ag (Ag (Ac (st (An rfl tv (st (c_ (Aq t3 rfl tv) (Aw (At ⟨[(1,iV v2),(18,.bool (decide (v2<0)))],[],[]⟩ (Ar (by kernel_rfl)) (Cj (cb:=(decide (v2<0))) rfl (fun c4=>?_) (fun c4=>?_)))))))))))
  ·replace h0:=ip c4 h0
   refine Ag (Ac (st (Bn tv (Aw (At ⟨[(4,iV (-1))],[],[]⟩ (Ar (by kernel_rfl)) ?_)))))
   obtain rfl:=sj h0
   exact Du (Bp rfl rfl rfl rfl rfl tv)
  ·replace h0:=Fi c4 h0
   refine En (At ⟨[(1,iV v2)],[],[]⟩ (Ar (by kernel_rfl)) (Ag (Ac (st (An rfl tv (st (An rfl tv (Aw (At ⟨[(4,iV v2)],[],[]⟩ (Ar (by kernel_rfl)) ?_)))))))))
   obtain rfl:=sj h0
   exact Du (Bp rfl rfl rfl rfl rfl tv)

/- loop.example/g00149/laws.szChangeS -/
def LH:=[i_ 4 0]
def LI:=[m_ 6 1,m_ 7 0,n_ 8 7,b_ .sub 9 6 8,m_ 1 9]
def LJ:=[m_ 10 1,B_ .lss 11 10 0]
def LK:=[i_ 4 (-1)]
def LL:=[i_ 5 0]
def LN:=[m_ 12 5,m_ 13 0,n_ 14 13,b_ .lss 15 12 14]
def LO:=[m_ 18 0,m_ 19 5,x_ 20 18 19 3,L_ 21 20 3,m_ 22 1,q_ 23 406 [.t 21,.t 22],m_ 1 23]
def LP:=[m_ 24 1,B_ .lss 25 24 0]
def LQ:=[i_ 4 (-1)]
def LS:=[m_ 16 5,B_ .add 17 16 1,m_ 5 17]
def LG:IR:=(.seq (sr LN (.ite (.t 15) .skip (.exit 0))) (.seq (.block 1 (sr LO (sr LP (iz 25 (rr LQ))))) (.reg LS)))
def pS:=[m_ 26 1,m_ 4 26]
def c387:Dl:=⟨2,27,[.t 4],sr LH (sr LI (.seq (sr LJ (iz 11 (rr LK))) (.seq (sr LL (Jt 0 LG)) (rr pS))))⟩
def K387 (D:Az):Prop:=∀a0 a1 r,XO a0 a1=some r→D 387 ⟨[Aa a0,iV a1],[]⟩ ⟨iV r,[],[]⟩
theorem F387 (H406:K406 C):K387 (FO C c387):=by
 intro a0 a1 r h0
 refine f0 (Ag (Ac (st (Bn tv (Aw (At ⟨[(0,Aa a0),(1,iV a1)],[],[]⟩ (Ar (by kernel_rfl)) (Ag (Ac (st (An rfl tv (st (An rfl tv (st (c_ (Dv (e:=Af) (l0:=a0) rfl rfl tv) (st (c_ (Aq t3 rfl tv) (st (An rfl tv (Aw (At ⟨[(0,Aa a0),(1,iV (wi (a1-(a0.length:Int))))],[],[]⟩ (Ar (by kernel_rfl)) (Ag (Ag (Ac (st (An rfl tv (st (c_ (Aq t3 rfl tv) (Aw (At ⟨[(0,Aa a0),(1,iV (wi (a1-(a0.length:Int)))),(11,.bool (decide ((wi (a1-(a0.length:Int)))<0)))],[],[]⟩ (Ar (by kernel_rfl)) (Cj (cb:=(decide ((wi (a1-(a0.length:Int)))<0))) rfl (fun c1=>?_) (fun c1=>?_)))))))))))))))))))))))))))))))
 ·replace h0:=ip c1 h0
  refine Ag (Ac (st (Bn tv (Aw (At ⟨[(4,iV (-1))],[],[]⟩ (Ar (by kernel_rfl)) ?_)))))
  obtain rfl:=sj h0
  exact Du (Bp rfl rfl rfl rfl rfl tv)
 ·replace h0:=Fi c1 h0
  refine En (At ⟨[(0,Aa a0),(1,iV (wi (a1-(a0.length:Int))))],[],[]⟩ (Ar (by kernel_rfl)) (Ag (Ag (Ac (st (Bn tv (Aw (At ⟨[(0,Aa a0),(1,iV (wi (a1-(a0.length:Int)))),(5,iV 0)],[],[]⟩ (Ar (by kernel_rfl)) (Be ?_)))))))))
  obtain ⟨r25,e26,h0⟩:=bnd h0
  refine Cs (R:=(fun S=>∃p18:Int,.inl p18=r25∧S=⟨[(1,iV p18)],[],[]⟩)) (Rc a0) (fun s S=>match s with | (p8,p9)=>S=⟨[(0,Aa a0),(1,iV p8),(5,iV p9)],[],[]⟩) e26 ⟨[(0,Aa a0),(1,iV (wi (a1-(a0.length:Int)))),(5,iV 0)],[],[]⟩ (Ar (by kernel_rfl)) rfl 0 (fun _=>rfl) ?_ ?_
  ·rintro S _ hfg ⟨p18,rfl,rfl⟩
   refine At ⟨[(1,iV p18)],[],[]⟩ (Oz hfg (by kernel_rfl)) (Ag (Ac (st (An rfl tv (st (An rfl tv (Aw (At ⟨[(4,iV p18)],[],[]⟩ (Ar (by kernel_rfl)) ?_))))))))
   obtain rfl:=sj h0
   exact Du (Bp rfl rfl rfl rfl rfl tv)
  ·rintro ⟨p8,p9⟩ o1 _ K1 rfl h1 hx1 hK1 hE1 hR1
   refine Ag (Ag (Ac (st (An rfl tv (st (An rfl tv (st (c_ (Dv (e:=Af) (l0:=a0) rfl rfl tv) (st (c_ (Aq t3 rfl tv) (Aw (At ⟨[(0,Aa a0),(1,iV p8),(5,iV p9),(15,.bool (decide (p9<(a0.length:Int))))],[],[]⟩ (Ar (by kernel_rfl)) (Cj (cb:=(decide (p9<(a0.length:Int)))) rfl (fun c19=>?_) (fun c19=>?_))))))))))))))
   ·replace h1:=ip c19 h1
    refine En (At ⟨[(0,Aa a0),(1,iV p8),(5,iV p9)],[],[]⟩ (Ar (by kernel_rfl)) (Ag (Be (Ag (Ac (st (An rfl tv (st (An rfl tv ?_)))))))))
    obtain ⟨y20,e21,h1⟩:=bnd h1
    refine st (c_ (Hi (e:=Af) (y:=y20) rfl rfl tv rfl rfl tv e21) (st (c_ (v:=.agg (Af y20)) (Aq ⟨tv,tv⟩ rfl (nl rfl)) (st (An rfl tv ?_)))))
    obtain ⟨r22,e23,h1⟩:=bnd h1
    refine st (Bb (r:=iV r22) false (H406 y20 p8 r22 e23) ⟨tv,tv,tv⟩ rfl rfl (fun _=>rfl) (st (An rfl tv (Aw (At ⟨[(0,Aa a0),(1,iV r22),(5,iV p9)],[],[]⟩ (Ar (by kernel_rfl)) (Ag (Ac (st (An rfl tv (st (c_ (Aq t3 rfl tv) (Aw (At ⟨[(0,Aa a0),(1,iV r22),(5,iV p9),(25,.bool (decide (r22<0)))],[],[]⟩ (Ar (by kernel_rfl)) (Cj (cb:=(decide (r22<0))) rfl (fun c24=>?_) (fun c24=>?_)))))))))))))))
    ·replace h1:=ip c24 h1
     refine Ag (Ac (st (Bn tv (Aw (At ⟨[(4,iV (-1))],[],[]⟩ (Ar (by kernel_rfl)) ?_)))))
     obtain rfl:=sj h1
     obtain rfl:=hx1 _ rfl
     obtain rfl:=sj h0
     exact Du (hR1 _ (Bp rfl rfl rfl rfl rfl tv))
    ·replace h1:=Fi c24 h1
     refine En (Qc (At ⟨[(0,Aa a0),(1,iV r22),(5,iV p9)],[],[]⟩ (Ar (by kernel_rfl)) (Ac (st (An rfl tv (st (c_ (Aq t3 rfl tv) (st (An rfl tv (Aw ?_))))))))))
     obtain rfl:=sj h1
     exact hK1 _ rfl _ ⟨[(0,Aa a0),(1,iV r22),(5,iV (wi (p9+1)))],[],[]⟩ (Ar (by kernel_rfl)) rfl
   ·replace h1:=Fi c19 h1
    obtain rfl:=sj h1
    obtain rfl:=hx1 _ rfl
    refine In rfl ?_
    exact hE1 _ ⟨[(1,iV p8)],[],[]⟩ (Ar (by kernel_rfl)) ⟨_,rfl,rfl⟩

/- loop.example/g00149/spec.l01In -/
def c56_r0:=[k_ 6 (.bool false)]
def c56_r1:=[m_ 7 0,m_ 8 1,b_ .geq 9 7 8,m_ 10 9,mT 10 11 0,mT 10 12 2,pT 10 13 (.bin .leq (.t 11) (.t 12)),pa 14 10 13,m_ 6 14]
def ZY:Dl:=⟨3,15,[.t 6],sr c56_r0 (rr c56_r1)⟩
def K56 (D:Az):Prop:=∀a0 a1 a2 r,g56 a0 a1 a2=some r→D 56 ⟨[iV a0,iV a1,iV a2],[]⟩ ⟨.bool r,[],[]⟩
theorem F56:K56 (FO C ZY):=by
 intro a0 a1 a2 r h0
 refine f0 (Bw 3 [(0,iV a0),(1,iV a1),(2,iV a2)] [] (gn_ 9 (Ac (o_ ?_))))
 obtain rfl:=sj h0
 exact Gs 3

/- loop.example/g00149/spec.DeviceOK -/
def BJ:=[X_ 1 0,k_ 2 (.bool false)]
def BK:=[f_ 4 1 0,l_ 5 4 1,n_ 6 5,B_ .rem 7 6 32,B_ .neq 8 7 0,m_ 9 8,fF 9 10 1 0,lF 9 11 10 1 false,pF 9 12 (.len (.t 11)),pF 9 13 (.bin .gtr (.t 12) (.c (iV 4096))),po 14 9 13,m_ 15 14,fF 15 16 1 1,lF 15 17 16 1 false,pF 15 18 (.len (.t 17)),pF 15 19 (.bin .gtr (.t 18) (.c (iV 4096))),po 20 15 19]
def BL:=[k_ 2 (.bool false)]
def BM:=[i_ 3 0]
def BN:=[m_ 21 3,f_ 22 1 1,l_ 23 22 1,n_ 24 23,b_ .lss 25 21 24]
def BO:=[f_ 28 1 1,l_ 29 28 1,m_ 30 3,x_ 31 29 30 2,f_ 32 31 0,l_ 33 32 1,q_ 34 56 [.t 33,.c (iV 0),.c (iV 127)],N_ 35 34,m_ 36 35,fF 36 37 1 1,lF 36 38 37 1 false,mF 36 39 3,xF 36 40 38 39 2,fF 36 41 40 1,lF 36 42 41 1 false,pF 36 43 (.len (.t 42)),pF 36 44 (.bin .neq (.t 43) (.c (iV 32))),po 45 36 44]
def BP:=[k_ 2 (.bool false)]
def BQ:=[m_ 26 3,B_ .add 27 26 1,m_ 3 27]
def BI:IR:=(.seq (sr BN (.ite (.t 25) .skip (.exit 0))) (.seq (.block 1 (sr BO (iz 45 (rr BP)))) (.reg BQ)))
def BR:=[k_ 2 (.bool true)]
def c290:Dl:=⟨1,46,[.t 2],sr BJ (.seq (sr BK (iz 20 (rr BL))) (.seq (sr BM (Jt 0 BI)) (rr BR)))⟩
def nB (D:Az):Prop:=∀a0 r,lH a0=some r→D 290 ⟨[.agg (Ah a0)],[]⟩ ⟨.bool r,[],[]⟩
theorem F290 (H56:K56 C):nB (FO C c290):=by
 intro a0 r h0
 refine f0 (Bw 4 [(1,.ptr 64 0)] [(64,Ah a0)] (Ch 4 (Ac (Lp rfl (st (c_ (Aq ⟨tv,tv,tv⟩ rfl (by decide)) (o_ (Ch 2 (Ac (st (Cx (u:=.ptr 64 0) rfl (fun hg=>(Aq ⟨tv,tv⟩ rfl tv)) (st (Cx (u:=Bl a0.held) rfl (fun hg=>(Aq ⟨(fun _=>hg),tv⟩ rfl (nl rfl))) (st (Cx (u:=iV (a0.held.length:Int)) rfl (fun hg=>(Dv (e:=By) (l0:=a0.held) rfl rfl (fun _=>hg))) (st (Cx (u:=.bool (decide ((a0.held.length:Int)>4096))) rfl (fun hg=>(Aq ⟨(fun _=>hg),tv,tv⟩ rfl tv)) (st (Ea rfl rfl rfl tv (fun h=>aX h) rfl (st (An rfl tv (st (Cx (u:=.ptr 64 1) rfl (fun hg=>(Aq ⟨tv,tv⟩ rfl tv)) (st (Cx (u:=Av a0.Aj) rfl (fun hg=>(Aq ⟨(fun _=>hg),tv⟩ rfl (nl rfl))) (st (Cx (u:=iV (a0.Aj.length:Int)) rfl (fun hg=>(Dv (e:=Ax) (l0:=a0.Aj) rfl rfl (fun _=>hg))) (st (Cx (u:=.bool (decide ((a0.Aj.length:Int)>4096))) rfl (fun hg=>(Aq ⟨(fun _=>hg),tv,tv⟩ rfl tv)) (st (Ea rfl rfl rfl tv (fun h=>aX h) rfl (Aw (bv h0 fun v1 e2 h0=>At ⟨[(1,.ptr 64 0),(20,.bool v1)],[(64,Ah a0)],[]⟩ (Ar (by subst e2; kernel_rfl)) (Gi h0 (fun c3 h0=>?_) (fun c3 h0=>?_)))))))))))))))))))))))))))))))))))
 ·obtain rfl:=sj h0
  exact Gs 4
 ·refine Bw 6 [(1,.ptr 64 0),(3,iV 0)] [(64,Ah a0)] (Be (bb h0 fun r30 e31 h0=>Cs (R:=(fun S=>.inl ()=r30∧S=⟨[],[],[]⟩)) (Qs a0) (fun s S=>match s with | p12=>S=⟨[(1,.ptr 64 0),(3,iV p12)],[(64,Ah a0)],[]⟩) e31 _ (Ar (by kernel_rfl)) rfl 0 (fun _=>rfl) ?_ ?_))
  ·rintro S _ hfg ⟨rfl,rfl⟩
   refine At _ hfg ?_
   obtain rfl:=sj h0
   exact Gs 4
  ·rintro p12 o1 _ K1 rfl h1 hx1 hK1 hE1 hR1
   refine Ch 5 (Ac (Lp rfl (o_ (Bw 2 [(1,.ptr 64 0),(3,iV p12),(25,.bool (decide (p12<(a0.Aj.length:Int))))] [(64,Ah a0)] (Gi h1 (fun c22 h1=>?_) (fun c22 h1=>?_))))))
   ·refine Ch 8 (Ac (bb h1 fun y23 e24 h1=>gQ rfl rfl e24 (o_ (Ch 2 (Ac (bb h1 fun r25 e26 h1=>Ze (H56 y23.at_ 0 127 r25 e26) (o_ (Ch 2 (Ac (st (Cx (u:=.ptr 64 1) rfl (fun hg=>(Aq ⟨tv,tv⟩ rfl tv)) (st (Cx (u:=Av a0.Aj) rfl (fun hg=>(Aq ⟨(fun _=>hg),tv⟩ rfl (nl rfl))) (st (Cx (u:=iV p12) rfl (fun hg=>(Ki (v:=iV p12) rfl tv)) (bb h1 fun y27 e28 h1=>st (Cx (u:=.iptr (Ax y27)) rfl (fun hg=>(Hi (e:=Ax) (y:=y27) rfl rfl (fun _=>hg) rfl rfl (fun _=>hg) (ip hg e28))) (st (Cx (u:=.iptr [Bl y27.data]) rfl (fun hg=>(Aq ⟨(fun _=>hg),tv⟩ rfl (nl rfl))) (st (Cx (u:=Bl y27.data) rfl (fun hg=>(Aq ⟨(fun _=>hg),tv⟩ rfl (nl rfl))) (st (Cx (u:=iV (y27.data.length:Int)) rfl (fun hg=>(Dv (e:=By) (l0:=y27.data) rfl rfl (fun _=>hg))) (st (Cx (u:=.bool ((y27.data.length:Int) != 32)) rfl (fun hg=>(Aq ⟨(fun _=>hg),tv,tv⟩ rfl tv)) (st (Ea rfl rfl rfl tv (fun h=>aX h) rfl (o_ (Bw 1 [(1,.ptr 64 0),(3,iV p12),(45,.bool (bif (!r25) then true else ((y27.data.length:Int) != 32)))] [(64,Ah a0)] (Gi h1 (fun c29 h1=>?_) (fun c29 h1=>?_)))))))))))))))))))))))))))))))
    ·obtain rfl:=sj h1
     obtain rfl:=hx1 _ rfl
     obtain rfl:=sj h0
     exact uH 4 hR1
    ·refine Ch 7 ?_
     obtain rfl:=sj h1
     exact kn hK1 rfl rfl
   ·obtain rfl:=sj h1
    obtain rfl:=hx1 _ rfl
    refine In rfl ?_
    exact jn hE1 ⟨rfl,rfl⟩

/- loop.example/g00149/spec.l01Fits -/
def BS:=[k_ 4 (.bool false)]
def BT:=[m_ 5 0,B_ .geq 6 5 0,m_ 7 6,mT 7 8 1,pT 7 9 (.bin .leq (.t 8) (.c (iV 4096))),pa 10 7 9,m_ 11 10,mT 11 12 0,mT 11 13 1,pT 11 14 (.bin .sub (.c (iV 4096)) (.t 13)),pT 11 15 (.bin .leq (.t 12) (.t 14)),pa 16 11 15,m_ 4 16]
def c291:Dl:=⟨2,17,[.t 4],sr BS (rr BT)⟩
def K291 (D:Az):Prop:=∀a0 a1 r,sJ a0 a1=some r→D 291 ⟨[iV a0,iV a1],[]⟩ ⟨.bool r,[],[]⟩
theorem F291:K291 (FO C c291):=by
 intro a0 a1 r h0
 refine f0 (Bw 3 [(0,iV a0),(1,iV a1)] [] (gn_ 15 (bv h0 fun v1 e2 h0=>At ⟨[(4,.bool v1)],[],[]⟩ (Ar (by subst e2; kernel_rfl)) ?_)))
 obtain rfl:=sj h0
 exact Du (Bp rfl rfl rfl rfl rfl tv)

/- loop.example/g00149/spec.l01Put -/
def IT:List Bg:=[X_ 3 1,⟨some 4,.nilS 1,none⟩]
def IU:List Bg:=[⟨some 6,.mkS 1 [.int .u8 0] 0 [],none⟩,m_ 7 0,⟨some 8,.app 1 1 (.t 6) (.t 7),none⟩,m_ 5 8]
def IV:=[m_ 9 5,n_ 10 9,f_ 11 3 0,l_ 12 11 1,B_ .add 13 12 1,B_ .mul 14 13 32,b_ .lss 15 10 14]
def IW:List Bg:=[m_ 16 5,⟨some 17,.appz 1 1 [.int .u8 0] (.t 16) (.c (iV 32)),none⟩,m_ 5 17]
def IS:IR:=(.seq (sr IV (.ite (.t 15) .skip (.exit 0))) (.block 1 (.reg IW)))
def IX:=tk [m_ 18 5,f_ 19 3 0,l_ 20 19 1,B_ .mul 21 20 32,⟨some 22,.p (.slice (.t 18) (some (.t 21)) none 1),none⟩,f_ 23 3 1,l_ 24 23 1] (.alt [] ⟨some 25,.copy 1 (.t 22) (.t 24),none⟩ .fin .stop)
def IY:=[m_ 26 5,m_ 4 26]
def c352:Dl:=⟨2,27,[.t 4],sr IT (sr IU (.seq (Jt 0 IS) (sd IX (rr IY))))⟩
def K352 (D:Az):Prop:=∀a0 a1 r,XH a0 a1=some r→D 352 ⟨[Bl a0,.agg (Ax a1)],[]⟩ ⟨Ba 0 r,[],[]⟩
theorem F352:K352 (FO C c352):=by
 intro a0 a1 r h0
 refine f0 (Bw 4 [(0,Bl a0),(3,.ptr 192 0)] [(192,Ax a1)] (Ch 3 (Ac (gg h0 fun c1 h0=>st (Fx (e:=By) (l0:=([]:List UInt8)) (l1:=a0) rfl rfl tv rfl (by decide) c1 (o_ (Bw 2 [(3,.ptr 192 0),(5,Ba 384 (([]:List UInt8)++a0))] [(192,Ax a1)] (Ag (Be (bb h0 fun r20 e21 h0=>Cs (R:=(fun S=>∃p14:List UInt8,p14=r20∧S=⟨[(3,.ptr 192 0),(5,Ba 384 p14)],[(192,Ax a1)],[]⟩)) (Rb a1) (fun s S=>match s with | p7=>S=⟨[(3,.ptr 192 0),(5,Ba 384 p7)],[(192,Ax a1)],[]⟩) e21 _ (Ar (by kernel_rfl)) rfl 0 (fun _=>rfl) ?_ ?_))))))))))
 ·rintro S _ hfg ⟨p14,rfl,rfl⟩
  refine At _ hfg (Ag (bb h0 fun s22 e23 h0=>Ch 4 (Dj (Ao tv (c_ (Dk (e:=By) (y:=s22) rfl rfl tv ⟨tv,tv⟩ rfl rfl e23) (⟨tv,d_ (Ch 2 (Dj (Do (copy_ (e:=By) (l1:=a1.data) rfl rfl tv rfl (d0 tv (Jo (At ⟨[(5,Ba 384 (ovl p14 ((wi (a1.at_*32)).toNat) (a1.data.take s22.length)))],[],[]⟩ (fg ⟨congrArg (fun z=>some ((.own 384 0 1 z:V))) Em,tv⟩ tv) (Ch 4 (bv h0 fun v24 e25 h0=>At ⟨[(4,Ba 384 v24)],[],[]⟩ (Ar (by subst e25; kernel_rfl)) ?_)))))) Ca)))⟩))))))
  obtain rfl:=sj h0
  exact Du (Bp rfl rfl rfl rfl rfl tv)
 ·rintro p7 o1 _ K1 rfl h1 hx1 hK1 hE1 hR1
  unfold Rb at h1
  refine Ch 3 (Ac (tO rfl (o_ (Ch 6 (bv h1 fun v15 e16 h1=>At ⟨[(3,.ptr 192 0),(5,Ba 384 p7),(15,.bool v15)],[(192,Ax a1)],[]⟩ (Ar (by subst e16; kernel_rfl)) (Gi h1 (fun c17 h1=>?_) (fun c17 h1=>?_)))))))
  ·refine Ch 4 (Ac (gg h1 fun c18 h1=>gg h1 fun c19 h1=>st (nJ (e:=By) (l0:=p7) (0:UInt8) rfl rfl rfl (by decide) c18 c19 (st (An rfl tv (Aw (Qc ?_)))))))
   obtain rfl:=sj h1
   exact kn hK1 rfl rfl
  ·obtain rfl:=sj h1
   obtain rfl:=hx1 _ rfl
   refine In rfl ?_
   exact jn hE1 ⟨_,rfl,rfl⟩

/- loop.example/g00149/spec.l01Read -/
def EN:List Bg:=[X_ 1 0,⟨some 2,.nilS 1,none⟩]
def EO:List Bg:=[⟨some 5,.mkS 1 [.int .u8 0] 0 [],none⟩,f_ 6 1 0,l_ 7 6 1,⟨some 8,.app 1 1 (.t 5) (.t 7),none⟩,m_ 3 8]
def EP:=[i_ 4 0]
def EQ:=[m_ 9 4,f_ 10 1 1,l_ 11 10 1,n_ 12 11,b_ .lss 13 9 12]
def ER:=[m_ 16 3,f_ 17 1 1,l_ 18 17 1,m_ 19 4,x_ 20 18 19 2,L_ 21 20 2,q_ 22 352 [.t 16,.t 21],m_ 3 22]
def ES:=[m_ 14 4,B_ .add 15 14 1,m_ 4 15]
def EM:IR:=(.seq (sr EQ (.ite (.t 13) .skip (.exit 0))) (.seq (.block 1 (.reg ER)) (.reg ES)))
def ET:=[m_ 23 3,m_ 2 23]
def c303:Dl:=⟨1,24,[.t 2],sr EN (sr EO (.seq (sr EP (Jt 0 EM)) (rr ET)))⟩
def nC (D:Az):Prop:=∀a0 r,Wm a0=some r→D 303 ⟨[.agg (Ah a0)],[]⟩ ⟨Ba 0 r,[],[]⟩
theorem F303 (H352:K352 C):nC (FO C c303):=by
 intro a0 r h0
 refine f0 (Bw 4 [(1,.ptr 64 0)] [(64,Ah a0)] (Ch 4 (Ac (gg h0 fun c1 h0=>st (Fx (e:=By) (l0:=([]:List UInt8)) (l1:=a0.held) rfl rfl tv rfl (by decide) c1 (o_ (Bw 7 [(1,.ptr 64 0),(3,Ba 320 (([]:List UInt8)++a0.held)),(4,iV 0)] [(64,Ah a0)] (Be (bb h0 fun r22 e23 h0=>Cs (R:=(fun S=>∃p16:List UInt8,p16=r22∧S=⟨[(3,Ba 320 p16)],[],[]⟩)) (Ka a0) (fun s S=>match s with | (p7,p8)=>S=⟨[(1,.ptr 64 0),(3,Ba 320 p7),(4,iV p8)],[(64,Ah a0)],[]⟩) e23 _ (Ar (by kernel_rfl)) rfl 0 (fun _=>rfl) ?_ ?_)))))))))
 ·rintro S _ hfg ⟨p16,rfl,rfl⟩
  refine At _ hfg ?_
  obtain rfl:=sj h0
  exact Gs 5
 ·rintro ⟨p7,p8⟩ o1 _ K1 rfl h1 hx1 hK1 hE1 hR1
  refine Ch 5 (Ac (Lp rfl (o_ (Bw 2 [(1,.ptr 64 0),(3,Ba 320 p7),(4,iV p8),(13,.bool (decide (p8<(a0.Aj.length:Int))))] [(64,Ah a0)] (Gi h1 (fun c17 h1=>?_) (fun c17 h1=>?_))))))
  ·refine Ch 8 (Ac (bb h1 fun y18 e19 h1=>gQ rfl rfl e19 (st (c_ (v:=.agg (Ax y18)) (Aq ⟨tv,tv⟩ rfl (nl rfl)) (bb h1 fun r20 e21 h1=>Uw (H352 p7 y18 r20 e21) (af rfl) (o_ (Bw 3 [(1,.ptr 64 0),(3,Ba 1408 r20),(4,iV p8)] [(64,Ah a0)] (Ch 4 ?_))))))))
   obtain rfl:=sj h1
   exact hK1 _ rfl _ _ (Jp [] [(1408,320)] rfl (by kernel_rfl)) rfl
  ·obtain rfl:=sj h1
   obtain rfl:=hx1 _ rfl
   refine In rfl ?_
   exact jn hE1 ⟨_,rfl,rfl⟩

/- loop.example/g00149/spec.l01Write -/
def BW:=[X_ 3 0,a_ 6 [.own 385 0 1 [],.own 386 0 2 []]]
def BX:=[L_ 10 3 2,q_ 11 303 [.t 10],m_ 7 11]
def BY:=[m_ 12 7,n_ 13 12,m_ 14 1,m_ 15 2,n_ 16 15,b_ .add 17 14 16,b_ .lss 18 13 17,m_ 19 18,mF 19 20 7,pF 19 21 (.len (.t 20)),pF 19 22 (.bin .rem (.t 21) (.c (iV 32))),pF 19 23 (.bin .neq (.t 22) (.c (iV 0))),po 24 19 23]
def BZ:List Bg:=[m_ 25 7,⟨some 26,.mkS 1 [.int .u8 0] 1 [(0,.c (.int .u8 0))],none⟩,⟨some 27,.app 1 1 (.t 25) (.t 26),none⟩,m_ 7 27]
def BU:IR:=(.seq (sr BY (.ite (.t 24) .skip (.exit 0))) (.block 1 (.reg BZ)))
def CA:List Bg:=[m_ 28 7,m_ 29 1,⟨some 30,.p (.slice (.t 28) (some (.t 29)) none 1),none⟩,m_ 31 2,⟨some 32,.copy 1 (.t 30) (.t 31),none⟩]
def cQ:DP:=.alt [l_ 34 33 1,f_ 33 3 0] ⟨some 38,.app 2 32 (.t 35) (.t 37),none⟩ (tk [⟨some 39,.p (.build [.own 2497 0 1 [],.own 2498 0 2 []] [(0,1,.t 34),(1,1,.t 38)]),none⟩] (.alt [] (s_ 8 39 2) .fin .stop)) .stop
def CB:=tk [f_ 33 3 0,l_ 34 33 1,f_ 36 3 1,l_ 37 36 1] (.alt [l_ 37 36 1,f_ 36 3 1,l_ 34 33 1,f_ 33 3 0] ⟨some 35,.mkS 2 [iV 0,.lst 1 []] 0 [],none⟩ (.alt [l_ 34 33 1,f_ 33 3 0] ⟨some 38,.app 2 32 (.t 35) (.t 37),none⟩ (tk [⟨some 39,.p (.build [.own 2497 0 1 [],.own 2498 0 2 []] [(0,1,.t 34),(1,1,.t 38)]),none⟩] (.alt [⟨some 39,.p (.build [.own 2497 0 1 [],.own 2498 0 2 []] [(0,1,.t 34),(1,1,.t 38)]),none⟩,l_ 34 33 1,f_ 33 3 0] (a_ 8 [.own 513 0 1 [],.own 514 0 2 []]) (.alt [] (s_ 8 39 2) .fin .stop) .stop)) (.alt [l_ 37 36 1,f_ 36 3 1,l_ 34 33 1,f_ 33 3 0] (a_ 8 [.own 513 0 1 [],.own 514 0 2 []]) cQ .stop)) (.alt [l_ 37 36 1,f_ 36 3 1,l_ 34 33 1,f_ 33 3 0] (a_ 8 [.own 513 0 1 [],.own 514 0 2 []]) (.alt [l_ 37 36 1,f_ 36 3 1,l_ 34 33 1,f_ 33 3 0] ⟨some 35,.mkS 2 [iV 0,.lst 1 []] 0 [],none⟩ cQ .stop) .stop))
def CC:=[m_ 40 2,n_ 41 40,B_ .eql 42 41 0]
def CD:=[L_ 43 8 2,s_ 6 43 2]
def CE:=[m_ 44 1,B_ .quo 45 44 32,m_ 9 45]
def CF:=[m_ 46 9,B_ .mul 47 46 32,m_ 48 1,m_ 49 2,n_ 50 49,b_ .add 51 48 50,b_ .lss 52 47 51]
def nQ:=tk [f_ 55 8 1,l_ 56 55 1,m_ 57 9,m_ 59 7,m_ 60 9,B_ .mul 61 60 32,m_ 62 9,B_ .add 63 62 1,B_ .mul 64 63 32,⟨some 65,.p (.slice (.t 59) (some (.t 61)) (some (.t 64)) 1),none⟩] (.alt [⟨some 65,.p (.slice (.t 59) (some (.t 61)) (some (.t 64)) 1),none⟩,B_ .mul 64 63 32,B_ .add 63 62 1,m_ 62 9,B_ .mul 61 60 32,m_ 60 9,m_ 59 7,m_ 57 9,l_ 56 55 1,f_ 55 8 1] ⟨some 58,.mkS 1 [.int .u8 0] 0 [],none⟩ (.alt [m_ 57 9,l_ 56 55 1,f_ 55 8 1] ⟨some 66,.app 1 1 (.t 58) (.t 65),none⟩ (tk [⟨some 67,.p (.build [iV 0,.own 4290 0 1 []] [(0,1,.t 57),(1,1,.t 66)]),none⟩] (.alt [l_ 56 55 1,f_ 55 8 1] ⟨some 68,.mkS 2 [iV 0,.lst 1 []] 1 [(0,.t 67)],none⟩ (.alt [] ⟨some 69,.app 2 32 (.t 56) (.t 68),none⟩ (tk [f_ 70 8 1] (.alt [] (s_ 70 69 1) .fin .stop)) .stop) .stop)) .stop) .stop)
def nR:=[m_ 53 9,B_ .add 54 53 1,m_ 9 54]
def BV:IR:=(.seq (sr CF (.ite (.t 52) .skip (.exit 2))) (.seq (.block 3 (.draw nQ)) (.reg nR)))
def nS:=[L_ 71 8 2,s_ 6 71 2]
def c292:Dl:=⟨3,72,[.cell 6 2 true],sr BW (sr BX (.seq (Jt 0 BU) (sr CA (sd CB (.seq (sr CC (iz 42 (rr CD))) (.seq (sr CE (Jt 2 BV)) (rr nS)))))))⟩
def K292 (D:Az):Prop:=∀a0 a1 a2 r,sK a0 a1 a2=some r→D 292 ⟨[.agg (Ah a0),iV a1,Bl a2],[]⟩ ⟨.agg (Ak r u_ (Bk 0)),[],[]⟩
abbrev Ib:=fun (r:List (Nat×List V))=>(384,[Ba 385 [],Ad 386 []])::r
abbrev Jm:=fun x0 x1 (r:List (Nat×V))=>(1,iV x0)::(2,Bl x1)::(6,.ptr 384 0)::r
theorem F292 (H303:nC C):K292 (FO C c292):=by
 intro a0 a1 a2 r h0
 refine f0 (Bw 4 (Jm a1 a2 [(3,.ptr 192 0)]) (Ib [(192,Ah a0)]) (Ag (Ac (st (c_ (v:=.agg (Ah a0)) (Aq ⟨tv,tv⟩ rfl (nl rfl)) (bb h0 fun r1 e2 h0=>Uw (H303 a0 r1 e2) (af rfl) (o_ (Bw 2 (Jm a1 a2 [(3,.ptr 192 0),(7,Ba 704 r1)]) (Ib [(192,Ah a0)]) (Ag (Be (bb h0 fun r18 e19 h0=>Cs (R:=(fun S=>∃p13:List UInt8,p13=r18∧S=⟨Jm a1 a2 [(3,.ptr 192 0),(7,Ba 704 p13)],Ib [(192,Ah a0)],[]⟩)) (Qt a1 a2) (fun s S=>match s with | p7=>S=⟨Jm a1 a2 [(3,.ptr 192 0),(7,Ba 704 p7)],Ib [(192,Ah a0)],[]⟩) e19 _ (Ar (by kernel_rfl)) rfl 0 (fun _=>rfl) ?_ ?_)))))))))))
 ·rintro S _ hfg ⟨p13,rfl,rfl⟩
  refine At _ hfg (Ag (Ac (st (An rfl tv (st (An rfl tv (bb h0 fun s20 e21 h0=>st (c_ (Dk (e:=By) (y:=s20) rfl rfl tv ⟨tv,tv⟩ rfl rfl e21) (st (An rfl tv (st (copy_ (e:=By) (l1:=a2) rfl rfl tv rfl (Aw (At ⟨[(1,iV a1),(2,Bl a2),(3,.ptr 192 0),(6,.ptr 384 0),(7,Ba 704 (ovl p13 a1.toNat (a2.take s20.length)))],[(192,Ah a0),(384,[Ba 385 [],Ad 386 []])],[]⟩ (fg ⟨rfl,rfl,rfl,rfl,congrArg (fun z=>some ((.own 704 0 1 z:V))) Em,tv⟩ ⟨rfl,rfl,tv⟩) (Ag (gg h0 fun c22 h0=>drawJ (fun S=>S=⟨Jm a1 a2 [(7,Ba 704 (ovl p13 a1.toNat (a2.take s20.length))),(8,.ptr 512 0)],Ib [(512,[Bl a0.held,Ad 2240 (([]:List Ae)++a0.Aj)])],[]⟩) ?_ (fun J23=>?_)))))))))))))))))
  ·rintro _ rfl
   refine Ag (Ag (Ac (st (An rfl tv (Lp rfl (o_ (Bw 2 (Jm a1 a2 [(7,Ba 704 (ovl p13 a1.toNat (a2.take s20.length))),(8,.ptr 512 0),(42,.bool ((a2.length:Int)==0))]) (Ib [(512,[Bl a0.held,Ad 2240 (([]:List Ae)++a0.Aj)])]) (Gi h0 (fun c24 h0=>?_) (fun c24 h0=>?_)))))))))
   ·obtain rfl:=sj h0
    exact Gs 5
   ·refine En (cF (Ag (Ag (Ac (st (An rfl tv (st (c_ (Aq ⟨tv,tv,tv⟩ rfl (by decide)) (o_ (Bw 2 (Jm a1 a2 [(7,Ba 704 (ovl p13 a1.toNat (a2.take s20.length))),(8,.ptr 512 0),(9,iV (wi ((a1).tdiv 32)))]) (Ib [(512,[Bl a0.held,Ad 2240 (([]:List Ae)++a0.Aj)])]) (Be (bb h0 fun r53 e54 h0=>Cs (R:=(fun S=>∃p45:List Ae,p45=r53∧S=⟨[(6,.ptr 384 0),(8,.ptr 512 0)],Ib [(512,[Bl a0.held,Ad 2240 p45])],[]⟩)) (Nv a1 a2 p13 s20) (fun s S=>match s with | (p34,p35)=>S=⟨Jm a1 a2 [(7,Ba 704 (ovl p13 a1.toNat (a2.take s20.length))),(8,.ptr 512 0),(9,iV p34)],Ib [(512,[Bl a0.held,Ad 2240 p35])],[]⟩) e54 _ (Ar (by kernel_rfl)) rfl 2 (fun _=>rfl) ?_ ?_))))))))))))
    ·rintro S _ hfg ⟨p45,rfl,rfl⟩
     refine At _ hfg ?_
     obtain rfl:=sj h0
     exact Gs 5
    ·rintro ⟨p34,p35⟩ o1 _ K1 rfl h1 hx1 hK1 hE1 hR1
     unfold Nv at h1
     refine Ag (Ag (Ac (st (An rfl tv (st (c_ (Aq t3 rfl tv) (st (An rfl tv (st (An rfl tv (Lp rfl (st (c_ (Aq t3 rfl tv) (st (c_ (Aq t3 rfl tv) (Aw (bv h1 fun v46 e47 h1=>At ⟨Jm a1 a2 [(7,Ba 704 (ovl p13 a1.toNat (a2.take s20.length))),(8,.ptr 512 0),(9,iV p34),(52,.bool v46)],Ib [(512,[Bl a0.held,Ad 2240 p35])],[]⟩ (Ar (by subst e47; kernel_rfl)) (Gi h1 (fun c48 h1=>?_) (fun c48 h1=>?_)))))))))))))))))))
     ·refine mA 4 (bb h1 fun s49 e50 h1=>gg h1 fun c51 h1=>gg h1 fun c52 h1=>Dj (Ao tv (c_ (Aq ⟨tv,tv⟩ rfl tv) (⟨tv,Ao tv (c_ (Aq ⟨tv,tv⟩ rfl (nl rfl)) (⟨tv,Ao tv (An rfl tv (⟨tv,Ao tv (An rfl tv (⟨tv,Ao tv (An rfl tv (⟨tv,Ao tv (c_ (Aq t3 rfl tv) (⟨tv,Ao tv (An rfl tv (⟨tv,Ao tv (c_ (Aq t3 rfl tv) (⟨tv,Ao tv (c_ (Aq t3 rfl tv) (⟨tv,Ao tv (c_ (Dk (e:=By) (y:=s49) rfl rfl tv ⟨tv,tv,tv⟩ rfl rfl e50) (⟨tv,Do (Ia tv tv (d0 ⟨⟨.inl tv,Cq (Dk (e:=By) (y:=s49) rfl rfl tv ⟨tv,tv,tv⟩ rfl rfl e50) rfl⟩,⟨.inl tv,Cq (Aq t3 rfl tv) rfl⟩,⟨.inl tv,Cq (Aq t3 rfl tv) rfl⟩,⟨.inl tv,Cq (Ki (v:=iV p34) rfl tv) rfl⟩,⟨.inl tv,Cq (Aq t3 rfl tv) rfl⟩,⟨.inl tv,Cq (Ki (v:=iV p34) rfl tv) rfl⟩,⟨.inl tv,Cq (Ki (v:=Ba 704 (ovl p13 a1.toNat (a2.take s20.length))) rfl tv) rfl⟩,⟨.inl tv,Cq (Ki (v:=iV p34) rfl tv) rfl⟩,⟨.inl tv,Cq (Aq ⟨tv,tv⟩ rfl (nl rfl)) rfl⟩,⟨.inl tv,Cq (Aq ⟨tv,tv⟩ rfl tv) rfl⟩,tv⟩ (Do (Fx (e:=By) (l0:=([]:List UInt8)) (l1:=s49) rfl rfl tv rfl (by decide) c51 (dw [(1,iV a1),(2,Bl a2),(6,.ptr 384 0),(7,Ba 704 (ovl p13 a1.toNat (a2.take s20.length))),(8,.ptr 512 0),(9,iV p34),(55,.ptr 512 1),(56,Ad 2240 p35),(57,iV p34),(66,Ba 3712 (([]:List UInt8)++s49))] [(384,[Ba 385 [],Ad 386 []]),(512,[Bl a0.held,Ad 2240 p35])] hB (Ao tv (c_ (v:=.agg [iV p34,Ba 3712 (([]:List UInt8)++s49)]) (Aq ⟨tv,tv,tv⟩ rfl ⟨⟨rfl,rfl,nl rfl⟩,⟨rfl,rfl,nl rfl⟩,tv⟩) (⟨tv,Do (Ia ⟨tv,tv⟩ ⟨⟨nl rfl,rfl,rfl⟩,tv⟩ (d0 hB (Do (Fx (e:=Ax) (l0:=p35) (l1:=([Ae.mk p34 (([]:List UInt8)++s49)]:List Ae)) rfl rfl tv rfl (by decide) c52 (d0 tv ?_)) Ca))) Ca⟩))))) Ca))) Ca⟩))⟩))⟩))⟩))⟩))⟩))⟩))⟩))⟩))⟩))))
      refine Ao tv (c_ (Aq ⟨tv,tv⟩ rfl tv) (⟨tv,Do (Ej rfl rfl tv rfl rfl rfl (nl rfl) (d0 tv (d_ (Bw 2 (Jm a1 a2 [(7,Ba 704 (ovl p13 a1.toNat (a2.take s20.length))),(8,.ptr 512 0),(9,iV p34)]) (Ib [(512,[Bl a0.held,.own 2240 0 2 ((p35++([Ae.mk p34 (([]:List UInt8)++s49)]:List Ae)).map Ax)])]) (Ac (st (An rfl tv (st (c_ (Aq t3 rfl tv) (st (An rfl tv (Aw ?_)))))))))))) Ca⟩))
      obtain rfl:=sj h1
      exact kn hK1 rfl rfl
     ·obtain rfl:=sj h1
      obtain rfl:=hx1 _ rfl
      refine In rfl ?_
      exact jn hE1 ⟨_,rfl,rfl⟩
  ·refine Ao tv (c_ (Aq ⟨tv,tv⟩ rfl tv) ?_)
   refine ⟨tv,Ao tv (c_ (Aq ⟨tv,tv⟩ rfl (nl rfl)) (⟨tv,Ao tv (c_ (Aq ⟨tv,tv⟩ rfl tv) (⟨tv,Ao tv (c_ (Aq ⟨tv,tv⟩ rfl (nl rfl)) (⟨tv,Do (Ia tv tv ?_) ?_⟩))⟩))⟩))⟩
   ·refine d0 hB ?_
    refine Do (Fx (e:=Ax) (l0:=([]:List Ae)) (l1:=a0.Aj) rfl rfl tv rfl (by decide) c22 ?_) ?_
    ·refine d0 hB ?_
     refine Ao tv (c_ (v:=.agg [Bl a0.held,Ad 2240 (([]:List Ae)++a0.Aj)]) (Aq ⟨tv,tv,tv⟩ rfl ⟨⟨rfl,rfl,nl rfl⟩,⟨rfl,rfl,nl rfl⟩,tv⟩) (⟨tv,Do (Eb (d0 ⟨⟨.inl tv,Cq (Aq ⟨tv,tv,tv⟩ rfl ⟨⟨rfl,rfl,nl rfl⟩,⟨rfl,rfl,nl rfl⟩,tv⟩) rfl⟩,⟨.inl tv,Cq (Aq ⟨tv,tv⟩ rfl (nl rfl)) rfl⟩,⟨.inl tv,Cq (Aq ⟨tv,tv⟩ rfl tv) rfl⟩,tv⟩ (Do (Ej rfl rfl tv rfl rfl rfl (nl rfl) (d0 tv (Jo ?_))) Ca))) Ca⟩))
     exact jn J23 rfl
    ·refine Do (Eb ?_) Ca
     refine d0 hB (Do (Fx (e:=Ax) (l0:=([]:List Ae)) (l1:=a0.Aj) rfl rfl tv rfl (by decide) c22 (d0 hB (Ao tv (c_ (v:=.agg [Bl a0.held,Ad 2240 (([]:List Ae)++a0.Aj)]) (Aq ⟨tv,tv,tv⟩ rfl ⟨⟨rfl,rfl,nl rfl⟩,⟨rfl,rfl,nl rfl⟩,tv⟩) (⟨tv,Do (Ej rfl rfl tv rfl rfl rfl (nl rfl) (d0 tv (Jo ?_))) Ca⟩))))) Ca)
     exact jn J23 rfl
   ·refine Do (Eb ?_) Ca
    refine d0 hB (Do (Ia tv tv (d0 hB (Do (Fx (e:=Ax) (l0:=([]:List Ae)) (l1:=a0.Aj) rfl rfl tv rfl (by decide) c22 (d0 hB (Ao tv (c_ (v:=.agg [Bl a0.held,Ad 2240 (([]:List Ae)++a0.Aj)]) (Aq ⟨tv,tv,tv⟩ rfl ⟨⟨rfl,rfl,nl rfl⟩,⟨rfl,rfl,nl rfl⟩,tv⟩) (⟨tv,Do (Ej rfl rfl tv rfl rfl rfl (nl rfl) (d0 tv (Jo ?_))) Ca⟩))))) Ca))) Ca)
    exact jn J23 rfl
 ·rintro p7 o1 _ K1 rfl h1 hx1 hK1 hE1 hR1
  unfold Qt at h1
  refine Ag (Ag (Ac (st (An rfl tv (tO rfl (st (An rfl tv (st (An rfl tv (Lp rfl (st (c_ (Aq t3 rfl tv) (st (c_ (Aq t3 rfl tv) (st (An rfl tv (st (Cx (u:=Ba 704 p7) rfl (fun hg=>(Ki (v:=Ba 704 p7) rfl tv)) (st (Cx (u:=iV (p7.length:Int)) rfl (fun hg=>(Jb (e:=By) (l0:=p7) rfl rfl (fun _=>hg))) (st (Cx (u:=iV (((p7.length:Int)).tmod 32)) rfl (fun hg=>(Aq ⟨(fun _=>hg),tv,tv⟩ rfl (by decide))) (st (Cx (u:=.bool ((((p7.length:Int)).tmod 32) != 0)) rfl (fun hg=>(Aq ⟨(fun _=>hg),tv,tv⟩ rfl tv)) (st (Ea rfl rfl rfl tv (fun h=>aX h) rfl (Aw (bv h1 fun v14 e15 h1=>At ⟨Jm a1 a2 [(3,.ptr 192 0),(7,Ba 704 p7),(24,.bool v14)],Ib [(192,Ah a0)],[]⟩ (Ar (by subst e15; kernel_rfl)) (Gi h1 (fun c16 h1=>?_) (fun c16 h1=>?_))))))))))))))))))))))))))))))
  ·refine En (cF (Be (Ac (st (An rfl tv (st (Ia ⟨tv,tv⟩ ⟨⟨nl rfl,rfl,rfl⟩,tv⟩ (gg h1 fun c17 h1=>st (Fx (e:=By) (l0:=p7) (l1:=([(0:UInt8)]:List UInt8)) rfl rfl tv rfl (by decide) c17 (st (An rfl tv (Aw (Qc ?_)))))))))))))
   obtain rfl:=sj h1
   exact kn hK1 rfl rfl
  ·obtain rfl:=sj h1
   obtain rfl:=hx1 _ rfl
   refine In rfl ?_
   exact jn hE1 ⟨_,rfl,rfl⟩

/- loop.example/g00149/spec.l02Crc -/
def JB:=[i_ 2 0]
def JC:=[i_ 3 4294967295]
def JD:=[i_ 4 0]
def JE:=[m_ 6 4,m_ 7 0,n_ 8 7,b_ .lss 9 6 8]
def JF:=[m_ 12 3,m_ 13 0,m_ 14 4,x_ 15 13 14 1,l_ 16 15 1,iQ 17 (.conv .i64 (.t 16)),b_ .xor 18 12 17,m_ 3 18]
def JG:=[i_ 5 0]
def JH:=[m_ 19 5,B_ .lss 20 19 8]
def JI:=[m_ 23 3,B_ .rem 24 23 2,B_ .eql 25 24 1]
def JJ:=[m_ 26 3,B_ .quo 27 26 2,B_ .xor 28 27 3988292384,m_ 3 28]
def JK:=[m_ 29 3,B_ .quo 30 29 2,m_ 3 30]
def oJ:=[m_ 21 5,B_ .add 22 21 1,m_ 5 22]
def IZ:IR:=(.seq (sr JH (.ite (.t 20) .skip (.exit 2))) (.seq (.block 3 (sr JI (.ite (.t 25) (.reg JJ) (.reg JK)))) (.reg oJ)))
def oK:=[m_ 10 4,B_ .add 11 10 1,m_ 4 11]
def JA:IR:=(.seq (sr JE (.ite (.t 9) .skip (.exit 0))) (.seq (.block 1 (sr JF (sr JG (Jt 2 IZ)))) (.reg oK)))
def oL:=[m_ 31 3,B_ .xor 32 31 4294967295,m_ 2 32]
def c353:Dl:=⟨1,33,[.t 2],sr JB (sr JC (.seq (sr JD (Jt 0 JA)) (rr oL)))⟩
def K353 (D:Az):Prop:=∀a0 r,XI a0=some r→D 353 ⟨[Bl a0],[]⟩ ⟨iV r,[],[]⟩
theorem F353:K353 (FO C c353):=by
 intro a0 r h0
 refine f0 (Bw 12 [(0,Bl a0),(3,iV 4294967295),(4,iV 0)] [] (Be (bb h0 fun r61 e62 h0=>Cs (R:=(fun S=>∃p37:Int,p37=r61∧S=⟨[(3,iV p37)],[],[]⟩)) (Of a0) (fun s S=>match s with | (p17,p18)=>S=⟨[(0,Bl a0),(3,iV p17),(4,iV p18)],[],[]⟩) e62 _ (Ar (by kernel_rfl)) rfl 0 (fun _=>rfl) ?_ ?_)))
 ·rintro S _ hfg ⟨p37,rfl,rfl⟩
  refine At _ hfg ?_
  obtain rfl:=sj h0
  exact Gs 6
 ·rintro ⟨p17,p18⟩ o1 _ K1 rfl h1 hx1 hK1 hE1 hR1
  refine Ch 4 (Ac (Lp rfl (o_ (Bw 2 [(0,Bl a0),(3,iV p17),(4,iV p18),(9,.bool (decide (p18<(a0.length:Int))))] [] (Gi h1 (fun c38 h1=>?_) (fun c38 h1=>?_))))))
  ·refine Ch 8 (Ac (bb h1 fun y39 e40 h1=>gQ rfl rfl e40 (o_ (Bw 9 [(0,Bl a0),(3,iV (Um .i64 p17 (wi ((y39).toNat:Int)))),(4,iV p18),(5,iV 0)] [] (Be (bb h1 fun r59 e60 h1=>Cs (R:=(fun S=>∃p53:Int,p53=r59∧S=⟨[(0,Bl a0),(3,iV p53),(4,iV p18)],[],[]⟩)) (Og) (fun s S=>match s with | (p46,p47)=>S=⟨[(0,Bl a0),(3,iV p46),(4,iV p18),(5,iV p47)],[],[]⟩) e60 _ (Ar (by kernel_rfl)) rfl 2 (fun _=>rfl) ?_ ?_))))))
   ·rintro S _ hfg ⟨p53,rfl,rfl⟩
    refine Qc (At _ hfg (Ch 4 ?_))
    obtain rfl:=sj h1
    exact kn hK1 rfl rfl
   ·rintro ⟨p46,p47⟩ o2 _ K2 rfl h2 hx2 hK2 hE2 hR2
    refine Bw 5 [(0,Bl a0),(3,iV p46),(4,iV p18),(5,iV p47),(20,.bool (decide (p47<8)))] [] (Gi h2 (fun c54 h2=>?_) (fun c54 h2=>?_))
    ·refine mA 3 (eR (fun S=>∃p56:Int,S=⟨[(0,Bl a0),(3,iV p56),(4,iV p18),(5,iV p47)],[],[]⟩∧Vd p47 p56=some o2) ?_ (fun J57=>?_))
     ·rintro _ ⟨p56,rfl,h2⟩
      refine Ch 5 ?_
      obtain rfl:=sj h2
      exact kn hK2 rfl rfl
     ·refine Ag ?_
      refine Ac (st (An rfl tv (st (c_ (Aq ⟨tv,tv,tv⟩ rfl (by decide)) (o_ (Bw 2 [(0,Bl a0),(3,iV p46),(4,iV p18),(5,iV p47),(25,.bool (((p46).tmod 2)==1))] [] (Gi h2 (fun c58 h2=>?_) (fun c58 h2=>?_))))))))
      ·refine Ac (st (An rfl tv (st (c_ (Aq ⟨tv,tv,tv⟩ rfl (by decide)) (o_ (Ch 4 ?_))))))
       exact jn J57 ⟨_,rfl,h2⟩
      ·refine Ac (st (An rfl tv (st (c_ (Aq ⟨tv,tv,tv⟩ rfl (by decide)) (st (An rfl tv (Aw (Qc ?_))))))))
       exact jn J57 ⟨_,rfl,h2⟩
    ·obtain rfl:=sj h2
     obtain rfl:=hx2 _ rfl
     refine In rfl ?_
     exact jn hE2 ⟨_,rfl,rfl⟩
  ·obtain rfl:=sj h1
   obtain rfl:=hx1 _ rfl
   refine In rfl ?_
   exact jn hE1 ⟨_,rfl,rfl⟩

/- loop.example/g00149/spec.l02Frame -/
def EU:List Bg:=[⟨some 2,.nilS 1,none⟩]
def EV:=[m_ 6 0,n_ 7 6,B_ .add 8 7 1,m_ 3 8]
def EW:List Bg:=[m_ 9 3,B_ .quo 10 9 256,iQ 11 (.conv .u8 (.t 10)),m_ 12 3,B_ .rem 13 12 256,iQ 14 (.conv .u8 (.t 13)),⟨some 15,.mkS 1 [.int .u8 0] 2 [(0,.t 11),(1,.t 14)],none⟩,m_ 16 0,⟨some 17,.app 1 1 (.t 15) (.t 16),none⟩,m_ 4 17]
def EX:=[m_ 18 4,q_ 19 353 [.t 18],m_ 5 19]
def EY:List Bg:=[m_ 20 4,m_ 21 5,B_ .quo 22 21 16777216,iQ 23 (.conv .u8 (.t 22)),m_ 24 5,B_ .quo 25 24 65536,B_ .rem 26 25 256,iQ 27 (.conv .u8 (.t 26)),m_ 28 5,B_ .quo 29 28 256,B_ .rem 30 29 256,iQ 31 (.conv .u8 (.t 30)),m_ 32 5,B_ .rem 33 32 256,iQ 34 (.conv .u8 (.t 33)),⟨some 35,.mkS 1 [.int .u8 0] 4 [(0,.t 23),(1,.t 27),(2,.t 31),(3,.t 34)],none⟩,⟨some 36,.app 1 1 (.t 20) (.t 35),none⟩,m_ 2 36]
def c304:Dl:=⟨1,37,[.t 2],sr EU (sr EV (sr EW (sr EX (rr EY))))⟩
def wC (D:Az):Prop:=∀a0 r,lJ a0=some r→D 304 ⟨[Bl a0],[]⟩ ⟨Ba 0 r,[],[]⟩
theorem F304 (H353:K353 C):wC (FO C c304):=by
 intro a0 r h0
 refine f0 (Bw 3 [(0,Bl a0)] [] (Ag (Ac (st (An rfl tv (Lp rfl (o_ (Bw 3 [(0,Bl a0),(3,iV (wi ((a0.length:Int)+1)))] [] (Ag (Ac (st (An rfl tv (st (c_ (Aq ⟨tv,tv,tv⟩ rfl (by decide)) (st (c_ (iG (Aq ⟨tv,tv⟩ rfl tv)) (st (An rfl tv (st (c_ (Aq ⟨tv,tv,tv⟩ rfl (by decide)) (st (c_ (iG (Aq ⟨tv,tv⟩ rfl tv)) (o_ (Ch 2 (Ac (gg h0 fun c1 h0=>st (Fx (e:=By) (l0:=([b8 (wi (((wi ((a0.length:Int)+1))).tdiv 256)),b8 (((wi ((a0.length:Int)+1))).tmod 256)]:List UInt8)) (l1:=a0) rfl rfl tv rfl (by decide) c1 (st (An rfl tv (Aw (bv h0 fun v2 e3 h0=>At ⟨[(4,Ba 960 v2)],[],[]⟩ (Ar (by subst e3; kernel_rfl)) (Ag (Ac (st (An rfl tv (bb h0 fun r4 e5 h0=>Ze (H353 v2 r4 e5) (o_ (Bw 2 [(4,Ba 960 v2),(5,iV r4)] [] (Ch 3 (Ac (st (c_ (Aq ⟨tv,tv,tv⟩ rfl (by decide)) (st (c_ (iG (Aq ⟨tv,tv⟩ rfl tv)) (st (An rfl tv (st (c_ (Aq ⟨tv,tv,tv⟩ rfl (by decide)) (st (c_ (Aq ⟨tv,tv,tv⟩ rfl (by decide)) (st (c_ (iG (Aq ⟨tv,tv⟩ rfl tv)) (st (An rfl tv (st (c_ (Aq ⟨tv,tv,tv⟩ rfl (by decide)) (st (c_ (Aq ⟨tv,tv,tv⟩ rfl (by decide)) (st (c_ (iG (Aq ⟨tv,tv⟩ rfl tv)) (st (An rfl tv (st (c_ (Aq ⟨tv,tv,tv⟩ rfl (by decide)) (st (c_ (iG (Aq ⟨tv,tv⟩ rfl tv)) (st (Ia ⟨tv,tv,tv,tv,tv⟩ ⟨⟨nl rfl,rfl,rfl⟩,⟨nl rfl,rfl,rfl⟩,⟨nl rfl,rfl,rfl⟩,⟨nl rfl,rfl,rfl⟩,tv⟩ (gg h0 fun c6 h0=>st (Fx (e:=By) (l0:=v2) (l1:=([b8 (wi ((r4).tdiv 16777216)),b8 (((wi ((r4).tdiv 65536))).tmod 256),b8 (((wi ((r4).tdiv 256))).tmod 256),b8 ((r4).tmod 256)]:List UInt8)) rfl rfl tv rfl (by decide) c6 (st (An rfl tv (Aw (bv h0 fun v7 e8 h0=>At ⟨[(2,Ba 960 v7)],[],[]⟩ (Ar (by subst e8; kernel_rfl)) ?_))))))))))))))))))))))))))))))))))))))))))))))))))))))))))))))))))))))))))
 obtain rfl:=sj h0
 exact Du (Bp rfl rfl rfl rfl rfl tv)

/- loop.example/g00149/spec.l02Next -/
def IG:List Bg:=[⟨some 4,.nilS 1,none⟩,k_ 5 (.bool false)]
def IH:=[m_ 10 1,B_ .add 11 10 2,m_ 12 0,n_ 13 12,b_ .gtr 14 11 13]
def II:List Bg:=[⟨some 15,.mkS 1 [.int .u8 0] 0 [],none⟩,m_ 4 15,k_ 5 (.bool false)]
def IJ:=tk [m_ 16 0,m_ 17 1,x_ 18 16 17 1,l_ 19 18 1,iQ 20 (.conv .i64 (.t 19)),B_ .mul 21 20 256,m_ 22 0,m_ 23 1,B_ .add 24 23 1,x_ 25 22 24 1,l_ 26 25 1,iQ 27 (.conv .i64 (.t 26)),b_ .add 28 21 27,B_ .sub 29 28 1,m_ 6 29] .fin
def IK:=[m_ 30 6,B_ .lss 31 30 0,m_ 32 31,mF 32 33 6,pF 32 34 (.bin .gtr (.t 33) (.c (iV 2000))),po 35 32 34,m_ 36 35,mF 36 37 1,mF 36 38 6,pF 36 39 (.bin .add (.t 37) (.t 38)),pF 36 40 (.bin .add (.t 39) (.c (iV 6))),mF 36 41 0,pF 36 42 (.len (.t 41)),pF 36 43 (.bin .gtr (.t 40) (.t 42)),po 44 36 43]
def IL:List Bg:=[⟨some 45,.mkS 1 [.int .u8 0] 0 [],none⟩,m_ 4 45,k_ 5 (.bool false)]
def IM:List Bg:=[⟨some 46,.mkS 1 [.int .u8 0] 0 [],none⟩,m_ 47 0,m_ 48 1,B_ .add 49 48 2,m_ 50 1,B_ .add 51 50 2,m_ 52 6,b_ .add 53 51 52,⟨some 54,.p (.slice (.t 47) (some (.t 49)) (some (.t 53)) 1),none⟩,⟨some 55,.app 1 1 (.t 46) (.t 54),none⟩,m_ 7 55]
def IN:=[m_ 56 7,q_ 57 304 [.t 56],m_ 8 57]
def IP:=[i_ 9 0]
def IQ:=[m_ 58 9,B_ .lss 59 58 4]
def oF:=tk [m_ 62 0,m_ 63 1,B_ .add 64 63 2,m_ 65 6,b_ .add 66 64 65,m_ 67 9,b_ .add 68 66 67,x_ 69 62 68 1,l_ 70 69 1,m_ 71 8,m_ 72 6,⟨some 73,.p (.bin .add (.c (iV 2)) (.t 72)),none⟩,m_ 74 9,b_ .add 75 73 74,x_ 76 71 75 1,l_ 77 76 1,b_ .neq 78 70 77] .fin
def oG:List Bg:=[⟨some 79,.mkS 1 [.int .u8 0] 0 [],none⟩,m_ 4 79,k_ 5 (.bool false)]
def oH:=[m_ 60 9,B_ .add 61 60 1,m_ 9 61]
def IF:IR:=(.seq (sr IQ (.ite (.t 59) .skip (.exit 0))) (.seq (.block 1 (sd oF (iz 78 (rr oG)))) (.reg oH)))
def oI:=[m_ 80 7,m_ 4 80,k_ 5 (.bool true)]
def c351:Dl:=⟨2,81,[.t 4,.t 5],sr IG (.seq (sr IH (iz 14 (rr II))) (sd IJ (.seq (sr IK (iz 44 (rr IL))) (sr IM (sr IN (.seq (sr IP (Jt 0 IF)) (rr oI)))))))⟩
def K351 (D:Az):Prop:=∀a0 a1 r,XF a0 a1=some r→D 351 ⟨[Bl a0,iV a1],[]⟩ ⟨.tup [Ba 0 r.1,.bool r.2],[],[]⟩
theorem F351 (H304:wC C):K351 (FO C c351):=by
 intro a0 a1 r h0
 refine f0 (Bw 4 [(0,Bl a0),(1,iV a1)] [] (Ag (Ag (Ac (st (An rfl tv (st (c_ (Aq t3 rfl tv) (st (An rfl tv (Lp rfl (o_ (Bw 2 [(0,Bl a0),(1,iV a1),(14,.bool (decide ((wi (a1+2))>(a0.length:Int))))] [] (Gi h0 (fun c1 h0=>?_) (fun c1 h0=>?_)))))))))))))))
 ·obtain rfl:=sj h0
  exact Gs 6
 ·refine mA 3 (bb h0 fun y2 e3 h0=>bb h0 fun y4 e5 h0=>Dj (Ao tv (An rfl tv (⟨tv,Ao tv (An rfl tv (⟨tv,d_ (xv_ rfl rfl rfl e3 (Dj (Ao tv (c_ (Aq ⟨tv,tv⟩ rfl (nl rfl)) (⟨tv,Ao tv (c_ (Aq ⟨tv,tv⟩ rfl tv) (⟨tv,Ao tv (c_ (Aq t3 rfl tv) (⟨tv,Ao tv (An rfl tv (⟨tv,Ao tv (An rfl tv (⟨tv,Ao tv (c_ (Aq t3 rfl tv) (⟨tv,d_ (xv_ rfl rfl rfl e5 (Dj (Ao tv (c_ (Aq ⟨tv,tv⟩ rfl (nl rfl)) (⟨tv,Ao tv (c_ (Aq ⟨tv,tv⟩ rfl tv) (⟨tv,Ao tv (c_ (Aq t3 rfl tv) (⟨tv,Ao tv (c_ (Aq t3 rfl tv) (⟨tv,Ao tv (An rfl tv (⟨tv,?_⟩))⟩))⟩))⟩))⟩)))))⟩))⟩))⟩))⟩))⟩))⟩)))))⟩))⟩))))
  refine Jo (bv h0 fun v6 e7 h0=>At ⟨[(0,Bl a0),(1,iV a1),(6,iV v6)],[],[]⟩ (Ar (by subst e7; kernel_rfl)) (Ag (Ag (Ac (st (An rfl tv (st (c_ (Aq t3 rfl tv) (st (An rfl tv (st (Cx (u:=iV v6) rfl (fun hg=>(Ki (v:=iV v6) rfl tv)) (st (Cx (u:=.bool (decide (v6>2000))) rfl (fun hg=>(Aq ⟨(fun _=>hg),tv,tv⟩ rfl tv)) (st (Ea rfl rfl rfl tv (fun h=>aX h) rfl (st (An rfl tv (st (Cx (u:=iV a1) rfl (fun hg=>(Ki (v:=iV a1) rfl tv)) (st (Cx (u:=iV v6) rfl (fun hg=>(Ki (v:=iV v6) rfl tv)) (st (Cx (u:=iV (wi (a1+v6))) rfl (fun hg=>(Aq ⟨(fun _=>hg),(fun _=>hg),tv⟩ rfl tv)) (st (Cx (u:=iV (wi ((wi (a1+v6))+6))) rfl (fun hg=>(Aq ⟨(fun _=>hg),tv,tv⟩ rfl tv)) (st (Cx (u:=Bl a0) rfl (fun hg=>(Ki (v:=Bl a0) rfl tv)) (st (Cx (u:=iV (a0.length:Int)) rfl (fun hg=>(Dv (e:=By) (l0:=a0) rfl rfl (fun _=>hg))) (st (Cx (u:=.bool (decide ((wi ((wi (a1+v6))+6))>(a0.length:Int)))) rfl (fun hg=>(Aq ⟨(fun _=>hg),(fun _=>hg),tv⟩ rfl tv)) (st (Ea rfl rfl rfl tv (fun h=>aX h) rfl (Aw (bv h0 fun v8 e9 h0=>At ⟨[(0,Bl a0),(1,iV a1),(6,iV v6),(44,.bool v8)],[],[]⟩ (Ar (by subst e9; kernel_rfl)) (Gi h0 (fun c10 h0=>?_) (fun c10 h0=>?_))))))))))))))))))))))))))))))))))))))
  ·obtain rfl:=sj h0
   exact Gs 6
  ·refine En (cF (Ag (Ac (st (Ia tv tv (st (An rfl tv (st (An rfl tv (st (c_ (Aq t3 rfl tv) (st (An rfl tv (st (c_ (Aq t3 rfl tv) (st (An rfl tv (st (c_ (Aq t3 rfl tv) (bb h0 fun s11 e12 h0=>st (c_ (Ha (e:=By) (y:=s11) rfl rfl tv ⟨tv,tv,tv⟩ rfl rfl e12) (gg h0 fun c13 h0=>st (Fx (e:=By) (l0:=([]:List UInt8)) (l1:=s11) rfl rfl tv rfl (by decide) c13 (o_ (Bw 2 [(0,Bl a0),(1,iV a1),(6,iV v6),(7,Ba 2944 (([]:List UInt8)++s11))] [] (Ag (Ac (st (An rfl tv (bb h0 fun r14 e15 h0=>Uw (H304 (([]:List UInt8)++s11) r14 e15) (af rfl) (o_ (Bw 7 [(0,Bl a0),(1,iV a1),(6,iV v6),(7,Ba 2944 (([]:List UInt8)++s11)),(8,Ba 3648 r14),(9,iV 0)] [] (Be (bb h0 fun r42 e43 h0=>Cs (R:=(fun S=>.inl ()=r42∧S=⟨[(7,Ba 2944 (([]:List UInt8)++s11))],[],[]⟩)) (Kb a0 a1 v6 r14) (fun s S=>match s with | p24=>S=⟨[(0,Bl a0),(1,iV a1),(6,iV v6),(7,Ba 2944 (([]:List UInt8)++s11)),(8,Ba 3648 r14),(9,iV p24)],[],[]⟩) e43 _ (Ar (by kernel_rfl)) rfl 0 (fun _=>rfl) ?_ ?_))))))))))))))))))))))))))))))))))
   ·rintro S _ hfg ⟨rfl,rfl⟩
    refine At _ hfg ?_
    obtain rfl:=sj h0
    exact Gs 6
   ·rintro p24 o1 _ K1 rfl h1 hx1 hK1 hE1 hR1
    refine Bw 5 [(0,Bl a0),(1,iV a1),(6,iV v6),(7,Ba 2944 (([]:List UInt8)++s11)),(8,Ba 3648 r14),(9,iV p24),(59,.bool (decide (p24<4)))] [] (Gi h1 (fun c34 h1=>?_) (fun c34 h1=>?_))
    ·refine mA 5 (bb h1 fun y35 e36 h1=>bb h1 fun y37 e38 h1=>bb h1 fun y39 e40 h1=>Dj (Ao tv (An rfl tv (⟨tv,Ao tv (An rfl tv (⟨tv,Ao tv (c_ (Aq t3 rfl tv) (⟨tv,Ao tv (An rfl tv (⟨tv,Ao tv (c_ (Aq t3 rfl tv) (⟨tv,Ao tv (An rfl tv (⟨tv,Ao tv (c_ (Aq t3 rfl tv) (⟨tv,d_ (xv_ rfl rfl rfl e36 (Dj (Ao tv (c_ (Aq ⟨tv,tv⟩ rfl (nl rfl)) (⟨tv,Ao tv (An rfl tv (⟨tv,Ao tv (An rfl tv (⟨tv,Ao tv (c_ (Aq t3 rfl tv) (⟨tv,Ao tv (An rfl tv (⟨tv,Ao tv (c_ (Aq t3 rfl tv) (⟨tv,Ao tv (c_ (ci_ rfl rfl e38) (⟨tv,?_⟩))⟩))⟩))⟩))⟩))⟩))⟩)))))⟩))⟩))⟩))⟩))⟩))⟩))⟩))))
     refine fA (c_ (ld_ rfl rfl e40) (⟨⟨Cq (ld_ rfl rfl e40) rfl,tv⟩,Ao tv (c_ (Aq t3 rfl tv) (⟨⟨Cq (ld_ rfl rfl e40) rfl,tv⟩,Jo (At ⟨[(0,Bl a0),(1,iV a1),(6,iV v6),(7,Ba 2944 (([]:List UInt8)++s11)),(8,Ba 3648 r14),(9,iV p24),(78,.bool (((y35).toNat:Int) != ((y39).toNat:Int)))],[],[]⟩ (Ar (by kernel_rfl)) (Gi h1 (fun c41 h1=>?_) (fun c41 h1=>?_)))⟩))⟩))
     ·obtain rfl:=sj h1
      obtain rfl:=hx1 _ rfl
      obtain rfl:=sj h0
      exact uH 6 hR1
     ·refine En (Qc (cF (Ac (st (An rfl tv (st (c_ (Aq t3 rfl tv) (st (An rfl tv (Aw ?_))))))))))
      obtain rfl:=sj h1
      exact kn hK1 rfl rfl
    ·obtain rfl:=sj h1
     obtain rfl:=hx1 _ rfl
     refine In rfl ?_
     exact jn hE1 ⟨rfl,rfl⟩

/- loop.example/g00149/spec.l02Scan -/
def EE:List Bg:=[⟨some 2,.nilS 1,none⟩,i_ 3 0]
def EF:List Bg:=[⟨some 8,.mkS 1 [.lst 1 []] 0 [],none⟩,m_ 4 8]
def EG:=[i_ 5 0]
def EH:=[m_ 10 0,m_ 11 5,q_ 12 351 [.t 10,.t 11],m_ 9 12,e_ 13 9 0,e_ 14 9 1,m_ 6 13,m_ 7 14]
def EI:=[m_ 15 7,N_ 16 15]
def EJ:=[m_ 17 4,m_ 18 5,m_ 2 17,m_ 3 18]
def EK:List Bg:=[m_ 19 4,m_ 20 6,⟨some 21,.mkS 1 [.lst 1 []] 1 [(0,.t 20)],none⟩,⟨some 22,.app 1 24 (.t 19) (.t 21),none⟩,m_ 4 22]
def EL:=[m_ 23 5,m_ 24 6,n_ 25 24,B_ .add 26 25 6,b_ .add 27 23 26,m_ 5 27]
def ED:IR:=(.block 1 (sr EH (.seq (sr EI (iz 16 (rr EJ))) (sr EK (.reg EL)))))
def c302:Dl:=⟨1,28,[.t 2,.t 3],sr EE (sr EF (sr EG (Jt 0 ED)))⟩
def wB (D:Az):Prop:=∀a0 r,fJ a0=some r→D 302 ⟨[Bl a0],[]⟩ ⟨.tup [.own 0 0 1 (r.1.map (eL 1 By)),iV r.2],[],[]⟩
theorem F302 (H351:K351 C):wB (FO C c302):=by
 intro a0 r h0
 refine f0 (Bw 13 [(0,Bl a0),(4,.own 512 0 1 (([]:List (List UInt8)).map (eL 1 By))),(5,iV 0)] [] (Be (bb h0 fun r17 e18 h0=>Cs (R:=(fun _=>False)) (Qx a0) (fun s S=>match s with | (p5,p6)=>S=⟨[(0,Bl a0),(4,.own 512 0 1 (p5.map (eL 1 By))),(5,iV p6)],[],[]⟩) e18 _ (Ar (by kernel_rfl)) rfl 0 (fun h=>h.elim fun _ h=>h.elim) ?_ ?_)))
 ·exact fun _ _ _ h=>h.elim
 ·rintro ⟨p5,p6⟩ o1 _ K1 rfl h1 hx1 hK1 hE1 hR1
  refine Ch 4 (Ac (bb h1 fun r13 e14 h1=>Uw (H351 a0 p6 r13 e14) (af (Cd rfl rfl)) (o_ (Bw 12 [(0,Bl a0),(4,.own 512 0 1 (p5.map (eL 1 By))),(5,iV p6),(6,Ba 768 r13.1),(16,.bool (!r13.2))] [] (Gi h1 (fun c15 h1=>?_) (fun c15 h1=>?_))))))
  ·obtain rfl:=sj h1
   obtain rfl:=hx1 _ rfl
   obtain rfl:=sj h0
   exact uH 7 hR1
  ·refine Ch 6 (Ac (gg h1 fun c16 h1=>st (Fx (e:=(eL 1 By)) (l0:=p5) (l1:=([r13.1]:List (List UInt8))) rfl rfl tv rfl (by decide) c16 (o_ (Bw 2 [(0,Bl a0),(4,.own 512 0 1 ((p5++([r13.1]:List (List UInt8))).map (eL 1 By))),(5,iV p6),(6,Bl r13.1)] [] (Ch 2 (Ac (Lp rfl (o_ (Ch 5 ?_))))))))))
   obtain rfl:=sj h1
   exact kn hK1 rfl rfl

/- loop.example/g00149/spec.AppendLog -/
def yT:=[X_ 2 0,a_ 4 [.own 257 0 1 [],.own 258 0 2 []],i_ 5 0]
def yU:=[m_ 9 1,n_ 10 9,B_ .gtr 11 10 65536]
def yV:=[iQ 12 (.build [.own 769 0 1 [],.own 770 0 2 []] []),s_ 4 12 2,i_ 5 2]
def yW:=[L_ 13 2 2,q_ 14 290 [.t 13],N_ 15 14]
def yX:=[iQ 16 (.build [.own 1025 0 1 [],.own 1026 0 2 []] []),s_ 4 16 2,i_ 5 1]
def yY:=[m_ 17 1,n_ 18 17,B_ .gtr 19 18 2000]
def yZ:=[iQ 20 (.build [.own 1281 0 1 [],.own 1282 0 2 []] []),s_ 4 20 2,i_ 5 4]
def zA:=[L_ 22 2 2,q_ 23 303 [.t 22],q_ 24 302 [.t 23],m_ 21 24,e_ 25 21 0,e_ 26 21 1,m_ 6 25,m_ 7 26]
def zB:=[m_ 27 1,q_ 28 304 [.t 27],m_ 8 28]
def zC:=[m_ 29 7,m_ 30 8,n_ 31 30,q_ 32 291 [.t 29,.t 31],N_ 33 32]
def nN:=[iQ 34 (.build [.own 2177 0 1 [],.own 2178 0 2 []] []),s_ 4 34 2,i_ 5 9]
def nO:List Bg:=[L_ 35 2 2,m_ 36 7,m_ 37 8,q_ 38 292 [.t 35,.t 36,.t 37],q_ 39 303 [.t 38],⟨some 40,.p (.build [.own 2561 0 1 [],.own 2562 0 2 []] [(0,1,.t 39)]),none⟩,s_ 4 40 2,i_ 5 0]
def c240:Dl:=⟨2,41,[.cell 4 2 true,.t 5],sr yT (.seq (sr yU (iz 11 (rr yV))) (.seq (sr yW (iz 15 (rr yX))) (.seq (sr yY (iz 19 (rr yZ))) (sr zA (sr zB (.seq (sr zC (iz 33 (rr nN))) (rr nO)))))))⟩
def K240 (D:Az):Prop:=∀a0 a1 r,WF a0 a1=some r→D 240 ⟨[.agg (Ah a0),Bl a1],[]⟩ ⟨.tup [.agg (Ak r.1 (Bk 0) (Bk 1)),iV r.2],[],[]⟩
abbrev Pz:=fun x0 (r:List (Nat×List V))=>(128,Ah x0)::(256,[Ba 257 [],Ad 258 []])::r
abbrev Qa:=fun (r:List (Nat×V))=>(2,.ptr 128 0)::(4,.ptr 256 0)::r
theorem F240 (H290:nB C) (H291:K291 C) (H292:K292 C) (H302:wB C) (H303:nC C) (H304:wC C):K240 (FO C c240):=by
 intro a0 a1 r h0
 refine f0 (Bw 5 (Qa [(1,Bl a1)]) (Pz a0 []) (Ch 3 (Ac (Lp rfl (o_ (Bw 2 (Qa [(1,Bl a1),(11,.bool (decide ((a1.length:Int)>65536)))]) (Pz a0 []) (Gi h0 (fun c1 h0=>?_) (fun c1 h0=>?_))))))))
 ·obtain rfl:=sj h0
  exact Gs 6
 ·refine Ch 5 (Ac (bb h0 fun r2 e3 h0=>Ze (H290 a0 r2 e3) (o_ (Bw 2 (Qa [(1,Bl a1),(15,.bool (!r2))]) (Pz a0 []) (Gi h0 (fun c4 h0=>?_) (fun c4 h0=>?_))))))
  ·obtain rfl:=sj h0
   exact Gs 6
  ·refine Ch 5 (Ac (Lp rfl (o_ (Bw 2 (Qa [(1,Bl a1),(19,.bool (decide ((a1.length:Int)>2000)))]) (Pz a0 []) (Gi h0 (fun c5 h0=>?_) (fun c5 h0=>?_))))))
   ·obtain rfl:=sj h0
    exact Gs 6
   ·refine Ch 4 (Ac (bb h0 fun r6 e7 h0=>Uw (H303 a0 r6 e7) (af rfl) (bb h0 fun r8 e9 h0=>st (Bb (r:=.tup [.own 0 0 1 (r8.1.map (eL 1 By)),iV r8.2]) true (H302 r6 r8 e9) ⟨tv,tv⟩ rfl rfl (fun h=>nomatch h) (o_ (Bw 6 (Qa [(1,Bl a1),(7,iV r8.2)]) (Pz a0 []) (Ag (Ac (st (An rfl tv (bb h0 fun r10 e11 h0=>Uw (H304 a1 r10 e11) (af rfl) (o_ (Bw 2 (Qa [(7,iV r8.2),(8,Ba 1792 r10)]) (Pz a0 []) (Ch 4 (Ac (tO rfl (bb h0 fun r12 e13 h0=>Ze (H291 r8.2 (r10.length:Int) r12 e13) (o_ (Bw 2 (Qa [(7,iV r8.2),(8,Ba 1792 r10),(33,.bool (!r12))]) (Pz a0 []) (Gi h0 (fun c14 h0=>?_) (fun c14 h0=>?_)))))))))))))))))))))
    ·obtain rfl:=sj h0
     exact Gs 6
    ·refine Ch 6 (Ac (bb h0 fun r15 e16 h0=>st (Bb (r:=.agg (Ak r15 u_ (Bk 0))) true (H292 a0 r8.2 r10 r15 e16) ⟨tv,tv,tv,tv⟩ rfl rfl (fun h=>nomatch h) (bb h0 fun r17 e18 h0=>Uw (H303 r15 r17 e18) (af rfl) (st (c_ (v:=.agg [Ba 2496 r17,Ad 2562 []]) (Aq ⟨tv,tv⟩ rfl ⟨⟨rfl,rfl,nl rfl⟩,tv⟩) (o_ ?_)))))))
     obtain rfl:=sj h0
     exact Gs 4

/- loop.example/g00149/spec.LogOf -/
def PF:List Bg:=[X_ 1 0,⟨some 2,.nilS 1,none⟩,i_ 3 0]
def PG:=[L_ 6 1 2,q_ 7 290 [.t 6],N_ 8 7]
def PH:List Bg:=[⟨some 9,.mkS 1 [.lst 1 []] 0 [],none⟩,m_ 2 9,i_ 3 1]
def PI:=[L_ 11 1 2,q_ 12 303 [.t 11],q_ 13 302 [.t 12],m_ 10 13,e_ 14 10 0,e_ 15 10 1,m_ 4 14,m_ 5 15]
def PJ:=[m_ 16 4,m_ 2 16,i_ 3 0]
def c399:Dl:=⟨1,17,[.t 2,.t 3],sr PF (.seq (sr PG (iz 8 (rr PH))) (sr PI (rr PJ)))⟩
def K399 (D:Az):Prop:=∀a0 r,g399 a0=some r→D 399 ⟨[.agg (Ah a0)],[]⟩ ⟨.tup [.own 0 0 1 (r.1.map (eL 1 By)),iV r.2],[],[]⟩
theorem F399 (H290:nB C) (H302:wB C) (H303:nC C):K399 (FO C c399):=by
 intro a0 r h0
 refine f0 (Ag (Ac (st (Mk rfl tv rfl (st (Ed (st (Bn tv (Aw (At ⟨[(1,.ptr 64 0)],[(64,Ah a0)],[]⟩ (Ar (by kernel_rfl)) (Ag (Ag (Ac (st (c_ (v:=.agg (Ah a0)) (Aq ⟨tv,tv⟩ rfl (nl rfl)) ?_)))))))))))))))
 obtain ⟨r1,e2,h0⟩:=bnd h0
 refine st (Bb (r:=.bool r1) false (H290 a0 r1 e2) ⟨tv,tv⟩ rfl rfl (fun _=>rfl) (st (c_ (Aq ⟨tv,tv⟩ rfl tv) (Aw (At ⟨[(1,.ptr 64 0),(8,.bool (!r1))],[(64,Ah a0)],[]⟩ (Ar (by kernel_rfl)) (Cj (cb:=(!r1)) rfl (fun c3=>?_) (fun c3=>?_)))))))
 ·replace h0:=ip c3 h0
  refine Ag (Ac (st (Ia tv tv (st (An rfl tv (st (Bn tv (Aw (At ⟨[(2,.own 576 0 1 (([]:List (List UInt8)).map (eL 1 By))),(3,iV 1)],[],[]⟩ (Ar (by kernel_rfl)) ?_)))))))))
  obtain rfl:=sj h0
  exact Du (Bp rfl rfl rfl rfl rfl tv)
 ·replace h0:=Fi c3 h0
  refine En (At ⟨[(1,.ptr 64 0)],[(64,Ah a0)],[]⟩ (Ar (by kernel_rfl)) (Ag (Ac (st (c_ (v:=.agg (Ah a0)) (Aq ⟨tv,tv⟩ rfl (nl rfl)) ?_)))))
  obtain ⟨r4,e5,h0⟩:=bnd h0
  refine st (Bb (r:=Ba 0 r4) false (H303 a0 r4 e5) ⟨tv,tv⟩ rfl rfl (fun _=>(Cd (Qo (fun _=>rfl)) rfl)) ?_)
  obtain ⟨r6,e7,h0⟩:=bnd h0
  refine st (Bb (r:=.tup [.own 0 0 1 (r6.1.map (eL 1 By)),iV r6.2]) true (H302 r4 r6 e7) ⟨tv,tv⟩ rfl rfl (fun h=>nomatch h) (sw ⟨[(13,.tup [.own 832 0 1 (r6.1.map (eL 1 By)),iV r6.2])],[],[]⟩ (Ar (by kernel_rfl)) (An rfl tv (st (c_ (Aq ⟨tv,tv⟩ rfl tv) (st (c_ (Aq ⟨tv,tv⟩ rfl tv) (st (An rfl tv (st (An rfl tv (Aw (At ⟨[(4,.own 832 0 1 (r6.1.map (eL 1 By)))],[],[]⟩ (Ar (by kernel_rfl)) (Ag (Ac (st (An rfl tv (st (An rfl tv (st (Bn tv (Aw (At ⟨[(2,.own 832 0 1 (r6.1.map (eL 1 By))),(3,iV 0)],[],[]⟩ (Ar (by kernel_rfl)) ?_)))))))))))))))))))))))
  obtain rfl:=sj h0
  exact Du (Bp rfl rfl rfl rfl rfl tv)

/- loop.example/g00149/spec.l03Apply -/
def QU:List Bg:=[⟨some 4,.nilS 2,none⟩]
def QV:List Bg:=[⟨some 10,.mkS 2 [.str [],.str []] 0 [],none⟩,m_ 11 0,⟨some 12,.app 2 32 (.t 10) (.t 11),none⟩,m_ 5 12]
def QW:=[i_ 6 0]
def QX:=[m_ 13 6,m_ 14 1,n_ 15 14,b_ .lss 16 13 15]
def QY:=[m_ 19 1,m_ 20 6,x_ 21 19 20 3,L_ 22 21 3,a_ 7 [.str [],.str [],.bool false],s_ 7 22 3]
def QZ:=[i_ 8 0]
def RA:=tk [m_ 23 8,m_ 24 5,n_ 25 24,b_ .lss 26 23 25,m_ 27 26,mT 27 28 5,mT 27 29 8,xT 27 30 28 29 2,fT 27 31 30 0,lT 27 32 31 1 false,fT 27 33 7 0,lT 27 34 33 1 false,pT 27 35 (.bin .lss (.t 32) (.t 34)),pa 36 27 35] .fin
def RF:=[m_ 37 8,B_ .add 38 37 1,m_ 8 38]
def QS:IR:=(.seq (sd RA (.ite (.t 36) .skip (.exit 2))) (.block 3 (.reg RF)))
def RG:List Bg:=[⟨some 39,.mkS 2 [.str [],.str []] 0 [],none⟩,m_ 40 5,m_ 41 8,⟨some 42,.p (.slice (.t 40) (some (.t 41)) none 2),none⟩,⟨some 43,.app 2 32 (.t 39) (.t 42),none⟩,m_ 9 43]
def RH:=tk [m_ 44 9,n_ 45 44,B_ .gtr 46 45 0,m_ 47 46,mT 47 48 9,pT 47 49 (.idxA (.t 48) (.c (iV 0)) 2),fT 47 50 49 0,lT 47 51 50 1 false,fT 47 52 7 0,lT 47 53 52 1 false,pT 47 54 (.bin .eql (.t 51) (.t 53)),pa 55 47 54] .fin
def qG:List Bg:=[m_ 56 9,⟨some 57,.p (.slice (.t 56) (some (.c (iV 1))) none 2),none⟩,m_ 9 57]
def qH:List Bg:=[m_ 58 5,m_ 59 8,⟨some 60,.p (.slice (.t 58) none (some (.t 59)) 2),none⟩,m_ 5 60]
def qI:=[f_ 61 7 2,l_ 62 61 1,N_ 63 62]
def qJ:List Bg:=[m_ 64 5,f_ 65 7 0,l_ 66 65 1,f_ 67 7 1,l_ 68 67 1,⟨some 69,.p (.build [.str [],.str []] [(0,1,.t 66),(1,1,.t 68)]),none⟩,⟨some 70,.mkS 2 [.str [],.str []] 1 [(0,.t 69)],none⟩,⟨some 71,.app 2 32 (.t 64) (.t 70),none⟩,m_ 5 71]
def qK:List Bg:=[m_ 72 5,m_ 73 9,⟨some 74,.app 2 32 (.t 72) (.t 73),none⟩,m_ 5 74]
def qL:=[m_ 17 6,B_ .add 18 17 1,m_ 6 18]
def QT:IR:=(.seq (sr QX (.ite (.t 16) .skip (.exit 0))) (.seq (.block 1 (sr QY (sr QZ (.seq (Jt 2 QS) (sr RG (.seq (sd RH (iz 55 (.reg qG))) (sr qH (.seq (sr qI (iz 63 (.reg qJ))) (.reg qK))))))))) (.reg qL)))
def qM:=[m_ 75 5,m_ 4 75]
def c408:Dl:=⟨2,76,[.t 4],sr QU (sr QV (.seq (sr QW (Jt 0 QT)) (rr qM)))⟩
def wI (D:Az):Prop:=∀a0 a1 r,sT a0 a1=some r→D 408 ⟨[Cn a0,Aa a1],[]⟩ ⟨Al 0 r,[],[]⟩
theorem F408:wI (FO C c408):=by
 intro a0 a1 r h0
 refine f0 (Ag (Ac (st (Ed (Aw (At ⟨[(0,Cn a0),(1,Aa a1)],[],[]⟩ (Ar (by kernel_rfl)) (Ag (Ac (st (Ia tv tv (st (An rfl tv ?_))))))))))))
 obtain ⟨c1,h0⟩:=Qd h0
 refine st (Fx (e:=Ay) (l0:=([]:List Au)) (l1:=a0) rfl rfl tv rfl (by decide) c1 (st (An rfl tv (Aw (At ⟨[(1,Aa a1),(5,Al 640 (([]:List Au)++a0))],[],[]⟩ (Ar (by kernel_rfl)) (Ag (Ag (Ac (st (Bn tv (Aw (At ⟨[(1,Aa a1),(5,Al 640 (([]:List Au)++a0)),(6,iV 0)],[],[]⟩ (Ar (by kernel_rfl)) (Be ?_)))))))))))))
 obtain ⟨r140,e141,h0⟩:=bnd h0
 refine Cs (R:=(fun S=>∃p84:List Au,p84=r140∧S=⟨[(5,Al 640 p84)],[],[]⟩)) (Ol a1) (fun s S=>match s with | (p41,p42)=>S=⟨[(1,Aa a1),(5,Al 640 p41),(6,iV p42)],[],[]⟩) e141 ⟨[(1,Aa a1),(5,Al 640 (([]:List Au)++a0)),(6,iV 0)],[],[]⟩ (Ar (by kernel_rfl)) rfl 0 (fun _=>rfl) ?_ ?_
 ·rintro S _ hfg ⟨p84,rfl,rfl⟩
  refine At ⟨[(5,Al 640 p84)],[],[]⟩ (Oz hfg (by kernel_rfl)) (Ag (Ac (st (An rfl tv (st (An rfl tv (Aw (At ⟨[(4,Al 640 p84)],[],[]⟩ (Ar (by kernel_rfl)) ?_))))))))
  obtain rfl:=sj h0
  exact Du (Bp rfl rfl rfl rfl rfl tv)
 ·rintro ⟨p41,p42⟩ o1 _ K1 rfl h1 hx1 hK1 hE1 hR1
  refine Ag (Ag (Ac (st (An rfl tv (st (An rfl tv (st (c_ (Dv (e:=Af) (l0:=a1) rfl rfl tv) (st (c_ (Aq t3 rfl tv) (Aw (At ⟨[(1,Aa a1),(5,Al 640 p41),(6,iV p42),(16,.bool (decide (p42<(a1.length:Int))))],[],[]⟩ (Ar (by kernel_rfl)) (Cj (cb:=(decide (p42<(a1.length:Int)))) rfl (fun c85=>?_) (fun c85=>?_))))))))))))))
  ·replace h1:=ip c85 h1
   refine En (At ⟨[(1,Aa a1),(5,Al 640 p41),(6,iV p42)],[],[]⟩ (Ar (by kernel_rfl)) (Ag (Be (Ag (Ac (st (An rfl tv (st (An rfl tv ?_)))))))))
   obtain ⟨y86,e87,h1⟩:=bnd h1
   refine st (c_ (Hi (e:=Af) (y:=y86) rfl rfl tv rfl rfl tv e87) (st (c_ (v:=.agg (Af y86)) (Aq ⟨tv,tv⟩ rfl (nl rfl)) (st (Eb (st (Ej rfl rfl tv rfl rfl rfl (nl rfl) (Aw (At ⟨[(1,Aa a1),(5,Al 640 p41),(6,iV p42),(7,.ptr 448 0)],[(448,Af y86)],[]⟩ (Ar (by kernel_rfl)) (Ag (Ac (st (Bn tv (Aw (At ⟨[(1,Aa a1),(5,Al 640 p41),(6,iV p42),(7,.ptr 448 0),(8,iV 0)],[(448,Af y86)],[]⟩ (Ar (by kernel_rfl)) (Ag (Be ?_)))))))))))))))))
   obtain ⟨r112,e113,h1⟩:=bnd h1
   refine Cs (R:=(fun S=>∃p104:Int,p104=r112∧S=⟨[(1,Aa a1),(5,Al 640 p41),(6,iV p42),(7,.ptr 448 0),(8,iV p104)],[(448,Af y86)],[]⟩)) (Rj p41 y86) (fun s S=>match s with | p95=>S=⟨[(1,Aa a1),(5,Al 640 p41),(6,iV p42),(7,.ptr 448 0),(8,iV p95)],[(448,Af y86)],[]⟩) e113 ⟨[(1,Aa a1),(5,Al 640 p41),(6,iV p42),(7,.ptr 448 0),(8,iV 0)],[(448,Af y86)],[]⟩ (Ar (by kernel_rfl)) rfl 2 (fun _=>rfl) ?_ ?_
   ·rintro S _ hfg ⟨p104,rfl,rfl⟩
    refine At ⟨[(1,Aa a1),(5,Al 640 p41),(6,iV p42),(7,.ptr 448 0),(8,iV p104)],[(448,Af y86)],[]⟩ (Oz hfg (by kernel_rfl)) (Ag (Ac (st (Ia tv tv (st (An rfl tv (st (An rfl tv ?_))))))))
    obtain ⟨s114,e115,h1⟩:=bnd h1
    refine st (c_ (Dk (e:=Ay) (y:=s114) rfl rfl tv ⟨tv,tv⟩ rfl rfl e115) ?_)
    obtain ⟨c116,h1⟩:=Qd h1
    refine st (Fx (e:=Ay) (l0:=([]:List Au)) (l1:=s114) rfl rfl tv rfl (by decide) c116 (st (An rfl tv (Aw (At ⟨[(1,Aa a1),(5,Al 640 p41),(6,iV p42),(7,.ptr 448 0),(8,iV p104),(9,Al 2496 (([]:List Au)++s114))],[(448,Af y86)],[]⟩ (Ar (by kernel_rfl)) (Ag (Ag ?_)))))))
    obtain ⟨y117,e118,h1⟩:=bnd h1
    obtain ⟨y119,e120,h1⟩:=bnd h1
    refine Dj (Ao tv (An rfl tv (⟨tv,Ao tv (c_ (Jb (e:=Ay) (l0:=([]:List Au)++s114) rfl rfl tv) (⟨tv,Ao tv (c_ (Aq t3 rfl tv) (⟨tv,Ao tv (An rfl tv (⟨tv,Ao tv (Cx (u:=Al 2496 (([]:List Au)++s114)) rfl (fun hg=>(Ki (v:=Al 2496 (([]:List Au)++s114)) rfl tv)) (⟨tv,Ao tv (Cx (u:=.optr 2496 2 (0+((0:Int).toNat)) 0) rfl (fun hg=>(Tq (e:=Ay) (y:=y117) rfl rfl (fun _=>hg) rfl rfl tv (ip hg e118))) (⟨tv,Ao tv (Cx (u:=.optr 2496 2 (0+((0:Int).toNat)) 0) rfl (fun hg=>(Aq ⟨(fun _=>hg),tv⟩ rfl tv)) (⟨tv,fA (Cx (u:=.str y119.key) rfl (fun hg=>(Gz (e:=Ay) (y:=y119) (v:=.str y119.key) rfl rfl (fun _=>hg) rfl rfl (ip hg e120) rfl (nl rfl) rfl)) (⟨⟨Gg (v:=.str y119.key) rfl (fun hg=>(Gz (e:=Ay) (y:=y119) (v:=.str y119.key) rfl rfl (fun _=>hg) rfl rfl (ip hg e120) rfl (nl rfl) rfl)) rfl,tv⟩,Ao tv (Cx (u:=.ptr 448 0) rfl (fun hg=>(Aq ⟨tv,tv⟩ rfl tv)) (⟨⟨Gg (v:=.str y119.key) rfl (fun hg=>(Gz (e:=Ay) (y:=y119) (v:=.str y119.key) rfl rfl (fun _=>hg) rfl rfl (ip hg e120) rfl (nl rfl) rfl)) rfl,tv⟩,Ao tv (Cx (u:=.str y86.key) rfl (fun hg=>(Aq ⟨(fun _=>hg),tv⟩ rfl (nl rfl))) (⟨⟨Gg (v:=.str y119.key) rfl (fun hg=>(Gz (e:=Ay) (y:=y119) (v:=.str y119.key) rfl rfl (fun _=>hg) rfl rfl (ip hg e120) rfl (nl rfl) rfl)) rfl,tv⟩,Ao tv (Cx (u:=.bool (y119.key==y86.key)) rfl (fun hg=>(Aq ⟨(fun _=>hg),(fun _=>hg),tv⟩ rfl tv)) (⟨⟨Gg (v:=.str y119.key) rfl (fun hg=>(Gz (e:=Ay) (y:=y119) (v:=.str y119.key) rfl rfl (fun _=>hg) rfl rfl (ip hg e120) rfl (nl rfl) rfl)) rfl,tv⟩,Ao tv (Ea rfl rfl rfl (fun h=>mY h) tv rfl (⟨⟨Gg (v:=.str y119.key) rfl (fun hg=>(Gz (e:=Ay) (y:=y119) (v:=.str y119.key) rfl rfl (fun _=>hg) rfl rfl (ip hg e120) rfl (nl rfl) rfl)) rfl,tv⟩,Jo ?_⟩))⟩))⟩))⟩))⟩))⟩))⟩))⟩))⟩))⟩))⟩))⟩)))
    obtain ⟨v121,e122,h1⟩:=bl h1
    refine At ⟨[(1,Aa a1),(5,Al 640 p41),(6,iV p42),(7,.ptr 448 0),(8,iV p104),(9,Al 2496 (([]:List Au)++s114)),(55,.bool v121)],[(448,Af y86)],[]⟩ (Ar (by subst e122; kernel_rfl)) (dG (cb:=v121) (fun S=>∃p126:List Au,S=⟨[(1,Aa a1),(5,Al 640 p41),(6,iV p42),(7,.ptr 448 0),(8,iV p104),(9,Cn p126)],[(448,Af y86)],[]⟩∧Ri p41 p42 y86 p104 p126=some o1) rfl ?_ (fun c137 J136=>?_) (fun c137 J136=>?_))
    ·rintro _ ⟨p126,rfl,h1⟩
     refine At ⟨[(1,Aa a1),(5,Al 640 p41),(6,iV p42),(7,.ptr 448 0),(8,iV p104),(9,Cn p126)],[(448,Af y86)],[]⟩ (Ar (by kernel_rfl)) (Ag (Ac (st (An rfl tv (st (An rfl tv ?_))))))
     obtain ⟨s127,e128,h1⟩:=bnd h1
     refine st (c_ (Dk (e:=Ay) (y:=s127) rfl rfl tv ⟨tv,tv⟩ rfl rfl e128) (st (An rfl tv (Aw (At ⟨[(1,Aa a1),(5,Al 640 s127),(6,iV p42),(7,.ptr 448 0),(9,Cn p126)],[(448,Af y86)],[]⟩ (Ar (by kernel_rfl)) (Ag (Ag (Ac (st (c_ (Aq ⟨tv,tv⟩ rfl tv) (st (c_ (Aq ⟨tv,tv⟩ rfl (nl rfl)) (st (c_ (Aq ⟨tv,tv⟩ rfl tv) (Aw (At ⟨[(1,Aa a1),(5,Al 640 s127),(6,iV p42),(7,.ptr 448 0),(9,Cn p126),(63,.bool (!y86.Dm))],[(448,Af y86)],[]⟩ (Ar (by kernel_rfl)) (dG (cb:=(!y86.Dm)) (fun S=>∃p131:List Au,S=⟨[(1,Aa a1),(5,Al 640 p131),(6,iV p42),(9,Cn p126)],[],[]⟩∧Vg p42 p126 p131=some o1) rfl ?_ (fun c134 J133=>?_) (fun c134 J133=>?_))))))))))))))))))
     ·rintro _ ⟨p131,rfl,h1⟩
      refine At ⟨[(1,Aa a1),(5,Al 640 p131),(6,iV p42),(9,Cn p126)],[],[]⟩ (Ar (by kernel_rfl)) (Ac (st (An rfl tv (st (An rfl tv ?_)))))
      obtain ⟨c132,h1⟩:=Qd h1
      refine st (Fx (e:=Ay) (l0:=p131) (l1:=p126) rfl rfl tv rfl (by decide) c132 (st (An rfl tv (Aw (Qc (At ⟨[(1,Aa a1),(5,Al 640 (p131++p126)),(6,iV p42)],[],[]⟩ (Ar (by kernel_rfl)) (Ac (st (An rfl tv (st (c_ (Aq t3 rfl tv) (st (An rfl tv (Aw ?_))))))))))))))
      obtain rfl:=sj h1
      exact hK1 _ rfl _ ⟨[(1,Aa a1),(5,Al 640 (p131++p126)),(6,iV (wi (p42+1)))],[],[]⟩ (Ar (by kernel_rfl)) rfl
     ·replace h1:=ip c134 h1
      refine Ac (st (An rfl tv (st (c_ (Aq ⟨tv,tv⟩ rfl tv) (st (c_ (Aq ⟨tv,tv⟩ rfl (nl rfl)) (st (c_ (Aq ⟨tv,tv⟩ rfl tv) (st (c_ (Aq ⟨tv,tv⟩ rfl (nl rfl)) (st (c_ (v:=.agg [.str y86.key,.str y86.value]) (Aq ⟨tv,tv,tv⟩ rfl ⟨⟨rfl,rfl,nl rfl⟩,⟨rfl,rfl,nl rfl⟩,tv⟩) (st (Ia ⟨tv,tv⟩ ⟨⟨nl rfl,rfl,rfl⟩,tv⟩ ?_))))))))))))))
      obtain ⟨c135,h1⟩:=Qd h1
      refine st (Fx (e:=Ay) (l0:=s127) (l1:=([Au.mk y86.key y86.value]:List Au)) rfl rfl tv rfl (by decide) c135 (st (An rfl tv (Aw ?_))))
      exact J133 _ ⟨[(1,Aa a1),(5,Al 640 (s127++([Au.mk y86.key y86.value]:List Au))),(6,iV p42),(9,Cn p126)],[],[]⟩ (Ar (by kernel_rfl)) ⟨_,rfl,h1⟩
     ·replace h1:=Fi c134 h1
      refine En ?_
      exact J133 _ ⟨[(1,Aa a1),(5,Al 640 s127),(6,iV p42),(9,Cn p126)],[],[]⟩ (Ar (by kernel_rfl)) ⟨_,rfl,h1⟩
    ·replace h1:=ip c137 h1
     refine Ac (st (An rfl tv ?_))
     obtain ⟨s138,e139,h1⟩:=bnd h1
     refine st (c_ (Dk (e:=Ay) (y:=s138) rfl rfl tv ⟨tv,tv⟩ rfl rfl e139) (st (An rfl tv (Aw ?_))))
     exact J136 _ ⟨[(1,Aa a1),(5,Al 640 p41),(6,iV p42),(7,.ptr 448 0),(8,iV p104),(9,Cn s138)],[(448,Af y86)],[]⟩ (rY [2496] (by kernel_rfl)) ⟨_,rfl,h1⟩
    ·replace h1:=Fi c137 h1
     refine En ?_
     exact J136 _ ⟨[(1,Aa a1),(5,Al 640 p41),(6,iV p42),(7,.ptr 448 0),(8,iV p104),(9,Cn (([]:List Au)++s114))],[(448,Af y86)],[]⟩ (rY [2496] (by kernel_rfl)) ⟨_,rfl,h1⟩
   ·rintro p95 o2 _ K2 rfl h2 hx2 hK2 hE2 hR2
    refine Ag (Ag ?_)
    obtain ⟨y105,e106,h2⟩:=bnd h2
    obtain ⟨y107,e108,h2⟩:=bnd h2
    refine Dj (Ao tv (An rfl tv (⟨tv,Ao tv (An rfl tv (⟨tv,Ao tv (c_ (Jb (e:=Ay) (l0:=p41) rfl rfl tv) (⟨tv,Ao tv (c_ (Aq t3 rfl tv) (⟨tv,Ao tv (An rfl tv (⟨tv,Ao tv (Cx (u:=Al 640 p41) rfl (fun hg=>(Ki (v:=Al 640 p41) rfl tv)) (⟨tv,Ao tv (Cx (u:=iV p95) rfl (fun hg=>(Ki (v:=iV p95) rfl tv)) (⟨tv,Ao tv (Cx (u:=.optr 640 2 (0+p95.toNat) 0) rfl (fun hg=>(Tq (e:=Ay) (y:=y105) rfl rfl (fun _=>hg) rfl rfl (fun _=>hg) (ip hg e106))) (⟨tv,Ao tv (Cx (u:=.optr 640 2 (0+p95.toNat) 0) rfl (fun hg=>(Aq ⟨(fun _=>hg),tv⟩ rfl tv)) (⟨tv,fA (Cx (u:=.str y107.key) rfl (fun hg=>(Gz (e:=Ay) (y:=y107) (v:=.str y107.key) rfl rfl (fun _=>hg) rfl rfl (ip hg e108) rfl (nl rfl) rfl)) (⟨⟨Gg (v:=.str y107.key) rfl (fun hg=>(Gz (e:=Ay) (y:=y107) (v:=.str y107.key) rfl rfl (fun _=>hg) rfl rfl (ip hg e108) rfl (nl rfl) rfl)) rfl,tv⟩,Ao tv (Cx (u:=.ptr 448 0) rfl (fun hg=>(Aq ⟨tv,tv⟩ rfl tv)) (⟨⟨Gg (v:=.str y107.key) rfl (fun hg=>(Gz (e:=Ay) (y:=y107) (v:=.str y107.key) rfl rfl (fun _=>hg) rfl rfl (ip hg e108) rfl (nl rfl) rfl)) rfl,tv⟩,Ao tv (Cx (u:=.str y86.key) rfl (fun hg=>(Aq ⟨(fun _=>hg),tv⟩ rfl (nl rfl))) (⟨⟨Gg (v:=.str y107.key) rfl (fun hg=>(Gz (e:=Ay) (y:=y107) (v:=.str y107.key) rfl rfl (fun _=>hg) rfl rfl (ip hg e108) rfl (nl rfl) rfl)) rfl,tv⟩,Ao tv (Cx (u:=.bool (Op.bytesLess y107.key y86.key)) rfl (fun hg=>(Aq ⟨(fun _=>hg),(fun _=>hg),tv⟩ rfl tv)) (⟨⟨Gg (v:=.str y107.key) rfl (fun hg=>(Gz (e:=Ay) (y:=y107) (v:=.str y107.key) rfl rfl (fun _=>hg) rfl rfl (ip hg e108) rfl (nl rfl) rfl)) rfl,tv⟩,Ao tv (Ea rfl rfl rfl (fun h=>mY h) tv rfl (⟨⟨Gg (v:=.str y107.key) rfl (fun hg=>(Gz (e:=Ay) (y:=y107) (v:=.str y107.key) rfl rfl (fun _=>hg) rfl rfl (ip hg e108) rfl (nl rfl) rfl)) rfl,tv⟩,Jo ?_⟩))⟩))⟩))⟩))⟩))⟩))⟩))⟩))⟩))⟩))⟩))⟩))⟩))⟩)))
    obtain ⟨v109,e110,h2⟩:=bl h2
    refine At ⟨[(1,Aa a1),(5,Al 640 p41),(6,iV p42),(7,.ptr 448 0),(8,iV p95),(36,.bool v109)],[(448,Af y86)],[]⟩ (Ar (by subst e110; kernel_rfl)) (Cj (cb:=v109) rfl (fun c111=>?_) (fun c111=>?_))
    ·replace h2:=ip c111 h2
     refine En (At ⟨[(1,Aa a1),(5,Al 640 p41),(6,iV p42),(7,.ptr 448 0),(8,iV p95)],[(448,Af y86)],[]⟩ (Ar (by kernel_rfl)) (Be (Ac (st (An rfl tv (st (c_ (Aq t3 rfl tv) (st (An rfl tv (Aw (Qc ?_)))))))))))
     obtain rfl:=sj h2
     exact hK2 _ rfl _ ⟨[(1,Aa a1),(5,Al 640 p41),(6,iV p42),(7,.ptr 448 0),(8,iV (wi (p95+1)))],[(448,Af y86)],[]⟩ (Ar (by kernel_rfl)) rfl
    ·replace h2:=Fi c111 h2
     obtain rfl:=sj h2
     obtain rfl:=hx2 _ rfl
     refine In rfl ?_
     exact hE2 _ ⟨[(1,Aa a1),(5,Al 640 p41),(6,iV p42),(7,.ptr 448 0),(8,iV p95)],[(448,Af y86)],[]⟩ (Ar (by kernel_rfl)) ⟨_,rfl,rfl⟩
  ·replace h1:=Fi c85 h1
   obtain rfl:=sj h1
   obtain rfl:=hx1 _ rfl
   refine In rfl ?_
   exact hE1 _ ⟨[(5,Al 640 p41)],[],[]⟩ (Ar (by kernel_rfl)) ⟨_,rfl,rfl⟩

/- loop.example/g00149/spec.l03Change -/
def JL:=[X_ 1 0,k_ 2 (.bool false)]
def JM:List Bg:=[f_ 3 1 0,l_ 4 3 1,iQ 5 (.lenS (.t 4)),B_ .gtr 6 5 0,m_ 7 6,fT 7 8 1 0,lT 7 9 8 1 false,pT 7 10 (.lenS (.t 9)),pT 7 11 (.bin .leq (.t 10) (.c (iV 60))),pa 12 7 11,m_ 13 12,fT 13 14 1 1,lT 13 15 14 1 false,pT 13 16 (.lenS (.t 15)),pT 13 17 (.bin .leq (.t 16) (.c (iV 400))),pa 18 13 17,m_ 19 18,fT 19 20 1 2,lT 19 21 20 1 false,pT 19 22 (.un .not (.t 21)),mT 19 23 22,fF 23 24 1 1,lF 23 25 24 1 false,pF 23 26 (.bin .eql (.t 25) (.c (.str []))),⟨some 27,.pick (.t 23) (.c (.bool true)) (.t 26),some (19,true)⟩,pa 28 19 27,m_ 2 28]
def c360:Dl:=⟨1,29,[.t 2],sr JL (rr JM)⟩
def K360 (D:Az):Prop:=∀a0 r,lL a0=some r→D 360 ⟨[.agg (Af a0)],[]⟩ ⟨.bool r,[],[]⟩
theorem F360:K360 (FO C c360):=by
 intro a0 r h0
 refine f0 (Ag (Ac (st (Mk rfl tv rfl (st (Bn tv (Aw (At ⟨[(1,.ptr 64 0)],[(64,Af a0)],[]⟩ (Ar (by kernel_rfl)) (Ag (Ac (st (c_ (Aq ⟨tv,tv⟩ rfl tv) (st (c_ (Aq ⟨tv,tv⟩ rfl (nl rfl)) (st (c_ (Aq ⟨tv,tv⟩ rfl tv) (st (c_ (Aq t3 rfl tv) (st (An rfl tv (st (Cx (u:=.ptr 64 0) rfl (fun hg=>(Aq ⟨tv,tv⟩ rfl tv)) (st (Cx (u:=.str a0.key) rfl (fun hg=>(Aq ⟨(fun _=>hg),tv⟩ rfl (nl rfl))) (st (Cx (u:=iV (a0.key.length:Int)) rfl (fun hg=>(Aq ⟨(fun _=>hg),tv⟩ rfl tv)) (st (Cx (u:=.bool (decide ((a0.key.length:Int)≤60))) rfl (fun hg=>(Aq ⟨(fun _=>hg),tv,tv⟩ rfl tv)) (st (Ea rfl rfl rfl (fun h=>mY h) tv rfl (st (An rfl tv (st (Cx (u:=.ptr 64 1) rfl (fun hg=>(Aq ⟨tv,tv⟩ rfl tv)) (st (Cx (u:=.str a0.value) rfl (fun hg=>(Aq ⟨(fun _=>hg),tv⟩ rfl (nl rfl))) (st (Cx (u:=iV (a0.value.length:Int)) rfl (fun hg=>(Aq ⟨(fun _=>hg),tv⟩ rfl tv)) (st (Cx (u:=.bool (decide ((a0.value.length:Int)≤400))) rfl (fun hg=>(Aq ⟨(fun _=>hg),tv,tv⟩ rfl tv)) (sw ⟨[(1,.ptr 64 0),(13,.bool (bif (decide ((a0.key.length:Int)>0)) then (decide ((a0.key.length:Int)≤60)) else false)),(17,.may ((bif (decide ((a0.key.length:Int)>0)) then (decide ((a0.key.length:Int)≤60)) else false)==true) (.bool (decide ((a0.value.length:Int)≤400))))],[(64,Af a0)],[]⟩ (Ar (by kernel_rfl)) (Ea rfl rfl rfl (fun h=>mY h) tv rfl (st (An rfl tv (st (Cx (u:=.ptr 64 2) rfl (fun hg=>(Aq ⟨tv,tv⟩ rfl tv)) (st (Cx (u:=.bool a0.Dm) rfl (fun hg=>(Aq ⟨(fun _=>hg),tv⟩ rfl (nl rfl))) (st (Cx (u:=.bool (!a0.Dm)) rfl (fun hg=>(Aq ⟨(fun _=>hg),tv⟩ rfl tv)) (st (Cx (u:=.bool (!a0.Dm)) rfl (fun hg=>(Ki (v:=.may ((bif (bif (decide ((a0.key.length:Int)>0)) then (decide ((a0.key.length:Int)≤60)) else false) then (decide ((a0.value.length:Int)≤400)) else false)==true) (.bool (!a0.Dm))) rfl (fun _=>hg))) (st (Cx (u:=.ptr 64 1) rfl (fun hg=>(Aq ⟨tv,tv⟩ rfl tv)) ?_))))))))))))))))))))))))))))))))))))))))))))))))))))))
 refine st (Cx (u:=.str a0.value) rfl (fun hg=>(Aq ⟨(fun _=>hg),tv⟩ rfl (nl rfl))) (st (Cx (u:=.bool (a0.value==([]:List UInt8))) rfl (fun hg=>(Aq ⟨(fun _=>hg),tv,tv⟩ rfl tv)) (st (tY (u:=.bool (bif (!a0.Dm) then true else (a0.value==([]:List UInt8)))) rfl (fun hg=>ZZ rfl rfl (fun _=>hg) rfl rfl tv (fun h=>Cd hg (aX h)) rfl) (st (Ea rfl rfl rfl (fun h=>mY h) tv rfl (st (An rfl tv (Aw ?_))))))))))
 obtain ⟨v1,e2,h0⟩:=bl h0
 refine At ⟨[(2,.bool v1)],[],[]⟩ (Ar (by subst e2; kernel_rfl)) ?_
 obtain rfl:=sj h0
 exact Du (Bp rfl rfl rfl rfl rfl tv)

/- loop.example/g00149/spec.l03Batch -/
def QJ:=[k_ 2 (.bool false)]
def QK:=[m_ 4 0,n_ 5 4,B_ .gtr 6 5 30]
def QL:=[k_ 2 (.bool false)]
def QM:=[i_ 3 0]
def QN:=[m_ 7 3,m_ 8 0,n_ 9 8,b_ .lss 10 7 9]
def QO:=[m_ 13 0,m_ 14 3,x_ 15 13 14 3,L_ 16 15 3,q_ 17 360 [.t 16],N_ 18 17]
def QP:=[k_ 2 (.bool false)]
def QQ:=[m_ 11 3,B_ .add 12 11 1,m_ 3 12]
def QI:IR:=(.seq (sr QN (.ite (.t 10) .skip (.exit 0))) (.seq (.block 1 (sr QO (iz 18 (rr QP)))) (.reg QQ)))
def QR:=[k_ 2 (.bool true)]
def c407:Dl:=⟨1,19,[.t 2],sr QJ (.seq (sr QK (iz 6 (rr QL))) (.seq (sr QM (Jt 0 QI)) (rr QR)))⟩
def wH (D:Az):Prop:=∀a0 r,cZ a0=some r→D 407 ⟨[Aa a0],[]⟩ ⟨.bool r,[],[]⟩
theorem F407 (H360:K360 C):wH (FO C c407):=by
 intro a0 r h0
 refine f0 (Ag (Ac (st (Bn tv (Aw (At ⟨[(0,Aa a0)],[],[]⟩ (Ar (by kernel_rfl)) (Ag (Ag (Ac (st (An rfl tv (st (c_ (Dv (e:=Af) (l0:=a0) rfl rfl tv) (st (c_ (Aq t3 rfl tv) (Aw (At ⟨[(0,Aa a0),(6,.bool (decide ((a0.length:Int)>30)))],[],[]⟩ (Ar (by kernel_rfl)) (Cj (cb:=(decide ((a0.length:Int)>30))) rfl (fun c1=>?_) (fun c1=>?_)))))))))))))))))))
 ·replace h0:=ip c1 h0
  refine Ag (Ac (st (Bn tv (Aw (At ⟨[(2,.bool false)],[],[]⟩ (Ar (by kernel_rfl)) ?_)))))
  obtain rfl:=sj h0
  exact Du (Bp rfl rfl rfl rfl rfl tv)
 ·replace h0:=Fi c1 h0
  refine En (At ⟨[(0,Aa a0)],[],[]⟩ (Ar (by kernel_rfl)) (Ag (Ag (Ac (st (Bn tv (Aw (At ⟨[(0,Aa a0),(3,iV 0)],[],[]⟩ (Ar (by kernel_rfl)) (Be ?_)))))))))
  obtain ⟨r22,e23,h0⟩:=bnd h0
  refine Cs (R:=(fun S=>.inl ()=r22∧S=⟨[],[],[]⟩)) (Kc a0) (fun s S=>match s with | p8=>S=⟨[(0,Aa a0),(3,iV p8)],[],[]⟩) e23 ⟨[(0,Aa a0),(3,iV 0)],[],[]⟩ (Ar (by kernel_rfl)) rfl 0 (fun _=>rfl) ?_ ?_
  ·rintro S _ hfg ⟨rfl,rfl⟩
   refine At ⟨[],[],[]⟩ (Oz hfg (by kernel_rfl)) (Ag (Ac (st (Bn tv (Aw (At ⟨[(2,.bool true)],[],[]⟩ (Ar (by kernel_rfl)) ?_))))))
   obtain rfl:=sj h0
   exact Du (Bp rfl rfl rfl rfl rfl tv)
  ·rintro p8 o1 _ K1 rfl h1 hx1 hK1 hE1 hR1
   refine Ag (Ag (Ac (st (An rfl tv (st (An rfl tv (st (c_ (Dv (e:=Af) (l0:=a0) rfl rfl tv) (st (c_ (Aq t3 rfl tv) (Aw (At ⟨[(0,Aa a0),(3,iV p8),(10,.bool (decide (p8<(a0.length:Int))))],[],[]⟩ (Ar (by kernel_rfl)) (Cj (cb:=(decide (p8<(a0.length:Int)))) rfl (fun c16=>?_) (fun c16=>?_))))))))))))))
   ·replace h1:=ip c16 h1
    refine En (At ⟨[(0,Aa a0),(3,iV p8)],[],[]⟩ (Ar (by kernel_rfl)) (Ag (Be (Ag (Ac (st (An rfl tv (st (An rfl tv ?_)))))))))
    obtain ⟨y17,e18,h1⟩:=bnd h1
    refine st (c_ (Hi (e:=Af) (y:=y17) rfl rfl tv rfl rfl tv e18) (st (c_ (v:=.agg (Af y17)) (Aq ⟨tv,tv⟩ rfl (nl rfl)) ?_)))
    obtain ⟨r19,e20,h1⟩:=bnd h1
    refine st (Bb (r:=.bool r19) false (H360 y17 r19 e20) ⟨tv,tv⟩ rfl rfl (fun _=>rfl) (st (c_ (Aq ⟨tv,tv⟩ rfl tv) (Aw (At ⟨[(0,Aa a0),(3,iV p8),(18,.bool (!r19))],[],[]⟩ (Ar (by kernel_rfl)) (Cj (cb:=(!r19)) rfl (fun c21=>?_) (fun c21=>?_)))))))
    ·replace h1:=ip c21 h1
     refine Ag (Ac (st (Bn tv (Aw (At ⟨[(2,.bool false)],[],[]⟩ (Ar (by kernel_rfl)) ?_)))))
     obtain rfl:=sj h1
     obtain rfl:=hx1 _ rfl
     obtain rfl:=sj h0
     exact Du (hR1 _ (Bp rfl rfl rfl rfl rfl tv))
    ·replace h1:=Fi c21 h1
     refine En (Qc (At ⟨[(0,Aa a0),(3,iV p8)],[],[]⟩ (Ar (by kernel_rfl)) (Ac (st (An rfl tv (st (c_ (Aq t3 rfl tv) (st (An rfl tv (Aw ?_))))))))))
     obtain rfl:=sj h1
     exact hK1 _ rfl _ ⟨[(0,Aa a0),(3,iV (wi (p8+1)))],[],[]⟩ (Ar (by kernel_rfl)) rfl
   ·replace h1:=Fi c16 h1
    obtain rfl:=sj h1
    obtain rfl:=hx1 _ rfl
    refine In rfl ?_
    exact hE1 _ ⟨[],[],[]⟩ (Ar (by kernel_rfl)) ⟨rfl,rfl⟩

/- loop.example/g00149/spec.l03Read -/
def UK:List Bg:=[⟨some 2,.nilS 3,none⟩,k_ 3 (.bool false)]
def UL:List Bg:=[⟨some 9,.mkS 3 [.str [],.str [],.bool false] 0 [],none⟩,m_ 4 9]
def UM:=[i_ 5 0]
def UN:=[m_ 10 5,m_ 11 0,n_ 12 11,b_ .lss 13 10 12]
def UO:=[m_ 14 0,m_ 15 5,x_ 16 14 15 1,l_ 17 16 1,iQ 18 (.conv .i64 (.t 17)),m_ 6 18]
def UP:=[m_ 19 5,B_ .add 20 19 1,m_ 21 6,b_ .add 22 20 21,B_ .add 23 22 2,m_ 24 0,n_ 25 24,b_ .gtr 26 23 25]
def UQ:=[m_ 27 4,m_ 2 27,k_ 3 (.bool false)]
def UR:List Bg:=[m_ 28 0,m_ 29 5,B_ .add 30 29 1,m_ 31 5,B_ .add 32 31 1,m_ 33 6,b_ .add 34 32 33,⟨some 35,.p (.slice (.t 28) (some (.t 30)) (some (.t 34)) 1),none⟩,iQ 36 (.toStr (.t 35)),⟨some 37,.p (.build [.str [],.str [],.bool false] [(0,1,.t 36)]),none⟩,a_ 7 [.str [],.str [],.bool false],s_ 7 37 3]
def US:List Bg:=[m_ 38 5,m_ 39 6,⟨some 40,.p (.bin .add (.c (iV 1)) (.t 39)),none⟩,b_ .add 41 38 40,m_ 5 41]
def UT:=tk [m_ 42 0,m_ 43 5,x_ 44 42 43 1,l_ 45 44 1,iQ 46 (.conv .i64 (.t 45)),B_ .mul 47 46 256,m_ 48 0,m_ 49 5,B_ .add 50 49 1,x_ 51 48 50 1,l_ 52 51 1,iQ 53 (.conv .i64 (.t 52)),b_ .add 54 47 53,B_ .sub 55 54 1,m_ 8 55] .fin
def rA:=[m_ 56 5,B_ .add 57 56 2,m_ 5 57]
def rB:=[m_ 58 8,B_ .lss 59 58 0]
def rC:List Bg:=[f_ 60 7 2,⟨none,.store (.t 60) (.c (.bool true)) 1,none⟩]
def rD:=[i_ 8 0]
def rE:=[m_ 61 5,m_ 62 8,b_ .add 63 61 62,m_ 64 0,n_ 65 64,b_ .gtr 66 63 65]
def rF:=[m_ 67 4,m_ 2 67,k_ 3 (.bool false)]
def rG:List Bg:=[m_ 68 0,m_ 69 5,m_ 70 5,m_ 71 8,b_ .add 72 70 71,⟨some 73,.p (.slice (.t 68) (some (.t 69)) (some (.t 72)) 1),none⟩,iQ 74 (.toStr (.t 73)),f_ 75 7 1,s_ 75 74 1]
def rH:=[m_ 76 5,m_ 77 8,b_ .add 78 76 77,m_ 5 78]
def rI:List Bg:=[m_ 79 4,L_ 80 7 3,⟨some 81,.mkS 3 [.str [],.str [],.bool false] 1 [(0,.t 80)],none⟩,⟨some 82,.app 3 40 (.t 79) (.t 81),none⟩,m_ 4 82]
def UJ:IR:=(.seq (sr UN (.ite (.t 13) .skip (.exit 0))) (.block 1 (sr UO (.seq (sr UP (iz 26 (rr UQ))) (sr UR (sr US (sd UT (sr rA (.seq (sr rB (iz 59 (sr rC (.reg rD)))) (.seq (sr rE (iz 66 (rr rF))) (sr rG (sr rH (.reg rI)))))))))))))
def rJ:=[m_ 83 4,m_ 84 4,q_ 85 407 [.t 84],m_ 2 83,m_ 3 85]
def c421:Dl:=⟨1,86,[.t 2,.t 3],sr UK (sr UL (.seq (sr UM (Jt 0 UJ)) (rr rJ)))⟩
def K421 (D:Az):Prop:=∀a0 r,fX a0=some r→D 421 ⟨[Bl a0],[]⟩ ⟨.tup [Am 0 r.1,.bool r.2],[],[]⟩
theorem F421 (H407:wH C):K421 (FO C c421):=by
 intro a0 r h0
 refine f0 (Ag (Ac (st (Ed (st (Bn tv (Aw (At ⟨[(0,Bl a0)],[],[]⟩ (Ar (by kernel_rfl)) (Ag (Ac (st (Ia tv tv (st (An rfl tv (Aw (At ⟨[(0,Bl a0),(4,Am 576 [])],[],[]⟩ (Ar (by kernel_rfl)) (Ag (Ag (Ac (st (Bn tv (Aw (At ⟨[(0,Bl a0),(4,Am 576 []),(5,iV 0)],[],[]⟩ (Ar (by kernel_rfl)) (Be ?_))))))))))))))))))))))))
 obtain ⟨r83,e84,h0⟩:=bnd h0
 refine Cs (R:=(fun S=>∃p55:List Ab,.inl p55=r83∧S=⟨[(4,Am 576 p55)],[],[]⟩)) (Dr a0) (fun s S=>match s with | (p26,p27)=>S=⟨[(0,Bl a0),(4,Am 576 p26),(5,iV p27)],[],[]⟩) e84 ⟨[(0,Bl a0),(4,Am 576 []),(5,iV 0)],[],[]⟩ (Ar (by kernel_rfl)) rfl 0 (fun _=>rfl) ?_ ?_
 ·rintro S _ hfg ⟨p55,rfl,rfl⟩
  refine At ⟨[(4,Am 576 p55)],[],[]⟩ (Oz hfg (by kernel_rfl)) (Ag (Ac (st (An rfl tv (st (An rfl tv ?_))))))
  obtain ⟨r85,e86,h0⟩:=bnd h0
  refine st (Bb (r:=.bool r85) false (H407 p55 r85 e86) ⟨tv,tv⟩ rfl rfl (fun _=>rfl) (st (An rfl tv (st (An rfl tv (Aw (At ⟨[(2,Am 576 p55),(3,.bool r85)],[],[]⟩ (Ar (by kernel_rfl)) ?_)))))))
  obtain rfl:=sj h0
  exact Du (Bp rfl rfl rfl rfl rfl tv)
 ·rintro ⟨p26,p27⟩ o1 _ K1 rfl h1 hx1 hK1 hE1 hR1
  refine Ag (Ag (Ac (st (An rfl tv (st (An rfl tv (st (c_ (Dv (e:=By) (l0:=a0) rfl rfl tv) (st (c_ (Aq t3 rfl tv) (Aw (At ⟨[(0,Bl a0),(4,Am 576 p26),(5,iV p27),(13,.bool (decide (p27<(a0.length:Int))))],[],[]⟩ (Ar (by kernel_rfl)) (Cj (cb:=(decide (p27<(a0.length:Int)))) rfl (fun ZY=>?_) (fun ZY=>?_))))))))))))))
  ·replace h1:=ip ZY h1
   refine En (At ⟨[(0,Bl a0),(4,Am 576 p26),(5,iV p27)],[],[]⟩ (Ar (by kernel_rfl)) (Be (Ag (Ac (st (An rfl tv (st (An rfl tv ?_))))))))
   obtain ⟨y57,e58,h1⟩:=bnd h1
   refine st (c_ (Hi (e:=By) (y:=y57) rfl rfl tv rfl rfl tv e58) (st (c_ (Aq ⟨tv,tv⟩ rfl (nl rfl)) (st (c_ (Aq ⟨tv,tv⟩ rfl tv) (st (An rfl tv (Aw (At ⟨[(0,Bl a0),(4,Am 576 p26),(5,iV p27),(6,iV (wi ((y57).toNat:Int)))],[],[]⟩ (Ar (by kernel_rfl)) (Ag (Ag (Ac (st (An rfl tv (st (c_ (Aq t3 rfl tv) (st (An rfl tv (st (c_ (Aq t3 rfl tv) (st (c_ (Aq t3 rfl tv) (st (An rfl tv (st (c_ (Dv (e:=By) (l0:=a0) rfl rfl tv) (st (c_ (Aq t3 rfl tv) (Aw ?_)))))))))))))))))))))))))))))
   obtain ⟨v59,e60,h1⟩:=bl h1
   refine At ⟨[(0,Bl a0),(4,Am 576 p26),(5,iV p27),(6,iV (wi ((y57).toNat:Int))),(26,.bool v59)],[],[]⟩ (Ar (by subst e60; kernel_rfl)) (Cj (cb:=v59) rfl (fun c61=>?_) (fun c61=>?_))
   ·replace h1:=ip c61 h1
    refine Ag (Ac (st (An rfl tv (st (An rfl tv (st (Bn tv (Aw (At ⟨[(2,Am 576 p26),(3,.bool false)],[],[]⟩ (Ar (by kernel_rfl)) ?_)))))))))
    obtain rfl:=sj h1
    obtain rfl:=hx1 _ rfl
    obtain rfl:=sj h0
    exact Du (hR1 _ (Bp rfl rfl rfl rfl rfl tv))
   ·replace h1:=Fi c61 h1
    refine En (At ⟨[(0,Bl a0),(4,Am 576 p26),(5,iV p27),(6,iV (wi ((y57).toNat:Int)))],[],[]⟩ (Ar (by kernel_rfl)) (Ag (Ac (st (An rfl tv (st (An rfl tv (st (c_ (Aq t3 rfl tv) (st (An rfl tv (st (c_ (Aq t3 rfl tv) (st (An rfl tv (st (c_ (Aq t3 rfl tv) ?_)))))))))))))))))
    obtain ⟨s62,e63,h1⟩:=bnd h1
    refine st (c_ (Ha (e:=By) (y:=s62) rfl rfl tv ⟨tv,tv,tv⟩ rfl rfl e63) (st (c_ (Ux (s:=s62) rfl rfl tv) (st (c_ (v:=.agg (Bf s62 ([]:List UInt8) false)) (Aq ⟨tv,tv⟩ rfl ⟨⟨rfl,rfl,nl rfl⟩,tv⟩) (st (Eb (st (Ej rfl rfl tv rfl rfl rfl (nl rfl) (Aw (At ⟨[(0,Bl a0),(4,Am 576 p26),(5,iV p27),(6,iV (wi ((y57).toNat:Int))),(7,.ptr 448 0)],[(448,Bf s62 ([]:List UInt8) false)],[]⟩ (Ar (by kernel_rfl)) (Ag (Ac (st (An rfl tv (st (An rfl tv (st (c_ (Aq t3 rfl tv) (st (c_ (Aq t3 rfl tv) (st (An rfl tv (Aw ?_))))))))))))))))))))))))
    obtain ⟨v64,e65,h1⟩:=bl h1
    refine At ⟨[(0,Bl a0),(4,Am 576 p26),(5,iV v64),(7,.ptr 448 0)],[(448,Bf s62 ([]:List UInt8) false)],[]⟩ (Ar (by subst e65; kernel_rfl)) (Ag ?_)
    obtain ⟨y66,e67,h1⟩:=bnd h1
    obtain ⟨y68,e69,h1⟩:=bnd h1
    refine Dj (Ao tv (An rfl tv (⟨tv,Ao tv (An rfl tv (⟨tv,Ao tv (c_ (Hi (e:=By) (y:=y66) rfl rfl tv rfl rfl tv e67) (⟨tv,Ao tv (c_ (Aq ⟨tv,tv⟩ rfl (nl rfl)) (⟨tv,Ao tv (c_ (Aq ⟨tv,tv⟩ rfl tv) (⟨tv,Ao tv (c_ (Aq t3 rfl tv) (⟨tv,Ao tv (An rfl tv (⟨tv,Ao tv (An rfl tv (⟨tv,Ao tv (c_ (Aq t3 rfl tv) (⟨tv,Ao tv (c_ (Hi (e:=By) (y:=y68) rfl rfl tv rfl rfl tv e69) (⟨tv,Ao tv (c_ (Aq ⟨tv,tv⟩ rfl (nl rfl)) (⟨tv,Ao tv (c_ (Aq ⟨tv,tv⟩ rfl tv) (⟨tv,Ao tv (c_ (Aq t3 rfl tv) (⟨tv,Ao tv (c_ (Aq t3 rfl tv) (⟨tv,Ao tv (An rfl tv (⟨tv,?_⟩))⟩))⟩))⟩))⟩))⟩))⟩))⟩))⟩))⟩))⟩))⟩))⟩))⟩))⟩)))
    refine Jo ?_
    obtain ⟨v70,e71,h1⟩:=bl h1
    refine At ⟨[(0,Bl a0),(4,Am 576 p26),(5,iV v64),(7,.ptr 448 0),(8,iV v70)],[(448,Bf s62 ([]:List UInt8) false)],[]⟩ (Ar (by subst e71; kernel_rfl)) (Ag (Ac (st (An rfl tv (st (c_ (Aq t3 rfl tv) (st (An rfl tv (Aw (At ⟨[(0,Bl a0),(4,Am 576 p26),(5,iV (wi (v64+2))),(7,.ptr 448 0),(8,iV v70)],[(448,Bf s62 ([]:List UInt8) false)],[]⟩ (Ar (by kernel_rfl)) (Ag (Ag (Ac (st (An rfl tv (st (c_ (Aq t3 rfl tv) (Aw (At ⟨[(0,Bl a0),(4,Am 576 p26),(5,iV (wi (v64+2))),(7,.ptr 448 0),(8,iV v70),(59,.bool (decide (v70<0)))],[(448,Bf s62 ([]:List UInt8) false)],[]⟩ (Ar (by kernel_rfl)) (dG (cb:=(decide (v70<0))) (fun S=>∃p73:Int,∃p74:Bool,S=⟨[(0,Bl a0),(4,Am 576 p26),(5,iV (wi (v64+2))),(7,.ptr 448 0),(8,iV p73)],[(448,Bf s62 ([]:List UInt8) p74)],[]⟩∧Rl a0 p26 s62 v64 p73 p74=some o1) rfl ?_ (fun c82 J81=>?_) (fun c82 J81=>?_)))))))))))))))))))))
    ·rintro _ ⟨p73,p74,rfl,h1⟩
     refine At ⟨[(0,Bl a0),(4,Am 576 p26),(5,iV (wi (v64+2))),(7,.ptr 448 0),(8,iV p73)],[(448,Bf s62 ([]:List UInt8) p74)],[]⟩ (Ar (by kernel_rfl)) (Ag (Ag (Ac (st (An rfl tv (st (An rfl tv (st (c_ (Aq t3 rfl tv) (st (An rfl tv (st (c_ (Dv (e:=By) (l0:=a0) rfl rfl tv) (st (c_ (Aq t3 rfl tv) (Aw ?_))))))))))))))))
     obtain ⟨v75,e76,h1⟩:=bl h1
     refine At ⟨[(0,Bl a0),(4,Am 576 p26),(5,iV (wi (v64+2))),(7,.ptr 448 0),(8,iV p73),(66,.bool v75)],[(448,Bf s62 ([]:List UInt8) p74)],[]⟩ (Ar (by subst e76; kernel_rfl)) (Cj (cb:=v75) rfl (fun c77=>?_) (fun c77=>?_))
     ·replace h1:=ip c77 h1
      refine Ag (Ac (st (An rfl tv (st (An rfl tv (st (Bn tv (Aw (At ⟨[(2,Am 576 p26),(3,.bool false)],[],[]⟩ (Ar (by kernel_rfl)) ?_)))))))))
      obtain rfl:=sj h1
      obtain rfl:=hx1 _ rfl
      obtain rfl:=sj h0
      exact Du (hR1 _ (Bp rfl rfl rfl rfl rfl tv))
     ·replace h1:=Fi c77 h1
      refine En (At ⟨[(0,Bl a0),(4,Am 576 p26),(5,iV (wi (v64+2))),(7,.ptr 448 0),(8,iV p73)],[(448,Bf s62 ([]:List UInt8) p74)],[]⟩ (Ar (by kernel_rfl)) (Ag (Ac (st (An rfl tv (st (An rfl tv (st (An rfl tv (st (An rfl tv (st (c_ (Aq t3 rfl tv) ?_)))))))))))))
      obtain ⟨s78,e79,h1⟩:=bnd h1
      refine st (c_ (Ha (e:=By) (y:=s78) rfl rfl tv ⟨tv,tv,tv⟩ rfl rfl e79) (st (c_ (Ux (s:=s78) rfl rfl tv) (st (c_ (Aq ⟨tv,tv⟩ rfl tv) (st (Ej rfl rfl tv rfl rfl rfl (nl rfl) (Aw (At ⟨[(0,Bl a0),(4,Am 576 p26),(5,iV (wi (v64+2))),(7,.ptr 448 0),(8,iV p73)],[(448,Bf s62 s78 p74)],[]⟩ (Ar (by kernel_rfl)) (Ag (Ac (st (An rfl tv (st (An rfl tv (st (c_ (Aq t3 rfl tv) (st (An rfl tv (Aw (At ⟨[(0,Bl a0),(4,Am 576 p26),(5,iV (wi ((wi (v64+2))+p73))),(7,.ptr 448 0)],[(448,Bf s62 s78 p74)],[]⟩ (Ar (by kernel_rfl)) (Ac (st (An rfl tv (st (c_ (v:=.agg (Bf s62 s78 p74)) (Aq ⟨tv,tv⟩ rfl (nl rfl)) (st (Ia ⟨tv,tv⟩ ⟨⟨nl rfl,rfl,rfl⟩,tv⟩ ?_))))))))))))))))))))))))))))
      obtain ⟨c80,h1⟩:=Qd h1
      refine st (Fx (e:=Af) (l0:=p26) (l1:=([Ab.mk s62 s78 p74]:List Ab)) rfl rfl tv rfl (by decide) c80 (st (An rfl tv (Aw (Qc ?_)))))
      obtain rfl:=sj h1
      exact hK1 _ rfl _ ⟨[(0,Bl a0),(4,Am 576 (p26++([Ab.mk s62 s78 p74]:List Ab))),(5,iV (wi ((wi (v64+2))+p73)))],[],[]⟩ (Ar (by kernel_rfl)) rfl
    ·replace h1:=ip c82 h1
     refine Ag (Ac (st (c_ (Aq ⟨tv,tv⟩ rfl tv) (st (Ej rfl rfl tv rfl rfl rfl (nl rfl) (Aw (At ⟨[(0,Bl a0),(4,Am 576 p26),(5,iV (wi (v64+2))),(7,.ptr 448 0)],[(448,Bf s62 ([]:List UInt8) true)],[]⟩ (Ar (by kernel_rfl)) (Ac (st (Bn tv (Aw ?_)))))))))))
     exact J81 _ ⟨[(0,Bl a0),(4,Am 576 p26),(5,iV (wi (v64+2))),(7,.ptr 448 0),(8,iV 0)],[(448,Bf s62 ([]:List UInt8) true)],[]⟩ (Ar (by kernel_rfl)) ⟨_,_,rfl,h1⟩
    ·replace h1:=Fi c82 h1
     refine En ?_
     exact J81 _ ⟨[(0,Bl a0),(4,Am 576 p26),(5,iV (wi (v64+2))),(7,.ptr 448 0),(8,iV v70)],[(448,Bf s62 ([]:List UInt8) false)],[]⟩ (Ar (by kernel_rfl)) ⟨_,_,rfl,h1⟩
  ·replace h1:=Fi ZY h1
   obtain rfl:=sj h1
   obtain rfl:=hx1 _ rfl
   refine In rfl ?_
   exact hE1 _ ⟨[(4,Am 576 p26)],[],[]⟩ (Ar (by kernel_rfl)) ⟨_,rfl,rfl⟩

/- loop.example/g00149/spec.l03Load -/
def PL:List Bg:=[⟨some 2,.nilS 2,none⟩]
def PM:List Bg:=[⟨some 8,.mkS 2 [.str [],.str []] 0 [],none⟩,m_ 3 8]
def PN:=[i_ 4 0]
def PO:=[m_ 9 4,m_ 10 0,n_ 11 10,b_ .lss 12 9 11]
def PP:=[m_ 16 0,m_ 17 4,x_ 18 16 17 1,l_ 19 18 1,q_ 20 421 [.t 19],m_ 15 20,e_ 21 15 0,e_ 22 15 1,m_ 5 21,m_ 6 22]
def PQ:=[m_ 23 6,N_ 24 23]
def PR:=[m_ 25 3,m_ 26 5,q_ 27 408 [.t 25,.t 26],m_ 7 27]
def PS:=[m_ 28 7,n_ 29 28,B_ .gtr 30 29 100]
def PT:=[m_ 31 7,m_ 3 31]
def PV:=[m_ 13 4,B_ .add 14 13 1,m_ 4 14]
def PK:IR:=(.seq (sr PO (.ite (.t 12) .skip (.exit 0))) (.seq (.block 1 (sr PP (.seq (sr PQ (iz 24 (.exit 0))) (sr PR (.seq (sr PS (iz 30 (.exit 0))) (.reg PT)))))) (.reg PV)))
def qF:=[m_ 32 3,m_ 2 32]
def c400:Dl:=⟨1,33,[.t 2],sr PL (sr PM (.seq (sr PN (Jt 0 PK)) (rr qF)))⟩
def K400 (D:Az):Prop:=∀a0 r,XX a0=some r→D 400 ⟨[.lst 1 (a0.map (eL 1 By))],[]⟩ ⟨Al 0 r,[],[]⟩
theorem F400 (H408:wI C) (H421:K421 C):K400 (FO C c400):=by
 intro a0 r h0
 refine f0 (Ag (Ac (st (Ed (Aw (At ⟨[(0,.lst 1 (a0.map (eL 1 By)))],[],[]⟩ (Ar (by kernel_rfl)) (Ag (Ac (st (Ia tv tv (st (An rfl tv (Aw (At ⟨[(0,.lst 1 (a0.map (eL 1 By))),(3,Al 512 [])],[],[]⟩ (Ar (by kernel_rfl)) (Ag (Ag (Ac (st (Bn tv (Aw (At ⟨[(0,.lst 1 (a0.map (eL 1 By))),(3,Al 512 []),(4,iV 0)],[],[]⟩ (Ar (by kernel_rfl)) (Be ?_))))))))))))))))))))))
 obtain ⟨r33,e34,h0⟩:=bnd h0
 refine Cs (R:=(fun S=>∃p23:List Au,p23=r33∧S=⟨[(3,Al 512 p23)],[],[]⟩)) (Oj a0) (fun s S=>match s with | (p10,p11)=>S=⟨[(0,.lst 1 (a0.map (eL 1 By))),(3,Al 512 p10),(4,iV p11)],[],[]⟩) e34 ⟨[(0,.lst 1 (a0.map (eL 1 By))),(3,Al 512 []),(4,iV 0)],[],[]⟩ (Ar (by kernel_rfl)) rfl 0 (fun _=>rfl) ?_ ?_
 ·rintro S _ hfg ⟨p23,rfl,rfl⟩
  refine At ⟨[(3,Al 512 p23)],[],[]⟩ (Oz hfg (by kernel_rfl)) (Ag (Ac (st (An rfl tv (st (An rfl tv (Aw (At ⟨[(2,Al 512 p23)],[],[]⟩ (Ar (by kernel_rfl)) ?_))))))))
  obtain rfl:=sj h0
  exact Du (Bp rfl rfl rfl rfl rfl tv)
 ·rintro ⟨p10,p11⟩ o1 _ K1 rfl h1 hx1 hK1 hE1 hR1
  refine Ag (Ag (Ac (st (An rfl tv (st (An rfl tv (st (c_ (Dv (e:=(eL 1 By)) (l0:=a0) rfl rfl tv) (st (c_ (Aq t3 rfl tv) (Aw (At ⟨[(0,.lst 1 (a0.map (eL 1 By))),(3,Al 512 p10),(4,iV p11),(12,.bool (decide (p11<(a0.length:Int))))],[],[]⟩ (Ar (by kernel_rfl)) (Cj (cb:=(decide (p11<(a0.length:Int)))) rfl (fun c24=>?_) (fun c24=>?_))))))))))))))
  ·replace h1:=ip c24 h1
   refine En (At ⟨[(0,.lst 1 (a0.map (eL 1 By))),(3,Al 512 p10),(4,iV p11)],[],[]⟩ (Ar (by kernel_rfl)) (Ag (Be (Ag (Ac (st (An rfl tv (st (An rfl tv ?_)))))))))
   obtain ⟨y25,e26,h1⟩:=bnd h1
   refine st (c_ (Hi (e:=(eL 1 By)) (y:=y25) rfl rfl tv rfl rfl tv e26) (st (c_ (Aq ⟨tv,tv⟩ rfl (nl rfl)) ?_)))
   obtain ⟨r27,e28,h1⟩:=bnd h1
   refine st (Bb (r:=.tup [Am 0 r27.1,.bool r27.2]) false (H421 y25 r27 e28) ⟨tv,tv⟩ rfl rfl (fun _=>(Cd (Qo (fun _=>rfl)) (Cd rfl rfl))) (st (An rfl tv (st (c_ (Aq ⟨tv,tv⟩ rfl tv) (st (c_ (Aq ⟨tv,tv⟩ rfl tv) (st (An rfl tv (st (An rfl tv (Aw (At ⟨[(0,.lst 1 (a0.map (eL 1 By))),(3,Al 512 p10),(4,iV p11),(5,Am 1280 r27.1),(6,.bool r27.2)],[],[]⟩ (Ar (by kernel_rfl)) (Ag (Ag (Ac (st (An rfl tv (st (c_ (Aq ⟨tv,tv⟩ rfl tv) (Aw (At ⟨[(0,.lst 1 (a0.map (eL 1 By))),(3,Al 512 p10),(4,iV p11),(5,Am 1280 r27.1),(24,.bool (!r27.2))],[],[]⟩ (Ar (by kernel_rfl)) (Cj (cb:=(!r27.2)) rfl (fun c29=>?_) (fun c29=>?_))))))))))))))))))))))))
   ·replace h1:=ip c29 h1
    obtain rfl:=sj h1
    obtain rfl:=hx1 _ rfl
    refine In rfl ?_
    exact hE1 _ ⟨[(3,Al 512 p10)],[],[]⟩ (Ar (by kernel_rfl)) ⟨_,rfl,rfl⟩
   ·replace h1:=Fi c29 h1
    refine En (At ⟨[(0,.lst 1 (a0.map (eL 1 By))),(3,Al 512 p10),(4,iV p11),(5,Am 1280 r27.1)],[],[]⟩ (Ar (by kernel_rfl)) (Ag (Ac (st (An rfl tv (st (An rfl tv ?_)))))))
    obtain ⟨r30,e31,h1⟩:=bnd h1
    refine st (Bb (r:=Al 0 r30) false (H408 p10 r27.1 r30 e31) ⟨tv,tv,tv⟩ rfl rfl (fun _=>(Cd (Qo (fun _=>rfl)) rfl)) (st (An rfl tv (Aw (At ⟨[(0,.lst 1 (a0.map (eL 1 By))),(3,Al 512 p10),(4,iV p11),(7,Al 1728 r30)],[],[]⟩ (Ar (by kernel_rfl)) (Ag (Ag (Ac (st (An rfl tv (st (c_ (Jb (e:=Ay) (l0:=r30) rfl rfl tv) (st (c_ (Aq t3 rfl tv) (Aw (At ⟨[(0,.lst 1 (a0.map (eL 1 By))),(3,Al 512 p10),(4,iV p11),(7,Al 1728 r30),(30,.bool (decide ((r30.length:Int)>100)))],[],[]⟩ (Ar (by kernel_rfl)) (Cj (cb:=(decide ((r30.length:Int)>100))) rfl (fun c32=>?_) (fun c32=>?_))))))))))))))))))
    ·replace h1:=ip c32 h1
     obtain rfl:=sj h1
     obtain rfl:=hx1 _ rfl
     refine In rfl ?_
     exact hE1 _ ⟨[(3,Al 512 p10)],[],[]⟩ (Ar (by kernel_rfl)) ⟨_,rfl,rfl⟩
    ·replace h1:=Fi c32 h1
     refine En (At ⟨[(0,.lst 1 (a0.map (eL 1 By))),(4,iV p11),(7,Al 1728 r30)],[],[]⟩ (Ar (by kernel_rfl)) (Ac (st (An rfl tv (st (An rfl tv (Aw (Qc (At ⟨[(0,.lst 1 (a0.map (eL 1 By))),(3,Al 1728 r30),(4,iV p11)],[],[]⟩ (Ar (by kernel_rfl)) (Ac (st (An rfl tv (st (c_ (Aq t3 rfl tv) (st (An rfl tv (Aw ?_)))))))))))))))))
     obtain rfl:=sj h1
     exact hK1 _ rfl _ ⟨[(0,.lst 1 (a0.map (eL 1 By))),(3,Al 512 r30),(4,iV (wi (p11+1)))],[],[]⟩ (Jp [] [(1728,512)] rfl (by kernel_rfl)) rfl
  ·replace h1:=Fi c24 h1
   obtain rfl:=sj h1
   obtain rfl:=hx1 _ rfl
   refine In rfl ?_
   exact hE1 _ ⟨[(3,Al 512 p10)],[],[]⟩ (Ar (by kernel_rfl)) ⟨_,rfl,rfl⟩

/- loop.example/g00149/spec.Load -/
def LA:List Bg:=[X_ 1 0,⟨some 2,.nilS 2,none⟩,i_ 3 0]
def LC:=[L_ 7 1 2,q_ 8 399 [.t 7],m_ 6 8,e_ 9 6 0,e_ 10 6 1,m_ 4 9,m_ 5 10]
def LD:=[m_ 11 5,B_ .neq 12 11 0]
def LE:List Bg:=[⟨some 13,.mkS 2 [.str [],.str []] 0 [],none⟩,m_ 14 5,m_ 2 13,m_ 3 14]
def LF:=[m_ 15 4,q_ 16 400 [.t 15],m_ 2 16,i_ 3 0]
def c385:Dl:=⟨1,17,[.t 2,.t 3],sr LA (sr LC (.seq (sr LD (iz 12 (rr LE))) (rr LF)))⟩
def K385 (D:Az):Prop:=∀a0 r,XN a0=some r→D 385 ⟨[.agg (Ah a0)],[]⟩ ⟨.tup [Al 0 r.1,iV r.2],[],[]⟩
theorem F385 (H399:K399 C) (H400:K400 C):K385 (FO C c385):=by
 intro a0 r h0
 refine f0 (Ag (Ac (st (Mk rfl tv rfl (st (Ed (st (Bn tv (Aw (At ⟨[(1,.ptr 64 0)],[(64,Ah a0)],[]⟩ (Ar (by kernel_rfl)) (Ag (Ac (st (c_ (v:=.agg (Ah a0)) (Aq ⟨tv,tv⟩ rfl (nl rfl)) ?_))))))))))))))
 obtain ⟨r1,e2,h0⟩:=bnd h0
 refine st (Bb (r:=.tup [.own 0 0 1 (r1.1.map (eL 1 By)),iV r1.2]) true (H399 a0 r1 e2) ⟨tv,tv⟩ rfl rfl (fun h=>nomatch h) (st (An rfl tv (st (c_ (Aq ⟨tv,tv⟩ rfl tv) (st (c_ (Aq ⟨tv,tv⟩ rfl tv) (st (An rfl tv (st (An rfl tv (Aw (At ⟨[(4,.own 512 0 1 (r1.1.map (eL 1 By))),(5,iV r1.2)],[],[]⟩ (Ar (by kernel_rfl)) (Ag (Ag (Ac (st (An rfl tv (st (c_ (Aq t3 rfl tv) (Aw (At ⟨[(4,.own 512 0 1 (r1.1.map (eL 1 By))),(5,iV r1.2),(12,.bool (r1.2 != 0))],[],[]⟩ (Ar (by kernel_rfl)) (Cj (cb:=(r1.2 != 0)) rfl (fun c3=>?_) (fun c3=>?_))))))))))))))))))))))))
 ·replace h0:=ip c3 h0
  refine Ag (Ac (st (Ia tv tv (st (An rfl tv (st (An rfl tv (st (An rfl tv (Aw (At ⟨[(2,Al 832 []),(3,iV r1.2)],[],[]⟩ (Ar (by kernel_rfl)) ?_)))))))))))
  obtain rfl:=sj h0
  exact Du (Bp rfl rfl rfl rfl rfl tv)
 ·replace h0:=Fi c3 h0
  refine En (At ⟨[(4,.own 512 0 1 (r1.1.map (eL 1 By)))],[],[]⟩ (Ar (by kernel_rfl)) (Ag (Ac (st (An rfl tv ?_)))))
  obtain ⟨r4,e5,h0⟩:=bnd h0
  refine st (Bb (r:=Al 0 r4) false (H400 r1.1 r4 e5) ⟨tv,tv⟩ rfl rfl (fun _=>(Cd (Qo (fun _=>rfl)) rfl)) (st (An rfl tv (st (Bn tv (Aw (At ⟨[(2,Al 1024 r4),(3,iV 0)],[],[]⟩ (Ar (by kernel_rfl)) ?_)))))))
  obtain rfl:=sj h0
  exact Du (Bp rfl rfl rfl rfl rfl tv)
end Go.Ev
