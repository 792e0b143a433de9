/- The walks of functions: the code comes to the answers that QgD tells. Written by a program of ours. -/
import Derived.Test.YtnkhjipmmomjoaaQgW1
set_option linter.all false
set_option maxHeartbeats 4000000
set_option linter.unusedVariables false
set_option maxRecDepth 100000
namespace Go.Ev
variable {C:Bf}

/- loop.example/g00149/spec.l03Apply -/
def GG:List Bi:=[⟨some 4,.nilS 2,none⟩]
def GH:List Bi:=[⟨some 10,.mkS 2 [.str [],.str []] 0 [],none⟩,m_ 11 0,⟨some 12,.app 2 32 (.t 10) (.t 11),none⟩,m_ 5 12]
def GI:=[i_ 6 0]
def GJ:=[m_ 13 6,m_ 14 1,n_ 15 14,b_ .lss 16 13 15]
def GK:=[m_ 19 1,m_ 20 6,x_ 21 19 20 3,L_ 22 21 3,a_ 7 [.str [],.str [],.bool false],s_ 7 22 3]
def GL:=[i_ 8 0]
def GM:=tk [m_ 23 8,m_ 24 5,n_ 25 24,b_ .lss 26 23 25,m_ 27 26,mT 27 28 5,mT 27 29 8,xT 27 30 28 29 2,fT 27 31 30 0,lT 27 32 31 1 false,fT 27 33 7 0,lT 27 34 33 1 false,pT 27 35 (.bin .lss (.t 32) (.t 34)),pa 36 27 35] .fin
def GN:=[m_ 37 8,B_ .add 38 37 1,m_ 8 38]
def GE:IR:=(.seq (sd GM (.ite (.t 36) .skip (.exit 2))) (.block 3 (.reg GN)))
def GO:List Bi:=[⟨some 39,.mkS 2 [.str [],.str []] 0 [],none⟩,m_ 40 5,m_ 41 8,⟨some 42,.p (.slice (.t 40) (some (.t 41)) none 2),none⟩,⟨some 43,.app 2 32 (.t 39) (.t 42),none⟩,m_ 9 43]
def GP:=tk [m_ 44 9,n_ 45 44,B_ .gtr 46 45 0,m_ 47 46,mT 47 48 9,pT 47 49 (.idxA (.t 48) (.c (iV 0)) 2),fT 47 50 49 0,lT 47 51 50 1 false,fT 47 52 7 0,lT 47 53 52 1 false,pT 47 54 (.bin .eql (.t 51) (.t 53)),pa 55 47 54] .fin
def lA:List Bi:=[m_ 56 9,⟨some 57,.p (.slice (.t 56) (some (.c (iV 1))) none 2),none⟩,m_ 9 57]
def lB:List Bi:=[m_ 58 5,m_ 59 8,⟨some 60,.p (.slice (.t 58) none (some (.t 59)) 2),none⟩,m_ 5 60]
def lC:=[f_ 61 7 2,l_ 62 61 1,N_ 63 62]
def lD:List Bi:=[m_ 64 5,f_ 65 7 0,l_ 66 65 1,f_ 67 7 1,l_ 68 67 1,⟨some 69,.p (.build [.str [],.str []] [(0,1,.t 66),(1,1,.t 68)]),none⟩,⟨some 70,.mkS 2 [.str [],.str []] 1 [(0,.t 69)],none⟩,⟨some 71,.app 2 32 (.t 64) (.t 70),none⟩,m_ 5 71]
def lE:List Bi:=[m_ 72 5,m_ 73 9,⟨some 74,.app 2 32 (.t 72) (.t 73),none⟩,m_ 5 74]
def lG:=[m_ 17 6,B_ .add 18 17 1,m_ 6 18]
def GF:IR:=(.seq (sr GJ (.ite (.t 16) .skip (.exit 0))) (.seq (.block 1 (sr GK (sr GL (.seq (Li 2 GE) (sr GO (.seq (sd GP (iz 55 (.reg lA))) (sr lB (.seq (sr lC (iz 63 (.reg lD))) (.reg lE))))))))) (.reg lG)))
def lH:=[m_ 75 5,m_ 4 75]
def XD:Dh:=⟨2,76,[.t 4],sr GG (sr GH (.seq (sr GI (Li 0 GF)) (rr lH)))⟩
def RM (D:Bf):Prop:=∀a0 a1 r,NE a0 a1=some r→D 408 ⟨[Aw a0,Af a1],[]⟩ ⟨Aa 0 r,[],[]⟩
theorem AaF:RM (FO C XD):=by
 intro a0 a1 r h0
 refine f0 (Ab (Ac (st (Bw (At (An ⟨[(0,Aw a0),(1,Af a1)],[],[]⟩ (Ak (by kernel_rfl)) (Ab (Ac (st (Fk tv tv (st (Ag rfl tv ?_))))))))))))
 obtain ⟨c1,h0⟩:=Kq h0
 refine st (Hc (e:=Ao) (l0:=([]:List Al)) (l1:=a0) rfl rfl tv rfl (by decide) c1 (st (Ag rfl tv (At (An ⟨[(1,Af a1),(5,Aa 640 (([]:List Al)++a0))],[],[]⟩ (Ak (by kernel_rfl)) (Ab (Ab (Ac (st (Bg tv (At (An ⟨[(1,Af a1),(5,Aa 640 (([]:List Al)++a0)),(6,iV 0)],[],[]⟩ (Ak (by kernel_rfl)) (Be ?_)))))))))))))
 obtain ⟨r140,e141,h0⟩:=bnd h0
 refine Cz (R:=(fun S=>∃p84:List Al,p84=r140∧S=⟨[(5,Aa 640 p84)],[],[]⟩)) (Ng a1) (fun s S=>match s with | (p41,p42)=>S=⟨[(1,Af a1),(5,Aa 640 p41),(6,iV p42)],[],[]⟩) e141 ⟨[(1,Af a1),(5,Aa 640 (([]:List Al)++a0)),(6,iV 0)],[],[]⟩ (Ak (by kernel_rfl)) rfl 0 (fun _=>rfl) ?_ ?_
 ·rintro S _ hfg ⟨p84,rfl,rfl⟩
  refine An ⟨[(5,Aa 640 p84)],[],[]⟩ (Ft hfg (by kernel_rfl)) (Ab (Ac (st (Ag rfl tv (st (Ag rfl tv (At (An ⟨[(4,Aa 640 p84)],[],[]⟩ (Ak (by kernel_rfl)) ?_))))))))
  obtain rfl:=sj h0
  exact Cr (Bj rfl rfl rfl rfl rfl tv)
 ·rintro ⟨p41,p42⟩ o1 _ K1 rfl h1 hx1 hK1 hE1 hR1
  refine Ab (Ab (Ac (st (Ag rfl tv (st (Ag rfl tv (st (c_ (Cg (e:=Ad) (l0:=a1) rfl rfl tv) (st (c_ (Aj t3 rfl tv) (At (An ⟨[(1,Af a1),(5,Aa 640 p41),(6,iV p42),(16,.bool (decide (p42<(a1.length:Int))))],[],[]⟩ (Ak (by kernel_rfl)) (Bs (cb:=(decide (p42<(a1.length:Int)))) rfl (fun c85=>?_) (fun c85=>?_))))))))))))))
  ·replace h1:=ip c85 h1
   refine Dn (An ⟨[(1,Af a1),(5,Aa 640 p41),(6,iV p42)],[],[]⟩ (Ak (by kernel_rfl)) (Ab (Be (Ab (Ac (st (Ag rfl tv (st (Ag rfl tv ?_)))))))))
   obtain ⟨y86,e87,h1⟩:=bnd h1
   refine st (c_ (Eb (e:=Ad) (y:=y86) rfl rfl tv rfl rfl tv e87) (st (c_ (v:=.agg (Ad y86)) (Aj ⟨tv,tv⟩ rfl (nl rfl)) (st (Dt (st (El rfl rfl tv rfl rfl rfl (nl rfl) (At (An ⟨[(1,Af a1),(5,Aa 640 p41),(6,iV p42),(7,.ptr 448 0)],[(448,Ad y86)],[]⟩ (Ak (by kernel_rfl)) (Ab (Ac (st (Bg tv (At (An ⟨[(1,Af a1),(5,Aa 640 p41),(6,iV p42),(7,.ptr 448 0),(8,iV 0)],[(448,Ad y86)],[]⟩ (Ak (by kernel_rfl)) (Ab (Be ?_)))))))))))))))))
   obtain ⟨r112,e113,h1⟩:=bnd h1
   refine Cz (R:=(fun S=>∃p104:Int,p104=r112∧S=⟨[(1,Af a1),(5,Aa 640 p41),(6,iV p42),(7,.ptr 448 0),(8,iV p104)],[(448,Ad y86)],[]⟩)) (Pv p41 y86) (fun s S=>match s with | p95=>S=⟨[(1,Af a1),(5,Aa 640 p41),(6,iV p42),(7,.ptr 448 0),(8,iV p95)],[(448,Ad y86)],[]⟩) e113 ⟨[(1,Af a1),(5,Aa 640 p41),(6,iV p42),(7,.ptr 448 0),(8,iV 0)],[(448,Ad y86)],[]⟩ (Ak (by kernel_rfl)) rfl 2 (fun _=>rfl) ?_ ?_
   ·rintro S _ hfg ⟨p104,rfl,rfl⟩
    refine An ⟨[(1,Af a1),(5,Aa 640 p41),(6,iV p42),(7,.ptr 448 0),(8,iV p104)],[(448,Ad y86)],[]⟩ (Ft hfg (by kernel_rfl)) (Ab (Ac (st (Fk tv tv (st (Ag rfl tv (st (Ag rfl tv ?_))))))))
    obtain ⟨s114,e115,h1⟩:=bnd h1
    refine st (c_ (De (e:=Ao) (y:=s114) rfl rfl tv ⟨tv,tv⟩ rfl rfl e115) ?_)
    obtain ⟨c116,h1⟩:=Kq h1
    refine st (Hc (e:=Ao) (l0:=([]:List Al)) (l1:=s114) rfl rfl tv rfl (by decide) c116 (st (Ag rfl tv (At (An ⟨[(1,Af a1),(5,Aa 640 p41),(6,iV p42),(7,.ptr 448 0),(8,iV p104),(9,Aa 2496 (([]:List Al)++s114))],[(448,Ad y86)],[]⟩ (Ak (by kernel_rfl)) (Ab (Ab ?_)))))))
    obtain ⟨y117,e118,h1⟩:=bnd h1
    obtain ⟨y119,e120,h1⟩:=bnd h1
    refine Ds (Ah tv (Ag rfl tv (⟨tv,Ah tv (c_ (Ez (e:=Ao) (l0:=([]:List Al)++s114) rfl rfl tv) (⟨tv,Ah tv (c_ (Aj t3 rfl tv) (⟨tv,Ah tv (Ag rfl tv (⟨tv,Ah tv (Bu (u:=Aa 2496 (([]:List Al)++s114)) rfl (fun hg=>(Gx (v:=Aa 2496 (([]:List Al)++s114)) rfl tv)) (⟨tv,Ah tv (Bu (u:=.optr 2496 2 (0+((0:Int).toNat)) 0) rfl (fun hg=>(Hw (e:=Ao) (y:=y117) rfl rfl (fun _=>hg) rfl rfl tv (ip hg e118))) (⟨tv,Ah tv (Bu (u:=.optr 2496 2 (0+((0:Int).toNat)) 0) rfl (fun hg=>(Aj ⟨(fun _=>hg),tv⟩ rfl tv)) (⟨tv,Qz (Bu (u:=.str y119.key) rfl (fun hg=>(Cd (e:=Ao) (y:=y119) (v:=.str y119.key) rfl rfl (fun _=>hg) rfl rfl (ip hg e120) rfl (nl rfl) rfl)) (⟨⟨Ga (v:=.str y119.key) rfl (fun hg=>(Cd (e:=Ao) (y:=y119) (v:=.str y119.key) rfl rfl (fun _=>hg) rfl rfl (ip hg e120) rfl (nl rfl) rfl)) rfl,tv⟩,Ah tv (Bu (u:=.ptr 448 0) rfl (fun hg=>(Aj ⟨tv,tv⟩ rfl tv)) (⟨⟨Ga (v:=.str y119.key) rfl (fun hg=>(Cd (e:=Ao) (y:=y119) (v:=.str y119.key) rfl rfl (fun _=>hg) rfl rfl (ip hg e120) rfl (nl rfl) rfl)) rfl,tv⟩,Ah tv (Bu (u:=.str y86.key) rfl (fun hg=>(Aj ⟨(fun _=>hg),tv⟩ rfl (nl rfl))) (⟨⟨Ga (v:=.str y119.key) rfl (fun hg=>(Cd (e:=Ao) (y:=y119) (v:=.str y119.key) rfl rfl (fun _=>hg) rfl rfl (ip hg e120) rfl (nl rfl) rfl)) rfl,tv⟩,Ah tv (Bu (u:=.bool (y119.key==y86.key)) rfl (fun hg=>(Aj ⟨(fun _=>hg),(fun _=>hg),tv⟩ rfl tv)) (⟨⟨Ga (v:=.str y119.key) rfl (fun hg=>(Cd (e:=Ao) (y:=y119) (v:=.str y119.key) rfl rfl (fun _=>hg) rfl rfl (ip hg e120) rfl (nl rfl) rfl)) rfl,tv⟩,Ah tv (Ct rfl rfl rfl (fun h=>Zh h) tv rfl (⟨⟨Ga (v:=.str y119.key) rfl (fun hg=>(Cd (e:=Ao) (y:=y119) (v:=.str y119.key) rfl rfl (fun _=>hg) rfl rfl (ip hg e120) rfl (nl rfl) rfl)) rfl,tv⟩,Iu ?_⟩))⟩))⟩))⟩))⟩))⟩))⟩))⟩))⟩))⟩))⟩))⟩)))
    obtain ⟨v121,e122,h1⟩:=bl h1
    refine An ⟨[(1,Af a1),(5,Aa 640 p41),(6,iV p42),(7,.ptr 448 0),(8,iV p104),(9,Aa 2496 (([]:List Al)++s114)),(55,.bool v121)],[(448,Ad y86)],[]⟩ (Ak (by subst e122; kernel_rfl)) (Zt (cb:=v121) (fun S=>∃p126:List Al,S=⟨[(1,Af a1),(5,Aa 640 p41),(6,iV p42),(7,.ptr 448 0),(8,iV p104),(9,Aw p126)],[(448,Ad y86)],[]⟩∧Pu p41 p42 y86 p104 p126=some o1) rfl ?_ (fun c137 J136=>?_) (fun c137 J136=>?_))
    ·rintro _ ⟨p126,rfl,h1⟩
     refine An ⟨[(1,Af a1),(5,Aa 640 p41),(6,iV p42),(7,.ptr 448 0),(8,iV p104),(9,Aw p126)],[(448,Ad y86)],[]⟩ (Ak (by kernel_rfl)) (Ab (Ac (st (Ag rfl tv (st (Ag rfl tv ?_))))))
     obtain ⟨s127,e128,h1⟩:=bnd h1
     refine st (c_ (De (e:=Ao) (y:=s127) rfl rfl tv ⟨tv,tv⟩ rfl rfl e128) (st (Ag rfl tv (At (An ⟨[(1,Af a1),(5,Aa 640 s127),(6,iV p42),(7,.ptr 448 0),(9,Aw p126)],[(448,Ad y86)],[]⟩ (Ak (by kernel_rfl)) (Ab (Ab (Ac (st (c_ (Aj ⟨tv,tv⟩ rfl tv) (st (c_ (Aj ⟨tv,tv⟩ rfl (nl rfl)) (st (c_ (Aj ⟨tv,tv⟩ rfl tv) (At (An ⟨[(1,Af a1),(5,Aa 640 s127),(6,iV p42),(7,.ptr 448 0),(9,Aw p126),(63,.bool (!y86.Dm))],[(448,Ad y86)],[]⟩ (Ak (by kernel_rfl)) (Zt (cb:=(!y86.Dm)) (fun S=>∃p131:List Al,S=⟨[(1,Af a1),(5,Aa 640 p131),(6,iV p42),(9,Aw p126)],[],[]⟩∧Tb p42 p126 p131=some o1) rfl ?_ (fun c134 J133=>?_) (fun c134 J133=>?_))))))))))))))))))
     ·rintro _ ⟨p131,rfl,h1⟩
      refine An ⟨[(1,Af a1),(5,Aa 640 p131),(6,iV p42),(9,Aw p126)],[],[]⟩ (Ak (by kernel_rfl)) (Ac (st (Ag rfl tv (st (Ag rfl tv ?_)))))
      obtain ⟨c132,h1⟩:=Kq h1
      refine st (Hc (e:=Ao) (l0:=p131) (l1:=p126) rfl rfl tv rfl (by decide) c132 (st (Ag rfl tv (At (It (An ⟨[(1,Af a1),(5,Aa 640 (p131++p126)),(6,iV p42)],[],[]⟩ (Ak (by kernel_rfl)) (Ac (st (Ag rfl tv (st (c_ (Aj t3 rfl tv) (st (Ag rfl tv (At ?_))))))))))))))
      obtain rfl:=sj h1
      exact hK1 _ rfl _ ⟨[(1,Af a1),(5,Aa 640 (p131++p126)),(6,iV (wi (p42+1)))],[],[]⟩ (Ak (by kernel_rfl)) rfl
     ·replace h1:=ip c134 h1
      refine Ac (st (Ag rfl tv (st (c_ (Aj ⟨tv,tv⟩ rfl tv) (st (c_ (Aj ⟨tv,tv⟩ rfl (nl rfl)) (st (c_ (Aj ⟨tv,tv⟩ rfl tv) (st (c_ (Aj ⟨tv,tv⟩ rfl (nl rfl)) (st (c_ (v:=.agg [.str y86.key,.str y86.value]) (Aj ⟨tv,tv,tv⟩ rfl ⟨⟨rfl,rfl,nl rfl⟩,⟨rfl,rfl,nl rfl⟩,tv⟩) (st (Fk ⟨tv,tv⟩ ⟨⟨nl rfl,rfl,rfl⟩,tv⟩ ?_))))))))))))))
      obtain ⟨c135,h1⟩:=Kq h1
      refine st (Hc (e:=Ao) (l0:=s127) (l1:=([Al.mk y86.key y86.value]:List Al)) rfl rfl tv rfl (by decide) c135 (st (Ag rfl tv (At ?_))))
      exact J133 _ ⟨[(1,Af a1),(5,Aa 640 (s127++([Al.mk y86.key y86.value]:List Al))),(6,iV p42),(9,Aw p126)],[],[]⟩ (Ak (by kernel_rfl)) ⟨_,rfl,h1⟩
     ·replace h1:=Do c134 h1
      refine Dn ?_
      exact J133 _ ⟨[(1,Af a1),(5,Aa 640 s127),(6,iV p42),(9,Aw p126)],[],[]⟩ (Ak (by kernel_rfl)) ⟨_,rfl,h1⟩
    ·replace h1:=ip c137 h1
     refine Ac (st (Ag rfl tv ?_))
     obtain ⟨s138,e139,h1⟩:=bnd h1
     refine st (c_ (De (e:=Ao) (y:=s138) rfl rfl tv ⟨tv,tv⟩ rfl rfl e139) (st (Ag rfl tv (At ?_))))
     exact J136 _ ⟨[(1,Af a1),(5,Aa 640 p41),(6,iV p42),(7,.ptr 448 0),(8,iV p104),(9,Aw s138)],[(448,Ad y86)],[]⟩ (mR [2496] (by kernel_rfl)) ⟨_,rfl,h1⟩
    ·replace h1:=Do c137 h1
     refine Dn ?_
     exact J136 _ ⟨[(1,Af a1),(5,Aa 640 p41),(6,iV p42),(7,.ptr 448 0),(8,iV p104),(9,Aw (([]:List Al)++s114))],[(448,Ad y86)],[]⟩ (mR [2496] (by kernel_rfl)) ⟨_,rfl,h1⟩
   ·rintro p95 o2 _ K2 rfl h2 hx2 hK2 hE2 hR2
    refine Ab (Ab ?_)
    obtain ⟨y105,e106,h2⟩:=bnd h2
    obtain ⟨y107,e108,h2⟩:=bnd h2
    refine Ds (Ah tv (Ag rfl tv (⟨tv,Ah tv (Ag rfl tv (⟨tv,Ah tv (c_ (Ez (e:=Ao) (l0:=p41) rfl rfl tv) (⟨tv,Ah tv (c_ (Aj t3 rfl tv) (⟨tv,Ah tv (Ag rfl tv (⟨tv,Ah tv (Bu (u:=Aa 640 p41) rfl (fun hg=>(Gx (v:=Aa 640 p41) rfl tv)) (⟨tv,Ah tv (Bu (u:=iV p95) rfl (fun hg=>(Gx (v:=iV p95) rfl tv)) (⟨tv,Ah tv (Bu (u:=.optr 640 2 (0+p95.toNat) 0) rfl (fun hg=>(Hw (e:=Ao) (y:=y105) rfl rfl (fun _=>hg) rfl rfl (fun _=>hg) (ip hg e106))) (⟨tv,Ah tv (Bu (u:=.optr 640 2 (0+p95.toNat) 0) rfl (fun hg=>(Aj ⟨(fun _=>hg),tv⟩ rfl tv)) (⟨tv,Qz (Bu (u:=.str y107.key) rfl (fun hg=>(Cd (e:=Ao) (y:=y107) (v:=.str y107.key) rfl rfl (fun _=>hg) rfl rfl (ip hg e108) rfl (nl rfl) rfl)) (⟨⟨Ga (v:=.str y107.key) rfl (fun hg=>(Cd (e:=Ao) (y:=y107) (v:=.str y107.key) rfl rfl (fun _=>hg) rfl rfl (ip hg e108) rfl (nl rfl) rfl)) rfl,tv⟩,Ah tv (Bu (u:=.ptr 448 0) rfl (fun hg=>(Aj ⟨tv,tv⟩ rfl tv)) (⟨⟨Ga (v:=.str y107.key) rfl (fun hg=>(Cd (e:=Ao) (y:=y107) (v:=.str y107.key) rfl rfl (fun _=>hg) rfl rfl (ip hg e108) rfl (nl rfl) rfl)) rfl,tv⟩,Ah tv (Bu (u:=.str y86.key) rfl (fun hg=>(Aj ⟨(fun _=>hg),tv⟩ rfl (nl rfl))) (⟨⟨Ga (v:=.str y107.key) rfl (fun hg=>(Cd (e:=Ao) (y:=y107) (v:=.str y107.key) rfl rfl (fun _=>hg) rfl rfl (ip hg e108) rfl (nl rfl) rfl)) rfl,tv⟩,Ah tv (Bu (u:=.bool (Op.bytesLess y107.key y86.key)) rfl (fun hg=>(Aj ⟨(fun _=>hg),(fun _=>hg),tv⟩ rfl tv)) (⟨⟨Ga (v:=.str y107.key) rfl (fun hg=>(Cd (e:=Ao) (y:=y107) (v:=.str y107.key) rfl rfl (fun _=>hg) rfl rfl (ip hg e108) rfl (nl rfl) rfl)) rfl,tv⟩,Ah tv (Ct rfl rfl rfl (fun h=>Zh h) tv rfl (⟨⟨Ga (v:=.str y107.key) rfl (fun hg=>(Cd (e:=Ao) (y:=y107) (v:=.str y107.key) rfl rfl (fun _=>hg) rfl rfl (ip hg e108) rfl (nl rfl) rfl)) rfl,tv⟩,Iu ?_⟩))⟩))⟩))⟩))⟩))⟩))⟩))⟩))⟩))⟩))⟩))⟩))⟩))⟩)))
    obtain ⟨v109,e110,h2⟩:=bl h2
    refine An ⟨[(1,Af a1),(5,Aa 640 p41),(6,iV p42),(7,.ptr 448 0),(8,iV p95),(36,.bool v109)],[(448,Ad y86)],[]⟩ (Ak (by subst e110; kernel_rfl)) (Bs (cb:=v109) rfl (fun c111=>?_) (fun c111=>?_))
    ·replace h2:=ip c111 h2
     refine Dn (An ⟨[(1,Af a1),(5,Aa 640 p41),(6,iV p42),(7,.ptr 448 0),(8,iV p95)],[(448,Ad y86)],[]⟩ (Ak (by kernel_rfl)) (Be (Ac (st (Ag rfl tv (st (c_ (Aj t3 rfl tv) (st (Ag rfl tv (At (It ?_)))))))))))
     obtain rfl:=sj h2
     exact hK2 _ rfl _ ⟨[(1,Af a1),(5,Aa 640 p41),(6,iV p42),(7,.ptr 448 0),(8,iV (wi (p95+1)))],[(448,Ad y86)],[]⟩ (Ak (by kernel_rfl)) rfl
    ·replace h2:=Do c111 h2
     obtain rfl:=sj h2
     obtain rfl:=hx2 _ rfl
     refine Ke rfl ?_
     exact hE2 _ ⟨[(1,Af a1),(5,Aa 640 p41),(6,iV p42),(7,.ptr 448 0),(8,iV p95)],[(448,Ad y86)],[]⟩ (Ak (by kernel_rfl)) ⟨_,rfl,rfl⟩
  ·replace h1:=Do c85 h1
   obtain rfl:=sj h1
   obtain rfl:=hx1 _ rfl
   refine Ke rfl ?_
   exact hE1 _ ⟨[(5,Aa 640 p41)],[],[]⟩ (Ak (by kernel_rfl)) ⟨_,rfl,rfl⟩

/- loop.example/g00149/spec.l03Change -/
def yM:=[X_ 1 0,k_ 2 (.bool false)]
def yN:List Bi:=[f_ 3 1 0,l_ 4 3 1,iQ 5 (.lenS (.t 4)),B_ .gtr 6 5 0,m_ 7 6,fT 7 8 1 0,lT 7 9 8 1 false,pT 7 10 (.lenS (.t 9)),pT 7 11 (.bin .leq (.t 10) (.c (iV 60))),pa 12 7 11,m_ 13 12,fT 13 14 1 1,lT 13 15 14 1 false,pT 13 16 (.lenS (.t 15)),pT 13 17 (.bin .leq (.t 16) (.c (iV 400))),pa 18 13 17,m_ 19 18,fT 19 20 1 2,lT 19 21 20 1 false,pT 19 22 (.un .not (.t 21)),mT 19 23 22,fF 23 24 1 1,lF 23 25 24 1 false,pF 23 26 (.bin .eql (.t 25) (.c (.str []))),⟨some 27,.pick (.t 23) (.c (.bool true)) (.t 26),some (19,true)⟩,pa 28 19 27,m_ 2 28]
def VX:Dh:=⟨1,29,[.t 2],sr yM (rr yN)⟩
def QP (D:Bf):Prop:=∀a0 r,MC a0=some r→D 360 ⟨[.agg (Ad a0)],[]⟩ ⟨.bool r,[],[]⟩
theorem Aac:QP (FO C VX):=by
 intro a0 r h0
 refine f0 (Ab (Ac (st (Hm rfl tv rfl (st (Bg tv (At (An ⟨[(1,.ptr 64 0)],[(64,Ad a0)],[]⟩ (Ak (by kernel_rfl)) (Ab (Ac (st (c_ (Aj ⟨tv,tv⟩ rfl tv) (st (c_ (Aj ⟨tv,tv⟩ rfl (nl rfl)) (st (c_ (Aj ⟨tv,tv⟩ rfl tv) (st (c_ (Aj t3 rfl tv) (st (Ag rfl tv (st (Bu (u:=.ptr 64 0) rfl (fun hg=>(Aj ⟨tv,tv⟩ rfl tv)) (st (Bu (u:=.str a0.key) rfl (fun hg=>(Aj ⟨(fun _=>hg),tv⟩ rfl (nl rfl))) (st (Bu (u:=iV (a0.key.length:Int)) rfl (fun hg=>(Aj ⟨(fun _=>hg),tv⟩ rfl tv)) (st (Bu (u:=.bool (decide ((a0.key.length:Int)≤60))) rfl (fun hg=>(Aj ⟨(fun _=>hg),tv,tv⟩ rfl tv)) (st (Ct rfl rfl rfl (fun h=>Zh h) tv rfl (st (Ag rfl tv (st (Bu (u:=.ptr 64 1) rfl (fun hg=>(Aj ⟨tv,tv⟩ rfl tv)) (st (Bu (u:=.str a0.value) rfl (fun hg=>(Aj ⟨(fun _=>hg),tv⟩ rfl (nl rfl))) (st (Bu (u:=iV (a0.value.length:Int)) rfl (fun hg=>(Aj ⟨(fun _=>hg),tv⟩ rfl tv)) (st (Bu (u:=.bool (decide ((a0.value.length:Int)≤400))) rfl (fun hg=>(Aj ⟨(fun _=>hg),tv,tv⟩ rfl tv)) (sw ⟨[(1,.ptr 64 0),(13,.bool (bif (decide ((a0.key.length:Int)>0)) then (decide ((a0.key.length:Int)≤60)) else false)),(17,.may ((bif (decide ((a0.key.length:Int)>0)) then (decide ((a0.key.length:Int)≤60)) else false)==true) (.bool (decide ((a0.value.length:Int)≤400))))],[(64,Ad a0)],[]⟩ (Ak (by kernel_rfl)) (Ct rfl rfl rfl (fun h=>Zh h) tv rfl (st (Ag rfl tv (st (Bu (u:=.ptr 64 2) rfl (fun hg=>(Aj ⟨tv,tv⟩ rfl tv)) (st (Bu (u:=.bool a0.Dm) rfl (fun hg=>(Aj ⟨(fun _=>hg),tv⟩ rfl (nl rfl))) (st (Bu (u:=.bool (!a0.Dm)) rfl (fun hg=>(Aj ⟨(fun _=>hg),tv⟩ rfl tv)) (st (Bu (u:=.bool (!a0.Dm)) rfl (fun hg=>(Gx (v:=.may ((bif (bif (decide ((a0.key.length:Int)>0)) then (decide ((a0.key.length:Int)≤60)) else false) then (decide ((a0.value.length:Int)≤400)) else false)==true) (.bool (!a0.Dm))) rfl (fun _=>hg))) (st (Bu (u:=.ptr 64 1) rfl (fun hg=>(Aj ⟨tv,tv⟩ rfl tv)) ?_))))))))))))))))))))))))))))))))))))))))))))))))))))))
 refine st (Bu (u:=.str a0.value) rfl (fun hg=>(Aj ⟨(fun _=>hg),tv⟩ rfl (nl rfl))) (st (Bu (u:=.bool (a0.value==([]:List UInt8))) rfl (fun hg=>(Aj ⟨(fun _=>hg),tv,tv⟩ rfl tv)) (st (bW (u:=.bool (bif (!a0.Dm) then true else (a0.value==([]:List UInt8)))) rfl (fun hg=>mO rfl rfl (fun _=>hg) rfl rfl tv (fun h=>Cf hg (Sa h)) rfl) (st (Ct rfl rfl rfl (fun h=>Zh h) tv rfl (st (Ag rfl tv (At ?_))))))))))
 obtain ⟨v1,e2,h0⟩:=bl h0
 refine An ⟨[(2,.bool v1)],[],[]⟩ (Ak (by subst e2; kernel_rfl)) ?_
 obtain rfl:=sj h0
 exact Cr (Bj rfl rfl rfl rfl rfl tv)

/- loop.example/g00149/spec.l03Batch -/
def FV:=[k_ 2 (.bool false)]
def FW:=[m_ 4 0,n_ 5 4,B_ .gtr 6 5 30]
def FX:=[k_ 2 (.bool false)]
def FY:=[i_ 3 0]
def FZ:=[m_ 7 3,m_ 8 0,n_ 9 8,b_ .lss 10 7 9]
def GA:=[m_ 13 0,m_ 14 3,x_ 15 13 14 3,L_ 16 15 3,q_ 17 360 [.t 16],N_ 18 17]
def GB:=[k_ 2 (.bool false)]
def GC:=[m_ 11 3,B_ .add 12 11 1,m_ 3 12]
def FU:IR:=(.seq (sr FZ (.ite (.t 10) .skip (.exit 0))) (.seq (.block 1 (sr GA (iz 18 (rr GB)))) (.reg GC)))
def GD:=[k_ 2 (.bool true)]
def XC:Dh:=⟨1,19,[.t 2],sr FV (.seq (sr FW (iz 6 (rr FX))) (.seq (sr FY (Li 0 FU)) (rr GD)))⟩
def RL (D:Bf):Prop:=∀a0 r,NC a0=some r→D 407 ⟨[Af a0],[]⟩ ⟨.bool r,[],[]⟩
theorem AaE (H360:QP C):RL (FO C XC):=by
 intro a0 r h0
 refine f0 (Ab (Ac (st (Bg tv (At (An ⟨[(0,Af a0)],[],[]⟩ (Ak (by kernel_rfl)) (Ab (Ab (Ac (st (Ag rfl tv (st (c_ (Cg (e:=Ad) (l0:=a0) rfl rfl tv) (st (c_ (Aj t3 rfl tv) (At (An ⟨[(0,Af a0),(6,.bool (decide ((a0.length:Int)>30)))],[],[]⟩ (Ak (by kernel_rfl)) (Bs (cb:=(decide ((a0.length:Int)>30))) rfl (fun c1=>?_) (fun c1=>?_)))))))))))))))))))
 ·replace h0:=ip c1 h0
  refine Ab (Ac (st (Bg tv (At (An ⟨[(2,.bool false)],[],[]⟩ (Ak (by kernel_rfl)) ?_)))))
  obtain rfl:=sj h0
  exact Cr (Bj rfl rfl rfl rfl rfl tv)
 ·replace h0:=Do c1 h0
  refine Dn (An ⟨[(0,Af a0)],[],[]⟩ (Ak (by kernel_rfl)) (Ab (Ab (Ac (st (Bg tv (At (An ⟨[(0,Af a0),(3,iV 0)],[],[]⟩ (Ak (by kernel_rfl)) (Be ?_)))))))))
  obtain ⟨r22,e23,h0⟩:=bnd h0
  refine Cz (R:=(fun S=>.inl ()=r22∧S=⟨[],[],[]⟩)) (Pt a0) (fun s S=>match s with | p8=>S=⟨[(0,Af a0),(3,iV p8)],[],[]⟩) e23 ⟨[(0,Af a0),(3,iV 0)],[],[]⟩ (Ak (by kernel_rfl)) rfl 0 (fun _=>rfl) ?_ ?_
  ·rintro S _ hfg ⟨rfl,rfl⟩
   refine An ⟨[],[],[]⟩ (Ft hfg (by kernel_rfl)) (Ab (Ac (st (Bg tv (At (An ⟨[(2,.bool true)],[],[]⟩ (Ak (by kernel_rfl)) ?_))))))
   obtain rfl:=sj h0
   exact Cr (Bj rfl rfl rfl rfl rfl tv)
  ·rintro p8 o1 _ K1 rfl h1 hx1 hK1 hE1 hR1
   refine Ab (Ab (Ac (st (Ag rfl tv (st (Ag rfl tv (st (c_ (Cg (e:=Ad) (l0:=a0) rfl rfl tv) (st (c_ (Aj t3 rfl tv) (At (An ⟨[(0,Af a0),(3,iV p8),(10,.bool (decide (p8<(a0.length:Int))))],[],[]⟩ (Ak (by kernel_rfl)) (Bs (cb:=(decide (p8<(a0.length:Int)))) rfl (fun c16=>?_) (fun c16=>?_))))))))))))))
   ·replace h1:=ip c16 h1
    refine Dn (An ⟨[(0,Af a0),(3,iV p8)],[],[]⟩ (Ak (by kernel_rfl)) (Ab (Be (Ab (Ac (st (Ag rfl tv (st (Ag rfl tv ?_)))))))))
    obtain ⟨y17,e18,h1⟩:=bnd h1
    refine st (c_ (Eb (e:=Ad) (y:=y17) rfl rfl tv rfl rfl tv e18) (st (c_ (v:=.agg (Ad y17)) (Aj ⟨tv,tv⟩ rfl (nl rfl)) ?_)))
    obtain ⟨r19,e20,h1⟩:=bnd h1
    refine st (Ax (r:=.bool r19) false (H360 y17 r19 e20) ⟨tv,tv⟩ rfl rfl (fun _=>rfl) (st (c_ (Aj ⟨tv,tv⟩ rfl tv) (At (An ⟨[(0,Af a0),(3,iV p8),(18,.bool (!r19))],[],[]⟩ (Ak (by kernel_rfl)) (Bs (cb:=(!r19)) rfl (fun c21=>?_) (fun c21=>?_)))))))
    ·replace h1:=ip c21 h1
     refine Ab (Ac (st (Bg tv (At (An ⟨[(2,.bool false)],[],[]⟩ (Ak (by kernel_rfl)) ?_)))))
     obtain rfl:=sj h1
     obtain rfl:=hx1 _ rfl
     obtain rfl:=sj h0
     exact Cr (hR1 _ (Bj rfl rfl rfl rfl rfl tv))
    ·replace h1:=Do c21 h1
     refine Dn (It (An ⟨[(0,Af a0),(3,iV p8)],[],[]⟩ (Ak (by kernel_rfl)) (Ac (st (Ag rfl tv (st (c_ (Aj t3 rfl tv) (st (Ag rfl tv (At ?_))))))))))
     obtain rfl:=sj h1
     exact hK1 _ rfl _ ⟨[(0,Af a0),(3,iV (wi (p8+1)))],[],[]⟩ (Ak (by kernel_rfl)) rfl
   ·replace h1:=Do c16 h1
    obtain rfl:=sj h1
    obtain rfl:=hx1 _ rfl
    refine Ke rfl ?_
    exact hE1 _ ⟨[],[],[]⟩ (Ak (by kernel_rfl)) ⟨rfl,rfl⟩

/- loop.example/g00149/spec.l03Read -/
def IT:List Bi:=[⟨some 2,.nilS 3,none⟩,k_ 3 (.bool false)]
def IU:List Bi:=[⟨some 9,.mkS 3 [.str [],.str [],.bool false] 0 [],none⟩,m_ 4 9]
def IV:=[i_ 5 0]
def IW:=[m_ 10 5,m_ 11 0,n_ 12 11,b_ .lss 13 10 12]
def IX:=[m_ 14 0,m_ 15 5,x_ 16 14 15 1,l_ 17 16 1,iQ 18 (.conv .i64 (.t 17)),m_ 6 18]
def IY:=[m_ 19 5,B_ .add 20 19 1,m_ 21 6,b_ .add 22 20 21,B_ .add 23 22 2,m_ 24 0,n_ 25 24,b_ .gtr 26 23 25]
def IZ:=[m_ 27 4,m_ 2 27,k_ 3 (.bool false)]
def JA:List Bi:=[m_ 28 0,m_ 29 5,B_ .add 30 29 1,m_ 31 5,B_ .add 32 31 1,m_ 33 6,b_ .add 34 32 33,⟨some 35,.p (.slice (.t 28) (some (.t 30)) (some (.t 34)) 1),none⟩,iQ 36 (.toStr (.t 35)),⟨some 37,.p (.build [.str [],.str [],.bool false] [(0,1,.t 36)]),none⟩,a_ 7 [.str [],.str [],.bool false],s_ 7 37 3]
def JB:List Bi:=[m_ 38 5,m_ 39 6,⟨some 40,.p (.bin .add (.c (iV 1)) (.t 39)),none⟩,b_ .add 41 38 40,m_ 5 41]
def JC:=tk [m_ 42 0,m_ 43 5,x_ 44 42 43 1,l_ 45 44 1,iQ 46 (.conv .i64 (.t 45)),B_ .mul 47 46 256,m_ 48 0,m_ 49 5,B_ .add 50 49 1,x_ 51 48 50 1,l_ 52 51 1,iQ 53 (.conv .i64 (.t 52)),b_ .add 54 47 53,B_ .sub 55 54 1,m_ 8 55] .fin
def lU:=[m_ 56 5,B_ .add 57 56 2,m_ 5 57]
def lV:=[m_ 58 8,B_ .lss 59 58 0]
def lW:List Bi:=[f_ 60 7 2,⟨none,.store (.t 60) (.c (.bool true)) 1,none⟩]
def lX:=[i_ 8 0]
def lY:=[m_ 61 5,m_ 62 8,b_ .add 63 61 62,m_ 64 0,n_ 65 64,b_ .gtr 66 63 65]
def lZ:=[m_ 67 4,m_ 2 67,k_ 3 (.bool false)]
def mA:List Bi:=[m_ 68 0,m_ 69 5,m_ 70 5,m_ 71 8,b_ .add 72 70 71,⟨some 73,.p (.slice (.t 68) (some (.t 69)) (some (.t 72)) 1),none⟩,iQ 74 (.toStr (.t 73)),f_ 75 7 1,s_ 75 74 1]
def mB:=[m_ 76 5,m_ 77 8,b_ .add 78 76 77,m_ 5 78]
def mC:List Bi:=[m_ 79 4,L_ 80 7 3,⟨some 81,.mkS 3 [.str [],.str [],.bool false] 1 [(0,.t 80)],none⟩,⟨some 82,.app 3 40 (.t 79) (.t 81),none⟩,m_ 4 82]
def IS:IR:=(.seq (sr IW (.ite (.t 13) .skip (.exit 0))) (.block 1 (sr IX (.seq (sr IY (iz 26 (rr IZ))) (sr JA (sr JB (sd JC (sr lU (.seq (sr lV (iz 59 (sr lW (.reg lX)))) (.seq (sr lY (iz 66 (rr lZ))) (sr mA (sr mB (.reg mC)))))))))))))
def mD:=[m_ 83 4,m_ 84 4,q_ 85 407 [.t 84],m_ 2 83,m_ 3 85]
def XN:Dh:=⟨1,86,[.t 2,.t 3],sr IT (sr IU (.seq (sr IV (Li 0 IS)) (rr mD)))⟩
def SB (D:Bf):Prop:=∀a0 r,NP a0=some r→D 421 ⟨[Bh a0],[]⟩ ⟨.tup [Ar 0 r.1,.bool r.2],[],[]⟩
theorem AaP (H407:RL C):SB (FO C XN):=by
 intro a0 r h0
 refine f0 (Ab (Ac (st (Bw (st (Bg tv (At (An ⟨[(0,Bh a0)],[],[]⟩ (Ak (by kernel_rfl)) (Ab (Ac (st (Fk tv tv (st (Ag rfl tv (At (An ⟨[(0,Bh a0),(4,Ar 576 [])],[],[]⟩ (Ak (by kernel_rfl)) (Ab (Ab (Ac (st (Bg tv (At (An ⟨[(0,Bh a0),(4,Ar 576 []),(5,iV 0)],[],[]⟩ (Ak (by kernel_rfl)) (Be ?_))))))))))))))))))))))))
 obtain ⟨r83,e84,h0⟩:=bnd h0
 refine Cz (R:=(fun S=>∃p55:List Ae,.inl p55=r83∧S=⟨[(4,Ar 576 p55)],[],[]⟩)) (Td a0) (fun s S=>match s with | (p26,p27)=>S=⟨[(0,Bh a0),(4,Ar 576 p26),(5,iV p27)],[],[]⟩) e84 ⟨[(0,Bh a0),(4,Ar 576 []),(5,iV 0)],[],[]⟩ (Ak (by kernel_rfl)) rfl 0 (fun _=>rfl) ?_ ?_
 ·rintro S _ hfg ⟨p55,rfl,rfl⟩
  refine An ⟨[(4,Ar 576 p55)],[],[]⟩ (Ft hfg (by kernel_rfl)) (Ab (Ac (st (Ag rfl tv (st (Ag rfl tv ?_))))))
  obtain ⟨r85,e86,h0⟩:=bnd h0
  refine st (Ax (r:=.bool r85) false (H407 p55 r85 e86) ⟨tv,tv⟩ rfl rfl (fun _=>rfl) (st (Ag rfl tv (st (Ag rfl tv (At (An ⟨[(2,Ar 576 p55),(3,.bool r85)],[],[]⟩ (Ak (by kernel_rfl)) ?_)))))))
  obtain rfl:=sj h0
  exact Cr (Bj rfl rfl rfl rfl rfl tv)
 ·rintro ⟨p26,p27⟩ o1 _ K1 rfl h1 hx1 hK1 hE1 hR1
  refine Ab (Ab (Ac (st (Ag rfl tv (st (Ag rfl tv (st (c_ (Cg (e:=Bo) (l0:=a0) rfl rfl tv) (st (c_ (Aj t3 rfl tv) (At (An ⟨[(0,Bh a0),(4,Ar 576 p26),(5,iV p27),(13,.bool (decide (p27<(a0.length:Int))))],[],[]⟩ (Ak (by kernel_rfl)) (Bs (cb:=(decide (p27<(a0.length:Int)))) rfl (fun pZ=>?_) (fun pZ=>?_))))))))))))))
  ·replace h1:=ip pZ h1
   refine Dn (An ⟨[(0,Bh a0),(4,Ar 576 p26),(5,iV p27)],[],[]⟩ (Ak (by kernel_rfl)) (Be (Ab (Ac (st (Ag rfl tv (st (Ag rfl tv ?_))))))))
   obtain ⟨y57,e58,h1⟩:=bnd h1
   refine st (c_ (Eb (e:=Bo) (y:=y57) rfl rfl tv rfl rfl tv e58) (st (c_ (Aj ⟨tv,tv⟩ rfl (nl rfl)) (st (c_ (Aj ⟨tv,tv⟩ rfl tv) (st (Ag rfl tv (At (An ⟨[(0,Bh a0),(4,Ar 576 p26),(5,iV p27),(6,iV (wi ((y57).toNat:Int)))],[],[]⟩ (Ak (by kernel_rfl)) (Ab (Ab (Ac (st (Ag rfl tv (st (c_ (Aj t3 rfl tv) (st (Ag rfl tv (st (c_ (Aj t3 rfl tv) (st (c_ (Aj t3 rfl tv) (st (Ag rfl tv (st (c_ (Cg (e:=Bo) (l0:=a0) rfl rfl tv) (st (c_ (Aj t3 rfl tv) (At ?_)))))))))))))))))))))))))))))
   obtain ⟨v59,e60,h1⟩:=bl h1
   refine An ⟨[(0,Bh a0),(4,Ar 576 p26),(5,iV p27),(6,iV (wi ((y57).toNat:Int))),(26,.bool v59)],[],[]⟩ (Ak (by subst e60; kernel_rfl)) (Bs (cb:=v59) rfl (fun c61=>?_) (fun c61=>?_))
   ·replace h1:=ip c61 h1
    refine Ab (Ac (st (Ag rfl tv (st (Ag rfl tv (st (Bg tv (At (An ⟨[(2,Ar 576 p26),(3,.bool false)],[],[]⟩ (Ak (by kernel_rfl)) ?_)))))))))
    obtain rfl:=sj h1
    obtain rfl:=hx1 _ rfl
    obtain rfl:=sj h0
    exact Cr (hR1 _ (Bj rfl rfl rfl rfl rfl tv))
   ·replace h1:=Do c61 h1
    refine Dn (An ⟨[(0,Bh a0),(4,Ar 576 p26),(5,iV p27),(6,iV (wi ((y57).toNat:Int)))],[],[]⟩ (Ak (by kernel_rfl)) (Ab (Ac (st (Ag rfl tv (st (Ag rfl tv (st (c_ (Aj t3 rfl tv) (st (Ag rfl tv (st (c_ (Aj t3 rfl tv) (st (Ag rfl tv (st (c_ (Aj t3 rfl tv) ?_)))))))))))))))))
    obtain ⟨s62,e63,h1⟩:=bnd h1
    refine st (c_ (Gp (e:=Bo) (y:=s62) rfl rfl tv ⟨tv,tv,tv⟩ rfl rfl e63) (st (c_ (Sj (s:=s62) rfl rfl tv) (st (c_ (v:=.agg (Bb s62 ([]:List UInt8) false)) (Aj ⟨tv,tv⟩ rfl ⟨⟨rfl,rfl,nl rfl⟩,tv⟩) (st (Dt (st (El rfl rfl tv rfl rfl rfl (nl rfl) (At (An ⟨[(0,Bh a0),(4,Ar 576 p26),(5,iV p27),(6,iV (wi ((y57).toNat:Int))),(7,.ptr 448 0)],[(448,Bb s62 ([]:List UInt8) false)],[]⟩ (Ak (by kernel_rfl)) (Ab (Ac (st (Ag rfl tv (st (Ag rfl tv (st (c_ (Aj t3 rfl tv) (st (c_ (Aj t3 rfl tv) (st (Ag rfl tv (At ?_))))))))))))))))))))))))
    obtain ⟨v64,e65,h1⟩:=bl h1
    refine An ⟨[(0,Bh a0),(4,Ar 576 p26),(5,iV v64),(7,.ptr 448 0)],[(448,Bb s62 ([]:List UInt8) false)],[]⟩ (Ak (by subst e65; kernel_rfl)) (Ab ?_)
    obtain ⟨y66,e67,h1⟩:=bnd h1
    obtain ⟨y68,e69,h1⟩:=bnd h1
    refine Ds (Ah tv (Ag rfl tv (⟨tv,Ah tv (Ag rfl tv (⟨tv,Ah tv (c_ (Eb (e:=Bo) (y:=y66) rfl rfl tv rfl rfl tv e67) (⟨tv,Ah tv (c_ (Aj ⟨tv,tv⟩ rfl (nl rfl)) (⟨tv,Ah tv (c_ (Aj ⟨tv,tv⟩ rfl tv) (⟨tv,Ah tv (c_ (Aj t3 rfl tv) (⟨tv,Ah tv (Ag rfl tv (⟨tv,Ah tv (Ag rfl tv (⟨tv,Ah tv (c_ (Aj t3 rfl tv) (⟨tv,Ah tv (c_ (Eb (e:=Bo) (y:=y68) rfl rfl tv rfl rfl tv e69) (⟨tv,Ah tv (c_ (Aj ⟨tv,tv⟩ rfl (nl rfl)) (⟨tv,Ah tv (c_ (Aj ⟨tv,tv⟩ rfl tv) (⟨tv,Ah tv (c_ (Aj t3 rfl tv) (⟨tv,Ah tv (c_ (Aj t3 rfl tv) (⟨tv,Ah tv (Ag rfl tv (⟨tv,?_⟩))⟩))⟩))⟩))⟩))⟩))⟩))⟩))⟩))⟩))⟩))⟩))⟩))⟩))⟩)))
    refine Iu ?_
    obtain ⟨v70,e71,h1⟩:=bl h1
    refine An ⟨[(0,Bh a0),(4,Ar 576 p26),(5,iV v64),(7,.ptr 448 0),(8,iV v70)],[(448,Bb s62 ([]:List UInt8) false)],[]⟩ (Ak (by subst e71; kernel_rfl)) (Ab (Ac (st (Ag rfl tv (st (c_ (Aj t3 rfl tv) (st (Ag rfl tv (At (An ⟨[(0,Bh a0),(4,Ar 576 p26),(5,iV (wi (v64+2))),(7,.ptr 448 0),(8,iV v70)],[(448,Bb s62 ([]:List UInt8) false)],[]⟩ (Ak (by kernel_rfl)) (Ab (Ab (Ac (st (Ag rfl tv (st (c_ (Aj t3 rfl tv) (At (An ⟨[(0,Bh a0),(4,Ar 576 p26),(5,iV (wi (v64+2))),(7,.ptr 448 0),(8,iV v70),(59,.bool (decide (v70<0)))],[(448,Bb s62 ([]:List UInt8) false)],[]⟩ (Ak (by kernel_rfl)) (Zt (cb:=(decide (v70<0))) (fun S=>∃p73:Int,∃p74:Bool,S=⟨[(0,Bh a0),(4,Ar 576 p26),(5,iV (wi (v64+2))),(7,.ptr 448 0),(8,iV p73)],[(448,Bb s62 ([]:List UInt8) p74)],[]⟩∧Pw a0 p26 s62 v64 p73 p74=some o1) rfl ?_ (fun c82 J81=>?_) (fun c82 J81=>?_)))))))))))))))))))))
    ·rintro _ ⟨p73,p74,rfl,h1⟩
     refine An ⟨[(0,Bh a0),(4,Ar 576 p26),(5,iV (wi (v64+2))),(7,.ptr 448 0),(8,iV p73)],[(448,Bb s62 ([]:List UInt8) p74)],[]⟩ (Ak (by kernel_rfl)) (Ab (Ab (Ac (st (Ag rfl tv (st (Ag rfl tv (st (c_ (Aj t3 rfl tv) (st (Ag rfl tv (st (c_ (Cg (e:=Bo) (l0:=a0) rfl rfl tv) (st (c_ (Aj t3 rfl tv) (At ?_))))))))))))))))
     obtain ⟨v75,e76,h1⟩:=bl h1
     refine An ⟨[(0,Bh a0),(4,Ar 576 p26),(5,iV (wi (v64+2))),(7,.ptr 448 0),(8,iV p73),(66,.bool v75)],[(448,Bb s62 ([]:List UInt8) p74)],[]⟩ (Ak (by subst e76; kernel_rfl)) (Bs (cb:=v75) rfl (fun c77=>?_) (fun c77=>?_))
     ·replace h1:=ip c77 h1
      refine Ab (Ac (st (Ag rfl tv (st (Ag rfl tv (st (Bg tv (At (An ⟨[(2,Ar 576 p26),(3,.bool false)],[],[]⟩ (Ak (by kernel_rfl)) ?_)))))))))
      obtain rfl:=sj h1
      obtain rfl:=hx1 _ rfl
      obtain rfl:=sj h0
      exact Cr (hR1 _ (Bj rfl rfl rfl rfl rfl tv))
     ·replace h1:=Do c77 h1
      refine Dn (An ⟨[(0,Bh a0),(4,Ar 576 p26),(5,iV (wi (v64+2))),(7,.ptr 448 0),(8,iV p73)],[(448,Bb s62 ([]:List UInt8) p74)],[]⟩ (Ak (by kernel_rfl)) (Ab (Ac (st (Ag rfl tv (st (Ag rfl tv (st (Ag rfl tv (st (Ag rfl tv (st (c_ (Aj t3 rfl tv) ?_)))))))))))))
      obtain ⟨s78,e79,h1⟩:=bnd h1
      refine st (c_ (Gp (e:=Bo) (y:=s78) rfl rfl tv ⟨tv,tv,tv⟩ rfl rfl e79) (st (c_ (Sj (s:=s78) rfl rfl tv) (st (c_ (Aj ⟨tv,tv⟩ rfl tv) (st (El rfl rfl tv rfl rfl rfl (nl rfl) (At (An ⟨[(0,Bh a0),(4,Ar 576 p26),(5,iV (wi (v64+2))),(7,.ptr 448 0),(8,iV p73)],[(448,Bb s62 s78 p74)],[]⟩ (Ak (by kernel_rfl)) (Ab (Ac (st (Ag rfl tv (st (Ag rfl tv (st (c_ (Aj t3 rfl tv) (st (Ag rfl tv (At (An ⟨[(0,Bh a0),(4,Ar 576 p26),(5,iV (wi ((wi (v64+2))+p73))),(7,.ptr 448 0)],[(448,Bb s62 s78 p74)],[]⟩ (Ak (by kernel_rfl)) (Ac (st (Ag rfl tv (st (c_ (v:=.agg (Bb s62 s78 p74)) (Aj ⟨tv,tv⟩ rfl (nl rfl)) (st (Fk ⟨tv,tv⟩ ⟨⟨nl rfl,rfl,rfl⟩,tv⟩ ?_))))))))))))))))))))))))))))
      obtain ⟨c80,h1⟩:=Kq h1
      refine st (Hc (e:=Ad) (l0:=p26) (l1:=([Ae.mk s62 s78 p74]:List Ae)) rfl rfl tv rfl (by decide) c80 (st (Ag rfl tv (At (It ?_)))))
      obtain rfl:=sj h1
      exact hK1 _ rfl _ ⟨[(0,Bh a0),(4,Ar 576 (p26++([Ae.mk s62 s78 p74]:List Ae))),(5,iV (wi ((wi (v64+2))+p73)))],[],[]⟩ (Ak (by kernel_rfl)) rfl
    ·replace h1:=ip c82 h1
     refine Ab (Ac (st (c_ (Aj ⟨tv,tv⟩ rfl tv) (st (El rfl rfl tv rfl rfl rfl (nl rfl) (At (An ⟨[(0,Bh a0),(4,Ar 576 p26),(5,iV (wi (v64+2))),(7,.ptr 448 0)],[(448,Bb s62 ([]:List UInt8) true)],[]⟩ (Ak (by kernel_rfl)) (Ac (st (Bg tv (At ?_)))))))))))
     exact J81 _ ⟨[(0,Bh a0),(4,Ar 576 p26),(5,iV (wi (v64+2))),(7,.ptr 448 0),(8,iV 0)],[(448,Bb s62 ([]:List UInt8) true)],[]⟩ (Ak (by kernel_rfl)) ⟨_,_,rfl,h1⟩
    ·replace h1:=Do c82 h1
     refine Dn ?_
     exact J81 _ ⟨[(0,Bh a0),(4,Ar 576 p26),(5,iV (wi (v64+2))),(7,.ptr 448 0),(8,iV v70)],[(448,Bb s62 ([]:List UInt8) false)],[]⟩ (Ak (by kernel_rfl)) ⟨_,_,rfl,h1⟩
  ·replace h1:=Do pZ h1
   obtain rfl:=sj h1
   obtain rfl:=hx1 _ rfl
   refine Ke rfl ?_
   exact hE1 _ ⟨[(4,Ar 576 p26)],[],[]⟩ (Ak (by kernel_rfl)) ⟨_,rfl,rfl⟩

/- loop.example/g00149/spec.l03Load -/
def EN:List Bi:=[⟨some 2,.nilS 2,none⟩]
def EO:List Bi:=[⟨some 8,.mkS 2 [.str [],.str []] 0 [],none⟩,m_ 3 8]
def EP:=[i_ 4 0]
def EQ:=[m_ 9 4,m_ 10 0,n_ 11 10,b_ .lss 12 9 11]
def ER:=[m_ 16 0,m_ 17 4,x_ 18 16 17 1,l_ 19 18 1,q_ 20 421 [.t 19],m_ 15 20,e_ 21 15 0,e_ 22 15 1,m_ 5 21,m_ 6 22]
def ES:=[m_ 23 6,N_ 24 23]
def ET:=[m_ 25 3,m_ 26 5,q_ 27 408 [.t 25,.t 26],m_ 7 27]
def EU:=[m_ 28 7,n_ 29 28,B_ .gtr 30 29 100]
def EV:=[m_ 31 7,m_ 3 31]
def EW:=[m_ 13 4,B_ .add 14 13 1,m_ 4 14]
def EM:IR:=(.seq (sr EQ (.ite (.t 12) .skip (.exit 0))) (.seq (.block 1 (sr ER (.seq (sr ES (iz 24 (.exit 0))) (sr ET (.seq (sr EU (iz 30 (.exit 0))) (.reg EV)))))) (.reg EW)))
def kW:=[m_ 32 3,m_ 2 32]
def WV:Dh:=⟨1,33,[.t 2],sr EN (sr EO (.seq (sr EP (Li 0 EM)) (rr kW)))⟩
def RG (D:Bf):Prop:=∀a0 r,MV a0=some r→D 400 ⟨[.lst 1 (a0.map (eL 1 Bo))],[]⟩ ⟨Aa 0 r,[],[]⟩
theorem Aay (H408:RM C) (H421:SB C):RG (FO C WV):=by
 intro a0 r h0
 refine f0 (Ab (Ac (st (Bw (At (An ⟨[(0,.lst 1 (a0.map (eL 1 Bo)))],[],[]⟩ (Ak (by kernel_rfl)) (Ab (Ac (st (Fk tv tv (st (Ag rfl tv (At (An ⟨[(0,.lst 1 (a0.map (eL 1 Bo))),(3,Aa 512 [])],[],[]⟩ (Ak (by kernel_rfl)) (Ab (Ab (Ac (st (Bg tv (At (An ⟨[(0,.lst 1 (a0.map (eL 1 Bo))),(3,Aa 512 []),(4,iV 0)],[],[]⟩ (Ak (by kernel_rfl)) (Be ?_))))))))))))))))))))))
 obtain ⟨r33,e34,h0⟩:=bnd h0
 refine Cz (R:=(fun S=>∃p23:List Al,p23=r33∧S=⟨[(3,Aa 512 p23)],[],[]⟩)) (Ta a0) (fun s S=>match s with | (p10,p11)=>S=⟨[(0,.lst 1 (a0.map (eL 1 Bo))),(3,Aa 512 p10),(4,iV p11)],[],[]⟩) e34 ⟨[(0,.lst 1 (a0.map (eL 1 Bo))),(3,Aa 512 []),(4,iV 0)],[],[]⟩ (Ak (by kernel_rfl)) rfl 0 (fun _=>rfl) ?_ ?_
 ·rintro S _ hfg ⟨p23,rfl,rfl⟩
  refine An ⟨[(3,Aa 512 p23)],[],[]⟩ (Ft hfg (by kernel_rfl)) (Ab (Ac (st (Ag rfl tv (st (Ag rfl tv (At (An ⟨[(2,Aa 512 p23)],[],[]⟩ (Ak (by kernel_rfl)) ?_))))))))
  obtain rfl:=sj h0
  exact Cr (Bj rfl rfl rfl rfl rfl tv)
 ·rintro ⟨p10,p11⟩ o1 _ K1 rfl h1 hx1 hK1 hE1 hR1
  refine Ab (Ab (Ac (st (Ag rfl tv (st (Ag rfl tv (st (c_ (Cg (e:=(eL 1 Bo)) (l0:=a0) rfl rfl tv) (st (c_ (Aj t3 rfl tv) (At (An ⟨[(0,.lst 1 (a0.map (eL 1 Bo))),(3,Aa 512 p10),(4,iV p11),(12,.bool (decide (p11<(a0.length:Int))))],[],[]⟩ (Ak (by kernel_rfl)) (Bs (cb:=(decide (p11<(a0.length:Int)))) rfl (fun c24=>?_) (fun c24=>?_))))))))))))))
  ·replace h1:=ip c24 h1
   refine Dn (An ⟨[(0,.lst 1 (a0.map (eL 1 Bo))),(3,Aa 512 p10),(4,iV p11)],[],[]⟩ (Ak (by kernel_rfl)) (Ab (Be (Ab (Ac (st (Ag rfl tv (st (Ag rfl tv ?_)))))))))
   obtain ⟨y25,e26,h1⟩:=bnd h1
   refine st (c_ (Eb (e:=(eL 1 Bo)) (y:=y25) rfl rfl tv rfl rfl tv e26) (st (c_ (Aj ⟨tv,tv⟩ rfl (nl rfl)) ?_)))
   obtain ⟨r27,e28,h1⟩:=bnd h1
   refine st (Ax (r:=.tup [Ar 0 r27.1,.bool r27.2]) false (H421 y25 r27 e28) ⟨tv,tv⟩ rfl rfl (fun _=>(Cf (Jo (fun _=>rfl)) (Cf rfl rfl))) (st (Ag rfl tv (st (c_ (Aj ⟨tv,tv⟩ rfl tv) (st (c_ (Aj ⟨tv,tv⟩ rfl tv) (st (Ag rfl tv (st (Ag rfl tv (At (An ⟨[(0,.lst 1 (a0.map (eL 1 Bo))),(3,Aa 512 p10),(4,iV p11),(5,Ar 1280 r27.1),(6,.bool r27.2)],[],[]⟩ (Ak (by kernel_rfl)) (Ab (Ab (Ac (st (Ag rfl tv (st (c_ (Aj ⟨tv,tv⟩ rfl tv) (At (An ⟨[(0,.lst 1 (a0.map (eL 1 Bo))),(3,Aa 512 p10),(4,iV p11),(5,Ar 1280 r27.1),(24,.bool (!r27.2))],[],[]⟩ (Ak (by kernel_rfl)) (Bs (cb:=(!r27.2)) rfl (fun c29=>?_) (fun c29=>?_))))))))))))))))))))))))
   ·replace h1:=ip c29 h1
    obtain rfl:=sj h1
    obtain rfl:=hx1 _ rfl
    refine Ke rfl ?_
    exact hE1 _ ⟨[(3,Aa 512 p10)],[],[]⟩ (Ak (by kernel_rfl)) ⟨_,rfl,rfl⟩
   ·replace h1:=Do c29 h1
    refine Dn (An ⟨[(0,.lst 1 (a0.map (eL 1 Bo))),(3,Aa 512 p10),(4,iV p11),(5,Ar 1280 r27.1)],[],[]⟩ (Ak (by kernel_rfl)) (Ab (Ac (st (Ag rfl tv (st (Ag rfl tv ?_)))))))
    obtain ⟨r30,e31,h1⟩:=bnd h1
    refine st (Ax (r:=Aa 0 r30) false (H408 p10 r27.1 r30 e31) ⟨tv,tv,tv⟩ rfl rfl (fun _=>(Cf (Jo (fun _=>rfl)) rfl)) (st (Ag rfl tv (At (An ⟨[(0,.lst 1 (a0.map (eL 1 Bo))),(3,Aa 512 p10),(4,iV p11),(7,Aa 1728 r30)],[],[]⟩ (Ak (by kernel_rfl)) (Ab (Ab (Ac (st (Ag rfl tv (st (c_ (Ez (e:=Ao) (l0:=r30) rfl rfl tv) (st (c_ (Aj t3 rfl tv) (At (An ⟨[(0,.lst 1 (a0.map (eL 1 Bo))),(3,Aa 512 p10),(4,iV p11),(7,Aa 1728 r30),(30,.bool (decide ((r30.length:Int)>100)))],[],[]⟩ (Ak (by kernel_rfl)) (Bs (cb:=(decide ((r30.length:Int)>100))) rfl (fun c32=>?_) (fun c32=>?_))))))))))))))))))
    ·replace h1:=ip c32 h1
     obtain rfl:=sj h1
     obtain rfl:=hx1 _ rfl
     refine Ke rfl ?_
     exact hE1 _ ⟨[(3,Aa 512 p10)],[],[]⟩ (Ak (by kernel_rfl)) ⟨_,rfl,rfl⟩
    ·replace h1:=Do c32 h1
     refine Dn (An ⟨[(0,.lst 1 (a0.map (eL 1 Bo))),(4,iV p11),(7,Aa 1728 r30)],[],[]⟩ (Ak (by kernel_rfl)) (Ac (st (Ag rfl tv (st (Ag rfl tv (At (It (An ⟨[(0,.lst 1 (a0.map (eL 1 Bo))),(3,Aa 1728 r30),(4,iV p11)],[],[]⟩ (Ak (by kernel_rfl)) (Ac (st (Ag rfl tv (st (c_ (Aj t3 rfl tv) (st (Ag rfl tv (At ?_)))))))))))))))))
     obtain rfl:=sj h1
     exact hK1 _ rfl _ ⟨[(0,.lst 1 (a0.map (eL 1 Bo))),(3,Aa 512 r30),(4,iV (wi (p11+1)))],[],[]⟩ (Zi [] [(1728,512)] rfl (by kernel_rfl)) rfl
  ·replace h1:=Do c24 h1
   obtain rfl:=sj h1
   obtain rfl:=hx1 _ rfl
   refine Ke rfl ?_
   exact hE1 _ ⟨[(3,Aa 512 p10)],[],[]⟩ (Ak (by kernel_rfl)) ⟨_,rfl,rfl⟩

/- loop.example/g00149/spec.Load -/
def BR:List Bi:=[X_ 1 0,⟨some 2,.nilS 2,none⟩,i_ 3 0]
def BS:=[L_ 7 1 2,q_ 8 399 [.t 7],m_ 6 8,e_ 9 6 0,e_ 10 6 1,m_ 4 9,m_ 5 10]
def BT:=[m_ 11 5,B_ .neq 12 11 0]
def BU:List Bi:=[⟨some 13,.mkS 2 [.str [],.str []] 0 [],none⟩,m_ 14 5,m_ 2 13,m_ 3 14]
def BV:=[m_ 15 4,q_ 16 400 [.t 15],m_ 2 16,i_ 3 0]
def WK:Dh:=⟨1,17,[.t 2,.t 3],sr BR (sr BS (.seq (sr BT (iz 12 (rr BU))) (rr BV)))⟩
def QZ (D:Bf):Prop:=∀a0 r,MP a0=some r→D 385 ⟨[.agg (Ap a0)],[]⟩ ⟨.tup [Aa 0 r.1,iV r.2],[],[]⟩
theorem Aao (H399:RF C) (H400:RG C):QZ (FO C WK):=by
 intro a0 r h0
 refine f0 (Ab (Ac (st (Hm rfl tv rfl (st (Bw (st (Bg tv (At (An ⟨[(1,.ptr 64 0)],[(64,Ap a0)],[]⟩ (Ak (by kernel_rfl)) (Ab (Ac (st (c_ (v:=.agg (Ap a0)) (Aj ⟨tv,tv⟩ rfl (nl rfl)) ?_))))))))))))))
 obtain ⟨r1,e2,h0⟩:=bnd h0
 refine st (Ax (r:=.tup [.own 0 0 1 (r1.1.map (eL 1 Bo)),iV r1.2]) true (H399 a0 r1 e2) ⟨tv,tv⟩ rfl rfl (fun h=>nomatch h) (st (Ag rfl tv (st (c_ (Aj ⟨tv,tv⟩ rfl tv) (st (c_ (Aj ⟨tv,tv⟩ rfl tv) (st (Ag rfl tv (st (Ag rfl tv (At (An ⟨[(4,.own 512 0 1 (r1.1.map (eL 1 Bo))),(5,iV r1.2)],[],[]⟩ (Ak (by kernel_rfl)) (Ab (Ab (Ac (st (Ag rfl tv (st (c_ (Aj t3 rfl tv) (At (An ⟨[(4,.own 512 0 1 (r1.1.map (eL 1 Bo))),(5,iV r1.2),(12,.bool (r1.2 != 0))],[],[]⟩ (Ak (by kernel_rfl)) (Bs (cb:=(r1.2 != 0)) rfl (fun c3=>?_) (fun c3=>?_))))))))))))))))))))))))
 ·replace h0:=ip c3 h0
  refine Ab (Ac (st (Fk tv tv (st (Ag rfl tv (st (Ag rfl tv (st (Ag rfl tv (At (An ⟨[(2,Aa 832 []),(3,iV r1.2)],[],[]⟩ (Ak (by kernel_rfl)) ?_)))))))))))
  obtain rfl:=sj h0
  exact Cr (Bj rfl rfl rfl rfl rfl tv)
 ·replace h0:=Do c3 h0
  refine Dn (An ⟨[(4,.own 512 0 1 (r1.1.map (eL 1 Bo)))],[],[]⟩ (Ak (by kernel_rfl)) (Ab (Ac (st (Ag rfl tv ?_)))))
  obtain ⟨r4,e5,h0⟩:=bnd h0
  refine st (Ax (r:=Aa 0 r4) false (H400 r1.1 r4 e5) ⟨tv,tv⟩ rfl rfl (fun _=>(Cf (Jo (fun _=>rfl)) rfl)) (st (Ag rfl tv (st (Bg tv (At (An ⟨[(2,Aa 1024 r4),(3,iV 0)],[],[]⟩ (Ak (by kernel_rfl)) ?_)))))))
  obtain rfl:=sj h0
  exact Cr (Bj rfl rfl rfl rfl rfl tv)

/- loop.example/g00149/impl.isShort[string] -/
def EX:=[k_ 2 (.bool false)]
def EY:=[m_ 3 0,iQ 4 (.lenS (.t 3)),B_ .leq 5 4 65536,m_ 2 5]
def WW:Dh:=⟨1,6,[.t 2],sr EX (rr EY)⟩
def RH (D:Bf):Prop:=∀a0 r,MX a0=some r→D 401 ⟨[.str a0],[]⟩ ⟨.bool r,[],[]⟩
theorem Aaz:RH (FO C WW):=by
 intro a0 r h0
 refine f0 (Ab (Ac (st (Bg tv (At (An ⟨[(0,.str a0)],[],[]⟩ (Ak (by kernel_rfl)) (Ab (Ac (st (Ag rfl tv (st (c_ (Aj ⟨tv,tv⟩ rfl tv) (st (c_ (Aj t3 rfl tv) (st (Ag rfl tv (At (An ⟨[(2,.bool (decide ((a0.length:Int)≤65536)))],[],[]⟩ (Ak (by kernel_rfl)) ?_))))))))))))))))))
 obtain rfl:=sj h0
 exact Cr (Bj rfl rfl rfl rfl rfl tv)

/- slices.IndexFunc[[]loop.example/g00149/impl.Pair,loop.example/g00149/impl.Pair] -/
def JE:=[i_ 4 0]
def JF:=[m_ 6 0,n_ 7 6,i_ 8 0]
def JG:=[b_ .lss 9 8 7]
def JH:=[m_ 10 8,m_ 5 10]
def JI:List Bi:=[m_ 11 1,m_ 12 0,m_ 13 5,x_ 14 12 13 2,L_ 15 14 2,⟨some 16,.callv (.t 11) [.t 15],none⟩]
def JJ:=[m_ 17 5,m_ 4 17]
def JK:=[B_ .add 18 8 1,m_ 8 18]
def JD:IR:=(sr JG (.seq (.ite (.t 9) .skip (.exit 0)) (.seq (.block 1 (sr JH (sr JI (iz 16 (rr JJ))))) (.reg JK))))
def JL:=[i_ 4 (-1)]
def XO:Dh:=⟨2,19,[.t 4],sr JE (.seq (sr JF (Li 0 JD)) (rr JL))⟩
def SC (C:Bf) (D:Bf:=C):Prop:=∀(a0:List Al) (f1:Nat) (k1:List V) (is1:Al→Option Bool) (hs1:Qr k1) (hf1:∀(x0:Al) r,is1 x0=some r→C f1 ⟨.agg (Ao x0)::k1,[]⟩ ⟨.bool r,[],[]⟩) (r:Int),TD a0 is1=some r→D 422 ⟨[Aw a0,.clo f1 k1],[]⟩ ⟨iV r,[],[]⟩
theorem AaQ:SC C (FO C XO):=by
 intro a0 f1 k1 is1 hs1 hf1 r h0
 refine f0 (Ab (Ac (st (Bg tv (At (An ⟨[(0,Aw a0),(1,.clo f1 k1)],[],[]⟩ (fg ⟨rfl,rfl,tv⟩ tv) (Ab (Ab (Ac (st (Ag rfl tv (st (c_ (Cg (e:=Ao) (l0:=a0) rfl rfl tv) (st (Bg tv (At (An ⟨[(0,Aw a0),(1,.clo f1 k1),(7,iV (a0.length:Int)),(8,iV 0)],[],[]⟩ (fg ⟨rfl,rfl,rfl,rfl,tv⟩ tv) (Be ?_))))))))))))))))))
 obtain ⟨r21,e22,h0⟩:=bnd h0
 refine Cz (R:=(fun S=>.inl ()=r21∧S=⟨[],[],[]⟩)) (dM a0 is1) (fun s S=>match s with | p7=>S=⟨[(0,Aw a0),(1,.clo f1 k1),(7,iV (a0.length:Int)),(8,iV p7)],[],[]⟩) e22 ⟨[(0,Aw a0),(1,.clo f1 k1),(7,iV (a0.length:Int)),(8,iV 0)],[],[]⟩ (fg ⟨rfl,rfl,rfl,rfl,tv⟩ tv) rfl 0 (fun _=>rfl) ?_ ?_
 ·rintro S _ hfg ⟨rfl,rfl⟩
  refine An ⟨[],[],[]⟩ (Ft hfg (by kernel_rfl)) (Ab (Ac (st (Bg tv (At (An ⟨[(4,iV (-1))],[],[]⟩ (Ak (by kernel_rfl)) ?_))))))
  obtain rfl:=sj h0
  exact Cr (Bj rfl rfl rfl rfl rfl tv)
 ·rintro p7 o1 _ K1 rfl h1 hx1 hK1 hE1 hR1
  refine Ab (Ac (st (c_ (Aj t3 rfl tv) (At (An ⟨[(0,Aw a0),(1,.clo f1 k1),(7,iV (a0.length:Int)),(8,iV p7),(9,.bool (decide (p7<(a0.length:Int))))],[],[]⟩ (fg ⟨rfl,rfl,rfl,rfl,rfl,tv⟩ tv) (Ab (Bs (cb:=(decide (p7<(a0.length:Int)))) rfl (fun c15=>?_) (fun c15=>?_))))))))
  ·replace h1:=ip c15 h1
   refine Dn (An ⟨[(0,Aw a0),(1,.clo f1 k1),(7,iV (a0.length:Int)),(8,iV p7)],[],[]⟩ (fg ⟨rfl,rfl,rfl,rfl,tv⟩ tv) (Ab (Be (Ab (Ac (st (Ag rfl tv (st (Ag rfl tv (At (An ⟨[(0,Aw a0),(1,.clo f1 k1),(5,iV p7),(7,iV (a0.length:Int)),(8,iV p7)],[],[]⟩ (fg ⟨rfl,rfl,rfl,rfl,rfl,tv⟩ tv) (Ab (Ac (st (Ag rfl tv (st (Ag rfl tv (st (Ag rfl tv ?_)))))))))))))))))))
   obtain ⟨y16,e17,h1⟩:=bnd h1
   refine st (c_ (Eb (e:=Ao) (y:=y16) rfl rfl tv rfl rfl tv e17) (st (c_ (v:=.agg (Ao y16)) (Aj ⟨tv,tv⟩ rfl (nl rfl)) ?_)))
   obtain ⟨r18,e19,h1⟩:=bnd h1
   refine st (Kj (r:=.bool r18) rfl false (hf1 _ r18 e19) ⟨tv,tv⟩ (Cf rfl hs1.2.2.1) (Gf rfl (hs1.2.1 _ _ _ _ _)) (fun _=>rfl) (At (An ⟨[(0,Aw a0),(1,.clo f1 k1),(5,iV p7),(7,iV (a0.length:Int)),(8,iV p7),(16,.bool r18)],[],[]⟩ (fg ⟨rfl,rfl,rfl,rfl,rfl,rfl,tv⟩ tv) (Bs (cb:=r18) rfl (fun c20=>?_) (fun c20=>?_)))))
   ·replace h1:=ip c20 h1
    refine Ab (Ac (st (Ag rfl tv (st (Ag rfl tv (At (An ⟨[(4,iV p7)],[],[]⟩ (Ak (by kernel_rfl)) ?_)))))))
    obtain rfl:=sj h1
    obtain rfl:=hx1 _ rfl
    obtain rfl:=sj h0
    exact Cr (hR1 _ (Bj rfl rfl rfl rfl rfl tv))
   ·replace h1:=Do c20 h1
    refine Dn (It (An ⟨[(0,Aw a0),(1,.clo f1 k1),(7,iV (a0.length:Int)),(8,iV p7)],[],[]⟩ (fg ⟨rfl,rfl,rfl,rfl,tv⟩ tv) (Ac (st (c_ (Aj t3 rfl tv) (st (Ag rfl tv (At ?_))))))))
    obtain rfl:=sj h1
    exact hK1 _ rfl _ ⟨[(0,Aw a0),(1,.clo f1 k1),(7,iV (a0.length:Int)),(8,iV (wi (p7+1)))],[],[]⟩ (fg ⟨rfl,rfl,rfl,rfl,tv⟩ tv) rfl
  ·replace h1:=Do c15 h1
   obtain rfl:=sj h1
   obtain rfl:=hx1 _ rfl
   refine Ke rfl ?_
   exact hE1 _ ⟨[],[],[]⟩ (Ak (by kernel_rfl)) ⟨rfl,rfl⟩

/- slices.DeleteFunc[[]loop.example/g00149/impl.Pair,loop.example/g00149/impl.Pair] -/
def FA:List Bi:=[⟨some 4,.nilS 2,none⟩]
def FB:=[m_ 8 0,m_ 9 1,q_ 10 422 [.t 8,.t 9],m_ 5 10]
def FC:=[m_ 11 5,B_ .eql 12 11 (-1)]
def FD:=[m_ 13 0,m_ 4 13]
def FE:=[m_ 14 5,B_ .add 15 14 1,m_ 6 15]
def FF:=[m_ 16 6,m_ 17 0,n_ 18 17,b_ .lss 19 16 18]
def FG:=[m_ 22 0,m_ 23 6,x_ 24 22 23 2,L_ 25 24 2,a_ 7 [.str [],.str []],s_ 7 25 2]
def FH:List Bi:=[m_ 26 1,L_ 27 7 2,⟨some 28,.callv (.t 26) [.t 27],none⟩,N_ 29 28]
def FI:=[m_ 30 0,m_ 31 5,L_ 32 7 2,x_ 33 30 31 2,s_ 33 32 2]
def FJ:=[m_ 34 5,B_ .add 35 34 1,m_ 5 35]
def kX:=[m_ 20 6,B_ .add 21 20 1,m_ 6 21]
def EZ:IR:=(.seq (sr FF (.ite (.t 19) .skip (.exit 0))) (.seq (.block 1 (sr FG (sr FH (iz 29 (sr FI (.reg FJ)))))) (.reg kX)))
def kY:List Bi:=[m_ 36 0,m_ 37 5,⟨some 38,.p (.slice (.t 36) (some (.t 37)) none 2),none⟩,⟨none,.clear 2 [.str [],.str []] (.t 38),none⟩]
def kZ:List Bi:=[m_ 39 0,m_ 40 5,⟨some 41,.p (.slice (.t 39) none (some (.t 40)) 2),none⟩,m_ 4 41]
def WX:Dh:=⟨2,42,[.t 4],sr FA (sr FB (.seq (sr FC (iz 12 (rr FD))) (.seq (sr FE (Li 0 EZ)) (sr kY (rr kZ)))))⟩
def RI (C:Bf) (D:Bf:=C):Prop:=∀(a0:List Al) (f1:Nat) (k1:List V) (is1:Al→Option Bool) (hs1:Qr k1) (hf1:∀(x0:Al) r,is1 x0=some r→C f1 ⟨.agg (Ao x0)::k1,[]⟩ ⟨.bool r,[],[]⟩) (r:(List Al)),MY a0 is1=some r→D 402 ⟨[Aa 1024000 a0,.clo f1 k1],[]⟩ ⟨Aa 0 r,[],[]⟩
theorem AaA (H422:SC C):RI C (FO C WX):=by
 intro a0 f1 k1 is1 hs1 hf1 r h0
 refine f0 (Ab (Ac (st (Bw (At (An ⟨[(0,Aa 1024000 a0),(1,.clo f1 k1)],[],[]⟩ (fg ⟨rfl,congrArg (fun z=>some z) (dA hs1),tv⟩ tv) (Ab (Ac (st (Ag rfl tv (st (Ag rfl tv ?_))))))))))))
 obtain ⟨r1,e2,h0⟩:=bnd h0
 refine st (Ax (r:=iV r1) false (H422 a0 f1 k1 is1 hs1 hf1 r1 e2) ⟨tv,tv,tv⟩ rfl (Gf rfl (Gf (bD hs1) rfl)) (fun _=>rfl) (st (Ag rfl tv (At (An ⟨[(0,Aa 1024000 a0),(1,.clo f1 k1),(5,iV r1)],[],[]⟩ (fg ⟨rfl,rfl,rfl,tv⟩ tv) (Ab (Ab (Ac (st (Ag rfl tv (st (c_ (Aj t3 rfl tv) (At (An ⟨[(0,Aa 1024000 a0),(1,.clo f1 k1),(5,iV r1),(12,.bool (r1==(-1)))],[],[]⟩ (fg ⟨rfl,rfl,rfl,rfl,tv⟩ tv) (Bs (cb:=(r1==(-1))) rfl (fun c3=>?_) (fun c3=>?_))))))))))))))))
 ·replace h0:=ip c3 h0
  refine Ab (Ac (st (Ag rfl tv (st (Ag rfl tv (At (An ⟨[(4,Aa 1024000 a0)],[],[]⟩ (Ak (by kernel_rfl)) ?_)))))))
  obtain rfl:=sj h0
  exact Cr (Bj rfl rfl rfl rfl rfl tv)
 ·replace h0:=Do c3 h0
  refine Dn (An ⟨[(0,Aa 1024000 a0),(1,.clo f1 k1),(5,iV r1)],[],[]⟩ (fg ⟨rfl,rfl,rfl,tv⟩ tv) (Ab (Ab (Ac (st (Ag rfl tv (st (c_ (Aj t3 rfl tv) (st (Ag rfl tv (At (An ⟨[(0,Aa 1024000 a0),(1,.clo f1 k1),(5,iV r1),(6,iV (wi (r1+1)))],[],[]⟩ (fg ⟨rfl,rfl,rfl,rfl,tv⟩ tv) (Be ?_)))))))))))))
  obtain ⟨r66,e67,h0⟩:=bnd h0
  refine Cz (R:=(fun S=>∃p38:List Al,∃p39:Int,(p38,p39)=r66∧S=⟨[(0,Aa 1024000 p38),(5,iV p39)],[],[]⟩)) (dI is1) (fun s S=>match s with | (p18,p19,p20)=>S=⟨[(0,Aa 1024000 p18),(1,.clo f1 k1),(5,iV p19),(6,iV p20)],[],[]⟩) e67 ⟨[(0,Aa 1024000 a0),(1,.clo f1 k1),(5,iV r1),(6,iV (wi (r1+1)))],[],[]⟩ (fg ⟨rfl,rfl,rfl,rfl,tv⟩ tv) rfl 0 (fun _=>rfl) ?_ ?_
  ·rintro S _ hfg ⟨p38,p39,rfl,rfl⟩
   refine An ⟨[(0,Aa 1024000 p38),(5,iV p39)],[],[]⟩ (Ft hfg (by kernel_rfl)) (Ab (Ac (st (Ag rfl tv (st (Ag rfl tv ?_))))))
   obtain ⟨s68,e69,h0⟩:=bnd h0
   refine st (c_ (De (e:=Ao) (y:=s68) rfl rfl tv ⟨tv,tv⟩ rfl rfl e69) (st (clear_ (e:=Ao) (z:=(Al.mk ([]:List UInt8) ([]:List UInt8))) rfl rfl (At (An ⟨[(0,Aa 1024000 (ovl p38 p39.toNat (List.replicate s68.length (Al.mk ([]:List UInt8) ([]:List UInt8))))),(5,iV p39)],[],[]⟩ (fg ⟨congrArg (fun z=>some ((.own 1024000 0 2 z:V))) Ee,rfl,tv⟩ tv) (Ab (Ac (st (Ag rfl tv (st (Ag rfl tv ?_)))))))))))
   obtain ⟨s70,e71,h0⟩:=bnd h0
   refine st (c_ (De (e:=Ao) (y:=s70) rfl rfl tv ⟨tv,tv⟩ rfl rfl e71) (st (Ag rfl tv (At (An ⟨[(4,Aa 1024000 s70)],[],[]⟩ (Ak (by kernel_rfl)) ?_)))))
   obtain rfl:=sj h0
   exact Cr (Bj rfl rfl rfl rfl rfl tv)
  ·rintro ⟨p18,p19,p20⟩ o1 _ K1 rfl h1 hx1 hK1 hE1 hR1
   refine Ab (Ab (Ac (st (Ag rfl tv (st (Ag rfl tv (st (c_ (Ez (e:=Ao) (l0:=p18) rfl rfl tv) (st (c_ (Aj t3 rfl tv) (At (An ⟨[(0,Aa 1024000 p18),(1,.clo f1 k1),(5,iV p19),(6,iV p20),(19,.bool (decide (p20<(p18.length:Int))))],[],[]⟩ (fg ⟨rfl,rfl,rfl,rfl,rfl,tv⟩ tv) (Bs (cb:=(decide (p20<(p18.length:Int)))) rfl (fun c40=>?_) (fun c40=>?_))))))))))))))
   ·replace h1:=ip c40 h1
    refine Dn (An ⟨[(0,Aa 1024000 p18),(1,.clo f1 k1),(5,iV p19),(6,iV p20)],[],[]⟩ (fg ⟨rfl,rfl,rfl,rfl,tv⟩ tv) (Ab (Tn (fun S=>∃p52:List Al,∃p53:Int,S=⟨[(0,Aa 1024000 p52),(1,.clo f1 k1),(5,iV p53),(6,iV p20)],[],[]⟩∧Xq p20 p52 p53=some o1) ?_ (fun J54=>?_))))
    ·rintro _ ⟨p52,p53,rfl,h1⟩
     refine An ⟨[(0,Aa 1024000 p52),(1,.clo f1 k1),(5,iV p53),(6,iV p20)],[],[]⟩ (fg ⟨rfl,rfl,rfl,rfl,tv⟩ tv) (Ac (st (Ag rfl tv (st (c_ (Aj t3 rfl tv) (st (Ag rfl tv (At ?_))))))))
     obtain rfl:=sj h1
     exact hK1 _ rfl _ ⟨[(0,Aa 1024000 p52),(1,.clo f1 k1),(5,iV p53),(6,iV (wi (p20+1)))],[],[]⟩ (fg ⟨rfl,rfl,rfl,rfl,tv⟩ tv) rfl
    ·refine Ab ?_
     refine Ac (st (Ag rfl tv (st (Ag rfl tv ?_))))
     obtain ⟨y55,e56,h1⟩:=bnd h1
     refine st (c_ (Hw (e:=Ao) (y:=y55) rfl rfl tv rfl rfl tv e56) ?_)
     obtain ⟨y57,e58,h1⟩:=bnd h1
     refine st (c_ (v:=.agg (Ao y57)) (Cd (e:=Ao) (y:=y57) (v:=.agg (Ao y57)) rfl rfl tv rfl rfl e58 rfl (nl rfl) rfl) (st (Dt (sw ⟨[(0,Aa 1024000 p18),(1,.clo f1 k1),(5,iV p19),(6,iV p20),(7,.ptr 448 0),(25,.agg (Ao y57))],[(448,[.str ([]:List UInt8),.str ([]:List UInt8)])],[]⟩ (fg ⟨rfl,congrArg (fun z=>some z) (dA hs1),rfl,rfl,rfl,rfl,tv⟩ ⟨rfl,tv⟩) (El rfl rfl tv rfl rfl rfl (nl rfl) (At (An ⟨[(0,Aa 1024000 p18),(1,.clo f1 k1),(5,iV p19),(6,iV p20),(7,.ptr 448 0)],[(448,Ao y57)],[]⟩ (fg ⟨rfl,rfl,rfl,rfl,rfl,tv⟩ ⟨rfl,tv⟩) (Ab (Ac (st (Ag rfl tv (st (c_ (v:=.agg (Ao y57)) (Aj ⟨tv,tv⟩ rfl (nl rfl)) ?_)))))))))))))
     obtain ⟨r59,e60,h1⟩:=bnd h1
     refine st (Kj (r:=.bool r59) rfl false (hf1 _ r59 e60) ⟨tv,tv⟩ (Cf rfl hs1.2.2.1) (Gf rfl (hs1.2.1 _ _ _ _ _)) (fun _=>rfl) (st (c_ (Aj ⟨tv,tv⟩ rfl tv) (At (An ⟨[(0,Aa 1024000 p18),(1,.clo f1 k1),(5,iV p19),(6,iV p20),(7,.ptr 448 0),(29,.bool (!r59))],[(448,Ao y57)],[]⟩ (fg ⟨rfl,rfl,rfl,rfl,rfl,rfl,tv⟩ ⟨rfl,tv⟩) (Bs (cb:=(!r59)) rfl (fun c61=>?_) (fun c61=>?_)))))))
     ·replace h1:=ip c61 h1
      refine Ab (Ac (st (Ag rfl tv (st (Ag rfl tv (st (c_ (v:=.agg (Ao y57)) (Aj ⟨tv,tv⟩ rfl (nl rfl)) ?_)))))))
      obtain ⟨y62,e63,h1⟩:=bnd h1
      refine st (c_ (Hw (e:=Ao) (y:=y62) rfl rfl tv rfl rfl tv e63) ?_)
      obtain ⟨y64,e65,h1⟩:=bnd h1
      refine st (YN (y':=y57) rfl rfl tv rfl rfl rfl rfl e65 (nl rfl) rfl rfl rfl rfl (At (An ⟨[(0,Aa 1024000 (p18.set p19.toNat y57)),(1,.clo f1 k1),(5,iV p19),(6,iV p20)],[],[]⟩ (fg ⟨congrArg (fun z=>some ((.own 1024000 0 2 z:V))) Rt,rfl,rfl,rfl,tv⟩ tv) (Ac (st (Ag rfl tv (st (c_ (Aj t3 rfl tv) (st (Ag rfl tv (At (It ?_))))))))))))
      exact J54 _ ⟨[(0,Aa 1024000 (p18.set p19.toNat y57)),(1,.clo f1 k1),(5,iV (wi (p19+1))),(6,iV p20)],[],[]⟩ (fg ⟨rfl,rfl,rfl,rfl,tv⟩ tv) ⟨_,_,rfl,h1⟩
     ·replace h1:=Do c61 h1
      refine Dn (It ?_)
      exact J54 _ ⟨[(0,Aa 1024000 p18),(1,.clo f1 k1),(5,iV p19),(6,iV p20)],[],[]⟩ (fg ⟨rfl,rfl,rfl,rfl,tv⟩ tv) ⟨_,_,rfl,h1⟩
   ·replace h1:=Do c40 h1
    obtain rfl:=sj h1
    obtain rfl:=hx1 _ rfl
    refine Ke rfl ?_
    exact hE1 _ ⟨[(0,Aa 1024000 p18),(5,iV p19)],[],[]⟩ (Ak (by kernel_rfl)) ⟨_,_,rfl,rfl⟩

/- internal/stringslite.HasPrefix -/
def zI:=[k_ 4 (.bool false)]
def zJ:=[m_ 5 0,iQ 6 (.lenS (.t 5)),m_ 7 1,iQ 8 (.lenS (.t 7)),b_ .geq 9 6 8,m_ 10 9,mT 10 11 0,mT 10 12 1,pT 10 13 (.lenS (.t 12)),pT 10 14 (.sliceStr (.t 11) none (some (.t 13))),mT 10 15 1,pT 10 16 (.bin .eql (.t 14) (.t 15)),pa 17 10 16,m_ 4 17]
def WB:Dh:=⟨2,18,[.t 4],sr zI (rr zJ)⟩
def QS (D:Bf):Prop:=∀a0 a1 r,MG a0 a1=some r→D 375 ⟨[.str a0,.str a1],[]⟩ ⟨.bool r,[],[]⟩
theorem Aag:QS (FO C WB):=by
 intro a0 a1 r h0
 refine f0 (Sc 3 [(0,.str a0),(1,.str a1)] [] (YQ 10 (Ac (bb h0 fun s1 e2 h0=>st (Bu (u:=.str s1) rfl (fun hg=>(cY (y:=s1) rfl rfl (fun _=>hg) ⟨(fun _=>hg),tv⟩ rfl rfl (ip hg e2))) (o_ (YQ 5 (bv h0 fun v3 e4 h0=>An ⟨[(4,.bool v3)],[],[]⟩ (Ak (by subst e4; kernel_rfl)) ?_))))))))
 obtain rfl:=sj h0
 exact Cr (Bj rfl rfl rfl rfl rfl tv)

/- strings.HasPrefix -/
def FS:=[k_ 4 (.bool false)]
def FT:=[m_ 5 0,m_ 6 1,q_ 7 375 [.t 5,.t 6],m_ 4 7]
def XA:Dh:=⟨2,8,[.t 4],sr FS (rr FT)⟩
def RK (D:Bf):Prop:=∀a0 a1 r,TB a0 a1=some r→D 405 ⟨[.str a0,.str a1],[]⟩ ⟨.bool r,[],[]⟩
theorem AaD (H375:QS C):RK (FO C XA):=by
 intro a0 a1 r h0
 refine f0 (Ab (Ac (st (Bg tv (At (An ⟨[(0,.str a0),(1,.str a1)],[],[]⟩ (Ak (by kernel_rfl)) (Ab (Ac (st (Ag rfl tv (st (Ag rfl tv ?_))))))))))))
 obtain ⟨r1,e2,h0⟩:=bnd h0
 refine st (Ax (r:=.bool r1) false (H375 a0 a1 r1 e2) ⟨tv,tv,tv⟩ rfl rfl (fun _=>rfl) (st (Ag rfl tv (At (An ⟨[(4,.bool r1)],[],[]⟩ (Ak (by kernel_rfl)) ?_)))))
 obtain rfl:=sj h0
 exact Cr (Bj rfl rfl rfl rfl rfl tv)

/- loop.example/g00149/impl.WithPrefix$1 -/
def FP:=[X_ 2 0,k_ 3 (.bool false)]
def FR:=[f_ 4 2 0,l_ 5 4 1,l_ 6 1 1,q_ 7 405 [.t 5,.t 6],N_ 8 7,m_ 3 8]
def WZ:Dh:=⟨2,9,[.t 3],sr FP (rr FR)⟩
def RJ (D:Bf):Prop:=∀a0 a1 r,fW a0 a1=some r→D 404 ⟨[.agg (Ao a0),.iptr [.str a1]],[]⟩ ⟨.bool r,[],[]⟩
theorem AaC (H405:RK C):RJ (FO C WZ):=by
 intro a0 a1 r h0
 refine f0 (Ab (Ac (st (Hm rfl tv rfl (st (Bg tv (At (An ⟨[(1,.iptr [.str a1]),(2,.ptr 128 0)],[(128,Ao a0)],[]⟩ (Ak (by kernel_rfl)) (Ab (Ac (st (c_ (Aj ⟨tv,tv⟩ rfl tv) (st (c_ (Aj ⟨tv,tv⟩ rfl (nl rfl)) (st (c_ (Aj ⟨tv,tv⟩ rfl (nl rfl)) ?_))))))))))))))))
 obtain ⟨r1,e2,h0⟩:=bnd h0
 refine st (Ax (r:=.bool r1) false (H405 a0.key a1 r1 e2) ⟨tv,tv,tv⟩ rfl rfl (fun _=>rfl) (st (c_ (Aj ⟨tv,tv⟩ rfl tv) (st (Ag rfl tv (At (An ⟨[(3,.bool (!r1))],[],[]⟩ (Ak (by kernel_rfl)) ?_)))))))
 obtain rfl:=sj h0
 exact Cr (Bj rfl rfl rfl rfl rfl tv)

/- loop.example/g00149/impl.WithPrefix -/
def BW:List Bi:=[X_ 3 1,⟨some 4,.nilS 2,none⟩,i_ 5 0]
def BX:List Bi:=[m_ 7 0,q_ 8 321 [.t 7],N_ 9 8,m_ 10 9,lF 10 11 3 1 false,⟨some 12,.call 401 [.t 11],some (10,false)⟩,pF 10 13 (.un .not (.t 12)),po 14 10 13,m_ 6 14]
def BY:List Bi:=[⟨some 4,.nilS 2,none⟩,i_ 5 2]
def BZ:=[m_ 16 0,q_ 17 322 [.t 16],N_ 18 17,m_ 15 18]
def CA:List Bi:=[⟨some 4,.nilS 2,none⟩,i_ 5 1]
def CB:=[m_ 19 0,q_ 20 403 [.t 19],iQ 21 (.fn 404 [.t 3]),q_ 22 402 [.t 20,.t 21],m_ 4 22,i_ 5 0]
def WM:Dh:=⟨2,23,[.t 4,.t 5],sr BW (.seq (.block 0 (sr BX (.ite (.t 6) (rr BY) (sr BZ (iz 15 (rr CA)))))) (rr CB))⟩
def RA (D:Bf):Prop:=∀a0 a1 r,MQ a0 a1=some r→D 386 ⟨[Aw a0,.str a1],[]⟩ ⟨.tup [Aa 0 r.1,iV r.2],[],[]⟩
theorem Aap (H321:qC C) (H322:qD C) (H401:RH C) (H402:RI C) (H403:qL C) (H404:RJ C):RA (FO C WM):=by
 intro a0 a1 r h0
 refine f0 (Ab (Ac (st (Hm rfl tv rfl (st (Bw (st (Bg tv (At (An ⟨[(0,Aw a0),(3,.ptr 192 0)],[(192,[.str a1])],[]⟩ (Ak (by kernel_rfl)) (Ab (Be (Ab (Ac (st (Ag rfl tv ?_))))))))))))))))
 obtain ⟨r1,e2,h0⟩:=bnd h0
 refine st (Ax (r:=.bool r1) false (H321 a0 r1 e2) ⟨tv,tv⟩ rfl rfl (fun _=>rfl) (st (c_ (Aj ⟨tv,tv⟩ rfl tv) (st (Ag rfl tv (st (Bu (u:=.str a1) rfl (fun hg=>(Aj ⟨tv,tv⟩ rfl (nl rfl))) ?_)))))))
 obtain ⟨r3,e4,h0⟩:=bnd h0
 refine sw ⟨[(0,Aw a0),(3,.ptr 192 0),(10,.bool (!r1)),(11,.may ((!r1)==false) (.str a1))],[(192,[.str a1])],[]⟩ (Ak (by kernel_rfl)) (Hu (r:=.bool r3) rfl false (fun hg=>H401 a1 r3 (ip hg e4)) ⟨(fun hg=>hg),tv⟩ (fun _=>rfl) (fun _=>rfl) (fun _=>rfl) (fun h=>nomatch h) (st (Bu (u:=.bool (!r3)) rfl (fun hg=>(Aj ⟨(fun _=>hg),tv⟩ rfl tv)) (st (Ct rfl rfl rfl tv (fun h=>Sa h) rfl (st (Ag rfl tv (At (An ⟨[(0,Aw a0),(3,.ptr 192 0),(6,.bool (bif (!r1) then true else (!r3)))],[(192,[.str a1])],[]⟩ (Ak (by kernel_rfl)) (Bs (cb:=(bif (!r1) then true else (!r3))) rfl (fun c5=>?_) (fun c5=>?_)))))))))))
 ·replace h0:=ip c5 h0
  refine Ab (Ac (st (Bw (st (Bg tv (At (An ⟨[(4,.own 256 0 2 ([].map Ao)),(5,iV 2)],[],[]⟩ (Ak (by kernel_rfl)) ?_)))))))
  obtain rfl:=sj h0
  exact Cr (Bj rfl rfl rfl rfl rfl tv)
 ·replace h0:=Do c5 h0
  refine Ab (Ac (st (Ag rfl tv ?_)))
  obtain ⟨r6,e7,h0⟩:=bnd h0
  refine st (Ax (r:=.bool r6) false (H322 a0 r6 e7) ⟨tv,tv⟩ rfl rfl (fun _=>rfl) (st (c_ (Aj ⟨tv,tv⟩ rfl tv) (st (Ag rfl tv (At (An ⟨[(0,Aw a0),(3,.ptr 192 0),(15,.bool (!r6))],[(192,[.str a1])],[]⟩ (Ak (by kernel_rfl)) (Bs (cb:=(!r6)) rfl (fun c8=>?_) (fun c8=>?_)))))))))
  ·replace h0:=ip c8 h0
   refine Ab (Ac (st (Bw (st (Bg tv (At (An ⟨[(4,.own 256 0 2 ([].map Ao)),(5,iV 1)],[],[]⟩ (Ak (by kernel_rfl)) ?_)))))))
   obtain rfl:=sj h0
   exact Cr (Bj rfl rfl rfl rfl rfl tv)
  ·replace h0:=Do c8 h0
   refine Dn (It (An ⟨[(0,Aw a0),(3,.ptr 192 0)],[(192,[.str a1])],[]⟩ (Ak (by kernel_rfl)) (Ab (Ac (st (Ag rfl tv ?_))))))
   obtain ⟨r9,e10,h0⟩:=bnd h0
   refine st (Ax (r:=Aa 0 r9) false (H403 a0 r9 e10) ⟨tv,tv⟩ rfl rfl (fun _=>(Cf (Jo (fun _=>rfl)) rfl)) (st (c_ (Aj ⟨tv,tv⟩ rfl rfl) ?_)))
   obtain ⟨r11,e12,h0⟩:=bnd h0
   refine st (Gm [] [] [1280] false (H402 r9 404 [.iptr [.str a1]] (fun z404_0=>fW z404_0 a1) (⟨fun _ _ _ _ _=>rfl,fun _ _ _ _ _=>rfl,rfl,fun _ _ _ n=>by cases n<;>rfl,fun _=>rfl⟩) (fun z404_0 r h=>H404 z404_0 a1 r h) r11 e12) ⟨tv,tv,tv⟩ (by kernel_rfl) (by kernel_rfl) (by kernel_rfl) (by kernel_rfl) (fun _=>Cf (Cf (Jo (fun _=>rfl)) rfl) rfl) (sw ⟨[(22,Aa 1408 r11)],[],[]⟩ (Ak (by kernel_rfl)) (Ag rfl tv (st (Bg tv (At (An ⟨[(4,Aa 1408 r11),(5,iV 0)],[],[]⟩ (Ak (by kernel_rfl)) ?_)))))))
   obtain rfl:=sj h0
   exact Cr (Bj rfl rfl rfl rfl rfl tv)

/- loop.example/g00149/laws.FnStore -/
def zN:=[k_ 2 (.bool false)]
def zO:=[m_ 26 0,n_ 27 26,B_ .gtr 28 27 1048576]
def zP:=[k_ 2 (.bool true)]
def zQ:=[m_ 29 0,q_ 30 379 [.t 29],m_ 3 30]
def zR:=[iQ 31 (.build [.own 1985 0 1 [],.own 1986 0 2 []] []),a_ 4 [.own 257 0 1 [],.own 258 0 2 []],s_ 4 31 2]
def zS:List Bi:=[⟨some 32,.mkS 2 [.str [],.str []] 0 [],none⟩,m_ 5 32]
def zU:=[i_ 6 0]
def zW:=[m_ 33 6,m_ 34 3,n_ 35 34,b_ .lss 36 33 35]
def zX:=[m_ 40 3,m_ 41 6,x_ 42 40 41 1,l_ 43 42 1,q_ 44 380 [.t 43],m_ 39 44,e_ 45 39 0,e_ 46 39 1,m_ 7 45,m_ 8 46]
def zY:=[m_ 48 7,q_ 49 381 [.t 48],m_ 47 49,e_ 50 47 0,e_ 51 47 1,m_ 9 50,m_ 10 51]
def jL:=[m_ 53 9,q_ 54 380 [.t 53],m_ 52 54,e_ 55 52 0,e_ 56 52 1,m_ 11 55,m_ 12 56]
def jM:=[m_ 57 8,B_ .neq 58 57 0,m_ 59 58,mF 59 60 10,pF 59 61 (.bin .neq (.t 60) (.c (iV 0))),po 62 59 61,m_ 63 62,mF 63 64 12,pF 63 65 (.bin .neq (.t 64) (.c (iV 0))),po 66 63 65,m_ 67 66,mF 67 68 11,pF 67 69 (.toStr (.t 68)),mF 67 70 7,pF 67 71 (.toStr (.t 70)),pF 67 72 (.bin .neq (.t 69) (.t 71)),po 73 67 72,m_ 74 73,mF 74 75 9,pF 74 76 (.len (.t 75)),mF 74 77 3,mF 74 78 6,xF 74 79 77 78 1,lF 74 80 79 1 false,pF 74 81 (.len (.t 80)),pF 74 82 (.bin .neq (.t 76) (.t 81)),po 83 74 82]
def jN:=[k_ 2 (.bool false)]
def jO:=tk [L_ 85 4 2,m_ 86 3,m_ 87 6,x_ 88 86 87 1,l_ 89 88 1] (.alt [] (q_ 90 382 [.t 85,.t 89]) (tk [m_ 84 90,e_ 91 84 0,e_ 92 84 1] (.alt [e_ 92 84 1,e_ 91 84 0,m_ 84 90] (a_ 13 [.own 833 0 1 [],.own 834 0 2 []]) (.alt [e_ 92 84 1] (s_ 13 91 2) (tk [m_ 14 92] .fin) .stop) .stop)) (.alt [l_ 89 88 1,x_ 88 86 87 1,m_ 87 6,m_ 86 3,L_ 85 4 2] (a_ 13 [.own 833 0 1 [],.own 834 0 2 []]) (.alt [] (q_ 90 382 [.t 85,.t 89]) (tk [m_ 84 90,e_ 91 84 0,e_ 92 84 1] (.alt [e_ 92 84 1] (s_ 13 91 2) (tk [m_ 14 92] .fin) .stop)) .stop) .stop))
def jP:=[m_ 93 14,B_ .eql 94 93 9]
def jQ:=[k_ 2 (.bool true)]
def jR:=[m_ 96 5,m_ 97 3,m_ 98 6,x_ 99 97 98 1,l_ 100 99 1,q_ 101 383 [.t 96,.t 100],m_ 95 101,e_ 102 95 0,e_ 103 95 1,m_ 15 102,m_ 16 103]
def jS:=[m_ 104 14,B_ .neq 105 104 0,m_ 106 105,mF 106 107 16,pF 106 108 (.bin .neq (.t 107) (.c (iV 0))),po 109 106 108]
def jT:=[k_ 2 (.bool false)]
def jU:=[L_ 110 13 2,s_ 4 110 2]
def jV:=[m_ 111 15,m_ 5 111]
def jW:=[m_ 37 6,B_ .add 38 37 1,m_ 6 38]
def zK:IR:=(.seq (sr zW (.ite (.t 36) .skip (.exit 0))) (.seq (.block 1 (sr zX (sr zY (sr jL (.seq (sr jM (iz 83 (rr jN))) (sd jO (.seq (sr jP (iz 94 (rr jQ))) (sr jR (.seq (sr jS (iz 109 (rr jT))) (sr jU (.reg jV))))))))))) (.reg jW)))
def jX:=[L_ 113 4 2,q_ 114 384 [.t 113],m_ 112 114,e_ 115 112 0,e_ 116 112 1,m_ 17 115,m_ 18 116]
def jY:=[L_ 118 4 2,q_ 119 385 [.t 118],m_ 117 119,e_ 120 117 0,e_ 121 117 1,m_ 19 120,m_ 20 121]
def jZ:List Bi:=[m_ 122 18,B_ .neq 123 122 0,m_ 124 123,mF 124 125 17,mF 124 126 19,⟨some 127,.call 260 [.t 125,.t 126],some (124,false)⟩,pF 124 128 (.un .not (.t 127)),po 129 124 128,m_ 130 129,mF 130 131 17,mF 130 132 5,⟨some 133,.call 260 [.t 131,.t 132],some (130,false)⟩,pF 130 134 (.un .not (.t 133)),po 135 130 134]
def kA:=[k_ 2 (.bool false)]
def kB:=[m_ 137 17,q_ 138 386 [.t 137,.c (.str [108,101,97,115,101,47])],m_ 136 138,e_ 139 136 0,e_ 140 136 1,m_ 21 139,m_ 22 140]
def kC:=[i_ 23 1]
def kD:=[m_ 141 23,m_ 142 17,n_ 143 142,b_ .lss 144 141 143]
def kE:=tk [m_ 147 17,m_ 148 23,B_ .sub 149 148 1,x_ 150 147 149 2,f_ 151 150 0,l_ 152 151 1,m_ 153 17,m_ 154 23,x_ 155 153 154 2,f_ 156 155 0,l_ 157 156 1,b_ .geq 158 152 157] .fin
def kF:=[k_ 2 (.bool false)]
def kG:=[m_ 145 23,B_ .add 146 145 1,m_ 23 146]
def zL:IR:=(.seq (sr kD (.ite (.t 144) .skip (.exit 2))) (.seq (.block 3 (sd kE (iz 158 (rr kF)))) (.reg kG)))
def kH:=[i_ 24 0]
def kI:=[i_ 25 0]
def kJ:=[m_ 159 25,m_ 160 17,n_ 161 160,b_ .lss 162 159 161]
def kK:=[m_ 165 17,m_ 166 25,x_ 167 165 166 2,f_ 168 167 0,l_ 169 168 1,iQ 170 (.lenS (.t 169)),B_ .gtr 171 170 5,m_ 172 171,mT 172 173 17,mT 172 174 25,xT 172 175 173 174 2,fT 172 176 175 0,lT 172 177 176 1 false,pT 172 178 (.sliceStr (.t 177) none (some (.c (iV 6)))),pT 172 179 (.bin .eql (.t 178) (.c (.str [108,101,97,115,101,47]))),pa 180 172 179]
def kL:=[m_ 181 24,B_ .add 182 181 1,m_ 24 182]
def kM:=[m_ 163 25,B_ .add 164 163 1,m_ 25 164]
def zM:IR:=(.seq (sr kJ (.ite (.t 162) .skip (.exit 4))) (.seq (.block 5 (sr kK (iz 180 (.reg kL)))) (.reg kM)))
def kN:=[m_ 183 22,B_ .eql 184 183 0,m_ 185 184,mT 185 186 21,pT 185 187 (.len (.t 186)),mT 185 188 24,pT 185 189 (.bin .eql (.t 187) (.t 188)),pa 190 185 189,m_ 2 190]
def WC:Dh:=⟨1,191,[.t 2],sr zN (.seq (sr zO (iz 28 (rr zP))) (sr zQ (sr zR (sr zS (.seq (sr zU (Li 0 zK)) (sr jX (sr jY (.seq (sr jZ (iz 135 (rr kA))) (sr kB (.seq (sr kC (Li 2 zL)) (sr kH (.seq (sr kI (Li 4 zM)) (rr kN)))))))))))))⟩
def UK (D:Bf):Prop:=∀a0 r,TA a0=some r→D 377 ⟨[Bh a0],[]⟩ ⟨.bool r,[],[]⟩
theorem Aah (H260:PV C) (H379:QT C) (H380:QU C) (H381:QV C) (H382:QW C) (H383:QX C) (H384:QY C) (H385:QZ C) (H386:RA C):UK (FO C WC):=by
 intro a0 r h0
 refine f0 (Ab (Ac (st (Bg tv (At (An ⟨[(0,Bh a0)],[],[]⟩ (Ak (by kernel_rfl)) (Ab (Ab (Ac (st (Ag rfl tv (st (c_ (Cg (e:=Bo) (l0:=a0) rfl rfl tv) (st (c_ (Aj t3 rfl tv) (At (An ⟨[(0,Bh a0),(28,.bool (decide ((a0.length:Int)>1048576)))],[],[]⟩ (Ak (by kernel_rfl)) (Bs (cb:=(decide ((a0.length:Int)>1048576))) rfl (fun c1=>?_) (fun c1=>?_)))))))))))))))))))
 ·replace h0:=ip c1 h0
  refine Ab (Ac (st (Bg tv (At (An ⟨[(2,.bool true)],[],[]⟩ (Ak (by kernel_rfl)) ?_)))))
  obtain rfl:=sj h0
  exact Cr (Bj rfl rfl rfl rfl rfl tv)
 ·replace h0:=Do c1 h0
  refine Dn (An ⟨[(0,Bh a0)],[],[]⟩ (Ak (by kernel_rfl)) (Ab (Ac (st (Ag rfl tv ?_)))))
  obtain ⟨r2,e3,h0⟩:=bnd h0
  refine st (Ax (r:=.own 0 0 1 (r2.map (eL 3 Ad))) true (H379 a0 r2 e3) ⟨tv,tv⟩ rfl rfl (fun h=>nomatch h) (st (Ag rfl tv (At (An ⟨[(3,.own 1920 0 1 (r2.map (eL 3 Ad)))],[],[]⟩ (Ak (by kernel_rfl)) (Ab (Ac (st (c_ (v:=.agg [Bc 1985 [],Ai 1986 []]) (Aj tv rfl tv) (st (Dt (st (El rfl rfl tv rfl rfl rfl (nl rfl) (At (An ⟨[(3,.own 1920 0 1 (r2.map (eL 3 Ad))),(4,.ptr 256 0)],[(256,[Bc 1985 [],Ai 1986 []])],[]⟩ (Ak (by kernel_rfl)) (Ab (Ac (st (Fk tv tv (st (Ag rfl tv (At (An ⟨[(3,.own 1920 0 1 (r2.map (eL 3 Ad))),(4,.ptr 256 0),(5,Aa 2048 [])],[(256,[Bc 1985 [],Ai 1986 []])],[]⟩ (Ak (by kernel_rfl)) (Ab (Ab (Ac (st (Bg tv (At (An ⟨[(3,.own 1920 0 1 (r2.map (eL 3 Ad))),(4,.ptr 256 0),(5,Aa 2048 []),(6,iV 0)],[(256,[Bc 1985 [],Ai 1986 []])],[]⟩ (Ak (by kernel_rfl)) (Be ?_)))))))))))))))))))))))))))))))
  obtain ⟨r114,e115,h0⟩:=bnd h0
  refine Cz (R:=(fun S=>∃p78:List Al,∃p79:List UInt8,∃p80:List As,.inl (p78,p79,p80)=r114∧S=⟨[(4,.ptr 256 0),(5,Aa 2048 p78)],[(256,[Bc 1985 p79,Ai 1986 p80])],[]⟩)) (Ss r2) (fun s S=>match s with | (p37,p38,p39,p40)=>S=⟨[(3,.own 1920 0 1 (r2.map (eL 3 Ad))),(4,.ptr 256 0),(5,Aa 2048 p37),(6,iV p38)],[(256,[Bc 1985 p39,Ai 1986 p40])],[]⟩) e115 ⟨[(3,.own 1920 0 1 (r2.map (eL 3 Ad))),(4,.ptr 256 0),(5,Aa 2048 []),(6,iV 0)],[(256,[Bc 1985 [],Ai 1986 []])],[]⟩ (Ak (by kernel_rfl)) rfl 0 (fun _=>rfl) ?_ ?_
  ·rintro S _ hfg ⟨p78,p79,p80,rfl,rfl⟩
   refine An ⟨[(4,.ptr 256 0),(5,Aa 2048 p78)],[(256,[Bc 1985 p79,Ai 1986 p80])],[]⟩ (Ft hfg (by kernel_rfl)) (Ab (Ac (st (c_ (v:=.agg [Bc 1985 p79,Ai 1986 p80]) (Aj ⟨tv,tv⟩ rfl (nl rfl)) ?_))))
   obtain ⟨r116,e117,h0⟩:=bnd h0
   refine st (Ax (r:=.tup [Aa 0 r116.1,iV r116.2]) false (H384 (Av.mk p79 p80) r116 e117) ⟨tv,tv⟩ rfl rfl (fun _=>(Cf (Jo (fun _=>rfl)) (Cf rfl rfl))) (st (Ag rfl tv (st (c_ (Aj ⟨tv,tv⟩ rfl tv) (st (c_ (Aj ⟨tv,tv⟩ rfl tv) (st (Ag rfl tv (st (Ag rfl tv (At (An ⟨[(4,.ptr 256 0),(5,Aa 2048 p78),(17,Aa 7296 r116.1),(18,iV r116.2)],[(256,[Bc 1985 p79,Ai 1986 p80])],[]⟩ (Ak (by kernel_rfl)) (Ab (Ac (st (c_ (v:=.agg [Bc 1985 p79,Ai 1986 p80]) (Aj ⟨tv,tv⟩ rfl (nl rfl)) ?_)))))))))))))))))
   obtain ⟨r118,e119,h0⟩:=bnd h0
   refine st (Ax (r:=.tup [Aa 0 r118.1,iV r118.2]) false (H385 (Av.mk p79 p80) r118 e119) ⟨tv,tv⟩ rfl rfl (fun _=>(Cf (Jo (fun _=>rfl)) (Cf rfl rfl))) (st (Ag rfl tv (st (c_ (Aj ⟨tv,tv⟩ rfl tv) (st (c_ (Aj ⟨tv,tv⟩ rfl tv) (st (Ag rfl tv (st (Ag rfl tv (At (An ⟨[(5,Aa 2048 p78),(17,Aa 7296 r116.1),(18,iV r116.2),(19,Aa 7616 r118.1)],[],[]⟩ (Ak (by kernel_rfl)) (Ab (Ab (Ac (st (Ag rfl tv (st (c_ (Aj t3 rfl tv) (st (Ag rfl tv (st (Bu (u:=Aa 7296 r116.1) rfl (fun hg=>(Gx (v:=Aa 7296 r116.1) rfl tv)) (st (Bu (u:=Aa 7616 r118.1) rfl (fun hg=>(Gx (v:=Aa 7616 r118.1) rfl tv)) ?_))))))))))))))))))))))))))
   obtain ⟨r120,e121,h0⟩:=bnd h0
   refine st (Hu (r:=.bool r120) rfl false (fun hg=>H260 r116.1 r118.1 r120 (ip hg e121)) ⟨(fun hg=>hg),(fun hg=>hg),tv⟩ (fun _=>rfl) (fun _=>rfl) (fun _=>rfl) (fun h=>nomatch h) (st (Bu (u:=.bool (!r120)) rfl (fun hg=>(Aj ⟨(fun _=>hg),tv⟩ rfl tv)) (st (Ct rfl rfl rfl tv (fun h=>Sa h) rfl (st (Ag rfl tv (st (Bu (u:=Aa 7296 r116.1) rfl (fun hg=>(Gx (v:=Aa 7296 r116.1) rfl tv)) (st (Bu (u:=Aa 2048 p78) rfl (fun hg=>(Gx (v:=Aa 2048 p78) rfl tv)) ?_)))))))))))
   obtain ⟨r122,e123,h0⟩:=bnd h0
   refine sw ⟨[(17,Aa 7296 r116.1),(130,.bool (bif (r116.2 != 0) then true else (!r120))),(131,.may ((bif (r116.2 != 0) then true else (!r120))==false) (Aa 7296 r116.1)),(132,.may ((bif (r116.2 != 0) then true else (!r120))==false) (Aa 2048 p78))],[],[]⟩ (Ak (by kernel_rfl)) (Hu (r:=.bool r122) rfl false (fun hg=>H260 r116.1 p78 r122 (ip hg e123)) ⟨(fun hg=>hg),(fun hg=>hg),tv⟩ (fun _=>rfl) (fun _=>rfl) (fun _=>rfl) (fun h=>nomatch h) (st (Bu (u:=.bool (!r122)) rfl (fun hg=>(Aj ⟨(fun _=>hg),tv⟩ rfl tv)) (st (Ct rfl rfl rfl tv (fun h=>Sa h) rfl (At ?_))))))
   obtain ⟨v124,e125,h0⟩:=bl h0
   refine An ⟨[(17,Aa 7296 r116.1),(135,.bool v124)],[],[]⟩ (Ak (by subst e125; kernel_rfl)) (Bs (cb:=v124) rfl (fun c126=>?_) (fun c126=>?_))
   ·replace h0:=ip c126 h0
    refine Ab (Ac (st (Bg tv (At (An ⟨[(2,.bool false)],[],[]⟩ (Ak (by kernel_rfl)) ?_)))))
    obtain rfl:=sj h0
    exact Cr (Bj rfl rfl rfl rfl rfl tv)
   ·replace h0:=Do c126 h0
    refine Dn (An ⟨[(17,Aa 7296 r116.1)],[],[]⟩ (Ak (by kernel_rfl)) (Ab (Ac (st (Ag rfl tv ?_)))))
    obtain ⟨r127,e128,h0⟩:=bnd h0
    refine st (Ax (r:=.tup [Aa 0 r127.1,iV r127.2]) false (H386 r116.1 ([108,101,97,115,101,47]:List UInt8) r127 e128) ⟨tv,tv,tv⟩ rfl rfl (fun _=>(Cf (Jo (fun _=>rfl)) (Cf rfl rfl))) (st (Ag rfl tv (st (c_ (Aj ⟨tv,tv⟩ rfl tv) (st (c_ (Aj ⟨tv,tv⟩ rfl tv) (st (Ag rfl tv (st (Ag rfl tv (At (An ⟨[(17,Aa 7296 r116.1),(21,Aa 8832 r127.1),(22,iV r127.2)],[],[]⟩ (Ak (by kernel_rfl)) (Ab (Ab (Ac (st (Bg tv (At (An ⟨[(17,Aa 7296 r116.1),(21,Aa 8832 r127.1),(22,iV r127.2),(23,iV 1)],[],[]⟩ (Ak (by kernel_rfl)) (Be ?_)))))))))))))))))))))
    obtain ⟨r161,e162,h0⟩:=bnd h0
    refine Cz (R:=(fun S=>.inl ()=r161∧S=⟨[(17,Aa 7296 r116.1),(21,Aa 8832 r127.1),(22,iV r127.2)],[],[]⟩)) (Pp r116) (fun s S=>match s with | p139=>S=⟨[(17,Aa 7296 r116.1),(21,Aa 8832 r127.1),(22,iV r127.2),(23,iV p139)],[],[]⟩) e162 ⟨[(17,Aa 7296 r116.1),(21,Aa 8832 r127.1),(22,iV r127.2),(23,iV 1)],[],[]⟩ (Ak (by kernel_rfl)) rfl 2 (fun _=>rfl) ?_ ?_
    ·rintro S _ hfg ⟨rfl,rfl⟩
     refine An ⟨[(17,Aa 7296 r116.1),(21,Aa 8832 r127.1),(22,iV r127.2)],[],[]⟩ (Ft hfg (by kernel_rfl)) (Ab (Ac (st (Bg tv (At (An ⟨[(17,Aa 7296 r116.1),(21,Aa 8832 r127.1),(22,iV r127.2),(24,iV 0)],[],[]⟩ (Ak (by kernel_rfl)) (Ab (Ab (Ac (st (Bg tv (At (An ⟨[(17,Aa 7296 r116.1),(21,Aa 8832 r127.1),(22,iV r127.2),(24,iV 0),(25,iV 0)],[],[]⟩ (Ak (by kernel_rfl)) (Be ?_))))))))))))))
     obtain ⟨r227,e228,h0⟩:=bnd h0
     refine Cz (R:=(fun S=>∃p197:Int,p197=r227∧S=⟨[(21,Aa 8832 r127.1),(22,iV r127.2),(24,iV p197)],[],[]⟩)) (Pq r116) (fun s S=>match s with | (p178,p179)=>S=⟨[(17,Aa 7296 r116.1),(21,Aa 8832 r127.1),(22,iV r127.2),(24,iV p178),(25,iV p179)],[],[]⟩) e228 ⟨[(17,Aa 7296 r116.1),(21,Aa 8832 r127.1),(22,iV r127.2),(24,iV 0),(25,iV 0)],[],[]⟩ (Ak (by kernel_rfl)) rfl 4 (fun _=>rfl) ?_ ?_
     ·rintro S _ hfg ⟨p197,rfl,rfl⟩
      refine An ⟨[(21,Aa 8832 r127.1),(22,iV r127.2),(24,iV p197)],[],[]⟩ (Ft hfg (by kernel_rfl)) (Ab (Ac (st (Ag rfl tv (st (c_ (Aj t3 rfl tv) (st (Ag rfl tv (st (Bu (u:=Aa 8832 r127.1) rfl (fun hg=>(Gx (v:=Aa 8832 r127.1) rfl tv)) (st (Bu (u:=iV (r127.1.length:Int)) rfl (fun hg=>(Ez (e:=Ao) (l0:=r127.1) rfl rfl (fun _=>hg))) (st (Bu (u:=iV p197) rfl (fun hg=>(Gx (v:=iV p197) rfl tv)) (st (Bu (u:=.bool ((r127.1.length:Int)==p197)) rfl (fun hg=>(Aj ⟨(fun _=>hg),(fun _=>hg),tv⟩ rfl tv)) (st (Ct rfl rfl rfl (fun h=>Zh h) tv rfl (st (Ag rfl tv (At (An ⟨[(2,.bool (bif (r127.2==0) then ((r127.1.length:Int)==p197) else false))],[],[]⟩ (Ak (by kernel_rfl)) ?_))))))))))))))))))))))
      obtain rfl:=sj h0
      exact Cr (Bj rfl rfl rfl rfl rfl tv)
     ·rintro ⟨p178,p179⟩ o1 _ K1 rfl h1 hx1 hK1 hE1 hR1
      refine Ab (Ab (Ac (st (Ag rfl tv (st (Ag rfl tv (st (c_ (Ez (e:=Ao) (l0:=r116.1) rfl rfl tv) (st (c_ (Aj t3 rfl tv) (At (An ⟨[(17,Aa 7296 r116.1),(21,Aa 8832 r127.1),(22,iV r127.2),(24,iV p178),(25,iV p179),(162,.bool (decide (p179<(r116.1.length:Int))))],[],[]⟩ (Ak (by kernel_rfl)) (Bs (cb:=(decide (p179<(r116.1.length:Int)))) rfl (fun c198=>?_) (fun c198=>?_))))))))))))))
      ·replace h1:=ip c198 h1
       refine Dn (An ⟨[(17,Aa 7296 r116.1),(21,Aa 8832 r127.1),(22,iV r127.2),(24,iV p178),(25,iV p179)],[],[]⟩ (Ak (by kernel_rfl)) (Ab (Tn (fun S=>∃p212:Int,S=⟨[(17,Aa 7296 r116.1),(21,Aa 8832 r127.1),(22,iV r127.2),(24,iV p212),(25,iV p179)],[],[]⟩∧Nd p179 p212=some o1) ?_ (fun J213=>?_))))
       ·rintro _ ⟨p212,rfl,h1⟩
        refine An ⟨[(17,Aa 7296 r116.1),(21,Aa 8832 r127.1),(22,iV r127.2),(24,iV p212),(25,iV p179)],[],[]⟩ (Ak (by kernel_rfl)) (Ac (st (Ag rfl tv (st (c_ (Aj t3 rfl tv) (st (Ag rfl tv (At ?_))))))))
        obtain rfl:=sj h1
        exact hK1 _ rfl _ ⟨[(17,Aa 7296 r116.1),(21,Aa 8832 r127.1),(22,iV r127.2),(24,iV p212),(25,iV (wi (p179+1)))],[],[]⟩ (Ak (by kernel_rfl)) rfl
       ·refine Ab ?_
        refine Ac (st (Ag rfl tv (st (Ag rfl tv ?_))))
        obtain ⟨y214,e215,h1⟩:=bnd h1
        refine st (c_ (Hw (e:=Ao) (y:=y214) rfl rfl tv rfl rfl tv e215) (st (c_ (Aj ⟨tv,tv⟩ rfl tv) ?_)))
        obtain ⟨y216,e217,h1⟩:=bnd h1
        refine st (c_ (Cd (e:=Ao) (y:=y216) (v:=.str y216.key) rfl rfl tv rfl rfl e217 rfl (nl rfl) rfl) (st (c_ (Aj ⟨tv,tv⟩ rfl tv) (st (c_ (Aj t3 rfl tv) (st (Ag rfl tv (st (Bu (u:=Aa 7296 r116.1) rfl (fun hg=>(Gx (v:=Aa 7296 r116.1) rfl tv)) (st (Bu (u:=iV p179) rfl (fun hg=>(Gx (v:=iV p179) rfl tv)) ?_)))))))))))
        obtain ⟨y218,e219,h1⟩:=bnd h1
        refine st (Bu (u:=.optr 7296 2 (0+p179.toNat) 0) rfl (fun hg=>(Hw (e:=Ao) (y:=y218) rfl rfl (fun _=>hg) rfl rfl (fun _=>hg) (ip hg e219))) (st (Bu (u:=.optr 7296 2 (0+p179.toNat) 0) rfl (fun hg=>(Aj ⟨(fun _=>hg),tv⟩ rfl tv)) ?_)))
        obtain ⟨y220,e221,h1⟩:=bnd h1
        refine st (Bu (u:=.str y220.key) rfl (fun hg=>(Cd (e:=Ao) (y:=y220) (v:=.str y220.key) rfl rfl (fun _=>hg) rfl rfl (ip hg e221) rfl (nl rfl) rfl)) ?_)
        obtain ⟨s222,e223,h1⟩:=bnd h1
        refine st (Bu (u:=.str s222) rfl (fun hg=>(cY (y:=s222) rfl rfl (fun _=>hg) ⟨tv,tv⟩ rfl rfl (ip hg e223))) (st (Bu (u:=.bool (s222==([108,101,97,115,101,47]:List UInt8))) rfl (fun hg=>(Aj ⟨(fun _=>hg),tv,tv⟩ rfl tv)) (sw ⟨[(17,Aa 7296 r116.1),(21,Aa 8832 r127.1),(22,iV r127.2),(24,iV p178),(25,iV p179),(172,.bool (decide ((y216.key.length:Int)>5))),(179,.may ((decide ((y216.key.length:Int)>5))==true) (.bool (s222==([108,101,97,115,101,47]:List UInt8))))],[],[]⟩ (Ak (by kernel_rfl)) (Ct rfl rfl rfl (fun h=>Zh h) tv rfl (At ?_))))))
        obtain ⟨v224,e225,h1⟩:=bl h1
        refine An ⟨[(17,Aa 7296 r116.1),(21,Aa 8832 r127.1),(22,iV r127.2),(24,iV p178),(25,iV p179),(180,.bool v224)],[],[]⟩ (Ak (by subst e225; kernel_rfl)) (Bs (cb:=v224) rfl (fun c226=>?_) (fun c226=>?_))
        ·replace h1:=ip c226 h1
         refine Ac (st (Ag rfl tv (st (c_ (Aj t3 rfl tv) (st (Ag rfl tv (At (It ?_))))))))
         exact J213 _ ⟨[(17,Aa 7296 r116.1),(21,Aa 8832 r127.1),(22,iV r127.2),(24,iV (wi (p178+1))),(25,iV p179)],[],[]⟩ (Ak (by kernel_rfl)) ⟨_,rfl,h1⟩
        ·replace h1:=Do c226 h1
         refine Dn (It ?_)
         exact J213 _ ⟨[(17,Aa 7296 r116.1),(21,Aa 8832 r127.1),(22,iV r127.2),(24,iV p178),(25,iV p179)],[],[]⟩ (Ak (by kernel_rfl)) ⟨_,rfl,h1⟩
      ·replace h1:=Do c198 h1
       obtain rfl:=sj h1
       obtain rfl:=hx1 _ rfl
       refine Ke rfl ?_
       exact hE1 _ ⟨[(21,Aa 8832 r127.1),(22,iV r127.2),(24,iV p178)],[],[]⟩ (Ak (by kernel_rfl)) ⟨_,rfl,rfl⟩
    ·rintro p139 o1 _ K1 rfl h1 hx1 hK1 hE1 hR1
     refine Ab (Ab (Ac (st (Ag rfl tv (st (Ag rfl tv (st (c_ (Ez (e:=Ao) (l0:=r116.1) rfl rfl tv) (st (c_ (Aj t3 rfl tv) (At (An ⟨[(17,Aa 7296 r116.1),(21,Aa 8832 r127.1),(22,iV r127.2),(23,iV p139),(144,.bool (decide (p139<(r116.1.length:Int))))],[],[]⟩ (Ak (by kernel_rfl)) (Bs (cb:=(decide (p139<(r116.1.length:Int)))) rfl (fun c151=>?_) (fun c151=>?_))))))))))))))
     ·replace h1:=ip c151 h1
      refine Dn (An ⟨[(17,Aa 7296 r116.1),(21,Aa 8832 r127.1),(22,iV r127.2),(23,iV p139)],[],[]⟩ (Ak (by kernel_rfl)) (Ab (Be (Ab ?_))))
      obtain ⟨y152,e153,h1⟩:=bnd h1
      obtain ⟨y154,e155,h1⟩:=bnd h1
      obtain ⟨y156,e157,h1⟩:=bnd h1
      obtain ⟨y158,e159,h1⟩:=bnd h1
      refine Ds (Ah tv (Ag rfl tv (⟨tv,Ah tv (Ag rfl tv (⟨tv,Ah tv (c_ (Aj t3 rfl tv) (⟨tv,Ah tv (c_ (Hw (e:=Ao) (y:=y152) rfl rfl tv rfl rfl tv e153) (⟨tv,Ah tv (c_ (Aj ⟨tv,tv⟩ rfl tv) (⟨tv,Qz (c_ (Cd (e:=Ao) (y:=y154) (v:=.str y154.key) rfl rfl tv rfl rfl e155 rfl (nl rfl) rfl) (⟨⟨By (Cd (e:=Ao) (y:=y154) (v:=.str y154.key) rfl rfl tv rfl rfl e155 rfl (nl rfl) rfl) rfl,tv⟩,Ah tv (Ag rfl tv (⟨⟨By (Cd (e:=Ao) (y:=y154) (v:=.str y154.key) rfl rfl tv rfl rfl e155 rfl (nl rfl) rfl) rfl,tv⟩,Ah tv (Ag rfl tv (⟨⟨By (Cd (e:=Ao) (y:=y154) (v:=.str y154.key) rfl rfl tv rfl rfl e155 rfl (nl rfl) rfl) rfl,tv⟩,Ah tv (c_ (Hw (e:=Ao) (y:=y156) rfl rfl tv rfl rfl tv e157) (⟨⟨By (Cd (e:=Ao) (y:=y154) (v:=.str y154.key) rfl rfl tv rfl rfl e155 rfl (nl rfl) rfl) rfl,tv⟩,Ah tv (c_ (Aj ⟨tv,tv⟩ rfl tv) (⟨⟨By (Cd (e:=Ao) (y:=y154) (v:=.str y154.key) rfl rfl tv rfl rfl e155 rfl (nl rfl) rfl) rfl,tv⟩,Qz (c_ (Cd (e:=Ao) (y:=y158) (v:=.str y158.key) rfl rfl tv rfl rfl e159 rfl (nl rfl) rfl) (⟨⟨By (Cd (e:=Ao) (y:=y158) (v:=.str y158.key) rfl rfl tv rfl rfl e159 rfl (nl rfl) rfl) rfl,By (Cd (e:=Ao) (y:=y154) (v:=.str y154.key) rfl rfl tv rfl rfl e155 rfl (nl rfl) rfl) rfl,tv⟩,Ah tv (c_ (Aj t3 rfl tv) (⟨⟨By (Cd (e:=Ao) (y:=y158) (v:=.str y158.key) rfl rfl tv rfl rfl e159 rfl (nl rfl) rfl) rfl,By (Cd (e:=Ao) (y:=y154) (v:=.str y154.key) rfl rfl tv rfl rfl e155 rfl (nl rfl) rfl) rfl,tv⟩,Iu (An ⟨[(17,Aa 7296 r116.1),(21,Aa 8832 r127.1),(22,iV r127.2),(23,iV p139),(158,.bool (!(Op.bytesLess y154.key y158.key)))],[],[]⟩ (Ak (by kernel_rfl)) (Bs (cb:=(!(Op.bytesLess y154.key y158.key))) rfl (fun c160=>?_) (fun c160=>?_)))⟩))⟩))⟩))⟩))⟩))⟩))⟩))⟩))⟩))⟩))⟩))⟩)))
      ·replace h1:=ip c160 h1
       refine Ab (Ac (st (Bg tv (At (An ⟨[(2,.bool false)],[],[]⟩ (Ak (by kernel_rfl)) ?_)))))
       obtain rfl:=sj h1
       obtain rfl:=hx1 _ rfl
       obtain rfl:=sj h0
       exact Cr (hR1 _ (Bj rfl rfl rfl rfl rfl tv))
      ·replace h1:=Do c160 h1
       refine Dn (It (An ⟨[(17,Aa 7296 r116.1),(21,Aa 8832 r127.1),(22,iV r127.2),(23,iV p139)],[],[]⟩ (Ak (by kernel_rfl)) (Ac (st (Ag rfl tv (st (c_ (Aj t3 rfl tv) (st (Ag rfl tv (At ?_))))))))))
       obtain rfl:=sj h1
       exact hK1 _ rfl _ ⟨[(17,Aa 7296 r116.1),(21,Aa 8832 r127.1),(22,iV r127.2),(23,iV (wi (p139+1)))],[],[]⟩ (Ak (by kernel_rfl)) rfl
     ·replace h1:=Do c151 h1
      obtain rfl:=sj h1
      obtain rfl:=hx1 _ rfl
      refine Ke rfl ?_
      exact hE1 _ ⟨[(17,Aa 7296 r116.1),(21,Aa 8832 r127.1),(22,iV r127.2)],[],[]⟩ (Ak (by kernel_rfl)) ⟨rfl,rfl⟩
  ·rintro ⟨p37,p38,p39,p40⟩ o1 _ K1 rfl h1 hx1 hK1 hE1 hR1
   refine Ab (Ab (Ac (st (Ag rfl tv (st (Ag rfl tv (st (c_ (Ez (e:=(eL 3 Ad)) (l0:=r2) rfl rfl tv) (st (c_ (Aj t3 rfl tv) (At (An ⟨[(3,.own 1920 0 1 (r2.map (eL 3 Ad))),(4,.ptr 256 0),(5,Aa 2048 p37),(6,iV p38),(36,.bool (decide (p38<(r2.length:Int))))],[(256,[Bc 1985 p39,Ai 1986 p40])],[]⟩ (Ak (by kernel_rfl)) (Bs (cb:=(decide (p38<(r2.length:Int)))) rfl (fun c81=>?_) (fun c81=>?_))))))))))))))
   ·replace h1:=ip c81 h1
    refine Dn (An ⟨[(3,.own 1920 0 1 (r2.map (eL 3 Ad))),(4,.ptr 256 0),(5,Aa 2048 p37),(6,iV p38)],[(256,[Bc 1985 p39,Ai 1986 p40])],[]⟩ (Ak (by kernel_rfl)) (Ab (Be (Ab (Ac (st (Ag rfl tv (st (Ag rfl tv ?_)))))))))
    obtain ⟨y82,e83,h1⟩:=bnd h1
    refine st (c_ (Hw (e:=(eL 3 Ad)) (y:=y82) rfl rfl tv rfl rfl tv e83) ?_)
    obtain ⟨y84,e85,h1⟩:=bnd h1
    refine st (c_ (Cd (e:=(eL 3 Ad)) (y:=y84) (v:=Af y84) rfl rfl tv rfl rfl e85 rfl (nl rfl) rfl) ?_)
    obtain ⟨r86,e87,h1⟩:=bnd h1
    refine st (Ax (r:=.tup [Bc 0 r86.1,iV r86.2]) false (H380 y84 r86 e87) ⟨tv,tv⟩ rfl rfl (fun _=>(Cf (Jo (fun _=>rfl)) (Cf rfl rfl))) (st (Ag rfl tv (st (c_ (Aj ⟨tv,tv⟩ rfl tv) (st (c_ (Aj ⟨tv,tv⟩ rfl tv) (st (Ag rfl tv (st (Ag rfl tv (At (An ⟨[(3,.own 1920 0 1 (r2.map (eL 3 Ad))),(4,.ptr 256 0),(5,Aa 2048 p37),(6,iV p38),(7,Bc 2816 r86.1),(8,iV r86.2)],[(256,[Bc 1985 p39,Ai 1986 p40])],[]⟩ (Ak (by kernel_rfl)) (Ab (Ac (st (Ag rfl tv ?_)))))))))))))))))
    obtain ⟨r88,e89,h1⟩:=bnd h1
    refine st (Ax (r:=.tup [Ar 0 r88.1,iV r88.2]) false (H381 r86.1 r88 e89) ⟨tv,tv⟩ rfl rfl (fun _=>(Cf (Jo (fun _=>rfl)) (Cf rfl rfl))) (st (Ag rfl tv (st (c_ (Aj ⟨tv,tv⟩ rfl tv) (st (c_ (Aj ⟨tv,tv⟩ rfl tv) (st (Ag rfl tv (st (Ag rfl tv (At (An ⟨[(3,.own 1920 0 1 (r2.map (eL 3 Ad))),(4,.ptr 256 0),(5,Aa 2048 p37),(6,iV p38),(7,Bc 2816 r86.1),(8,iV r86.2),(9,Ar 3136 r88.1),(10,iV r88.2)],[(256,[Bc 1985 p39,Ai 1986 p40])],[]⟩ (Ak (by kernel_rfl)) (Ab (Ac (st (Ag rfl tv ?_)))))))))))))))))
    obtain ⟨r90,e91,h1⟩:=bnd h1
    refine st (Ax (r:=.tup [Bc 0 r90.1,iV r90.2]) false (H380 r88.1 r90 e91) ⟨tv,tv⟩ rfl rfl (fun _=>(Cf (Jo (fun _=>rfl)) (Cf rfl rfl))) (st (Ag rfl tv (st (c_ (Aj ⟨tv,tv⟩ rfl tv) (st (c_ (Aj ⟨tv,tv⟩ rfl tv) (st (Ag rfl tv (st (Ag rfl tv (At (An ⟨[(3,.own 1920 0 1 (r2.map (eL 3 Ad))),(4,.ptr 256 0),(5,Aa 2048 p37),(6,iV p38),(7,Bc 2816 r86.1),(8,iV r86.2),(9,Ar 3136 r88.1),(10,iV r88.2),(11,Bc 3456 r90.1),(12,iV r90.2)],[(256,[Bc 1985 p39,Ai 1986 p40])],[]⟩ (Ak (by kernel_rfl)) (Ab (Ab (Ac (st (Ag rfl tv (st (c_ (Aj t3 rfl tv) (st (Ag rfl tv (st (Bu (u:=iV r88.2) rfl (fun hg=>(Gx (v:=iV r88.2) rfl tv)) (st (Bu (u:=.bool (r88.2 != 0)) rfl (fun hg=>(Aj ⟨(fun _=>hg),tv,tv⟩ rfl tv)) (st (Ct rfl rfl rfl tv (fun h=>Sa h) rfl (st (Ag rfl tv (st (Bu (u:=iV r90.2) rfl (fun hg=>(Gx (v:=iV r90.2) rfl tv)) (st (Bu (u:=.bool (r90.2 != 0)) rfl (fun hg=>(Aj ⟨(fun _=>hg),tv,tv⟩ rfl tv)) (st (Ct rfl rfl rfl tv (fun h=>Sa h) rfl (st (Ag rfl tv (st (Bu (u:=Bc 3456 r90.1) rfl (fun hg=>(Gx (v:=Bc 3456 r90.1) rfl tv)) (st (Bu (u:=.str r90.1) rfl (fun hg=>(cZ (s:=r90.1) rfl rfl (fun _=>hg))) (st (Bu (u:=Bc 2816 r86.1) rfl (fun hg=>(Gx (v:=Bc 2816 r86.1) rfl tv)) (st (Bu (u:=.str r86.1) rfl (fun hg=>(cZ (s:=r86.1) rfl rfl (fun _=>hg))) (sw ⟨[(3,.own 1920 0 1 (r2.map (eL 3 Ad))),(4,.ptr 256 0),(5,Aa 2048 p37),(6,iV p38),(9,Ar 3136 r88.1),(67,.bool (bif (bif (r86.2 != 0) then true else (r88.2 != 0)) then true else (r90.2 != 0))),(69,.may ((bif (bif (r86.2 != 0) then true else (r88.2 != 0)) then true else (r90.2 != 0))==false) (.str r90.1)),(71,.may ((bif (bif (r86.2 != 0) then true else (r88.2 != 0)) then true else (r90.2 != 0))==false) (.str r86.1))],[(256,[Bc 1985 p39,Ai 1986 p40])],[]⟩ (Ak (by kernel_rfl)) (Bu (u:=.bool (!(r90.1==r86.1))) rfl (fun hg=>(Aj ⟨(fun _=>hg),(fun _=>hg),tv⟩ rfl tv)) (st (Ct rfl rfl rfl tv (fun h=>Sa h) rfl (st (Ag rfl tv (st (Bu (u:=Ar 3136 r88.1) rfl (fun hg=>(Gx (v:=Ar 3136 r88.1) rfl tv)) (st (Bu (u:=iV (r88.1.length:Int)) rfl (fun hg=>(Ez (e:=Ad) (l0:=r88.1) rfl rfl (fun _=>hg))) ?_))))))))))))))))))))))))))))))))))))))))))))))))))))))))
    refine st (Bu (u:=.own 1920 0 1 (r2.map (eL 3 Ad))) rfl (fun hg=>(Gx (v:=.own 1920 0 1 (r2.map (eL 3 Ad))) rfl tv)) (st (Bu (u:=iV p38) rfl (fun hg=>(Gx (v:=iV p38) rfl tv)) ?_)))
    obtain ⟨y92,e93,h1⟩:=bnd h1
    refine st (Bu (u:=.optr 1920 1 (0+p38.toNat) 0) rfl (fun hg=>(Hw (e:=(eL 3 Ad)) (y:=y92) rfl rfl (fun _=>hg) rfl rfl (fun _=>hg) (ip hg e93))) ?_)
    obtain ⟨y94,e95,h1⟩:=bnd h1
    refine st (Bu (u:=Af y94) rfl (fun hg=>(Cd (e:=(eL 3 Ad)) (y:=y94) (v:=Af y94) rfl rfl (fun _=>hg) rfl rfl (ip hg e95) rfl (nl rfl) rfl)) (st (Bu (u:=iV (y94.length:Int)) rfl (fun hg=>(Cg (e:=Ad) (l0:=y94) rfl rfl (fun _=>hg))) (st (Bu (u:=.bool ((r88.1.length:Int) != (y94.length:Int))) rfl (fun hg=>(Aj ⟨(fun _=>hg),(fun _=>hg),tv⟩ rfl tv)) (st (Ct rfl rfl rfl tv (fun h=>Sa h) rfl (At ?_))))))))
    obtain ⟨v96,e97,h1⟩:=bl h1
    refine An ⟨[(3,.own 1920 0 1 (r2.map (eL 3 Ad))),(4,.ptr 256 0),(5,Aa 2048 p37),(6,iV p38),(83,.bool v96)],[(256,[Bc 1985 p39,Ai 1986 p40])],[]⟩ (Ak (by subst e97; kernel_rfl)) (Bs (cb:=v96) rfl (fun c98=>?_) (fun c98=>?_))
    ·replace h1:=ip c98 h1
     refine Ab (Ac (st (Bg tv (At (An ⟨[(2,.bool false)],[],[]⟩ (Ak (by kernel_rfl)) ?_)))))
     obtain rfl:=sj h1
     obtain rfl:=hx1 _ rfl
     obtain rfl:=sj h0
     exact Cr (hR1 _ (Bj rfl rfl rfl rfl rfl tv))
    ·replace h1:=Do c98 h1
     refine Dn (An ⟨[(3,.own 1920 0 1 (r2.map (eL 3 Ad))),(4,.ptr 256 0),(5,Aa 2048 p37),(6,iV p38)],[(256,[Bc 1985 p39,Ai 1986 p40])],[]⟩ (Ak (by kernel_rfl)) (Ab ?_))
     obtain ⟨y99,e100,h1⟩:=bnd h1
     obtain ⟨y101,e102,h1⟩:=bnd h1
     obtain ⟨r103,e104,h1⟩:=bnd h1
     refine XZ (fun S=>S=⟨[(3,.own 1920 0 1 (r2.map (eL 3 Ad))),(4,.ptr 256 0),(5,Aa 2048 p37),(6,iV p38),(13,.ptr 832 0),(14,iV r103.2)],[(256,[Bh p39,Ba p40]),(832,Bd r103.1 (Dp 5760) (Dp 5761))],[]⟩) ?_ (fun J105=>?_)
     ·rintro _ rfl
      refine Ab (Ab (Ac (st (Ag rfl tv (st (c_ (Aj t3 rfl tv) (At (An ⟨[(3,.own 1920 0 1 (r2.map (eL 3 Ad))),(4,.ptr 256 0),(5,Aa 2048 p37),(6,iV p38),(13,.ptr 832 0),(14,iV r103.2),(94,.bool (r103.2==9))],[(256,[Bh p39,Ba p40]),(832,Bd r103.1 (Dp 5760) (Dp 5761))],[]⟩ (Ak (by kernel_rfl)) (Bs (cb:=(r103.2==9)) rfl (fun c106=>?_) (fun c106=>?_))))))))))
      ·replace h1:=ip c106 h1
       refine Ab (Ac (st (Bg tv (At (An ⟨[(2,.bool true)],[],[]⟩ (Ak (by kernel_rfl)) ?_)))))
       obtain rfl:=sj h1
       obtain rfl:=hx1 _ rfl
       obtain rfl:=sj h0
       exact Cr (hR1 _ (Bj rfl rfl rfl rfl rfl tv))
      ·replace h1:=Do c106 h1
       refine Dn (An ⟨[(3,.own 1920 0 1 (r2.map (eL 3 Ad))),(4,.ptr 256 0),(5,Aa 2048 p37),(6,iV p38),(13,.ptr 832 0),(14,iV r103.2)],[(256,[Bh p39,Ba p40]),(832,Bd r103.1 (Dp 5760) (Dp 5761))],[]⟩ (Ak (by kernel_rfl)) (Ab (Ac (st (Ag rfl tv (st (Ag rfl tv (st (Ag rfl tv ?_)))))))))
       obtain ⟨y107,e108,h1⟩:=bnd h1
       refine st (c_ (Hw (e:=(eL 3 Ad)) (y:=y107) rfl rfl tv rfl rfl tv e108) ?_)
       obtain ⟨y109,e110,h1⟩:=bnd h1
       refine st (c_ (Cd (e:=(eL 3 Ad)) (y:=y109) (v:=Af y109) rfl rfl tv rfl rfl e110 rfl (nl rfl) rfl) ?_)
       obtain ⟨r111,e112,h1⟩:=bnd h1
       refine st (Ax (r:=.tup [Aa 0 r111.1,iV r111.2]) false (H383 p37 y109 r111 e112) ⟨tv,tv,tv⟩ rfl rfl (fun _=>(Cf (Jo (fun _=>rfl)) (Cf rfl rfl))) (st (Ag rfl tv (st (c_ (Aj ⟨tv,tv⟩ rfl tv) (st (c_ (Aj ⟨tv,tv⟩ rfl tv) (st (Ag rfl tv (st (Ag rfl tv (At (An ⟨[(3,.own 1920 0 1 (r2.map (eL 3 Ad))),(4,.ptr 256 0),(6,iV p38),(13,.ptr 832 0),(14,iV r103.2),(15,Aa 6464 r111.1),(16,iV r111.2)],[(256,[Bh p39,Ba p40]),(832,Bd r103.1 (Dp 5760) (Dp 5761))],[]⟩ (Ak (by kernel_rfl)) (Ab (Ab (Ac (st (Ag rfl tv (st (c_ (Aj t3 rfl tv) (st (Ag rfl tv (st (Bu (u:=iV r111.2) rfl (fun hg=>(Gx (v:=iV r111.2) rfl tv)) (st (Bu (u:=.bool (r111.2 != 0)) rfl (fun hg=>(Aj ⟨(fun _=>hg),tv,tv⟩ rfl tv)) (st (Ct rfl rfl rfl tv (fun h=>Sa h) rfl (At (An ⟨[(3,.own 1920 0 1 (r2.map (eL 3 Ad))),(4,.ptr 256 0),(6,iV p38),(13,.ptr 832 0),(15,Aa 6464 r111.1),(109,.bool (bif (r103.2 != 0) then true else (r111.2 != 0)))],[(256,[Bh p39,Ba p40]),(832,Bd r103.1 (Dp 5760) (Dp 5761))],[]⟩ (Ak (by kernel_rfl)) (Bs (cb:=(bif (r103.2 != 0) then true else (r111.2 != 0))) rfl (fun c113=>?_) (fun c113=>?_))))))))))))))))))))))))))))))))
       ·replace h1:=ip c113 h1
        refine Ab (Ac (st (Bg tv (At (An ⟨[(2,.bool false)],[],[]⟩ (Ak (by kernel_rfl)) ?_)))))
        obtain rfl:=sj h1
        obtain rfl:=hx1 _ rfl
        obtain rfl:=sj h0
        exact Cr (hR1 _ (Bj rfl rfl rfl rfl rfl tv))
       ·replace h1:=Do c113 h1
        refine Dn (An ⟨[(3,.own 1920 0 1 (r2.map (eL 3 Ad))),(4,.ptr 256 0),(6,iV p38),(13,.ptr 832 0),(15,Aa 6464 r111.1)],[(256,[Bh p39,Ba p40]),(832,Bd r103.1 (Dp 5760) (Dp 5761))],[]⟩ (Ak (by kernel_rfl)) (Ab (Ac (st (c_ (v:=.agg (Bd r103.1 (Dp 5760) (Dp 5761))) (Aj ⟨tv,tv⟩ rfl (nl rfl)) (st (El rfl rfl tv rfl rfl rfl (nl rfl) (At (An ⟨[(3,.own 1920 0 1 (r2.map (eL 3 Ad))),(4,.ptr 256 0),(6,iV p38),(15,Aa 6464 r111.1)],[(256,Bd r103.1 (Dp 5760) (Dp 5761))],[]⟩ (Ak (by kernel_rfl)) (Ac (st (Ag rfl tv (st (Ag rfl tv (At (It (An ⟨[(3,.own 1920 0 1 (r2.map (eL 3 Ad))),(4,.ptr 256 0),(5,Aa 6464 r111.1),(6,iV p38)],[(256,Bd r103.1 (Dp 5760) (Dp 5761))],[]⟩ (Ak (by kernel_rfl)) (Ac (st (Ag rfl tv (st (c_ (Aj t3 rfl tv) (st (Ag rfl tv (At ?_)))))))))))))))))))))))))
        obtain rfl:=sj h1
        exact hK1 _ rfl _ ⟨[(3,.own 1920 0 1 (r2.map (eL 3 Ad))),(4,.ptr 256 0),(5,Aa 2048 r111.1),(6,iV (wi (p38+1)))],[(256,Bd r103.1 (Dp 1985) (Dp 1986))],[]⟩ (Zi [] [(6464,2048),(5760,1985),(5761,1986)] rfl (by kernel_rfl)) rfl
     ·refine Ah tv (c_ (v:=.agg [Bc 1985 p39,Ai 1986 p40]) (Aj ⟨tv,tv⟩ rfl (nl rfl)) ?_)
      refine ⟨tv,Ah tv (Ag rfl tv (⟨tv,Ah tv (Ag rfl tv (⟨tv,Ah tv (c_ (Hw (e:=(eL 3 Ad)) (y:=y99) rfl rfl tv rfl rfl tv e100) (⟨tv,Qz (c_ (Cd (e:=(eL 3 Ad)) (y:=y101) (v:=Af y101) rfl rfl tv rfl rfl e102 rfl (nl rfl) rfl) (⟨⟨By (Cd (e:=(eL 3 Ad)) (y:=y101) (v:=Af y101) rfl rfl tv rfl rfl e102 rfl (nl rfl) rfl) rfl,tv⟩,Fm (Ax (r:=.tup [.agg (Bd r103.1 (Dp 0) (Dp 1)),iV r103.2]) true (H382 (Av.mk p39 p40) y101 r103 e104) ⟨tv,tv,tv⟩ rfl rfl (fun h=>nomatch h) ?_) ?_⟩))⟩))⟩))⟩))⟩
      ·refine mP ⟨[(3,.own 1920 0 1 (r2.map (eL 3 Ad))),(4,.ptr 256 0),(5,Aa 2048 p37),(6,iV p38),(90,.tup [.agg (Bd r103.1 (Dp 5760) (Dp 5761)),iV r103.2])],[(256,[Bh p39,Ba p40])],[]⟩ (Ak (by kernel_rfl)) ⟨[],tv,tv,?_⟩
       refine Ah tv (Ag rfl tv (⟨tv,Ah tv (c_ (Aj ⟨tv,tv⟩ rfl tv) (⟨tv,Ah tv (c_ (Aj ⟨tv,tv⟩ rfl tv) (⟨tv,Fm (Dt (Wg ⟨[],⟨⟨.inl tv,By (Aj ⟨tv,tv⟩ rfl tv) rfl⟩,⟨.inl tv,By (Aj ⟨tv,tv⟩ rfl tv) rfl⟩,⟨.inl tv,By (Gx (v:=.tup [.agg (Bd r103.1 (Dp 5760) (Dp 5761)),iV r103.2]) rfl tv) rfl⟩,tv⟩,tv,Fm (El rfl rfl tv rfl rfl rfl (nl rfl) (Wg ⟨[],⟨⟨.inl tv,By (Aj ⟨tv,tv⟩ rfl tv) rfl⟩,tv⟩,tv,Ah tv (Ag rfl tv (⟨tv,Iu ?_⟩))⟩)) Dl⟩)) Dl⟩))⟩))⟩))
       exact J105 _ ⟨[(3,.own 1920 0 1 (r2.map (eL 3 Ad))),(4,.ptr 256 0),(5,Aa 2048 p37),(6,iV p38),(13,.ptr 832 0),(14,iV r103.2)],[(256,[Bh p39,Ba p40]),(832,Bd r103.1 (Dp 5760) (Dp 5761))],[]⟩ (Ak (by kernel_rfl)) rfl
      ·refine Fm (Dt ?_) Dl
       refine Wg ⟨[iQ 89 (.load (.t 88) 1 false)],⟨⟨.inr (.head _),By (Cd (e:=(eL 3 Ad)) (y:=y101) (v:=Af y101) rfl rfl tv rfl rfl e102 rfl (nl rfl) rfl) rfl⟩,⟨.inl tv,By (Hw (e:=(eL 3 Ad)) (y:=y99) rfl rfl tv rfl rfl tv e100) rfl⟩,⟨.inl tv,By (Gx (v:=iV p38) rfl tv) rfl⟩,⟨.inl tv,By (Gx (v:=.own 1920 0 1 (r2.map (eL 3 Ad))) rfl tv) rfl⟩,⟨.inl tv,By (Aj ⟨tv,tv⟩ rfl (nl rfl)) rfl⟩,tv⟩,⟨By (Cd (e:=(eL 3 Ad)) (y:=y101) (v:=Af y101) rfl rfl tv rfl rfl e102 rfl (nl rfl) rfl) rfl,tv⟩,Fm (Ax (r:=.tup [.agg (Bd r103.1 (Dp 0) (Dp 1)),iV r103.2]) true (H382 (Av.mk p39 p40) y101 r103 e104) ⟨tv,tv,tv⟩ rfl rfl (fun h=>nomatch h) (mP ⟨[(3,.own 1920 0 1 (r2.map (eL 3 Ad))),(4,.ptr 256 0),(5,Aa 2048 p37),(6,iV p38),(13,.ptr 832 0),(90,.tup [.agg (Bd r103.1 (Dp 5760) (Dp 5761)),iV r103.2])],[(256,[Bh p39,Ba p40]),(832,[Bc 833 [],Ai 834 []])],[]⟩ (Ak (by kernel_rfl)) ⟨[],tv,tv,Ah tv (Ag rfl tv (⟨tv,Ah tv (c_ (Aj ⟨tv,tv⟩ rfl tv) (⟨tv,Ah tv (c_ (Aj ⟨tv,tv⟩ rfl tv) (⟨tv,Fm (El rfl rfl tv rfl rfl rfl (nl rfl) (Wg ⟨[],⟨⟨.inl tv,By (Aj ⟨tv,tv⟩ rfl tv) rfl⟩,tv⟩,tv,Ah tv (Ag rfl tv (⟨tv,Iu ?_⟩))⟩)) Dl⟩))⟩))⟩))⟩)) Dl⟩
       exact J105 _ ⟨[(3,.own 1920 0 1 (r2.map (eL 3 Ad))),(4,.ptr 256 0),(5,Aa 2048 p37),(6,iV p38),(13,.ptr 832 0),(14,iV r103.2)],[(256,[Bh p39,Ba p40]),(832,Bd r103.1 (Dp 5760) (Dp 5761))],[]⟩ (Ak (by kernel_rfl)) rfl
   ·replace h1:=Do c81 h1
    obtain rfl:=sj h1
    obtain rfl:=hx1 _ rfl
    refine Ke rfl ?_
    exact hE1 _ ⟨[(4,.ptr 256 0),(5,Aa 2048 p37)],[(256,[Bc 1985 p39,Ai 1986 p40])],[]⟩ (Ak (by kernel_rfl)) ⟨_,_,_,rfl,rfl⟩
end Go.Ev
