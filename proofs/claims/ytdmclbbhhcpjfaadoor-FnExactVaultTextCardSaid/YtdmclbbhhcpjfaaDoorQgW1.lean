/- The walks of functions: the code comes to the answers that QgD tells. Written by a program of ours. -/
import Derived.Test.YtdmclbbhhcpjfaaDoorQgW0
set_option linter.all false
set_option maxHeartbeats 4000000
set_option linter.unusedVariables false
set_option maxRecDepth 100000
namespace Go.Ev
variable {C:At}

/- loop.example/g00149/impl.VaultOK -/
def zC:=[X_ 1 0,k_ 2 (.bool false)]
def zD:=tk [f_ 5 1 0,L_ 6 5 3] (.alt [] (q_ 7 20 [.t 6]) (tk [N_ 8 7,m_ 9 8,fF 9 10 1 3,lF 9 11 10 1 false,pF 9 12 (.len (.t 11)),pF 9 13 (.bin .gtr (.t 12) (.c (iV 40))),po 14 9 13,m_ 15 14,fF 15 16 1 3,lF 15 17 16 1 false,fF 15 19 1 0,fF 15 20 19 1,lF 15 21 20 1 false,pF 15 22 (.bin .sub (.t 21) (.c (iV 1)))] (.alt [pF 15 22 (.bin .sub (.t 21) (.c (iV 1))),lF 15 21 20 1 false,fF 15 20 19 1,fF 15 19 1 0] ⟨some 18,.call 95 [.t 17],some (15,false)⟩ (.alt [] ⟨some 23,.call 59 [.t 18,.c (iV 1),.t 22],some (15,false)⟩ (tk [pF 15 24 (.un .not (.t 23)),po 25 15 24,m_ 26 25,fF 26 27 1 4,lF 26 28 27 1 false,pF 26 29 (.len (.t 28)),pF 26 30 (.bin .gtr (.t 29) (.c (iV 80))),po 31 26 30,m_ 32 31,fF 32 33 1 4,lF 32 34 33 1 false,fF 32 35 1 0,fF 32 36 35 1,lF 32 37 36 1 false,pF 32 38 (.bin .sub (.t 37) (.c (iV 1)))] (.alt [] ⟨some 39,.call 59 [.t 34,.c (iV 1),.t 38],some (32,false)⟩ (tk [pF 32 40 (.un .not (.t 39)),po 41 32 40] .fin) .stop)) .stop) .stop)) .stop)
def zE:=[k_ 2 (.bool false)]
def zF:=[L_ 43 1 6,q_ 44 96 [.t 43],m_ 42 44,e_ 45 42 0,e_ 46 42 1,m_ 3 45,m_ 4 46]
def zG:List Bg:=[m_ 47 4,N_ 48 47,m_ 49 48,fT 49 50 1 3,lT 49 51 50 1 false,⟨some 52,.call 95 [.t 51],some (49,true)⟩,pT 49 53 (.fn 98 [.t 1]),⟨some 54,.call 97 [.t 52,.t 53],some (49,true)⟩,pa 55 49 54,m_ 2 55]
def NQ:Dn:=⟨1,56,[.t 2],sr zC (.seq (sd zD (iz 41 (rr zE))) (sr zF (rr zG)))⟩
def LZ (D:At):Prop:=∀a0 r,JZ a0=some r→D 48 ⟨[.agg (Aa a0)],[]⟩ ⟨.bool r,[],[]⟩
theorem OX (H20:LS C) (H59:JK C) (H95:JN C) (H96:MN C) (H97:MO C) (H98:MP C):LZ (FO C NQ):=by
 intro a0 r h0
 refine f0 (Bj 4 [(1,.ptr 64 0)] [(64,Aa a0)] (Ar (Ar (bb h0 fun r1 e2 h0=>bb h0 fun r3 e4 h0=>bb h0 fun r5 e6 h0=>bb h0 fun r7 e8 h0=>Cd 2 (Cz (rT (H20 a0.table r1 e2) rfl (dw [(1,.ptr 64 0),(7,.bool r1)] [(64,Aa a0)] tv (d_ (Cd 2 (Cz (Af tv (Bt (u:=.ptr 64 3) rfl (fun hg=>(Ak ⟨tv,tv⟩ rfl tv)) (⟨tv,Af tv (Bt (u:=Am a0.Ab) rfl (fun hg=>(Ak ⟨(fun _=>hg),tv⟩ rfl (nl rfl))) (⟨tv,Af tv (Bt (u:=iV (a0.Ab.length:Int)) rfl (fun hg=>(Jv (e:=Az) (l0:=a0.Ab) rfl rfl (fun _=>hg))) (⟨tv,Af tv (Bt (u:=.bool (decide ((a0.Ab.length:Int)>40))) rfl (fun hg=>(Ak ⟨(fun _=>hg),tv,tv⟩ rfl tv)) (⟨tv,Af tv (Ds rfl rfl rfl tv (fun h=>Um h) rfl (⟨tv,Af tv (Cv rfl tv (⟨tv,Af tv (Bt (u:=.ptr 64 3) rfl (fun hg=>(Ak ⟨tv,tv⟩ rfl tv)) (⟨tv,Af tv (Bt (u:=Am a0.Ab) rfl (fun hg=>(Ak ⟨(fun _=>hg),tv⟩ rfl (nl rfl))) (⟨tv,Af tv (Bt (u:=.ptr 64 0) rfl (fun hg=>(Ak ⟨tv,tv⟩ rfl tv)) (⟨tv,Af tv (Bt (u:=.ptr 64 1) rfl (fun hg=>(Ak ⟨(fun _=>hg),tv⟩ rfl tv)) (⟨tv,?_⟩))⟩))⟩))⟩))⟩))⟩))⟩))⟩))⟩))⟩))))))) Co))))))
 refine Af tv (Bt (u:=iV a0.table.next) rfl (fun hg=>(Ak ⟨(fun _=>hg),tv⟩ rfl (nl rfl))) (⟨tv,Af tv (Bt (u:=iV (wi (a0.table.next-1))) rfl (fun hg=>(Ak ⟨(fun _=>hg),tv,tv⟩ rfl tv)) (⟨tv,Fk (Ga (r:=oI 0 r3) rfl false (fun hg=>H95 a0.Ab r3 (ip hg e4)) ⟨(fun hg=>hg),tv⟩ (fun _=>rfl) (fun _=>rfl) (fun _=>(af rfl)) (fun h=>nomatch h) (dw [(1,.ptr 64 0),(15,.bool (bif (!r1) then true else (decide ((a0.Ab.length:Int)>40)))),(18,.may ((bif (!r1) then true else (decide ((a0.Ab.length:Int)>40)))==false) (lI r3)),(19,.may ((bif (!r1) then true else (decide ((a0.Ab.length:Int)>40)))==false) (.ptr 64 0)),(20,.may ((bif (!r1) then true else (decide ((a0.Ab.length:Int)>40)))==false) (.ptr 64 1)),(21,.may ((bif (!r1) then true else (decide ((a0.Ab.length:Int)>40)))==false) (iV a0.table.next)),(22,.may ((bif (!r1) then true else (decide ((a0.Ab.length:Int)>40)))==false) (iV (wi (a0.table.next-1))))] [(64,Aa a0)] ⟨⟨.inl tv,Mm (v:=iV (wi (a0.table.next-1))) rfl (fun hg=>(Ak ⟨(fun _=>hg),tv,tv⟩ rfl tv)) rfl⟩,⟨.inl tv,Mm (v:=iV a0.table.next) rfl (fun hg=>(Ak ⟨(fun _=>hg),tv⟩ rfl (nl rfl))) rfl⟩,⟨.inl tv,Mm (v:=.ptr 64 1) rfl (fun hg=>(Ak ⟨(fun _=>hg),tv⟩ rfl tv)) rfl⟩,⟨.inl tv,Mm (v:=.ptr 64 0) rfl (fun hg=>(Ak ⟨tv,tv⟩ rfl tv)) rfl⟩,tv⟩ (Fk (Ga (r:=.bool r5) rfl false (fun hg=>H59 r3 1 (wi (a0.table.next-1)) r5 (ip hg e6)) ⟨(fun hg=>hg),tv,(fun hg=>hg),tv⟩ (fun _=>rfl) (fun _=>rfl) (fun _=>rfl) (fun h=>nomatch h) (dw [(1,.ptr 64 0),(15,.bool (bif (!r1) then true else (decide ((a0.Ab.length:Int)>40)))),(23,.may ((bif (!r1) then true else (decide ((a0.Ab.length:Int)>40)))==false) (.bool r5))] [(64,Aa a0)] tv (Af tv (Bt (u:=.bool (!r5)) rfl (fun hg=>(Ak ⟨(fun _=>hg),tv⟩ rfl tv)) (⟨tv,Af tv (Ds rfl rfl rfl tv (fun h=>Um h) rfl (⟨tv,Af tv (Cv rfl tv (⟨tv,Af tv (Bt (u:=.ptr 64 4) rfl (fun hg=>(Ak ⟨tv,tv⟩ rfl tv)) (⟨tv,Af tv (Bt (u:=lI a0.Ac) rfl (fun hg=>(Ak ⟨(fun _=>hg),tv⟩ rfl (nl rfl))) (⟨tv,Af tv (Bt (u:=iV (a0.Ac.length:Int)) rfl (fun hg=>(Jv (e:=eI) (l0:=a0.Ac) rfl rfl (fun _=>hg))) (⟨tv,Af tv (Bt (u:=.bool (decide ((a0.Ac.length:Int)>80))) rfl (fun hg=>(Ak ⟨(fun _=>hg),tv,tv⟩ rfl tv)) (⟨tv,Af tv (Ds rfl rfl rfl tv (fun h=>Um h) rfl (⟨tv,Af tv (Cv rfl tv (⟨tv,Af tv (Bt (u:=.ptr 64 4) rfl (fun hg=>(Ak ⟨tv,tv⟩ rfl tv)) (⟨tv,Af tv (Bt (u:=lI a0.Ac) rfl (fun hg=>(Ak ⟨(fun _=>hg),tv⟩ rfl (nl rfl))) (⟨tv,Af tv (Bt (u:=.ptr 64 0) rfl (fun hg=>(Ak ⟨tv,tv⟩ rfl tv)) ?_)⟩))⟩))⟩))⟩))⟩))⟩))⟩))⟩))⟩))⟩))⟩))))) Co))) Co⟩))⟩))
 refine ⟨tv,Af tv (Bt (u:=.ptr 64 1) rfl (fun hg=>(Ak ⟨(fun _=>hg),tv⟩ rfl tv)) (⟨tv,Af tv (Bt (u:=iV a0.table.next) rfl (fun hg=>(Ak ⟨(fun _=>hg),tv⟩ rfl (nl rfl))) (⟨tv,Af tv (Bt (u:=iV (wi (a0.table.next-1))) rfl (fun hg=>(Ak ⟨(fun _=>hg),tv,tv⟩ rfl tv)) (⟨tv,Fk (Ga (r:=.bool r7) rfl false (fun hg=>H59 a0.Ac 1 (wi (a0.table.next-1)) r7 (ip hg e8)) ⟨(fun hg=>hg),tv,(fun hg=>hg),tv⟩ (fun _=>rfl) (fun _=>rfl) (fun _=>rfl) (fun h=>nomatch h) (dw [(1,.ptr 64 0),(32,.bool (bif (bif (bif (!r1) then true else (decide ((a0.Ab.length:Int)>40))) then true else (!r5)) then true else (decide ((a0.Ac.length:Int)>80)))),(39,.may ((bif (bif (bif (!r1) then true else (decide ((a0.Ab.length:Int)>40))) then true else (!r5)) then true else (decide ((a0.Ac.length:Int)>80)))==false) (.bool r7))] [(64,Aa a0)] tv (Af tv (Bt (u:=.bool (!r7)) rfl (fun hg=>(Ak ⟨(fun _=>hg),tv⟩ rfl tv)) (⟨tv,Af tv (Ds rfl rfl rfl tv (fun h=>Um h) rfl (⟨tv,Tn (bv h0 fun v9 e10 h0=>Ce ⟨[(1,.ptr 64 0),(41,.bool v9)],[(64,Aa a0)],[]⟩ (Be (by subst e10; kernel_rfl)) (Ej h0 (fun c11 h0=>?_) (fun c11 h0=>?_)))⟩))⟩))))) Co⟩))⟩))⟩))⟩
 ·obtain rfl:=sj h0
  exact De 4
 ·refine Cd 4 (Ai (bb h0 fun r12 e13 h0=>Tm (H96 a0 r12 e13) (o_ (Bj 6 [(1,.ptr 64 0),(4,.bool r12.2)] [(64,Aa a0)] (Cd 4 (Ai (st (Bt (u:=.ptr 64 3) rfl (fun hg=>(Ak ⟨tv,tv⟩ rfl tv)) (st (Bt (u:=Am a0.Ab) rfl (fun hg=>(Ak ⟨(fun _=>hg),tv⟩ rfl (nl rfl))) (bb h0 fun r14 e15 h0=>st (Ga (r:=oI 0 r14) rfl false (fun hg=>H95 a0.Ab r14 (ip hg e15)) ⟨(fun hg=>hg),tv⟩ (fun _=>rfl) (fun _=>rfl) (fun _=>(af rfl)) (fun h=>nomatch h) (st (Bt (u:=.clo 98 [.ptr 64 0]) rfl (fun hg=>(Ak ⟨tv,tv⟩ rfl rfl)) (bb h0 fun r16 e17 h0=>st (Ga (r:=.bool r16) rfl false (fun hg=>H97 r14 98 [.iptr (Aa a0)] (fun z98_0=>IT z98_0 a0) (⟨fun _ _ _ _ _=>rfl,fun _ _ _ _ _=>rfl,rfl,fun _ _ _ n=>by cases n<;>rfl,fun _=>rfl⟩) (fun z98_0 r h=>H98 z98_0 a0 r h) r16 (ip hg e17)) ⟨(fun hg=>hg),(fun hg=>hg),tv⟩ (fun _=>rfl) (fun _=>rfl) (fun _=>rfl) (fun h=>nomatch h) (st (Ds rfl rfl rfl (fun h=>kQ h) tv rfl (o_ ?_)))))))))))))))))))
  obtain rfl:=sj h0
  exact De 3

/- loop.example/g00149/impl.either -/
def pV:=[k_ 6 (.str [])]
def pW:=[m_ 7 0]
def pX:=[m_ 8 1,m_ 6 8]
def pY:=[m_ 9 2,m_ 6 9]
def IB:Dn:=⟨3,10,[.t 6],sr pV (.seq (sr pW (iz 7 (rr pX))) (rr pY))⟩
def vN (D:At):Prop:=∀a0 a1 a2 r,To a0 a1 a2=some r→D 359 ⟨[.bool a0,.str a1,.str a2],[]⟩ ⟨.str r,[],[]⟩
theorem LH:vN (FO C IB):=by
 intro a0 a1 a2 r h0
 refine f0 (Bj 8 [(1,.str a1),(2,.str a2),(7,.bool a0)] [] (Ej h0 (fun c1 h0=>?_) (fun c1 h0=>?_)))
 ·obtain rfl:=sj h0
  exact De 5
 ·obtain rfl:=sj h0
  exact De 7

/- strconv.Itoa -/
def HC (C:At):Prop:=∀(a0:Int) (r:List UInt8),Tp a0=some r→C 481 ⟨[iV a0],[]⟩ ⟨.str r,[],[]⟩

/- (loop.example/g00149/impl.Vault).text -/
def pK:=[X_ 1 0,k_ 2 (.str [])]
def pL:=tk [f_ 10 1 5,l_ 11 10 1,f_ 15 1 0,f_ 16 15 0,l_ 17 16 1] (.alt [l_ 17 16 1,f_ 16 15 0,f_ 15 1 0] (q_ 12 359 [.t 11,.c (.str [115,101,97,108,101,100]),.c (.str [111,112,101,110])]) (tk [⟨some 13,.p (.bin .add (.c (.str [118,97,117,108,116,32])) (.t 12)),none⟩,⟨some 14,.p (.bin .add (.t 13) (.c (.str [32]))),none⟩] (.alt [⟨some 14,.p (.bin .add (.t 13) (.c (.str [32]))),none⟩,⟨some 13,.p (.bin .add (.c (.str [118,97,117,108,116,32])) (.t 12)),none⟩] (q_ 18 481 [.t 17]) (tk [b_ .add 19 14 18,⟨some 20,.p (.bin .add (.t 19) (.c (.str [10]))),none⟩,m_ 3 20] .fin) .stop)) .stop)
def pM:=[f_ 21 1 0,f_ 22 21 2,l_ 23 22 1,n_ 24 23,i_ 25 0]
def pN:=[b_ .lss 26 25 24]
def pO:=[x_ 27 23 25 4,L_ 28 27 4,a_ 5 [iV 0,iV 0,iV 0,.bool false],s_ 5 28 4]
def pP:=tk [m_ 29 3,f_ 30 5 3,l_ 31 30 1,f_ 34 5 0,l_ 35 34 1,f_ 39 5 1,l_ 40 39 1,f_ 44 5 2,l_ 45 44 1] (.alt [l_ 45 44 1,f_ 44 5 2,l_ 40 39 1,f_ 39 5 1,l_ 35 34 1,f_ 34 5 0,m_ 29 3] (q_ 32 359 [.t 31,.c (.str [113,117,101,117,101,100]),.c (.str [108,101,97,115,101])]) (tk [⟨some 33,.p (.bin .add (.t 32) (.c (.str [32]))),none⟩] (.alt [⟨some 33,.p (.bin .add (.t 32) (.c (.str [32]))),none⟩,l_ 45 44 1,f_ 44 5 2,l_ 40 39 1,f_ 39 5 1,m_ 29 3] (q_ 36 481 [.t 35]) (tk [b_ .add 37 33 36,⟨some 38,.p (.bin .add (.t 37) (.c (.str [32]))),none⟩] (.alt [⟨some 38,.p (.bin .add (.t 37) (.c (.str [32]))),none⟩,b_ .add 37 33 36,⟨some 33,.p (.bin .add (.t 32) (.c (.str [32]))),none⟩,l_ 45 44 1,f_ 44 5 2,m_ 29 3] (q_ 41 481 [.t 40]) (tk [b_ .add 42 38 41,⟨some 43,.p (.bin .add (.t 42) (.c (.str [32]))),none⟩] (.alt [⟨some 43,.p (.bin .add (.t 42) (.c (.str [32]))),none⟩,b_ .add 42 38 41,⟨some 38,.p (.bin .add (.t 37) (.c (.str [32]))),none⟩,b_ .add 37 33 36,⟨some 33,.p (.bin .add (.t 32) (.c (.str [32]))),none⟩,m_ 29 3] (q_ 46 481 [.t 45]) (tk [b_ .add 47 43 46,⟨some 48,.p (.bin .add (.t 47) (.c (.str [10]))),none⟩,b_ .add 49 29 48] (.alt [] (m_ 3 49) .fin .stop)) .stop)) .stop)) .stop)) .stop)
def pQ:=[B_ .add 50 25 1,m_ 25 50]
def pH:IR:=(sr pN (.seq (.ite (.t 26) .skip (.exit 0)) (.seq (.block 1 (sr pO (.draw pP))) (.reg pQ))))
def pR:=[f_ 51 1 3,l_ 52 51 1,n_ 53 52,i_ 54 0]
def pS:=[b_ .lss 55 54 53]
def pU:=[x_ 56 52 54 2,L_ 57 56 2,a_ 7 [iV 0,.bool false],s_ 7 57 2]
def eN:=tk [m_ 58 3,f_ 59 7 1,l_ 60 59 1,f_ 63 7 0,l_ 64 63 1] (.alt [l_ 64 63 1,f_ 63 7 0,m_ 58 3] (q_ 61 359 [.t 60,.c (.str [117,110,100,111]),.c (.str [98,101,103,117,110])]) (tk [⟨some 62,.p (.bin .add (.t 61) (.c (.str [32]))),none⟩] (.alt [⟨some 62,.p (.bin .add (.t 61) (.c (.str [32]))),none⟩,m_ 58 3] (q_ 65 481 [.t 64]) (tk [b_ .add 66 62 65,⟨some 67,.p (.bin .add (.t 66) (.c (.str [10]))),none⟩,b_ .add 68 58 67] (.alt [] (m_ 3 68) .fin .stop)) .stop)) .stop)
def eO:=[B_ .add 69 54 1,m_ 54 69]
def pI:IR:=(sr pS (.seq (.ite (.t 55) .skip (.exit 2)) (.seq (.block 3 (sr pU (.draw eN))) (.reg eO))))
def eP:List Bg:=[m_ 70 3,⟨some 71,.p (.bin .add (.t 70) (.c (.str [97,99,99,111,117,110,116,115]))),none⟩,m_ 3 71]
def eQ:=[f_ 72 1 4,l_ 73 72 1,n_ 74 73,i_ 75 0]
def eR:=[b_ .lss 76 75 74]
def eT:=[x_ 77 73 75 1,l_ 78 77 1,m_ 9 78]
def eU:List Bg:=[m_ 79 3,m_ 80 9,q_ 81 481 [.t 80],⟨some 82,.p (.bin .add (.c (.str [32])) (.t 81)),none⟩,b_ .add 83 79 82,m_ 3 83]
def eV:=[B_ .add 84 75 1,m_ 75 84]
def pJ:IR:=(sr eR (.seq (.ite (.t 76) .skip (.exit 4)) (.seq (.block 5 (sr eT (.reg eU))) (.reg eV))))
def eW:List Bg:=[m_ 85 3,⟨some 86,.p (.bin .add (.t 85) (.c (.str [10]))),none⟩,m_ 2 86]
def IA:Dn:=⟨1,87,[.t 2],sr pK (sd pL (.seq (sr pM (Om 0 pH)) (.seq (sr pR (Om 2 pI)) (sr eP (.seq (sr eQ (Om 4 pJ)) (rr eW))))))⟩
def vM (D:At):Prop:=∀a0 r,sO a0=some r→D 181 ⟨[.agg (Aa a0)],[]⟩ ⟨.str r,[],[]⟩
theorem LG (H359:vN C) (H481:HC C):vM (FO C IA):=by
 intro a0 r h0
 refine f0 (Ar (Ai (st (Xi rfl tv rfl (st (Et tv (Dp (Ce ⟨[(1,.ptr 64 0)],[(64,Aa a0)],[]⟩ (Be (by kernel_rfl)) (Ar ?_)))))))))
 obtain ⟨r1,e2,h0⟩:=bnd h0
 obtain ⟨c3,h0⟩:=If h0
 obtain ⟨c4,h0⟩:=If h0
 obtain ⟨r5,e6,h0⟩:=bnd h0
 obtain ⟨c7,h0⟩:=If h0
 obtain ⟨c8,h0⟩:=If h0
 refine Cz (Af tv (c_ (Ak ⟨tv,tv⟩ rfl tv) (⟨tv,Af tv (c_ (Ak ⟨tv,tv⟩ rfl (nl rfl)) (⟨tv,Af tv (c_ (Ak ⟨tv,tv⟩ rfl tv) (⟨tv,Af tv (c_ (Ak ⟨tv,tv⟩ rfl tv) (⟨tv,Af tv (c_ (Ak ⟨tv,tv⟩ rfl (nl rfl)) (⟨tv,Fk (Bh (r:=.str r1) false (H359 a0.Fa ([115,101,97,108,101,100]:List UInt8) ([111,112,101,110]:List UInt8) r1 e2) ⟨tv,tv,tv,tv⟩ rfl rfl (fun _=>rfl) (Zj ⟨[(1,.ptr 64 0),(12,.str r1),(15,.ptr 64 0),(16,.ptr 64 0),(17,iV a0.table.clock)],[(64,Aa a0)],[]⟩ (Be (by kernel_rfl)) ⟨[],⟨⟨.inl tv,Aq (Ak ⟨tv,tv⟩ rfl (nl rfl)) rfl⟩,⟨.inl tv,Aq (Ak ⟨tv,tv⟩ rfl tv) rfl⟩,⟨.inl tv,Aq (Ak ⟨tv,tv⟩ rfl tv) rfl⟩,tv⟩,tv,Af tv (c_ (Ak ⟨tv,tv,tv⟩ rfl c3) (⟨tv,Af tv (c_ (Ak ⟨tv,tv,tv⟩ rfl c4) (⟨tv,Fk (Bh (r:=.str r5) false (H481 a0.table.clock r5 e6) ⟨tv,tv⟩ rfl rfl (fun _=>rfl) (Zj ⟨[(1,.ptr 64 0),(12,.str r1),(13,.str (([118,97,117,108,116,32]:List UInt8)++r1)),(14,.str ((([118,97,117,108,116,32]:List UInt8)++r1)++([32]:List UInt8))),(18,.str r5)],[(64,Aa a0)],[]⟩ (Be (by kernel_rfl)) ⟨[],⟨⟨.inl tv,Aq (Ak ⟨tv,tv,tv⟩ rfl c4) rfl⟩,⟨.inl tv,Aq (Ak ⟨tv,tv,tv⟩ rfl c3) rfl⟩,tv⟩,tv,Af tv (c_ (Ak ⟨tv,tv,tv⟩ rfl c7) (⟨tv,Af tv (c_ (Ak ⟨tv,tv,tv⟩ rfl c8) (⟨tv,Af tv (Cv rfl tv (⟨tv,Tn ?_⟩))⟩))⟩))⟩)) Co⟩))⟩))⟩)) Co⟩))⟩))⟩))⟩))⟩)))
 obtain ⟨v9,e10,h0⟩:=bl h0
 refine Ce ⟨[(1,.ptr 64 0),(3,.str v9)],[(64,Aa a0)],[]⟩ (Be (by subst e10; kernel_rfl)) (Ar (Ar (Ai (st (c_ (Ak ⟨tv,tv⟩ rfl tv) (st (c_ (Ak ⟨tv,tv⟩ rfl tv) (st (c_ (Ak ⟨tv,tv⟩ rfl (nl rfl)) (st (c_ (Jv (e:=Aj) (l0:=a0.table.Ae) rfl rfl tv) (st (Et tv (Dp (Ce ⟨[(1,.ptr 64 0),(3,.str v9),(23,Al a0.table.Ae),(24,iV (a0.table.Ae.length:Int)),(25,iV 0)],[(64,Aa a0)],[]⟩ (Be (by kernel_rfl)) (Bp ?_))))))))))))))))
 obtain ⟨r79,e80,h0⟩:=bnd h0
 refine Dd (R:=(fun S=>∃p57:List UInt8,p57=r79∧S=⟨[(1,.ptr 64 0),(3,.str p57)],[(64,Aa a0)],[]⟩)) (Hy a0) (fun s S=>match s with | (p32,p33)=>S=⟨[(1,.ptr 64 0),(3,.str p32),(23,Al a0.table.Ae),(24,iV (a0.table.Ae.length:Int)),(25,iV p33)],[(64,Aa a0)],[]⟩) e80 ⟨[(1,.ptr 64 0),(3,.str v9),(23,Al a0.table.Ae),(24,iV (a0.table.Ae.length:Int)),(25,iV 0)],[(64,Aa a0)],[]⟩ (Be (by kernel_rfl)) rfl 0 (fun _=>rfl) ?_ ?_
 ·rintro S _ hfg ⟨p57,rfl,rfl⟩
  refine Ce ⟨[(1,.ptr 64 0),(3,.str p57)],[(64,Aa a0)],[]⟩ (cO hfg (by kernel_rfl)) (Ar (Ar (Ai (st (c_ (Ak ⟨tv,tv⟩ rfl tv) (st (c_ (Ak ⟨tv,tv⟩ rfl (nl rfl)) (st (c_ (Jv (e:=Az) (l0:=a0.Ab) rfl rfl tv) (st (Et tv (Dp (Ce ⟨[(1,.ptr 64 0),(3,.str p57),(52,Am a0.Ab),(53,iV (a0.Ab.length:Int)),(54,iV 0)],[(64,Aa a0)],[]⟩ (Be (by kernel_rfl)) (Bp ?_))))))))))))))
  obtain ⟨r123,e124,h0⟩:=bnd h0
  refine Dd (R:=(fun S=>∃p109:List UInt8,p109=r123∧S=⟨[(1,.ptr 64 0),(3,.str p109)],[(64,Aa a0)],[]⟩)) (Hz a0) (fun s S=>match s with | (p92,p93)=>S=⟨[(1,.ptr 64 0),(3,.str p92),(52,Am a0.Ab),(53,iV (a0.Ab.length:Int)),(54,iV p93)],[(64,Aa a0)],[]⟩) e124 ⟨[(1,.ptr 64 0),(3,.str p57),(52,Am a0.Ab),(53,iV (a0.Ab.length:Int)),(54,iV 0)],[(64,Aa a0)],[]⟩ (Be (by kernel_rfl)) rfl 2 (fun _=>rfl) ?_ ?_
  ·rintro S _ hfg ⟨p109,rfl,rfl⟩
   refine Ce ⟨[(1,.ptr 64 0),(3,.str p109)],[(64,Aa a0)],[]⟩ (cO hfg (by kernel_rfl)) (Ar (Ai (st (Cv rfl tv ?_))))
   obtain ⟨cF,h0⟩:=If h0
   refine st (c_ (Ak ⟨tv,tv,tv⟩ rfl cF) (st (Cv rfl tv (Dp (Ce ⟨[(1,.ptr 64 0),(3,.str (p109++([97,99,99,111,117,110,116,115]:List UInt8)))],[(64,Aa a0)],[]⟩ (Be (by kernel_rfl)) (Ar (Ar (Ai (st (c_ (Ak ⟨tv,tv⟩ rfl tv) (st (c_ (Ak ⟨tv,tv⟩ rfl (nl rfl)) (st (c_ (Jv (e:=eI) (l0:=a0.Ac) rfl rfl tv) (st (Et tv (Dp (Ce ⟨[(3,.str (p109++([97,99,99,111,117,110,116,115]:List UInt8))),(73,lI a0.Ac),(74,iV (a0.Ac.length:Int)),(75,iV 0)],[],[]⟩ (Be (by kernel_rfl)) (Bp ?_)))))))))))))))))))
   obtain ⟨r154,e155,h0⟩:=bnd h0
   refine Dd (R:=(fun S=>∃p146:List UInt8,p146=r154∧S=⟨[(3,.str p146)],[],[]⟩)) (Ia a0) (fun s S=>match s with | (p135,p136)=>S=⟨[(3,.str p135),(73,lI a0.Ac),(74,iV (a0.Ac.length:Int)),(75,iV p136)],[],[]⟩) e155 ⟨[(3,.str (p109++([97,99,99,111,117,110,116,115]:List UInt8))),(73,lI a0.Ac),(74,iV (a0.Ac.length:Int)),(75,iV 0)],[],[]⟩ (Be (by kernel_rfl)) rfl 4 (fun _=>rfl) ?_ ?_
   ·rintro S _ hfg ⟨p146,rfl,rfl⟩
    refine Ce ⟨[(3,.str p146)],[],[]⟩ (cO hfg (by kernel_rfl)) (Ar (Ai (st (Cv rfl tv ?_))))
    obtain ⟨c156,h0⟩:=If h0
    refine st (c_ (Ak ⟨tv,tv,tv⟩ rfl c156) (st (Cv rfl tv (Dp (Ce ⟨[(2,.str (p146++([10]:List UInt8)))],[],[]⟩ (Be (by kernel_rfl)) ?_)))))
    obtain rfl:=sj h0
    exact Wn (Jo rfl rfl rfl rfl rfl tv)
   ·rintro ⟨p135,p136⟩ o1 _ K1 rfl h1 hx1 hK1 hE1 hR1
    refine Ar (Ai (st (c_ (Ak t3 rfl tv) (Dp (Ce ⟨[(3,.str p135),(73,lI a0.Ac),(74,iV (a0.Ac.length:Int)),(75,iV p136),(76,.bool (decide (p136<(a0.Ac.length:Int))))],[],[]⟩ (Be (by kernel_rfl)) (Ar (Ka (cb:=(decide (p136<(a0.Ac.length:Int)))) rfl (fun c147=>?_) (fun c147=>?_))))))))
    ·replace h1:=ip c147 h1
     refine Tw (Ce ⟨[(3,.str p135),(73,lI a0.Ac),(74,iV (a0.Ac.length:Int)),(75,iV p136)],[],[]⟩ (Be (by kernel_rfl)) (Ar (Bp (Ar (Ai ?_)))))
     obtain ⟨y148,e149,h1⟩:=bnd h1
     refine st (c_ (Hr (e:=eI) (y:=y148) rfl rfl tv rfl rfl tv e149) (st (c_ (Ak ⟨tv,tv⟩ rfl (nl rfl)) (st (Cv rfl tv (Dp (Ce ⟨[(3,.str p135),(9,iV y148),(73,lI a0.Ac),(74,iV (a0.Ac.length:Int)),(75,iV p136)],[],[]⟩ (Be (by kernel_rfl)) (Ai (st (Cv rfl tv (st (Cv rfl tv ?_))))))))))))
     obtain ⟨r150,e151,h1⟩:=bnd h1
     refine st (Bh (r:=.str r150) false (H481 y148 r150 e151) ⟨tv,tv⟩ rfl rfl (fun _=>rfl) ?_)
     obtain ⟨c152,h1⟩:=If h1
     refine st (c_ (Ak ⟨tv,tv,tv⟩ rfl c152) ?_)
     obtain ⟨c153,h1⟩:=If h1
     refine st (c_ (Ak ⟨tv,tv,tv⟩ rfl c153) (st (Cv rfl tv (Dp (kW (Ce ⟨[(3,.str (p135++(([32]:List UInt8)++r150))),(73,lI a0.Ac),(74,iV (a0.Ac.length:Int)),(75,iV p136)],[],[]⟩ (Be (by kernel_rfl)) (Ai (st (c_ (Ak t3 rfl tv) (st (Cv rfl tv (Dp ?_))))))))))))
     obtain rfl:=sj h1
     exact hK1 _ rfl _ ⟨[(3,.str (p135++(([32]:List UInt8)++r150))),(73,lI a0.Ac),(74,iV (a0.Ac.length:Int)),(75,iV (wi (p136+1)))],[],[]⟩ (Be (by kernel_rfl)) rfl
    ·replace h1:=Xa c147 h1
     obtain rfl:=sj h1
     obtain rfl:=hx1 _ rfl
     refine Ow rfl ?_
     exact hE1 _ ⟨[(3,.str p135)],[],[]⟩ (Be (by kernel_rfl)) ⟨_,rfl,rfl⟩
  ·rintro ⟨p92,p93⟩ o1 _ K1 rfl h1 hx1 hK1 hE1 hR1
   refine Ar (Ai (st (c_ (Ak t3 rfl tv) (Dp (Ce ⟨[(1,.ptr 64 0),(3,.str p92),(52,Am a0.Ab),(53,iV (a0.Ab.length:Int)),(54,iV p93),(55,.bool (decide (p93<(a0.Ab.length:Int))))],[(64,Aa a0)],[]⟩ (Be (by kernel_rfl)) (Ar (Ka (cb:=(decide (p93<(a0.Ab.length:Int)))) rfl (fun cE=>?_) (fun cE=>?_))))))))
   ·replace h1:=ip cE h1
    refine Tw (Ce ⟨[(1,.ptr 64 0),(3,.str p92),(52,Am a0.Ab),(53,iV (a0.Ab.length:Int)),(54,iV p93)],[(64,Aa a0)],[]⟩ (Be (by kernel_rfl)) (Ar (Bp (Ar (Ai ?_)))))
    obtain ⟨y111,e112,h1⟩:=bnd h1
    refine st (c_ (Hr (e:=Az) (y:=y111) rfl rfl tv rfl rfl tv e112) (st (c_ (v:=.agg (Az y111)) (Ak ⟨tv,tv⟩ rfl (nl rfl)) (st (Rh (st (jK rfl rfl tv rfl rfl rfl (nl rfl) (Dp (Ce ⟨[(1,.ptr 64 0),(3,.str p92),(7,.ptr 448 0),(52,Am a0.Ab),(53,iV (a0.Ab.length:Int)),(54,iV p93)],[(64,Aa a0),(448,Az y111)],[]⟩ (Be (by kernel_rfl)) ?_)))))))))
    obtain ⟨r113,e114,h1⟩:=bnd h1
    obtain ⟨c115,h1⟩:=If h1
    obtain ⟨r116,e117,h1⟩:=bnd h1
    obtain ⟨c118,h1⟩:=If h1
    obtain ⟨c119,h1⟩:=If h1
    obtain ⟨c120,h1⟩:=If h1
    refine Cz (Af tv (Cv rfl tv (⟨tv,Af tv (c_ (Ak ⟨tv,tv⟩ rfl tv) (⟨tv,Af tv (c_ (Ak ⟨tv,tv⟩ rfl (nl rfl)) (⟨tv,Af tv (c_ (Ak ⟨tv,tv⟩ rfl tv) (⟨tv,Af tv (c_ (Ak ⟨tv,tv⟩ rfl (nl rfl)) (⟨tv,Fk (Bh (r:=.str r113) false (H359 y111.Qd ([117,110,100,111]:List UInt8) ([98,101,103,117,110]:List UInt8) r113 e114) ⟨tv,tv,tv,tv⟩ rfl rfl (fun _=>rfl) (Zj ⟨[(1,.ptr 64 0),(3,.str p92),(7,.ptr 448 0),(52,Am a0.Ab),(53,iV (a0.Ab.length:Int)),(54,iV p93),(58,.str p92),(61,.str r113),(63,.ptr 448 0),(64,iV y111.Ap)],[(64,Aa a0),(448,Az y111)],[]⟩ (Be (by kernel_rfl)) ⟨[],⟨⟨.inl tv,Aq (Ak ⟨tv,tv⟩ rfl (nl rfl)) rfl⟩,⟨.inl tv,Aq (Ak ⟨tv,tv⟩ rfl tv) rfl⟩,⟨.inl tv,Aq (Kb (v:=.str p92) rfl tv) rfl⟩,tv⟩,tv,Af tv (c_ (Ak ⟨tv,tv,tv⟩ rfl c115) (⟨tv,Fk (Bh (r:=.str r116) false (H481 y111.Ap r116 e117) ⟨tv,tv⟩ rfl rfl (fun _=>rfl) (Zj ⟨[(1,.ptr 64 0),(3,.str p92),(52,Am a0.Ab),(53,iV (a0.Ab.length:Int)),(54,iV p93),(58,.str p92),(61,.str r113),(62,.str (r113++([32]:List UInt8))),(65,.str r116)],[(64,Aa a0)],[]⟩ (Be (by kernel_rfl)) ⟨[],⟨⟨.inl tv,Aq (Ak ⟨tv,tv,tv⟩ rfl c115) rfl⟩,⟨.inl tv,Aq (Kb (v:=.str p92) rfl tv) rfl⟩,tv⟩,tv,Af tv (c_ (Ak ⟨tv,tv,tv⟩ rfl c118) (⟨tv,Af tv (c_ (Ak ⟨tv,tv,tv⟩ rfl c119) (⟨tv,Af tv (c_ (Ak ⟨tv,tv,tv⟩ rfl c120) (⟨tv,Fk (Cv rfl tv (IK ⟨[],tv,tv,Tn (kW ?_)⟩)) Co⟩))⟩))⟩))⟩)) Co⟩))⟩)) Co⟩))⟩))⟩))⟩))⟩)))
    obtain ⟨v121,e122,h1⟩:=bl h1
    refine Ce ⟨[(1,.ptr 64 0),(3,.str v121),(52,Am a0.Ab),(53,iV (a0.Ab.length:Int)),(54,iV p93)],[(64,Aa a0)],[]⟩ (Be (by subst e122; kernel_rfl)) (Ai (st (c_ (Ak t3 rfl tv) (st (Cv rfl tv (Dp ?_))))))
    obtain rfl:=sj h1
    exact hK1 _ rfl _ ⟨[(1,.ptr 64 0),(3,.str v121),(52,Am a0.Ab),(53,iV (a0.Ab.length:Int)),(54,iV (wi (p93+1)))],[(64,Aa a0)],[]⟩ (Be (by kernel_rfl)) rfl
   ·replace h1:=Xa cE h1
    obtain rfl:=sj h1
    obtain rfl:=hx1 _ rfl
    refine Ow rfl ?_
    exact hE1 _ ⟨[(1,.ptr 64 0),(3,.str p92)],[(64,Aa a0)],[]⟩ (Be (by kernel_rfl)) ⟨_,rfl,rfl⟩
 ·rintro ⟨p32,p33⟩ o1 _ K1 rfl h1 hx1 hK1 hE1 hR1
  refine Ar (Ai (st (c_ (Ak t3 rfl tv) (Dp (Ce ⟨[(1,.ptr 64 0),(3,.str p32),(23,Al a0.table.Ae),(24,iV (a0.table.Ae.length:Int)),(25,iV p33),(26,.bool (decide (p33<(a0.table.Ae.length:Int))))],[(64,Aa a0)],[]⟩ (Be (by kernel_rfl)) (Ar (Ka (cb:=(decide (p33<(a0.table.Ae.length:Int)))) rfl (fun GO=>?_) (fun GO=>?_))))))))
  ·replace h1:=ip GO h1
   refine Tw (Ce ⟨[(1,.ptr 64 0),(3,.str p32),(23,Al a0.table.Ae),(24,iV (a0.table.Ae.length:Int)),(25,iV p33)],[(64,Aa a0)],[]⟩ (Be (by kernel_rfl)) (Ar (Bp (Ar (Ai ?_)))))
   obtain ⟨y59,e60,h1⟩:=bnd h1
   refine st (c_ (Hr (e:=Aj) (y:=y59) rfl rfl tv rfl rfl tv e60) (st (c_ (v:=.agg (Aj y59)) (Ak ⟨tv,tv⟩ rfl (nl rfl)) (st (Rh (st (jK rfl rfl tv rfl rfl rfl (nl rfl) (Dp (Ce ⟨[(1,.ptr 64 0),(3,.str p32),(5,.ptr 320 0),(23,Al a0.table.Ae),(24,iV (a0.table.Ae.length:Int)),(25,iV p33)],[(64,Aa a0),(320,Aj y59)],[]⟩ (Be (by kernel_rfl)) ?_)))))))))
   obtain ⟨r61,e62,h1⟩:=bnd h1
   obtain ⟨fR,h1⟩:=If h1
   obtain ⟨r64,e65,h1⟩:=bnd h1
   obtain ⟨c66,h1⟩:=If h1
   obtain ⟨c67,h1⟩:=If h1
   obtain ⟨r68,e69,h1⟩:=bnd h1
   obtain ⟨c70,h1⟩:=If h1
   obtain ⟨c71,h1⟩:=If h1
   obtain ⟨r72,e73,h1⟩:=bnd h1
   obtain ⟨c74,h1⟩:=If h1
   obtain ⟨c75,h1⟩:=If h1
   obtain ⟨c76,h1⟩:=If h1
   refine Cz (Af tv (Cv rfl tv (⟨tv,Af tv (c_ (Ak ⟨tv,tv⟩ rfl tv) (⟨tv,Af tv (c_ (Ak ⟨tv,tv⟩ rfl (nl rfl)) (⟨tv,Af tv (c_ (Ak ⟨tv,tv⟩ rfl tv) (⟨tv,Af tv (c_ (Ak ⟨tv,tv⟩ rfl (nl rfl)) (⟨tv,Af tv (c_ (Ak ⟨tv,tv⟩ rfl tv) (⟨tv,Af tv (c_ (Ak ⟨tv,tv⟩ rfl (nl rfl)) (⟨tv,Af tv (c_ (Ak ⟨tv,tv⟩ rfl tv) (⟨tv,Af tv (c_ (Ak ⟨tv,tv⟩ rfl (nl rfl)) (⟨tv,Fk (Bh (r:=.str r61) false (H359 y59.Cs ([113,117,101,117,101,100]:List UInt8) ([108,101,97,115,101]:List UInt8) r61 e62) ⟨tv,tv,tv,tv⟩ rfl rfl (fun _=>rfl) (Zj ⟨[(1,.ptr 64 0),(3,.str p32),(5,.ptr 320 0),(23,Al a0.table.Ae),(24,iV (a0.table.Ae.length:Int)),(25,iV p33),(29,.str p32),(32,.str r61),(34,.ptr 320 0),(35,iV y59.id),(39,.ptr 320 1),(40,iV y59.Bl),(44,.ptr 320 2),(45,iV y59.cap)],[(64,Aa a0),(320,Aj y59)],[]⟩ (Be (by kernel_rfl)) ⟨[],⟨⟨.inl tv,Aq (Ak ⟨tv,tv⟩ rfl (nl rfl)) rfl⟩,⟨.inl tv,Aq (Ak ⟨tv,tv⟩ rfl tv) rfl⟩,⟨.inl tv,Aq (Ak ⟨tv,tv⟩ rfl (nl rfl)) rfl⟩,⟨.inl tv,Aq (Ak ⟨tv,tv⟩ rfl tv) rfl⟩,⟨.inl tv,Aq (Ak ⟨tv,tv⟩ rfl (nl rfl)) rfl⟩,⟨.inl tv,Aq (Ak ⟨tv,tv⟩ rfl tv) rfl⟩,⟨.inl tv,Aq (Kb (v:=.str p32) rfl tv) rfl⟩,tv⟩,tv,Af tv (c_ (Ak ⟨tv,tv,tv⟩ rfl fR) (⟨tv,Fk (Bh (r:=.str r64) false (H481 y59.id r64 e65) ⟨tv,tv⟩ rfl rfl (fun _=>rfl) (Zj ⟨[(1,.ptr 64 0),(3,.str p32),(5,.ptr 320 0),(23,Al a0.table.Ae),(24,iV (a0.table.Ae.length:Int)),(25,iV p33),(29,.str p32),(32,.str r61),(33,.str (r61++([32]:List UInt8))),(36,.str r64),(39,.ptr 320 1),(40,iV y59.Bl),(44,.ptr 320 2),(45,iV y59.cap)],[(64,Aa a0),(320,Aj y59)],[]⟩ (Be (by kernel_rfl)) ⟨[],⟨⟨.inl tv,Aq (Ak ⟨tv,tv,tv⟩ rfl fR) rfl⟩,⟨.inl tv,Aq (Ak ⟨tv,tv⟩ rfl (nl rfl)) rfl⟩,⟨.inl tv,Aq (Ak ⟨tv,tv⟩ rfl tv) rfl⟩,⟨.inl tv,Aq (Ak ⟨tv,tv⟩ rfl (nl rfl)) rfl⟩,⟨.inl tv,Aq (Ak ⟨tv,tv⟩ rfl tv) rfl⟩,⟨.inl tv,Aq (Kb (v:=.str p32) rfl tv) rfl⟩,tv⟩,tv,Af tv (c_ (Ak ⟨tv,tv,tv⟩ rfl c66) (⟨tv,Af tv (c_ (Ak ⟨tv,tv,tv⟩ rfl c67) (⟨tv,Fk (Bh (r:=.str r68) false (H481 y59.Bl r68 e69) ⟨tv,tv⟩ rfl rfl (fun _=>rfl) (Zj ⟨[(1,.ptr 64 0),(3,.str p32),(5,.ptr 320 0),(23,Al a0.table.Ae),(24,iV (a0.table.Ae.length:Int)),(25,iV p33),(29,.str p32),(32,.str r61),(33,.str (r61++([32]:List UInt8))),(36,.str r64),(37,.str ((r61++([32]:List UInt8))++r64)),(38,.str (((r61++([32]:List UInt8))++r64)++([32]:List UInt8))),(41,.str r68),(44,.ptr 320 2),(45,iV y59.cap)],[(64,Aa a0),(320,Aj y59)],[]⟩ (Be (by kernel_rfl)) ⟨[],⟨⟨.inl tv,Aq (Ak ⟨tv,tv,tv⟩ rfl c67) rfl⟩,⟨.inl tv,Aq (Ak ⟨tv,tv,tv⟩ rfl c66) rfl⟩,⟨.inl tv,Aq (Ak ⟨tv,tv,tv⟩ rfl fR) rfl⟩,⟨.inl tv,Aq (Ak ⟨tv,tv⟩ rfl (nl rfl)) rfl⟩,⟨.inl tv,Aq (Ak ⟨tv,tv⟩ rfl tv) rfl⟩,⟨.inl tv,Aq (Kb (v:=.str p32) rfl tv) rfl⟩,tv⟩,tv,?_⟩)) Co⟩))⟩))⟩)) Co⟩))⟩)) Co⟩))⟩))⟩))⟩))⟩))⟩))⟩))⟩))⟩)))
   refine Af tv (c_ (Ak ⟨tv,tv,tv⟩ rfl c70) (⟨tv,Af tv (c_ (Ak ⟨tv,tv,tv⟩ rfl c71) (⟨tv,Fk (Bh (r:=.str r72) false (H481 y59.cap r72 e73) ⟨tv,tv⟩ rfl rfl (fun _=>rfl) (Zj ⟨[(1,.ptr 64 0),(3,.str p32),(23,Al a0.table.Ae),(24,iV (a0.table.Ae.length:Int)),(25,iV p33),(29,.str p32),(32,.str r61),(33,.str (r61++([32]:List UInt8))),(36,.str r64),(37,.str ((r61++([32]:List UInt8))++r64)),(38,.str (((r61++([32]:List UInt8))++r64)++([32]:List UInt8))),(41,.str r68),(42,.str ((((r61++([32]:List UInt8))++r64)++([32]:List UInt8))++r68)),(43,.str (((((r61++([32]:List UInt8))++r64)++([32]:List UInt8))++r68)++([32]:List UInt8))),(46,.str r72)],[(64,Aa a0)],[]⟩ (Be (by kernel_rfl)) ⟨[],⟨⟨.inl tv,Aq (Ak ⟨tv,tv,tv⟩ rfl c71) rfl⟩,⟨.inl tv,Aq (Ak ⟨tv,tv,tv⟩ rfl c70) rfl⟩,⟨.inl tv,Aq (Ak ⟨tv,tv,tv⟩ rfl c67) rfl⟩,⟨.inl tv,Aq (Ak ⟨tv,tv,tv⟩ rfl c66) rfl⟩,⟨.inl tv,Aq (Ak ⟨tv,tv,tv⟩ rfl fR) rfl⟩,⟨.inl tv,Aq (Kb (v:=.str p32) rfl tv) rfl⟩,tv⟩,tv,Af tv (c_ (Ak ⟨tv,tv,tv⟩ rfl c74) (⟨tv,Af tv (c_ (Ak ⟨tv,tv,tv⟩ rfl c75) (⟨tv,Af tv (c_ (Ak ⟨tv,tv,tv⟩ rfl c76) (⟨tv,Fk (Cv rfl tv (IK ⟨[],tv,tv,Tn (kW ?_)⟩)) Co⟩))⟩))⟩))⟩)) Co⟩))⟩))
   obtain ⟨v77,e78,h1⟩:=bl h1
   refine Ce ⟨[(1,.ptr 64 0),(3,.str v77),(23,Al a0.table.Ae),(24,iV (a0.table.Ae.length:Int)),(25,iV p33)],[(64,Aa a0)],[]⟩ (Be (by subst e78; kernel_rfl)) (Ai (st (c_ (Ak t3 rfl tv) (st (Cv rfl tv (Dp ?_))))))
   obtain rfl:=sj h1
   exact hK1 _ rfl _ ⟨[(1,.ptr 64 0),(3,.str v77),(23,Al a0.table.Ae),(24,iV (a0.table.Ae.length:Int)),(25,iV (wi (p33+1)))],[(64,Aa a0)],[]⟩ (Be (by kernel_rfl)) rfl
  ·replace h1:=Xa GO h1
   obtain rfl:=sj h1
   obtain rfl:=hx1 _ rfl
   refine Ow rfl ?_
   exact hE1 _ ⟨[(1,.ptr 64 0),(3,.str p32)],[(64,Aa a0)],[]⟩ (Be (by kernel_rfl)) ⟨_,rfl,rfl⟩

/- loop.example/g00149/impl.VaultText -/
def qO:=[X_ 1 0,k_ 2 (.str []),i_ 3 0]
def qP:=[L_ 4 1 6,q_ 5 48 [.t 4],N_ 6 5]
def qQ:=[k_ 2 (.str []),i_ 3 1]
def qR:=[L_ 7 1 6,q_ 8 181 [.t 7],m_ 2 8,i_ 3 0]
def IE:Dn:=⟨1,9,[.t 2,.t 3],sr qO (.seq (sr qP (iz 6 (rr qQ))) (rr qR))⟩
def vP (D:At):Prop:=∀a0 r,sQ a0=some r→D 478 ⟨[.agg (Aa a0)],[]⟩ ⟨.tup [.str r.1,iV r.2],[],[]⟩
theorem LK (H48:LZ C) (H181:vM C):vP (FO C IE):=by
 intro a0 r h0
 refine f0 (Ar (Ai (st (Xi rfl tv rfl (st (Et tv (st (Et tv (Dp (Ce ⟨[(1,.ptr 64 0)],[(64,Aa a0)],[]⟩ (Be (by kernel_rfl)) (Ar (Ar (Ai (st (c_ (v:=.agg (Aa a0)) (Ak ⟨tv,tv⟩ rfl (nl rfl)) ?_)))))))))))))))
 obtain ⟨r1,e2,h0⟩:=bnd h0
 refine st (Bh (r:=.bool r1) false (H48 a0 r1 e2) ⟨tv,tv⟩ rfl rfl (fun _=>rfl) (st (c_ (Ak ⟨tv,tv⟩ rfl tv) (Dp (Ce ⟨[(1,.ptr 64 0),(6,.bool (!r1))],[(64,Aa a0)],[]⟩ (Be (by kernel_rfl)) (Ka (cb:=(!r1)) rfl (fun c3=>?_) (fun c3=>?_)))))))
 ·replace h0:=ip c3 h0
  refine Ar (Ai (st (Et tv (st (Et tv (Dp (Ce ⟨[(2,.str ([]:List UInt8)),(3,iV 1)],[],[]⟩ (Be (by kernel_rfl)) ?_)))))))
  obtain rfl:=sj h0
  exact Wn (Jo rfl rfl rfl rfl rfl tv)
 ·replace h0:=Xa c3 h0
  refine Tw (Ce ⟨[(1,.ptr 64 0)],[(64,Aa a0)],[]⟩ (Be (by kernel_rfl)) (Ar (Ai (st (c_ (v:=.agg (Aa a0)) (Ak ⟨tv,tv⟩ rfl (nl rfl)) ?_)))))
  obtain ⟨r4,e5,h0⟩:=bnd h0
  refine st (Bh (r:=.str r4) false (H181 a0 r4 e5) ⟨tv,tv⟩ rfl rfl (fun _=>rfl) (st (Cv rfl tv (st (Et tv (Dp (Ce ⟨[(2,.str r4),(3,iV 0)],[],[]⟩ (Be (by kernel_rfl)) ?_)))))))
  obtain rfl:=sj h0
  exact Wn (Jo rfl rfl rfl rfl rfl tv)

/- loop.example/g00149/laws.FnExactVaultText -/
def qA:=[X_ 1 0,k_ 2 (.bool false)]
def qB:=[i_ 3 1048576]
def qC:=[L_ 9 1 6,m_ 10 3,q_ 11 45 [.t 9,.t 10],m_ 3 11]
def qD:=[m_ 12 3,B_ .lss 13 12 0]
def qE:=[k_ 2 (.bool true)]
def qF:=[L_ 15 1 6,q_ 16 47 [.t 15],q_ 17 477 [.t 16],m_ 14 17,e_ 18 14 0,e_ 19 14 1,m_ 4 18,m_ 5 19]
def qG:=[L_ 20 1 6,q_ 21 47 [.t 20],a_ 6 (zV 387 388 389),s_ 6 21 6]
def qH:=[L_ 23 6 6,q_ 24 478 [.t 23],m_ 22 24,e_ 25 22 0,e_ 26 22 1,m_ 7 25,m_ 8 26]
def qI:=[m_ 27 7,m_ 28 4,b_ .neq 29 27 28,m_ 30 29,mF 30 31 8,mF 30 32 5,pF 30 33 (.bin .neq (.t 31) (.t 32)),po 34 30 33]
def qJ:=[k_ 2 (.bool false)]
def eX:=tk [L_ 35 6 6,L_ 36 1 6] (.alt [L_ 35 6 6] (q_ 37 47 [.t 36]) (.alt [] (q_ 38 49 [.t 35,.t 37]) (tk [N_ 39 38] .fin) .stop) .stop)
def eY:=[k_ 2 (.bool false)]
def eZ:=[k_ 2 (.bool true)]
def IC:Dn:=⟨1,40,[.t 2],sr qA (sr qB (sr qC (.seq (sr qD (iz 13 (rr qE))) (sr qF (sr qG (sr qH (.seq (sr qI (iz 34 (rr qJ))) (.seq (sd eX (iz 39 (rr eY))) (rr eZ)))))))))⟩
def HA (D:At):Prop:=∀a0 r,FI a0=some r→D 476 ⟨[.agg (Aa a0)],[]⟩ ⟨.bool r,[],[]⟩
theorem LI (H45:LW C) (H47:LY C) (H49:MA C) (H477:vO C) (H478:vP C):HA (FO C IC):=by
 intro a0 r h0
 refine f0 (Ar (Ai (st (Xi rfl tv rfl (st (Et tv (Dp (Ce ⟨[(1,.ptr 64 0)],[(64,Aa a0)],[]⟩ (Be (by kernel_rfl)) (Ar (Ai (st (Et tv (Dp (Ce ⟨[(1,.ptr 64 0),(3,iV 1048576)],[(64,Aa a0)],[]⟩ (Be (by kernel_rfl)) (Ar (Ai (st (c_ (v:=.agg (Aa a0)) (Ak ⟨tv,tv⟩ rfl (nl rfl)) (st (Cv rfl tv ?_))))))))))))))))))))
 obtain ⟨r1,e2,h0⟩:=bnd h0
 refine st (Bh (r:=iV r1) false (H45 a0 1048576 r1 e2) ⟨tv,tv,tv⟩ rfl rfl (fun _=>rfl) (st (Cv rfl tv (Dp (Ce ⟨[(1,.ptr 64 0),(3,iV r1)],[(64,Aa a0)],[]⟩ (Be (by kernel_rfl)) (Ar (Ar (Ai (st (Cv rfl tv (st (c_ (Ak t3 rfl tv) (Dp (Ce ⟨[(1,.ptr 64 0),(13,.bool (decide (r1<0)))],[(64,Aa a0)],[]⟩ (Be (by kernel_rfl)) (Ka (cb:=(decide (r1<0))) rfl (fun c3=>?_) (fun c3=>?_))))))))))))))))
 ·replace h0:=ip c3 h0
  refine Ar (Ai (st (Et tv (Dp (Ce ⟨[(2,.bool true)],[],[]⟩ (Be (by kernel_rfl)) ?_)))))
  obtain rfl:=sj h0
  exact Wn (Jo rfl rfl rfl rfl rfl tv)
 ·replace h0:=Xa c3 h0
  refine Tw (Ce ⟨[(1,.ptr 64 0)],[(64,Aa a0)],[]⟩ (Be (by kernel_rfl)) (Ar (Ai (st (c_ (v:=.agg (Aa a0)) (Ak ⟨tv,tv⟩ rfl (nl rfl)) ?_)))))
  obtain ⟨r4,e5,h0⟩:=bnd h0
  refine st (Bh (r:=.agg (Ef r4 (Ge 0) (Ge 1) (Ge 2))) false (H47 a0 r4 e5) ⟨tv,tv⟩ rfl rfl (fun _=>(Ea rfl (Ea rfl (Ea (kR (fun _=>rfl)) (Ea (kR (fun _=>rfl)) (Ea (kR (fun _=>rfl)) (Ea rfl rfl))))))) ?_)
  obtain ⟨r6,e7,h0⟩:=bnd h0
  refine st (Bh (r:=.tup [.str r6.1,iV r6.2]) false (H477 r4 r6 e7) ⟨tv,tv⟩ rfl rfl (fun _=>rfl) (st (Cv rfl tv (st (c_ (Ak ⟨tv,tv⟩ rfl tv) (st (c_ (Ak ⟨tv,tv⟩ rfl tv) (st (Cv rfl tv (st (Cv rfl tv (Dp (Ce ⟨[(1,.ptr 64 0),(4,.str r6.1),(5,iV r6.2)],[(64,Aa a0)],[]⟩ (Be (by kernel_rfl)) (Ar (Ai (st (c_ (v:=.agg (Aa a0)) (Ak ⟨tv,tv⟩ rfl (nl rfl)) ?_)))))))))))))))))
  obtain ⟨r8,e9,h0⟩:=bnd h0
  refine st (Bh (r:=.agg (Ef r8 (Ge 0) (Ge 1) (Ge 2))) false (H47 a0 r8 e9) ⟨tv,tv⟩ rfl rfl (fun _=>(Ea rfl (Ea rfl (Ea (kR (fun _=>rfl)) (Ea (kR (fun _=>rfl)) (Ea (kR (fun _=>rfl)) (Ea rfl rfl))))))) (st (Rh (st (jK rfl rfl tv rfl rfl rfl (nl rfl) (Dp (Ce ⟨[(1,.ptr 64 0),(4,.str r6.1),(5,iV r6.2),(6,.ptr 384 0)],[(64,Aa a0),(384,Ef r8 (Ge 1344) (Ge 1345) (Ge 1346))],[]⟩ (Be (by kernel_rfl)) (Ar (Ai (st (c_ (v:=.agg (Ef r8 (Ge 1344) (Ge 1345) (Ge 1346))) (Ak ⟨tv,tv⟩ rfl (nl rfl)) ?_)))))))))))
  obtain ⟨r10,e11,h0⟩:=bnd h0
  refine st (Bh (r:=.tup [.str r10.1,iV r10.2]) false (H478 r8 r10 e11) ⟨tv,tv⟩ rfl rfl (fun _=>rfl) (st (Cv rfl tv (st (c_ (Ak ⟨tv,tv⟩ rfl tv) (st (c_ (Ak ⟨tv,tv⟩ rfl tv) (st (Cv rfl tv (st (Cv rfl tv (Dp (Ce ⟨[(1,.ptr 64 0),(4,.str r6.1),(5,iV r6.2),(6,.ptr 384 0),(7,.str r10.1),(8,iV r10.2)],[(64,Aa a0),(384,Ef r8 (Ge 1344) (Ge 1345) (Ge 1346))],[]⟩ (Be (by kernel_rfl)) (Ar (Ar (Ai (st (Cv rfl tv (st (Cv rfl tv (st (c_ (Ak t3 rfl tv) (st (Cv rfl tv (st (Bt (u:=iV r10.2) rfl (fun hg=>(Kb (v:=iV r10.2) rfl tv)) (st (Bt (u:=iV r6.2) rfl (fun hg=>(Kb (v:=iV r6.2) rfl tv)) (st (Bt (u:=.bool (r10.2 != r6.2)) rfl (fun hg=>(Ak ⟨(fun _=>hg),(fun _=>hg),tv⟩ rfl tv)) (st (Ds rfl rfl rfl tv (fun h=>Um h) rfl (Dp (Ce ⟨[(1,.ptr 64 0),(6,.ptr 384 0),(34,.bool (bif (!(r10.1==r6.1)) then true else (r10.2 != r6.2)))],[(64,Aa a0),(384,Ef r8 (Ge 1344) (Ge 1345) (Ge 1346))],[]⟩ (Be (by kernel_rfl)) (Ka (cb:=(bif (!(r10.1==r6.1)) then true else (r10.2 != r6.2))) rfl (fun c12=>?_) (fun c12=>?_))))))))))))))))))))))))))))))))))))
  ·replace h0:=ip c12 h0
   refine Ar (Ai (st (Et tv (Dp (Ce ⟨[(2,.bool false)],[],[]⟩ (Be (by kernel_rfl)) ?_)))))
   obtain rfl:=sj h0
   exact Wn (Jo rfl rfl rfl rfl rfl tv)
  ·replace h0:=Xa c12 h0
   refine Tw (Ce ⟨[(1,.ptr 64 0),(6,.ptr 384 0)],[(64,Aa a0),(384,Ef r8 (Ge 1344) (Ge 1345) (Ge 1346))],[]⟩ (Be (by kernel_rfl)) (Ar (Ar ?_)))
   obtain ⟨r13,e14,h0⟩:=bnd h0
   obtain ⟨r15,e16,h0⟩:=bnd h0
   refine Cz (Af tv (c_ (v:=.agg (Ef r8 (Ge 1344) (Ge 1345) (Ge 1346))) (Ak ⟨tv,tv⟩ rfl (nl rfl)) (⟨tv,Af tv (c_ (v:=.agg (Aa a0)) (Ak ⟨tv,tv⟩ rfl (nl rfl)) (⟨tv,Fk (Bh (r:=.agg (Ef r13 (Ge 0) (Ge 1) (Ge 2))) false (H47 a0 r13 e14) ⟨tv,tv⟩ rfl rfl (fun _=>(Ea rfl (Ea rfl (Ea (kR (fun _=>rfl)) (Ea (kR (fun _=>rfl)) (Ea (kR (fun _=>rfl)) (Ea rfl rfl))))))) (Zj ⟨[(6,.ptr 384 0),(35,.agg (Ef r8 (Ge 1344) (Ge 1345) (Ge 1346))),(37,.agg (Ef r13 (Ge 2368) (Ge 2369) (Ge 2370)))],[(384,Ef r8 (Ge 1344) (Ge 1345) (Ge 1346))],[]⟩ (Be (by kernel_rfl)) ⟨[],⟨⟨.inl tv,Aq (Ak ⟨tv,tv⟩ rfl (nl rfl)) rfl⟩,tv⟩,tv,Fk (Bh (r:=.bool r15) false (H49 r8 r13 r15 e16) ⟨tv,tv,tv⟩ rfl rfl (fun _=>rfl) (Zj ⟨[(38,.bool r15)],[],[]⟩ (Be (by kernel_rfl)) ⟨[],tv,tv,Af tv (c_ (Ak ⟨tv,tv⟩ rfl tv) (⟨tv,Tn (Ce ⟨[(39,.bool (!r15))],[],[]⟩ (Be (by kernel_rfl)) (Ka (cb:=(!r15)) rfl (fun kO=>?_) (fun kO=>?_)))⟩))⟩)) Co⟩)) Co⟩))⟩)))
   ·replace h0:=ip kO h0
    refine Ar (Ai (st (Et tv (Dp (Ce ⟨[(2,.bool false)],[],[]⟩ (Be (by kernel_rfl)) ?_)))))
    obtain rfl:=sj h0
    exact Wn (Jo rfl rfl rfl rfl rfl tv)
   ·replace h0:=Xa kO h0
    refine Tw (Ce ⟨[],[],[]⟩ (Be (by kernel_rfl)) (Ar (Ai (st (Et tv (Dp (Ce ⟨[(2,.bool true)],[],[]⟩ (Be (by kernel_rfl)) ?_)))))))
    obtain rfl:=sj h0
    exact Wn (Jo rfl rfl rfl rfl rfl tv)
end Go.Ev
