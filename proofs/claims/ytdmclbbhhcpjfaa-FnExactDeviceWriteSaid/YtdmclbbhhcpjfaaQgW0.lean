/- The walks of functions: the code comes to the answers that QgD tells. Written by a program of ours. -/
import Derived.Test.YtdmclbbhhcpjfaaQgD
set_option linter.all false
set_option maxHeartbeats 4000000
set_option linter.unusedVariables false
set_option maxRecDepth 100000
namespace Go.Ev
variable {C:Aq}
theorem sj {α:Type} {a b:α} (h:some a=some b):a=b:=Option.some.inj h
abbrev wi:Int→Int:=IntKind.i64.wrap
theorem tv:True:=True.intro
abbrev iQ (n:Nat) (o:PU):Bj:=⟨some n,.p o,none⟩
abbrev iV (n:Int):V:=.int .i64 n
theorem nl {a b:Nat} (h:Nat.ble a b=true):a≤b:=Nat.le_of_ble_eq_true h
theorem t3:True∧True∧True:=⟨trivial,trivial,trivial⟩
abbrev m_ (d s:Nat):Bj:=⟨some d,.p (.mv (.t s)),none⟩
abbrev k_ (d:Nat) (v:V):Bj:=⟨some d,.p (.mv (.c v)),none⟩
abbrev i_ (d:Nat) (n:Int):Bj:=⟨some d,.p (.mv (.c (.int .i64 n))),none⟩
abbrev f_ (d x o:Nat):Bj:=⟨some d,.p (.fieldA (.t x) o),none⟩
abbrev l_ (d x n:Nat):Bj:=⟨some d,.p (.load (.t x) n false),none⟩
abbrev L_ (d x n:Nat):Bj:=⟨some d,.p (.load (.t x) n true),none⟩
abbrev x_ (d x y n:Nat):Bj:=⟨some d,.p (.idxA (.t x) (.t y) n),none⟩
abbrev e_ (d x n:Nat):Bj:=⟨some d,.p (.ext (.t x) n),none⟩
abbrev b_ (o:BinOp) (d x y:Nat):Bj:=⟨some d,.p (.bin o (.t x) (.t y)),none⟩
abbrev B_ (o:BinOp) (d x:Nat) (n:Int):Bj:=⟨some d,.p (.bin o (.t x) (.c (.int .i64 n))),none⟩
abbrev n_ (d x:Nat):Bj:=⟨some d,.p (.len (.t x)),none⟩
abbrev N_ (d x:Nat):Bj:=⟨some d,.p (.un .not (.t x)),none⟩
abbrev s_ (x y n:Nat):Bj:=⟨none,.store (.t x) (.t y) n,none⟩
abbrev a_ (d:Nat) (z:List V):Bj:=⟨some d,.alloc z,none⟩
abbrev X_ (d x:Nat):Bj:=⟨some d,.box (.t x),none⟩
abbrev q_ (d f:Nat) (l:List Ap):Bj:=⟨some d,.call f l,none⟩
abbrev pk (d:Nat) (a b c:Ap):Bj:=⟨some d,.pick a b c,none⟩
abbrev pT (g d:Nat) (o:PU):Bj:=⟨some d,.p o,some (g,true)⟩
abbrev pF (g d:Nat) (o:PU):Bj:=⟨some d,.p o,some (g,false)⟩
abbrev zV (a b c:Nat):List V:=[.int .i64 0,.int .i64 0,.own a 0 4 [],.own b 0 2 [],.own c 0 1 [],.bool false]
abbrev zT (a:Nat):List V:=[.int .i64 0,.int .i64 0,.own a 0 4 []]
abbrev mT (g d s:Nat):Bj:=⟨some d,.p (.mv (.t s)),some (g,true)⟩
abbrev mF (g d s:Nat):Bj:=⟨some d,.p (.mv (.t s)),some (g,false)⟩
abbrev lT (g d x n:Nat) (a:Bool):Bj:=⟨some d,.p (.load (.t x) n a),some (g,true)⟩
abbrev lF (g d x n:Nat) (a:Bool):Bj:=⟨some d,.p (.load (.t x) n a),some (g,false)⟩
abbrev fT (g d x n:Nat):Bj:=⟨some d,.p (.fieldA (.t x) n),some (g,true)⟩
abbrev fF (g d x n:Nat):Bj:=⟨some d,.p (.fieldA (.t x) n),some (g,false)⟩
abbrev xT (g d x y n:Nat):Bj:=⟨some d,.p (.idxA (.t x) (.t y) n),some (g,true)⟩
abbrev xF (g d x y n:Nat):Bj:=⟨some d,.p (.idxA (.t x) (.t y) n),some (g,false)⟩
abbrev pa (d a b:Nat):Bj:=⟨some d,.pick (.t a) (.t b) (.c (.bool false)),none⟩
abbrev po (d a b:Nat):Bj:=⟨some d,.pick (.t a) (.c (.bool true)) (.t b),none⟩
abbrev sr (l:List Bj) (b:IR):IR:=.seq (.reg l) b
abbrev sd (p:DP) (b:IR):IR:=.seq (.draw p) b
abbrev rr (l:List Bj):IR:=.seq (.reg l) .ret
abbrev iz (n:Nat) (a:IR):IR:=.ite (.t n) a .skip
abbrev Vh (n:Nat) (a:IR):IR:=.block n (.loop a)
def tk:List Bj→DP→DP
  | [],p=>p
  | i::l,p=>.take i (tk l p)
abbrev FO (C:Aq) (c:Es):Aq:=fun _=>bL C c
theorem f0 {C:Aq} {fn:Es} {args:List V} {bx:List (List V)} {t:Cs} (h:WL C [.c fn.body] (FQ fn.res bx.length t) .normal ⟨Lw args 0,Lx bx Am,[]⟩) (h0:Nat.ble args.length fn.nt=true:=by kernel_rfl):bL C fn ⟨args,bx⟩ t:=IZ (Nat.le_of_ble_eq_true h0) h
abbrev Br (t k:Nat) (l:List (List V)):V:=.own t 0 k l
abbrev u_ (k:Nat) (l:List (List V)):V:=.lst k l
abbrev Ag (l:List Aa):V:=.lst 2 (l.map Aj)
abbrev Df (l:List UInt8):V:=.lst 1 (l.map Hm)
abbrev Ac (t:Nat) (l:List Aa):V:=.own t 0 2 (l.map Aj)
abbrev At (t:Nat) (l:List UInt8):V:=.own t 0 1 (l.map Hm)
abbrev gY (x:Aa) (w1:Nat→List (List V)→V):List V:=[iV x.at_,w1 1 (x.data.map Hm)]
abbrev Ai (x:Af) (w0:Nat→List (List V)→V) (w1:Nat→List (List V)→V):List V:=[w0 1 (x.held.map Hm),w1 2 (x.Ab.map Aj)]

/- loop.example/g00149/impl.isList[loop.example/g00149/impl.Sector] -/
def oP:=[k_ 2 (.bool false)]
def oQ:=[m_ 3 0,n_ 4 3,B_ .leq 5 4 4096,m_ 2 5]
def DT:Es:=⟨1,6,[.t 2],sr oP (rr oQ)⟩
def kH (D:Aq):Prop:=∀a0 r,cF a0=some r→D 269 ⟨[Ag a0],[]⟩ ⟨.bool r,[],[]⟩
theorem GQ:kH (FO C DT):=by
 intro a0 r h0
 refine f0 (Ay 3 [(0,Ag a0)] [] (Ce (Ak (st (Dj rfl tv (Lo rfl (o_ ?_)))))))
 obtain rfl:=sj h0
 exact Dz 4

/- slices.IndexFunc[[]loop.example/g00149/impl.Sector,loop.example/g00149/impl.Sector] -/
def vE:=[i_ 4 0]
def vF:=[m_ 6 0,n_ 7 6,i_ 8 0]
def vG:=[b_ .lss 9 8 7]
def vH:=[m_ 10 8,m_ 5 10]
def vI:List Bj:=[m_ 11 1,m_ 12 0,m_ 13 5,x_ 14 12 13 2,L_ 15 14 2,⟨some 16,.callv (.t 11) [.t 15],none⟩]
def vJ:=[m_ 17 5,m_ 4 17]
def vK:=[B_ .add 18 8 1,m_ 8 18]
def vD:IR:=(sr vG (.seq (.ite (.t 9) .skip (.exit 0)) (.seq (.block 1 (sr vH (sr vI (iz 16 (rr vJ))))) (.reg vK))))
def vL:=[i_ 4 (-1)]
def ET:Es:=⟨2,19,[.t 4],sr vE (.seq (sr vF (Vh 0 vD)) (rr vL))⟩
def AT (C:Aq) (D:Aq:=C):Prop:=∀(a0:List Aa) (f1:Nat) (k1:List V) (is1:Aa→Option Bool) (hs1:bN k1) (hf1:∀(x0:Aa) r,is1 x0=some r→C f1 ⟨.agg (Aj x0)::k1,[]⟩ ⟨.bool r,[],[]⟩) (r:Int),BU a0 is1=some r→D 367 ⟨[Ag a0,.clo f1 k1],[]⟩ ⟨iV r,[],[]⟩
theorem HQ:AT C (FO C ET):=by
 intro a0 f1 k1 is1 hs1 hf1 r h0
 refine f0 (Ay 3 [(0,Ag a0),(1,.clo f1 k1)] [] (Bn 3 (Ak (Lo rfl (o_ (Ay 2 [(0,Ag a0),(1,.clo f1 k1),(7,iV (a0.length:Int)),(8,iV 0)] [] (Cm (bb h0 fun r21 e22 h0=>Fc (R:=(fun S=>.inl ()=r21∧S=⟨[],[],[]⟩)) (aJ a0 is1) (fun s S=>match s with | p7=>S=⟨[(0,Ag a0),(1,.clo f1 k1),(7,iV (a0.length:Int)),(8,iV p7)],[],[]⟩) e22 _ (Ho (by kernel_rfl)) rfl 0 (fun _=>rfl) ?_ ?_))))))))
 ·rintro S _ hfg ⟨rfl,rfl⟩
  refine Hz _ hfg ?_
  obtain rfl:=sj h0
  exact Dz 4
 ·rintro p7 o1 _ K1 rfl h1 hx1 hK1 hE1 hR1
  refine Ay 3 [(0,Ag a0),(1,.clo f1 k1),(7,iV (a0.length:Int)),(8,iV p7),(9,.bool (decide (p7<(a0.length:Int))))] [] (Ce (El h1 (fun c15 h1=>?_) (fun c15 h1=>?_)))
  ·refine Ay 8 [(0,Ag a0),(1,.clo f1 k1),(5,iV p7),(7,iV (a0.length:Int)),(8,iV p7)] [] (Bn 4 (Ak (bb h1 fun y16 e17 h1=>dM rfl rfl e17 (st (c_ (v:=.agg (Aj y16)) (Bq ⟨tv,tv⟩ rfl (nl rfl)) (bb h1 fun r18 e19 h1=>st (aC (r:=.bool r18) rfl false (hf1 _ r18 e19) ⟨tv,tv⟩ (Fj rfl hs1.2.2.1) (Uk rfl (hs1.2.1 _ _ _ _ _)) (fun _=>rfl) (o_ (Ay 1 [(0,Ag a0),(1,.clo f1 k1),(5,iV p7),(7,iV (a0.length:Int)),(8,iV p7),(16,.bool r18)] [] (El h1 (fun c20 h1=>?_) (fun c20 h1=>?_)))))))))))
   ·obtain rfl:=sj h1
    obtain rfl:=hx1 _ rfl
    obtain rfl:=sj h0
    exact xV 5 hR1
   ·refine Bn 6 ?_
    obtain rfl:=sj h1
    exact kn hK1 rfl rfl
  ·obtain rfl:=sj h1
   obtain rfl:=hx1 _ rfl
   refine Vm rfl ?_
   exact jn hE1 ⟨rfl,rfl⟩

/- slices.ContainsFunc[[]loop.example/g00149/impl.Sector,loop.example/g00149/impl.Sector] -/
def tT:=[k_ 4 (.bool false)]
def tU:=[m_ 5 0,m_ 6 1,q_ 7 367 [.t 5,.t 6],B_ .geq 8 7 0,m_ 4 8]
def EM:Es:=⟨2,9,[.t 4],sr tT (rr tU)⟩
def AM (C:Aq) (D:Aq:=C):Prop:=∀(a0:List Aa) (f1:Nat) (k1:List V) (is1:Aa→Option Bool) (hs1:bN k1) (hf1:∀(x0:Aa) r,is1 x0=some r→C f1 ⟨.agg (Aj x0)::k1,[]⟩ ⟨.bool r,[],[]⟩) (r:Bool),xB a0 is1=some r→D 329 ⟨[Ag a0,.clo f1 k1],[]⟩ ⟨.bool r,[],[]⟩
theorem HJ (H367:AT C):AM C (FO C EM):=by
 intro a0 f1 k1 is1 hs1 hf1 r h0
 refine f0 (Ay 3 [(0,Ag a0),(1,.clo f1 k1)] [] (Bn 3 (Ak (bb h0 fun r1 e2 h0=>st (Io (r:=iV r1) false (H367 a0 f1 k1 is1 hs1 hf1 r1 e2) ⟨tv,tv,tv⟩ rfl (Uk rfl (Uk (BE hs1) rfl)) (fun _=>rfl) (o_ ?_))))))
 obtain rfl:=sj h0
 exact Dz 4

/- loop.example/g00149/impl.areAll[loop.example/g00149/impl.Sector]$1 -/
def tV:=[X_ 2 0,k_ 3 (.bool false)]
def tW:List Bj:=[l_ 4 1 1,L_ 5 2 2,⟨some 6,.callv (.t 4) [.t 5],none⟩,N_ 7 6,m_ 3 7]
def EN:Es:=⟨2,8,[.t 3],sr tV (rr tW)⟩
def AN (C:Aq) (D:Aq:=C):Prop:=∀(a0:Aa) (f1:Nat) (k1:List V) (is1:Aa→Option Bool) (hs1:bN k1) (hf1:∀(x0:Aa) r,is1 x0=some r→C f1 ⟨.agg (Aj x0)::k1,[]⟩ ⟨.bool r,[],[]⟩) (r:Bool),xD a0 is1=some r→D 330 ⟨[.agg (Aj a0),.iptr [.clo f1 k1]],[]⟩ ⟨.bool r,[],[]⟩
theorem HK:AN C (FO C EN):=by
 intro a0 f1 k1 is1 hs1 hf1 r h0
 refine f0 (Ay 4 [(1,.iptr [.clo f1 k1]),(2,.ptr 128 0)] [(128,Aj a0)] (Bn 3 (Ak (bb h0 fun r1 e2 h0=>st (aC (r:=.bool r1) rfl false (hf1 _ r1 e2) ⟨tv,tv⟩ (Fj rfl hs1.2.2.1) (Uk rfl (hs1.2.1 _ _ _ _ _)) (fun _=>rfl) (o_ ?_))))))
 obtain rfl:=sj h0
 exact Dz 4

/- loop.example/g00149/impl.areAll[loop.example/g00149/impl.Sector] -/
def oR:=[X_ 3 1,k_ 4 (.bool false)]
def oS:=[m_ 5 0,iQ 6 (.fn 330 [.t 3]),q_ 7 329 [.t 5,.t 6],N_ 8 7,m_ 4 8]
def DU:Es:=⟨2,9,[.t 4],sr oR (rr oS)⟩
def zX (C:Aq) (D:Aq:=C):Prop:=∀(a0:List Aa) (f1:Nat) (k1:List V) (is1:Aa→Option Bool) (hs1:bN k1) (hf1:∀(x0:Aa) r,is1 x0=some r→C f1 ⟨.agg (Aj x0)::k1,[]⟩ ⟨.bool r,[],[]⟩) (r:Bool),wF a0 is1=some r→D 270 ⟨[Ag a0,.clo f1 k1],[]⟩ ⟨.bool r,[],[]⟩
theorem GR (H329:AM C) (H330:AN C):zX C (FO C DU):=by
 intro a0 f1 k1 is1 hs1 hf1 r h0
 refine f0 (Ce (Ak (st (DC (EY hs1) tv rfl (o_ (Ay 2 [(0,Ag a0),(3,.ptr 192 0)] [(192,[.clo f1 k1])] (Bn 3 (Ak (bb h0 fun r1 e2 h0=>st (Io (r:=.bool r1) false (H329 a0 330 [.iptr [.clo f1 k1]] (fun z330_0=>xD z330_0 is1) (⟨fun _ _ _ _ _=>rfl,fun _ _ _ _ _=>rfl,rfl,fun _ _ _ n=>by cases n<;>rfl,fun _=>rfl⟩) (fun z330_0 r h=>H330 z330_0 f1 k1 is1 hs1 hf1 r h) r1 e2) ⟨tv,tv,tv⟩ rfl (Uk rfl (Uk (congrArg (fun z=>V.clo 330 [.iptr [.clo f1 z]]) (hs1.2.2.2.1 _ _ _ _)) rfl)) (fun _=>rfl) (o_ ?_)))))))))))
 obtain rfl:=sj h0
 exact Dz 4

/- loop.example/g00149/impl.within -/
def BB:=[k_ 6 (.bool false)]
def BC:=[m_ 7 1,m_ 8 0,b_ .leq 9 7 8,m_ 10 9,mT 10 11 0,mT 10 12 2,pT 10 13 (.bin .leq (.t 11) (.t 12)),pa 14 10 13,m_ 6 14]
def IL:Es:=⟨3,15,[.t 6],sr BB (rr BC)⟩
def FV (D:Aq):Prop:=∀a0 a1 a2 r,FB a0 a1 a2=some r→D 63 ⟨[iV a0,iV a1,iV a2],[]⟩ ⟨.bool r,[],[]⟩
theorem IV:FV (FO C IL):=by
 intro a0 a1 a2 r h0
 refine f0 (Ay 3 [(0,iV a0),(1,iV a1),(2,iV a2)] [] (CT 9 (Ak (o_ ?_))))
 obtain rfl:=sj h0
 exact Dz 3

/- loop.example/g00149/impl.DeviceOK$1 -/
def oT:=[X_ 1 0,k_ 2 (.bool false)]
def oU:=[f_ 3 1 0,l_ 4 3 1,q_ 5 63 [.t 4,.c (iV 0),.c (iV 127)],m_ 6 5,fT 6 7 1 1,lT 6 8 7 1 false,pT 6 9 (.len (.t 8)),pT 6 10 (.bin .eql (.t 9) (.c (iV 32))),pa 11 6 10,m_ 2 11]
def DV:Es:=⟨1,12,[.t 2],sr oT (rr oU)⟩
def zY (D:Aq):Prop:=∀a0 r,cG a0=some r→D 271 ⟨[.agg (Aj a0)],[]⟩ ⟨.bool r,[],[]⟩
theorem GS (H63:FV C):zY (FO C DV):=by
 intro a0 r h0
 refine f0 (Ay 4 [(1,.ptr 64 0)] [(64,Aj a0)] (Bn 3 (Ak (bb h0 fun r1 e2 h0=>Qi (H63 a0.at_ 0 127 r1 e2) (o_ (CT 3 (Ak (st (Hy (u:=iV (a0.data.length:Int)) rfl (fun hg=>(Wt (e:=Hm) (l0:=a0.data) rfl rfl (fun _=>hg))) (o_ (CT 2 (Ak (o_ ?_)))))))))))))
 obtain rfl:=sj h0
 exact Dz 3

/- loop.example/g00149/impl.DeviceOK -/
def lC:=[X_ 1 0,k_ 2 (.bool false)]
def lD:List Bj:=[f_ 3 1 0,l_ 4 3 1,n_ 5 4,B_ .rem 6 5 32,B_ .eql 7 6 0,m_ 8 7,fT 8 9 1 0,lT 8 10 9 1 false,pT 8 11 (.len (.t 10)),pT 8 12 (.bin .leq (.t 11) (.c (iV 4096))),pa 13 8 12,m_ 14 13,fT 14 15 1 1,lT 14 16 15 1 false,⟨some 17,.call 269 [.t 16],some (14,true)⟩,pa 18 14 17,m_ 19 18,fT 19 20 1 1,lT 19 21 20 1 false,⟨some 22,.call 270 [.t 21,.c (.clo 271 [])],some (19,true)⟩,pa 23 19 22,m_ 2 23]
def DF:Es:=⟨1,24,[.t 2],sr lC (rr lD)⟩
def zL (D:Aq):Prop:=∀a0 r,vZ a0=some r→D 216 ⟨[.agg (Ae a0)],[]⟩ ⟨.bool r,[],[]⟩
theorem GD (H269:kH C) (H270:zX C) (H271:zY C):zL (FO C DF):=by
 intro a0 r h0
 refine f0 (Ay 4 [(1,.ptr 64 0)] [(64,Ae a0)] (Bn 3 (Ak (Lo rfl (st (c_ (Bq ⟨tv,tv,tv⟩ rfl (by decide)) (o_ (Bn 2 (Ak (st (Hy (u:=.ptr 64 0) rfl (fun hg=>(Bq ⟨tv,tv⟩ rfl tv)) (st (Hy (u:=Df a0.held) rfl (fun hg=>(Bq ⟨(fun _=>hg),tv⟩ rfl (nl rfl))) (st (Hy (u:=iV (a0.held.length:Int)) rfl (fun hg=>(Wt (e:=Hm) (l0:=a0.held) rfl rfl (fun _=>hg))) (st (Hy (u:=.bool (decide ((a0.held.length:Int)≤4096))) rfl (fun hg=>(Bq ⟨(fun _=>hg),tv,tv⟩ rfl tv)) (st (Jm rfl rfl rfl (fun h=>HY h) tv rfl (st (Dj rfl tv (st (Hy (u:=.ptr 64 1) rfl (fun hg=>(Bq ⟨tv,tv⟩ rfl tv)) (st (Hy (u:=Ag a0.Ab) rfl (fun hg=>(Bq ⟨(fun _=>hg),tv⟩ rfl (nl rfl))) (bb h0 fun r1 e2 h0=>st (Yi (r:=.bool r1) rfl false (fun hg=>H269 a0.Ab r1 (ip hg e2)) ⟨(fun hg=>hg),tv⟩ (fun _=>rfl) (fun _=>rfl) (fun _=>rfl) (fun h=>nomatch h) (st (Jm rfl rfl rfl (fun h=>HY h) tv rfl (st (Dj rfl tv (st (Hy (u:=.ptr 64 1) rfl (fun hg=>(Bq ⟨tv,tv⟩ rfl tv)) (st (Hy (u:=Ag a0.Ab) rfl (fun hg=>(Bq ⟨(fun _=>hg),tv⟩ rfl (nl rfl))) (bb h0 fun r3 e4 h0=>st (Yi (r:=.bool r3) rfl false (fun hg=>H270 a0.Ab 271 [] (fun z271_0=>cG z271_0) (⟨fun _ _ _ _ _=>rfl,fun _ _ _ _ _=>rfl,rfl,fun _ _ _ n=>by cases n<;>rfl,fun _=>rfl⟩) (fun z271_0 r h=>H271 z271_0 r h) r3 (ip hg e4)) ⟨(fun hg=>hg),tv,tv⟩ (fun _=>rfl) (fun _=>rfl) (fun _=>rfl) (fun h=>nomatch h) (st (Jm rfl rfl rfl (fun h=>HY h) tv rfl (st (Dj rfl tv (Td (bv h0 fun v5 e6 h0=>Hz ⟨[(2,.bool v5)],[],[]⟩ (Ho (by subst e6; kernel_rfl)) ?_)))))))))))))))))))))))))))))))))))))))))))
 obtain rfl:=sj h0
 exact Zf (Ms rfl rfl rfl rfl rfl tv)

/- loop.example/g00149/impl.isShort[[]byte] -/
def oG:=[k_ 2 (.bool false)]
def oH:=[m_ 3 0,n_ 4 3,B_ .leq 5 4 65536,m_ 2 5]
def DR:Es:=⟨1,6,[.t 2],sr oG (rr oH)⟩
def zU (D:Aq):Prop:=∀a0 r,BM a0=some r→D 264 ⟨[Df a0],[]⟩ ⟨.bool r,[],[]⟩
theorem GO:zU (FO C DR):=by
 intro a0 r h0
 refine f0 (Ay 3 [(0,Df a0)] [] (Ce (Ak (st (Dj rfl tv (Lo rfl (o_ ?_)))))))
 obtain rfl:=sj h0
 exact Dz 4

/- loop.example/g00149/impl.isRoom -/
def tG:=[k_ 4 (.bool false)]
def tH:=[m_ 5 0,q_ 6 63 [.t 5,.c (iV 0),.c (iV 4096)],m_ 7 6,mT 7 8 0,mT 7 9 1,pT 7 10 (.bin .add (.t 8) (.t 9)),pT 7 11 (.bin .leq (.t 10) (.c (iV 4096))),pa 12 7 11,m_ 4 12]
def EK:Es:=⟨2,13,[.t 4],sr tG (rr tH)⟩
def AK (D:Aq):Prop:=∀a0 a1 r,wY a0 a1=some r→D 327 ⟨[iV a0,iV a1],[]⟩ ⟨.bool r,[],[]⟩
theorem HH (H63:FV C):AK (FO C EK):=by
 intro a0 a1 r h0
 refine f0 (Ay 3 [(0,iV a0),(1,iV a1)] [] (Ce (Ak (st (Dj rfl tv (bb h0 fun r1 e2 h0=>Qi (H63 a0 0 4096 r1 e2) (o_ (CT 8 (bv h0 fun v3 e4 h0=>Hz ⟨[(4,.bool v3)],[],[]⟩ (Ho (by subst e4; kernel_rfl)) ?_)))))))))
 obtain rfl:=sj h0
 exact Zf (Ms rfl rfl rfl rfl rfl tv)

/- slices.Clone[[]byte,byte] -/
def sW:List Bj:=[⟨some 2,.nilS 1,none⟩]
def sX:List Bj:=[m_ 3 0,⟨some 4,.isnil (.t 3) false,none⟩]
def sY:List Bj:=[⟨some 2,.nilS 1,none⟩]
def sZ:List Bj:=[⟨some 5,.mkS 1 [.int .u8 0] 0 [],none⟩,m_ 6 0,⟨some 7,.app 1 1 (.t 5) (.t 6),none⟩,m_ 2 7]
def EI:Es:=⟨1,8,[.t 2],sr sW (.seq (sr sX (iz 4 (rr sY))) (rr sZ))⟩
def dQ (D:Aq):Prop:=∀a0 r,Yv a0=some r→D 325 ⟨[Df a0],[]⟩ ⟨At 0 r,[],[]⟩
theorem HF:dQ (FO C EI):=by
 intro a0 r h0
 refine f0 ?_
 obtain ⟨hc,h0⟩:=IA h0
 obtain rfl:=sj h0
 refine Ay 3 [(0,Df a0)] [] (Bn 3 (Ak (st (BW (e:=Hm) (l0:=a0) rfl fun b hb=>(Td (yE (BX (cb:=b) rfl (fun h=>?_) (fun h=>?_))))))))
 ·obtain rfl:=hb h
  refine Ce (Ak (st (zC (Td (yE ?_)))))
  refine Zf (Ms rfl rfl rfl rfl rfl tv)
 ·refine xZ ?_
  refine Ay 0 [(0,Df a0)] [] (Bn 3 (Ak (st (Qg (e:=Hm) (l0:=([]:List UInt8)) (l1:=a0) rfl rfl tv rfl (by decide) ?_ ?_))))
  rotate_left
  refine st (Dj rfl tv (Td (yE ?_)))
  refine Zf (Ms rfl rfl rfl rfl rfl tv)
  have:=Nat.mul_le_mul_right 1 hc
  exact Nat.le_trans this (by decide)

/- loop.example/g00149/impl.put -/
def tA:List Bj:=[X_ 3 1,⟨some 4,.nilS 1,none⟩]
def tB:List Bj:=[f_ 6 3 0,l_ 7 6 1,B_ .add 8 7 1,⟨some 9,.p (.bin .mul (.c (iV 32)) (.t 8)),none⟩,m_ 5 9]
def tC:=[m_ 10 0,n_ 11 10,m_ 12 5,b_ .lss 13 11 12]
def tD:List Bj:=[m_ 14 0,m_ 15 5,m_ 16 0,n_ 17 16,b_ .sub 18 15 17,⟨some 19,.appz 1 1 [.int .u8 0] (.t 14) (.t 18),none⟩,m_ 0 19]
def tE:=tk [m_ 20 0,f_ 21 3 0,l_ 22 21 1,⟨some 23,.p (.bin .mul (.c (iV 32)) (.t 22)),none⟩,⟨some 24,.p (.slice (.t 20) (some (.t 23)) none 1),none⟩,f_ 25 3 1,l_ 26 25 1] (.alt [] ⟨some 27,.copy 1 (.t 24) (.t 26),none⟩ .fin .stop)
def tF:=[m_ 28 0,m_ 4 28]
def EJ:Es:=⟨2,29,[.t 4],sr tA (.seq (sr tB (sr tC (iz 13 (.reg tD)))) (sd tE (rr tF)))⟩
def AJ (D:Aq):Prop:=∀a0 a1 r,wW a0 a1=some r→D 326 ⟨[At 1024000 a0,.agg (Aj a1)],[]⟩ ⟨At 0 r,[],[]⟩
theorem HG:AJ (FO C EJ):=by
 intro a0 a1 r h0
 refine f0 (Ay 13 [(0,At 1024000 a0),(3,.ptr 192 0),(5,iV (wi (32*(wi (a1.at_+1)))))] [(192,Aj a1)] (Ce (Ak (st (Dj rfl tv (xO rfl (o_ (Bn 3 (bv h0 fun v1 e2 h0=>Hz ⟨[(0,At 1024000 a0),(3,.ptr 192 0),(5,iV (wi (32*(wi (a1.at_+1))))),(13,.bool v1)],[(192,Aj a1)],[]⟩ (Ho (by subst e2; kernel_rfl)) (FE (cb:=v1) (fun S=>∃p6:List UInt8,S=⟨[(0,At 1024000 p6),(3,.ptr 192 0)],[(192,Aj a1)],[]⟩∧Np a1 p6=some r) rfl ?_ (fun c12 J11=>?_) (fun c12 J11=>?_)))))))))))
 ·rintro _ ⟨p6,rfl,h0⟩
  refine xW 2 (bb h0 fun s7 e8 h0=>Bn 4 (Ez (Ca tv (c_ (Ir (e:=Hm) (y:=s7) rfl rfl tv ⟨tv,tv⟩ rfl rfl e8) (⟨tv,d_ (Bn 2 (Ez (Ep (copy_ (e:=Hm) (l1:=a1.data) rfl rfl tv rfl (d0 tv (bY (Hz ⟨[(0,At 1024000 (ovl p6 ((wi (32*a1.at_)).toNat) (a1.data.take s7.length)))],[],[]⟩ (fg ⟨congrArg (fun z=>some ((.own 1024000 0 1 z:V))) Hq,tv⟩ tv) (Bn 4 (bv h0 fun v9 e10 h0=>Hz ⟨[(4,At 1024000 v9)],[],[]⟩ (Ho (by subst e10; kernel_rfl)) ?_)))))) Cg)))⟩)))))
  obtain rfl:=sj h0
  exact Zf (Ms rfl rfl rfl rfl rfl tv)
 ·replace h0:=ip c12 h0
  refine Bn 3 (Ak (xO rfl (st (c_ (Bq t3 rfl tv) (gg h0 fun c13 h0=>gg h0 fun c14 h0=>st (dW (e:=Hm) (l0:=a0) (0:UInt8) rfl rfl rfl (by decide) c13 c14 (st (Dj rfl tv (Td ?_)))))))))
  exact jn J11 ⟨_,rfl,h0⟩
 ·replace h0:=IC c12 h0
  refine xZ ?_
  exact jn J11 ⟨_,rfl,h0⟩

/- (loop.example/g00149/impl.Device).read -/
def nY:List Bj:=[X_ 1 0,⟨some 2,.nilS 1,none⟩]
def nZ:=[f_ 6 1 0,l_ 7 6 1,q_ 8 325 [.t 7],m_ 3 8]
def oA:=[f_ 9 1 1,l_ 10 9 1,n_ 11 10,i_ 12 0]
def oB:=[b_ .lss 13 12 11]
def oC:=[x_ 14 10 12 2,L_ 15 14 2,a_ 5 [iV 0,.own 322 0 1 []],s_ 5 15 2]
def oD:=[m_ 16 3,L_ 17 5 2,q_ 18 326 [.t 16,.t 17],m_ 3 18]
def oE:=[B_ .add 19 12 1,m_ 12 19]
def nX:IR:=(sr oB (.seq (.ite (.t 13) .skip (.exit 0)) (.seq (.block 1 (sr oC (.reg oD))) (.reg oE))))
def oF:=[m_ 20 3,m_ 2 20]
def DQ:Es:=⟨1,21,[.t 2],sr nY (sr nZ (.seq (sr oA (Vh 0 nX)) (rr oF)))⟩
def zS (D:Aq):Prop:=∀a0 r,wC a0=some r→D 263 ⟨[.agg (Ae a0)],[]⟩ ⟨At 0 r,[],[]⟩
theorem GN (H325:dQ C) (H326:AJ C):zS (FO C DQ):=by
 intro a0 r h0
 refine f0 (Ay 4 [(1,.ptr 64 0)] [(64,Ae a0)] (Bn 3 (Ak (bb h0 fun r1 e2 h0=>Tx (H325 a0.held r1 e2) (af rfl) (o_ (Ay 2 [(1,.ptr 64 0),(3,At 512 r1)] [(64,Ae a0)] (Bn 4 (Ak (Lo rfl (o_ (Ay 2 [(3,At 512 r1),(10,Ag a0.Ab),(11,iV (a0.Ab.length:Int)),(12,iV 0)] [] (Cm (bb h0 fun r23 e24 h0=>Fc (R:=(fun S=>∃p17:List UInt8,p17=r23∧S=⟨[(3,At 512 p17)],[],[]⟩)) (Ni a0) (fun s S=>match s with | (p8,p9)=>S=⟨[(3,At 512 p8),(10,Ag a0.Ab),(11,iV (a0.Ab.length:Int)),(12,iV p9)],[],[]⟩) e24 _ (Ho (by kernel_rfl)) rfl 0 (fun _=>rfl) ?_ ?_)))))))))))))
 ·rintro S _ hfg ⟨p17,rfl,rfl⟩
  refine Hz _ hfg ?_
  obtain rfl:=sj h0
  exact Dz 5
 ·rintro ⟨p8,p9⟩ o1 _ K1 rfl h1 hx1 hK1 hE1 hR1
  refine Ay 3 [(3,At 512 p8),(10,Ag a0.Ab),(11,iV (a0.Ab.length:Int)),(12,iV p9),(13,.bool (decide (p9<(a0.Ab.length:Int))))] [] (Ce (El h1 (fun c18 h1=>?_) (fun c18 h1=>?_)))
  ·refine xW 5 (Ak (bb h1 fun y19 e20 h1=>dM rfl rfl e20 (o_ (Ay 4 [(3,At 512 p8),(5,.ptr 320 0),(10,Ag a0.Ab),(11,iV (a0.Ab.length:Int)),(12,iV p9)] [(320,Aj y19)] (Bn 2 (Ak (bb h1 fun r21 e22 h1=>HT [] [] [512] (H326 p8 y19 r21 e22) (Fj (af rfl) rfl) (o_ (Ay 3 [(3,At 1152 r21),(10,Ag a0.Ab),(11,iV (a0.Ab.length:Int)),(12,iV p9)] [] (Bn 3 ?_))))))))))
   obtain rfl:=sj h1
   exact hK1 _ rfl _ _ (Lt [] [(1152,512)] rfl (by kernel_rfl)) rfl
  ·obtain rfl:=sj h1
   obtain rfl:=hx1 _ rfl
   refine Vm rfl ?_
   exact jn hE1 ⟨_,rfl,rfl⟩

/- (loop.example/g00149/impl.Device).own -/
def uV:=[X_ 1 0,a_ 2 [.own 129 0 1 [],.own 130 0 2 []]]
def uW:List Bj:=[f_ 6 1 0,l_ 7 6 1,q_ 8 325 [.t 7],⟨some 9,.p (.build [.own 577 0 1 [],.own 578 0 2 []] [(0,1,.t 8)]),none⟩,a_ 3 [.own 193 0 1 [],.own 194 0 2 []],s_ 3 9 2]
def uX:=[f_ 10 1 1,l_ 11 10 1,n_ 12 11,i_ 13 0]
def uY:=[b_ .lss 14 13 12]
def uZ:=[x_ 15 11 13 2,L_ 16 15 2,a_ 5 [iV 0,.own 322 0 1 []],s_ 5 16 2]
def vA:=tk [f_ 17 3 1,l_ 18 17 1,f_ 19 5 0,l_ 20 19 1,f_ 21 5 1,l_ 22 21 1] (.alt [l_ 20 19 1,f_ 19 5 0,l_ 18 17 1,f_ 17 3 1] (q_ 23 325 [.t 22]) (tk [⟨some 24,.p (.build [iV 0,.own 1538 0 1 []] [(0,1,.t 20),(1,1,.t 23)]),none⟩] (.alt [l_ 18 17 1,f_ 17 3 1] ⟨some 25,.mkS 2 [iV 0,.lst 1 []] 1 [(0,.t 24)],none⟩ (.alt [] ⟨some 26,.app 2 32 (.t 18) (.t 25),none⟩ (tk [f_ 27 3 1] (.alt [] (s_ 27 26 1) .fin .stop)) .stop) .stop)) .stop)
def vB:=[B_ .add 28 13 1,m_ 13 28]
def uU:IR:=(sr uY (.seq (.ite (.t 14) .skip (.exit 0)) (.seq (.block 1 (sr uZ (.draw vA))) (.reg vB))))
def vC:=[L_ 29 3 2,s_ 2 29 2]
def ES:Es:=⟨1,30,[.cell 2 2 true],sr uV (sr uW (.seq (sr uX (Vh 0 uU)) (rr vC)))⟩
def AS (D:Aq):Prop:=∀a0 r,xH a0=some r→D 366 ⟨[.agg (Ae a0)],[]⟩ ⟨.agg (Ai r (Br 0) (Br 33)),[],[]⟩
abbrev Hx:=fun (r:List (Nat×List V))=>(128,[At 129 [],Ac 162 []])::r
abbrev Kn:=fun (r:List (Nat×V))=>(2,.ptr 128 0)::(3,.ptr 192 0)::r
theorem HP (H325:dQ C):AS (FO C ES):=by
 intro a0 r h0
 refine f0 (FK 4 [] [(130,162)] [(1,.ptr 64 0),(2,.ptr 128 0)] (Hx [(64,Ae a0)]) (Bn 3 (Ak (bb h0 fun r1 e2 h0=>Tx (H325 a0.held r1 e2) (af rfl) (st (c_ (v:=.agg [At 512 r1,Ac 578 []]) (Bq ⟨tv,tv⟩ rfl ⟨⟨rfl,rfl,nl rfl⟩,tv⟩) (sw ⟨[(1,.ptr 64 0),(2,.ptr 128 0),(9,.agg [At 512 r1,Ac 610 []])],Hx [(64,Ae a0)],[]⟩ (Lt [] [(578,610)] rfl (by kernel_rfl)) (Gs (sw ⟨Kn [(1,.ptr 64 0),(9,.agg [At 512 r1,Ac 610 []])],Hx [(64,Ae a0),(192,[At 193 [],Ac 226 []])],[]⟩ (Lt [] [(194,226)] rfl (by kernel_rfl)) (Jg rfl rfl tv rfl rfl rfl (nl rfl) (o_ (Ay 1 (Kn [(1,.ptr 64 0)]) (Hx [(64,Ae a0),(192,[At 512 r1,Ac 610 []])]) (Bn 4 (Ak (Lo rfl (o_ (Ay 2 (Kn [(11,Ag a0.Ab),(12,iV (a0.Ab.length:Int)),(13,iV 0)]) (Hx [(192,[At 512 r1,Ac 610 []])]) (Cm (bb h0 fun r26 e27 h0=>Fc (R:=(fun S=>∃p19:List Aa,p19=r26∧S=⟨Kn [],Hx [(192,[At 512 r1,Ac 610 p19])],[]⟩)) (Li a0) (fun s S=>match s with | (p9,p10)=>S=⟨Kn [(11,Ag a0.Ab),(12,iV (a0.Ab.length:Int)),(13,iV p9)],Hx [(192,[At 512 r1,Ac 610 p10])],[]⟩) e27 _ (Ho (by kernel_rfl)) rfl 0 (fun _=>rfl) ?_ ?_)))))))))))))))))))
 ·rintro S _ hfg ⟨p19,rfl,rfl⟩
  refine Hz _ hfg ?_
  obtain rfl:=sj h0
  exact Dz 5
 ·rintro ⟨p9,p10⟩ o1 _ K1 rfl h1 hx1 hK1 hE1 hR1
  refine Ay 3 (Kn [(11,Ag a0.Ab),(12,iV (a0.Ab.length:Int)),(13,iV p9),(14,.bool (decide (p9<(a0.Ab.length:Int))))]) (Hx [(192,[At 512 r1,Ac 610 p10])]) (Ce (El h1 (fun c20 h1=>?_) (fun c20 h1=>?_)))
  ·refine xW 5 (Ak (bb h1 fun y21 e22 h1=>dM rfl rfl e22 (o_ (Ay 4 (Kn [(5,.ptr 320 0),(11,Ag a0.Ab),(12,iV (a0.Ab.length:Int)),(13,iV p9)]) (Hx [(192,[At 512 r1,Ac 610 p10]),(320,Aj y21)]) (bb h1 fun r23 e24 h1=>gg h1 fun c25 h1=>Bn 6 (Ez (EX (H325 y21.data r23 e24) (af rfl) (dw [(2,.ptr 128 0),(3,.ptr 192 0),(5,.ptr 320 0),(11,Ag a0.Ab),(12,iV (a0.Ab.length:Int)),(13,iV p9),(17,.ptr 192 1),(18,Ac 610 p10),(19,.ptr 320 0),(20,iV y21.at_),(23,At 1472 r23)] [(128,[At 129 [],Ac 162 []]),(192,[At 512 r1,Ac 610 p10]),(320,Aj y21)] hB (Ca tv (c_ (v:=.agg [iV y21.at_,At 1472 r23]) (Bq ⟨tv,tv,tv⟩ rfl ⟨⟨rfl,rfl,nl rfl⟩,⟨rfl,rfl,nl rfl⟩,tv⟩) (⟨tv,Ep (FG rfl tv rfl rfl (Fj bA (Fj (aX (fun _=>rfl)) rfl)) rfl (dw [(2,.ptr 128 0),(3,.ptr 192 0),(11,Ag a0.Ab),(12,iV (a0.Ab.length:Int)),(13,iV p9),(17,.ptr 192 1),(18,Ac 610 p10),(25,Ac 1632 ([Aa.mk y21.at_ r23]:List Aa))] [(128,[At 129 [],Ac 162 []]),(192,[At 512 r1,Ac 610 p10])] hB (Ep (yW (e:=Aj) (l0:=p10) (l1:=([Aa.mk y21.at_ r23]:List Aa)) rfl rfl (by decide) (by decide) (by decide) c25 (d0 tv (Ca tv (c_ (Bq ⟨tv,tv⟩ rfl tv) (⟨tv,Ep (Jg rfl rfl tv rfl rfl rfl (nl rfl) (d0 tv (d_ (Ay 2 (Kn [(11,Ag a0.Ab),(12,iV (a0.Ab.length:Int)),(13,iV p9)]) (Hx [(192,[At 512 r1,Ac 610 (p10++([Aa.mk y21.at_ r23]:List Aa))])]) (Bn 2 (Ak ?_)))))) Cg⟩))))) Cg))) Cg⟩)))) Cg)))))))
   refine Td ?_
   obtain rfl:=sj h1
   exact kn hK1 rfl rfl
  ·obtain rfl:=sj h1
   obtain rfl:=hx1 _ rfl
   refine Vm rfl ?_
   exact jn hE1 ⟨_,rfl,rfl⟩

/- (loop.example/g00149/impl.Device).write -/
def tJ:=[X_ 3 0,a_ 6 [.own 385 0 1 [],.own 386 0 2 []]]
def tK:=[L_ 13 3 2,q_ 14 366 [.t 13],a_ 7 [.own 449 0 1 [],.own 450 0 2 []],s_ 7 14 2]
def tL:=[m_ 15 2,n_ 16 15,B_ .eql 17 16 0]
def tM:=[L_ 18 7 2,s_ 6 18 2]
def tN:=[L_ 19 3 2,q_ 20 263 [.t 19],m_ 8 20]
def tO:=[m_ 21 1,m_ 22 2,n_ 23 22,b_ .add 24 21 23,m_ 9 24]
def tP:=[m_ 25 9,B_ .sub 26 25 1,B_ .quo 27 26 32,m_ 10 27]
def tQ:List Bj:=[m_ 28 10,B_ .add 29 28 1,⟨some 30,.p (.bin .mul (.c (iV 32)) (.t 29)),none⟩,m_ 11 30]
def tR:=[m_ 31 8,n_ 32 31,m_ 33 11,b_ .lss 34 32 33]
def tS:List Bj:=[m_ 35 8,m_ 36 11,m_ 37 8,n_ 38 37,b_ .sub 39 36 38,⟨some 40,.appz 1 1 [.int .u8 0] (.t 35) (.t 39),none⟩,m_ 8 40]
def fP:List Bj:=[m_ 41 8,m_ 42 1,⟨some 43,.p (.slice (.t 41) (some (.t 42)) none 1),none⟩,m_ 44 2,⟨some 45,.copy 1 (.t 43) (.t 44),none⟩]
def fQ:=[m_ 46 1,B_ .quo 47 46 32,m_ 12 47]
def fR:=[m_ 48 12,m_ 49 10,b_ .leq 50 48 49]
def fS:=tk [f_ 53 7 1,l_ 54 53 1,m_ 55 12,m_ 56 8,m_ 57 12,⟨some 58,.p (.bin .mul (.c (iV 32)) (.t 57)),none⟩,m_ 59 12,B_ .add 60 59 1,⟨some 61,.p (.bin .mul (.c (iV 32)) (.t 60)),none⟩,⟨some 62,.p (.slice (.t 56) (some (.t 58)) (some (.t 61)) 1),none⟩] (.alt [m_ 55 12,l_ 54 53 1,f_ 53 7 1] (q_ 63 325 [.t 62]) (tk [⟨some 64,.p (.build [iV 0,.own 4098 0 1 []] [(0,1,.t 55),(1,1,.t 63)]),none⟩] (.alt [l_ 54 53 1,f_ 53 7 1] ⟨some 65,.mkS 2 [iV 0,.lst 1 []] 1 [(0,.t 64)],none⟩ (.alt [] ⟨some 66,.app 2 32 (.t 54) (.t 65),none⟩ (tk [f_ 67 7 1] (.alt [] (s_ 67 66 1) .fin .stop)) .stop) .stop)) .stop)
def fU:=[m_ 51 12,B_ .add 52 51 1,m_ 12 52]
def tI:IR:=(.seq (sr fR (.ite (.t 50) .skip (.exit 0))) (.seq (.block 1 (.draw fS)) (.reg fU)))
def fV:=[L_ 68 7 2,s_ 6 68 2]
def EL:Es:=⟨3,69,[.cell 6 2 true],sr tJ (sr tK (.seq (sr tL (iz 17 (rr tM))) (sr tN (sr tO (sr tP (.seq (sr tQ (sr tR (iz 34 (.reg tS)))) (sr fP (.seq (sr fQ (Vh 0 tI)) (rr fV)))))))))⟩
def AL (D:Aq):Prop:=∀a0 a1 a2 r,wZ a0 a1 a2=some r→D 328 ⟨[.agg (Ae a0),iV a1,Df a2],[]⟩ ⟨.agg (Ai r (Br 0) (Br 33)),[],[]⟩
abbrev Iz:=fun x0 (r:List (Nat×List V))=>(384,[At 385 [],Ac 418 []])::(448,Ai x0 (Br 896) (Br 929))::r
abbrev Ja:=fun x0 x1 (r:List (Nat×V))=>(1,iV x0)::(2,Df x1)::(6,.ptr 384 0)::(7,.ptr 448 0)::r
abbrev Pk:=fun (r:List (Nat×List V))=>(384,[At 385 [],Ac 418 []])::r
abbrev Vw:=fun x0 (r:List (Nat×V))=>(6,.ptr 384 0)::(7,.ptr 448 0)::(10,iV x0)::r
theorem HI (H263:zS C) (H325:dQ C) (H366:AS C):AL (FO C EL):=by
 intro a0 a1 a2 r h0
 refine f0 (FK 4 [] [(386,418)] [(1,iV a1),(2,Df a2),(3,.ptr 192 0),(6,.ptr 384 0)] (Pk [(192,Ae a0)]) (Bn 2 (Ak (bb h0 fun r1 e2 h0=>Tx (H366 a0 r1 e2) (af (Fj (Tb rfl) rfl)) (st (Gs (sw ⟨Ja a1 a2 [(3,.ptr 192 0),(14,.agg (Ai r1 (Br 896) (Br 929)))],Pk [(192,Ae a0),(448,[At 449 [],Ac 482 []])],[]⟩ (Lt [] [(450,482)] rfl (by kernel_rfl)) (Jg rfl rfl tv rfl rfl rfl (nl rfl) (o_ (Ay 1 (Ja a1 a2 [(3,.ptr 192 0)]) (Iz r1 [(192,Ae a0)]) (Bn 3 (Ak (Lo rfl (o_ (Ay 2 (Ja a1 a2 [(3,.ptr 192 0),(17,.bool ((a2.length:Int)==0))]) (Iz r1 [(192,Ae a0)]) (El h0 (fun c3 h0=>?_) (fun c3 h0=>?_)))))))))))))))))
 ·obtain rfl:=sj h0
  exact Dz 5
 ·refine Bn 4 (Ak (bb h0 fun r4 e5 h0=>Tx (H263 a0 r4 e5) (af rfl) (o_ (Ay 2 (Ja a1 a2 [(8,At 1280 r4)]) (Iz r1 []) (Bn 3 (Ak (Lo rfl (o_ (Ay 3 (Ja a1 a2 [(8,At 1280 r4),(9,iV (wi (a1+(a2.length:Int))))]) (Iz r1 []) (Bn 3 (Ak (st (c_ (Bq ⟨tv,tv,tv⟩ rfl (by decide)) (st (Dj rfl tv (Td (bv h0 fun v6 e7 h0=>Hz ⟨Ja a1 a2 [(8,At 1280 r4),(10,iV v6)],Iz r1 [],[]⟩ (Ho (by subst e7; kernel_rfl)) (Ay 7 (Ja a1 a2 [(8,At 1280 r4),(10,iV v6),(11,iV (wi (32*(wi (v6+1)))))]) (Iz r1 []) (Ce (Ak (st (Dj rfl tv (xO rfl (o_ (Bn 3 (bv h0 fun v8 e9 h0=>Hz ⟨Ja a1 a2 [(8,At 1280 r4),(10,iV v6),(11,iV (wi (32*(wi (v6+1))))),(34,.bool v8)],Iz r1 [],[]⟩ (Ho (by subst e9; kernel_rfl)) (FE (cb:=v8) (fun S=>∃p13:List UInt8,S=⟨Ja a1 a2 [(8,At 1280 p13),(10,iV v6)],Iz r1 [],[]⟩∧Nq a1 a2 r1 v6 p13=some r) rfl ?_ (fun c44 J43=>?_) (fun c44 J43=>?_))))))))))))))))))))))))))))
  ·rintro _ ⟨p13,rfl,h0⟩
   refine Bn 4 (Ak (bb h0 fun s14 e15 h0=>st (c_ (Ir (e:=Hm) (y:=s14) rfl rfl tv ⟨tv,tv⟩ rfl rfl e15) (st (Dj rfl tv (st (copy_ (e:=Hm) (l1:=a2) rfl rfl tv rfl (Td (Hz ⟨[(1,iV a1),(6,.ptr 384 0),(7,.ptr 448 0),(8,At 1280 (ovl p13 a1.toNat (a2.take s14.length))),(10,iV v6)],[(384,[At 385 [],Ac 418 []]),(448,Ai r1 (Br 896) (Br 929))],[]⟩ (fg ⟨rfl,rfl,rfl,congrArg (fun z=>some ((.own 1280 0 1 z:V))) Hq,rfl,tv⟩ ⟨rfl,rfl,tv⟩) (Bn 3 (Ak (st (c_ (Bq ⟨tv,tv,tv⟩ rfl (by decide)) (o_ (Ay 2 (Vw v6 [(8,At 1280 (ovl p13 a1.toNat (a2.take s14.length))),(12,iV (wi ((a1).tdiv 32)))]) (Iz r1 []) (Cm (bb h0 fun r41 e42 h0=>Fc (R:=(fun S=>∃p34:List Aa,p34=r41∧S=⟨[(6,.ptr 384 0),(7,.ptr 448 0)],Pk [(448,[At 896 r1.held,Ac 929 p34])],[]⟩)) (Nr a1 a2 v6 p13 s14) (fun s S=>match s with | (p24,p25)=>S=⟨Vw v6 [(8,At 1280 (ovl p13 a1.toNat (a2.take s14.length))),(12,iV p24)],Pk [(448,[At 896 r1.held,Ac 929 p25])],[]⟩) e42 _ (Ho (by kernel_rfl)) rfl 0 (fun _=>rfl) ?_ ?_)))))))))))))))))
   ·rintro S _ hfg ⟨p34,rfl,rfl⟩
    refine Hz _ hfg ?_
    obtain rfl:=sj h0
    exact Dz 5
   ·rintro ⟨p24,p25⟩ o1 _ K1 rfl h1 hx1 hK1 hE1 hR1
    refine Ay 6 (Vw v6 [(8,At 1280 (ovl p13 a1.toNat (a2.take s14.length))),(12,iV p24),(50,.bool (decide (p24≤v6)))]) (Pk [(448,[At 896 r1.held,Ac 929 p25])]) (El h1 (fun c35 h1=>?_) (fun c35 h1=>?_))
    ·refine xW 4 (bb h1 fun s36 e37 h1=>bb h1 fun r38 e39 h1=>gg h1 fun c40 h1=>Bn 9 (Ez (Ca tv (c_ (Ir (e:=Hm) (y:=s36) rfl rfl tv ⟨tv,tv,tv⟩ rfl rfl e37) (⟨tv,EX (H325 s36 r38 e39) (af rfl) (dw [(6,.ptr 384 0),(7,.ptr 448 0),(8,At 1280 (ovl p13 a1.toNat (a2.take s14.length))),(10,iV v6),(12,iV p24),(53,.ptr 448 1),(54,Ac 929 p25),(55,iV p24),(63,At 4032 r38)] [(384,[At 385 [],Ac 418 []]),(448,[At 896 r1.held,Ac 929 p25])] hB (Ca tv (c_ (v:=.agg [iV p24,At 4032 r38]) (Bq ⟨tv,tv,tv⟩ rfl ⟨⟨rfl,rfl,nl rfl⟩,⟨rfl,rfl,nl rfl⟩,tv⟩) (⟨tv,Ep (FG rfl tv rfl rfl (Fj bA (Fj (aX (fun _=>rfl)) rfl)) rfl (dw [(6,.ptr 384 0),(7,.ptr 448 0),(8,At 1280 (ovl p13 a1.toNat (a2.take s14.length))),(10,iV v6),(12,iV p24),(53,.ptr 448 1),(54,Ac 929 p25),(65,Ac 4192 ([Aa.mk p24 r38]:List Aa))] [(384,[At 385 [],Ac 418 []]),(448,[At 896 r1.held,Ac 929 p25])] hB (Ep (yW (e:=Aj) (l0:=p25) (l1:=([Aa.mk p24 r38]:List Aa)) rfl rfl (by decide) (by decide) (by decide) c40 (d0 tv (Ca tv (c_ (Bq ⟨tv,tv⟩ rfl tv) (⟨tv,?_⟩))))) Cg))) Cg⟩)))) Cg⟩)))))
     refine Ep (Jg rfl rfl tv rfl rfl rfl (nl rfl) (d0 tv (d_ (Ay 2 (Vw v6 [(8,At 1280 (ovl p13 a1.toNat (a2.take s14.length))),(12,iV p24)]) (Pk [(448,[At 896 r1.held,Ac 929 (p25++([Aa.mk p24 r38]:List Aa))])]) (Bn 4 ?_))))) Cg
     obtain rfl:=sj h1
     exact kn hK1 rfl rfl
    ·obtain rfl:=sj h1
     obtain rfl:=hx1 _ rfl
     refine Vm rfl ?_
     exact jn hE1 ⟨_,rfl,rfl⟩
  ·replace h0:=ip c44 h0
   refine Bn 3 (Ak (xO rfl (st (c_ (Bq t3 rfl tv) (gg h0 fun c45 h0=>gg h0 fun c46 h0=>st (dW (e:=Hm) (l0:=r4) (0:UInt8) rfl rfl rfl (by decide) c45 c46 (st (Dj rfl tv (Td ?_)))))))))
   exact jn J43 ⟨_,rfl,h0⟩
  ·replace h0:=IC c44 h0
   refine xZ ?_
   exact jn J43 ⟨_,rfl,h0⟩

/- (loop.example/g00149/impl.Device).written -/
def oI:=[X_ 3 0,a_ 6 [.own 385 0 1 [],.own 386 0 2 []],i_ 7 0]
def oJ:=[m_ 9 1,m_ 10 2,n_ 11 10,q_ 12 327 [.t 9,.t 11],N_ 13 12]
def oK:=[iQ 14 (.build [.own 897 0 1 [],.own 898 0 2 []] []),s_ 6 14 2,i_ 7 9]
def oL:=[L_ 15 3 2,m_ 16 1,m_ 17 2,q_ 18 328 [.t 15,.t 16,.t 17],a_ 8 [.own 513 0 1 [],.own 514 0 2 []],s_ 8 18 2]
def oM:=[f_ 19 8 1,l_ 20 19 1,q_ 21 269 [.t 20],N_ 22 21]
def oN:=[iQ 23 (.build [.own 1473 0 1 [],.own 1474 0 2 []] []),s_ 6 23 2,i_ 7 6]
def oO:=[L_ 24 8 2,s_ 6 24 2,i_ 7 0]
def DS:Es:=⟨3,25,[.cell 6 2 true,.t 7],sr oI (.seq (sr oJ (iz 13 (rr oK))) (sr oL (.seq (sr oM (iz 22 (rr oN))) (rr oO))))⟩
def zW (D:Aq):Prop:=∀a0 a1 a2 r,wE a0 a1 a2=some r→D 265 ⟨[.agg (Ae a0),iV a1,Df a2],[]⟩ ⟨.tup [.agg (Ai r.1 (Br 0) (Br 33)),iV r.2],[],[]⟩
abbrev Km:=fun (r:List (Nat×List V))=>(384,[At 385 [],Ac 418 []])::r
theorem GP (H269:kH C) (H327:AK C) (H328:AL C):zW (FO C DS):=by
 intro a0 a1 a2 r h0
 refine f0 (Bn 3 (Ak (sw ⟨[(1,iV a1),(2,Df a2),(3,.ptr 192 0),(6,.ptr 384 0)],Km [(192,Ae a0)],[]⟩ (Lt [] [(386,418)] rfl (by kernel_rfl)) (FH tv (o_ (Ay 1 [(1,iV a1),(2,Df a2),(3,.ptr 192 0),(6,.ptr 384 0)] (Km [(192,Ae a0)]) (Bn 4 (Ak (Lo rfl (bb h0 fun r1 e2 h0=>Qi (H327 a1 (a2.length:Int) r1 e2) (o_ (Ay 2 [(1,iV a1),(2,Df a2),(3,.ptr 192 0),(6,.ptr 384 0),(13,.bool (!r1))] (Km [(192,Ae a0)]) (El h0 (fun c3 h0=>?_) (fun c3 h0=>?_))))))))))))))
 ·refine Bn 2 (Ak (sw ⟨[(6,.ptr 384 0),(14,.agg [At 897 [],Ac 930 []])],Km [],[]⟩ (Lt [] [(898,930)] rfl (by kernel_rfl)) (Jg rfl rfl tv rfl rfl rfl (nl rfl) (o_ (Ay 2 [(6,.ptr 384 0),(7,iV 9)] [(384,[At 897 [],Ac 930 []])] ?_)))))
  obtain rfl:=sj h0
  exact Zf (Ms rfl rfl rfl rfl rfl tv)
 ·refine Bn 6 (Ak (bb h0 fun r4 e5 h0=>Tx (H328 a0 a1 a2 r4 e5) (af (Fj (Tb rfl) rfl)) (st (Gs (sw ⟨[(6,.ptr 384 0),(8,.ptr 512 0),(18,.agg (Ai r4 (Br 1152) (Br 1185)))],Km [(512,[At 513 [],Ac 546 []])],[]⟩ (Lt [] [(514,546)] rfl (by kernel_rfl)) (Jg rfl rfl tv rfl rfl rfl (nl rfl) (o_ (Ay 1 [(6,.ptr 384 0),(8,.ptr 512 0)] (Km [(512,Ai r4 (Br 1152) (Br 1185))]) (Bn 4 (Ak (bb h0 fun r6 e7 h0=>Qi (H269 r4.Ab r6 e7) (o_ (Ay 2 [(6,.ptr 384 0),(8,.ptr 512 0),(22,.bool (!r6))] (Km [(512,Ai r4 (Br 1152) (Br 1185))]) (El h0 (fun c8 h0=>?_) (fun c8 h0=>?_)))))))))))))))
  ·refine Bn 2 (Ak (sw ⟨[(6,.ptr 384 0),(23,.agg [At 1473 [],Ac 1506 []])],Km [],[]⟩ (Lt [] [(1474,1506)] rfl (by kernel_rfl)) (Jg rfl rfl tv rfl rfl rfl (nl rfl) (o_ (Ay 2 [(6,.ptr 384 0),(7,iV 6)] [(384,[At 1473 [],Ac 1506 []])] ?_)))))
   obtain rfl:=sj h0
   exact Zf (Ms rfl rfl rfl rfl rfl tv)
  ·obtain rfl:=sj h0
   exact Dz 8

/- loop.example/g00149/impl.DeviceWrite -/
def kW:=[X_ 3 0,a_ 6 [.own 385 0 1 [],.own 386 0 2 []],i_ 7 0]
def kX:=[m_ 9 2,q_ 10 264 [.t 9],N_ 11 10,m_ 8 11]
def kY:=[iQ 12 (.build [.own 769 0 1 [],.own 770 0 2 []] []),s_ 6 12 2,i_ 7 2]
def kZ:=[L_ 14 3 2,q_ 15 216 [.t 14],N_ 16 15,m_ 13 16]
def lA:=[iQ 17 (.build [.own 1089 0 1 [],.own 1090 0 2 []] []),s_ 6 17 2,i_ 7 1]
def lB:=[L_ 18 3 2,m_ 19 1,m_ 20 2,q_ 21 265 [.t 18,.t 19,.t 20],e_ 22 21 0,e_ 23 21 1,s_ 6 22 2,m_ 7 23]
def DE:Es:=⟨3,24,[.cell 6 2 true,.t 7],sr kW (.seq (.block 0 (sr kX (.ite (.t 8) (rr kY) (sr kZ (iz 13 (rr lA)))))) (rr lB))⟩
def zK (D:Aq):Prop:=∀a0 a1 a2 r,gL a0 a1 a2=some r→D 214 ⟨[.agg (Ae a0),iV a1,Df a2],[]⟩ ⟨.tup [.agg (Ai r.1 (Br 0) (Br 33)),iV r.2],[],[]⟩
abbrev Pi:=fun (r:List (Nat×List V))=>(384,[At 385 [],Ac 418 []])::r
abbrev Vt:=fun x0 x1 (r:List (Nat×V))=>(1,iV x0)::(2,Df x1)::(3,.ptr 192 0)::(6,.ptr 384 0)::r
theorem GC (H216:zL C) (H264:zU C) (H265:zW C):zK (FO C DE):=by
 intro a0 a1 a2 r h0
 refine f0 (Bn 3 (Ak (sw ⟨Vt a1 a2 [],Pi [(192,Ae a0)],[]⟩ (Lt [] [(386,418)] rfl (by kernel_rfl)) (FH tv (o_ (Ay 1 (Vt a1 a2 []) (Pi [(192,Ae a0)]) (Bn 4 (Ak (bb h0 fun r1 e2 h0=>Qi (H264 a2 r1 e2) (o_ (Ay 3 (Vt a1 a2 [(8,.bool (!r1))]) (Pi [(192,Ae a0)]) (El h0 (fun c3 h0=>?_) (fun c3 h0=>?_)))))))))))))
 ·refine Bn 2 (Ak (sw ⟨[(6,.ptr 384 0),(12,.agg [At 769 [],Ac 802 []])],Pi [],[]⟩ (Lt [] [(770,802)] rfl (by kernel_rfl)) (Jg rfl rfl tv rfl rfl rfl (nl rfl) (o_ (Ay 2 [(6,.ptr 384 0),(7,iV 2)] [(384,[At 769 [],Ac 802 []])] ?_)))))
  obtain rfl:=sj h0
  exact Zf (Ms rfl rfl rfl rfl rfl tv)
 ·refine Bn 2 (Ak (bb h0 fun r4 e5 h0=>Qi (H216 a0 r4 e5) (o_ (Ay 3 (Vt a1 a2 [(13,.bool (!r4))]) (Pi [(192,Ae a0)]) (El h0 (fun c6 h0=>?_) (fun c6 h0=>?_))))))
  ·refine Bn 2 (Ak (sw ⟨[(6,.ptr 384 0),(17,.agg [At 1089 [],Ac 1122 []])],Pi [],[]⟩ (Lt [] [(1090,1122)] rfl (by kernel_rfl)) (Jg rfl rfl tv rfl rfl rfl (nl rfl) (o_ (Ay 2 [(6,.ptr 384 0),(7,iV 1)] [(384,[At 1089 [],Ac 1122 []])] ?_)))))
   obtain rfl:=sj h0
   exact Zf (Ms rfl rfl rfl rfl rfl tv)
  ·refine Bn 7 (Ak (bb h0 fun r7 e8 h0=>Tx (H265 a0 a1 a2 r7 e8) (af (Fj (Tb rfl) (Fj rfl rfl))) (o_ ?_)))
   obtain rfl:=sj h0
   exact Dz 6

/- loop.example/g00149/laws.szByteS -/
def oV:=[i_ 4 0]
def oW:=[m_ 5 1,m_ 6 0,n_ 7 6,b_ .sub 8 5 7,m_ 1 8]
def oX:=[m_ 9 1,B_ .lss 10 9 0]
def oY:=[i_ 4 (-1)]
def oZ:=[m_ 11 1,m_ 4 11]
def DW:Es:=⟨2,12,[.t 4],sr oV (sr oW (.seq (sr oX (iz 10 (rr oY))) (rr oZ)))⟩
def kI (D:Aq):Prop:=∀a0 a1 r,cH a0 a1=some r→D 276 ⟨[Df a0,iV a1],[]⟩ ⟨iV r,[],[]⟩
theorem GT:kI (FO C DW):=by
 intro a0 a1 r h0
 refine f0 (Ay 3 [(0,Df a0),(1,iV a1)] [] (Bn 3 (Ak (Lo rfl (o_ (Ay 9 [(1,iV (wi (a1-(a0.length:Int)))),(10,.bool (decide ((wi (a1-(a0.length:Int)))<0)))] [] (El h0 (fun c1 h0=>?_) (fun c1 h0=>?_))))))))
 ·obtain rfl:=sj h0
  exact Dz 4
 ·obtain rfl:=sj h0
  exact Dz 7

/- loop.example/g00149/laws.szSector -/
def tX:=[X_ 2 0,i_ 4 0]
def tY:=[f_ 5 2 1,l_ 6 5 1,m_ 7 1,q_ 8 276 [.t 6,.t 7],m_ 1 8]
def tZ:=[m_ 9 1,B_ .lss 10 9 0]
def uA:=[i_ 4 (-1)]
def uB:=[m_ 11 1,m_ 4 11]
def EO:Es:=⟨2,12,[.t 4],sr tX (sr tY (.seq (sr tZ (iz 10 (rr uA))) (rr uB)))⟩
def AO (D:Aq):Prop:=∀a0 a1 r,BT a0 a1=some r→D 345 ⟨[.agg (Aj a0),iV a1],[]⟩ ⟨iV r,[],[]⟩
theorem HL (H276:kI C):AO (FO C EO):=by
 intro a0 a1 r h0
 refine f0 (Ay 4 [(1,iV a1),(2,.ptr 128 0)] [(128,Aj a0)] (Bn 4 (Ak (bb h0 fun r1 e2 h0=>Qi (H276 a0.data a1 r1 e2) (o_ (Ay 8 [(1,iV r1),(10,.bool (decide (r1<0)))] [] (El h0 (fun c3 h0=>?_) (fun c3 h0=>?_))))))))
 ·obtain rfl:=sj h0
  exact Dz 4
 ·obtain rfl:=sj h0
  exact Dz 7

/- loop.example/g00149/laws.szSectorS -/
def pB:=[i_ 4 0]
def pC:=[m_ 6 1,m_ 7 0,n_ 8 7,b_ .sub 9 6 8,m_ 1 9]
def pD:=[m_ 10 1,B_ .lss 11 10 0]
def pE:=[i_ 4 (-1)]
def pG:=[i_ 5 0]
def pH:=[m_ 12 5,m_ 13 0,n_ 14 13,b_ .lss 15 12 14]
def pI:=[m_ 18 0,m_ 19 5,x_ 20 18 19 2,L_ 21 20 2,m_ 22 1,q_ 23 345 [.t 21,.t 22],m_ 1 23]
def pJ:=[m_ 24 1,B_ .lss 25 24 0]
def pK:=[i_ 4 (-1)]
def pL:=[m_ 16 5,B_ .add 17 16 1,m_ 5 17]
def pA:IR:=(.seq (sr pH (.ite (.t 15) .skip (.exit 0))) (.seq (.block 1 (sr pI (sr pJ (iz 25 (rr pK))))) (.reg pL)))
def fK:=[m_ 26 1,m_ 4 26]
def DX:Es:=⟨2,27,[.t 4],sr pB (sr pC (.seq (sr pD (iz 11 (rr pE))) (.seq (sr pG (Vh 0 pA)) (rr fK))))⟩
def zZ (D:Aq):Prop:=∀a0 a1 r,BP a0 a1=some r→D 289 ⟨[Ag a0,iV a1],[]⟩ ⟨iV r,[],[]⟩
theorem GU (H345:AO C):zZ (FO C DX):=by
 intro a0 a1 r h0
 refine f0 (Ay 3 [(0,Ag a0),(1,iV a1)] [] (Bn 3 (Ak (Lo rfl (o_ (Ay 9 [(0,Ag a0),(1,iV (wi (a1-(a0.length:Int)))),(11,.bool (decide ((wi (a1-(a0.length:Int)))<0)))] [] (El h0 (fun c1 h0=>?_) (fun c1 h0=>?_))))))))
 ·obtain rfl:=sj h0
  exact Dz 4
 ·refine Ay 6 [(0,Ag a0),(1,iV (wi (a1-(a0.length:Int)))),(5,iV 0)] [] (Cm (bb h0 fun r25 e26 h0=>Fc (R:=(fun S=>∃p18:Int,.inl p18=r25∧S=⟨[(1,iV p18)],[],[]⟩)) (Nj a0) (fun s S=>match s with | (p8,p9)=>S=⟨[(0,Ag a0),(1,iV p8),(5,iV p9)],[],[]⟩) e26 _ (Ho (by kernel_rfl)) rfl 0 (fun _=>rfl) ?_ ?_))
  ·rintro S _ hfg ⟨p18,rfl,rfl⟩
   refine Hz _ hfg ?_
   obtain rfl:=sj h0
   exact Dz 5
  ·rintro ⟨p8,p9⟩ o1 _ K1 rfl h1 hx1 hK1 hE1 hR1
   refine Bn 4 (Ak (Lo rfl (o_ (Ay 2 [(0,Ag a0),(1,iV p8),(5,iV p9),(15,.bool (decide (p9<(a0.length:Int))))] [] (El h1 (fun c19 h1=>?_) (fun c19 h1=>?_))))))
   ·refine Bn 7 (Ak (bb h1 fun y20 e21 h1=>dM rfl rfl e21 (o_ (Bn 2 (Ak (bb h1 fun r22 e23 h1=>Qi (H345 y20 p8 r22 e23) (o_ (Ay 7 [(0,Ag a0),(1,iV r22),(5,iV p9),(25,.bool (decide (r22<0)))] [] (El h1 (fun c24 h1=>?_) (fun c24 h1=>?_))))))))))
    ·obtain rfl:=sj h1
     obtain rfl:=hx1 _ rfl
     obtain rfl:=sj h0
     exact xV 4 hR1
    ·refine Bn 7 ?_
     obtain rfl:=sj h1
     exact kn hK1 rfl rfl
   ·obtain rfl:=sj h1
    obtain rfl:=hx1 _ rfl
    refine Vm rfl ?_
    exact jn hE1 ⟨_,rfl,rfl⟩

/- loop.example/g00149/laws.szDevice -/
def lE:=[X_ 2 0,i_ 4 0]
def lG:=[f_ 5 2 0,l_ 6 5 1,m_ 7 1,q_ 8 276 [.t 6,.t 7],m_ 1 8]
def lH:=[m_ 9 1,B_ .lss 10 9 0]
def lI:=[i_ 4 (-1)]
def lJ:=[f_ 11 2 1,l_ 12 11 1,m_ 13 1,q_ 14 289 [.t 12,.t 13],m_ 1 14]
def lK:=[m_ 15 1,B_ .lss 16 15 0]
def lL:=[i_ 4 (-1)]
def lM:=[m_ 17 1,m_ 4 17]
def DG:Es:=⟨2,18,[.t 4],sr lE (sr lG (.seq (sr lH (iz 10 (rr lI))) (sr lJ (.seq (sr lK (iz 16 (rr lL))) (rr lM)))))⟩
def zM (D:Aq):Prop:=∀a0 a1 r,wA a0 a1=some r→D 228 ⟨[.agg (Ae a0),iV a1],[]⟩ ⟨iV r,[],[]⟩
theorem GE (H276:kI C) (H289:zZ C):zM (FO C DG):=by
 intro a0 a1 r h0
 refine f0 (Ay 4 [(1,iV a1),(2,.ptr 128 0)] [(128,Ae a0)] (Bn 4 (Ak (bb h0 fun r1 e2 h0=>Qi (H276 a0.held a1 r1 e2) (o_ (Ay 8 [(1,iV r1),(2,.ptr 128 0),(10,.bool (decide (r1<0)))] [(128,Ae a0)] (El h0 (fun c3 h0=>?_) (fun c3 h0=>?_))))))))
 ·obtain rfl:=sj h0
  exact Dz 4
 ·refine Bn 6 (Ak (bb h0 fun r4 e5 h0=>Qi (H289 a0.Ab r1 r4 e5) (o_ (Ay 8 [(1,iV r4),(16,.bool (decide (r4<0)))] [] (El h0 (fun c6 h0=>?_) (fun c6 h0=>?_))))))
  ·obtain rfl:=sj h0
   exact Dz 4
  ·obtain rfl:=sj h0
   exact Dz 7

/- loop.example/g00149/spec.l01In -/
def AZ:=[k_ 6 (.bool false)]
def BA:=[m_ 7 0,m_ 8 1,b_ .geq 9 7 8,m_ 10 9,mT 10 11 0,mT 10 12 2,pT 10 13 (.bin .leq (.t 11) (.t 12)),pa 14 10 13,m_ 6 14]
def IK:Es:=⟨3,15,[.t 6],sr AZ (rr BA)⟩
def HR (D:Aq):Prop:=∀a0 a1 a2 r,FX a0 a1 a2=some r→D 56 ⟨[iV a0,iV a1,iV a2],[]⟩ ⟨.bool r,[],[]⟩
theorem IU:HR (FO C IK):=by
 intro a0 a1 a2 r h0
 refine f0 (Ay 3 [(0,iV a0),(1,iV a1),(2,iV a2)] [] (CT 9 (Ak (o_ ?_))))
 obtain rfl:=sj h0
 exact Dz 3

/- loop.example/g00149/spec.DeviceOK -/
def pN:=[X_ 1 0,k_ 2 (.bool false)]
def pO:=[f_ 4 1 0,l_ 5 4 1,n_ 6 5,B_ .rem 7 6 32,B_ .neq 8 7 0,m_ 9 8,fF 9 10 1 0,lF 9 11 10 1 false,pF 9 12 (.len (.t 11)),pF 9 13 (.bin .gtr (.t 12) (.c (iV 4096))),po 14 9 13,m_ 15 14,fF 15 16 1 1,lF 15 17 16 1 false,pF 15 18 (.len (.t 17)),pF 15 19 (.bin .gtr (.t 18) (.c (iV 4096))),po 20 15 19]
def pP:=[k_ 2 (.bool false)]
def pQ:=[i_ 3 0]
def pR:=[m_ 21 3,f_ 22 1 1,l_ 23 22 1,n_ 24 23,b_ .lss 25 21 24]
def pS:=[f_ 28 1 1,l_ 29 28 1,m_ 30 3,x_ 31 29 30 2,f_ 32 31 0,l_ 33 32 1,q_ 34 56 [.t 33,.c (iV 0),.c (iV 127)],N_ 35 34,m_ 36 35,fF 36 37 1 1,lF 36 38 37 1 false,mF 36 39 3,xF 36 40 38 39 2,fF 36 41 40 1,lF 36 42 41 1 false,pF 36 43 (.len (.t 42)),pF 36 44 (.bin .neq (.t 43) (.c (iV 32))),po 45 36 44]
def pU:=[k_ 2 (.bool false)]
def pV:=[m_ 26 3,B_ .add 27 26 1,m_ 3 27]
def pM:IR:=(.seq (sr pR (.ite (.t 25) .skip (.exit 0))) (.seq (.block 1 (sr pS (iz 45 (rr pU)))) (.reg pV)))
def pW:=[k_ 2 (.bool true)]
def DY:Es:=⟨1,46,[.t 2],sr pN (.seq (sr pO (iz 20 (rr pP))) (.seq (sr pQ (Vh 0 pM)) (rr pW)))⟩
def AA (D:Aq):Prop:=∀a0 r,wH a0=some r→D 290 ⟨[.agg (Ae a0)],[]⟩ ⟨.bool r,[],[]⟩
theorem GV (H56:HR C):AA (FO C DY):=by
 intro a0 r h0
 refine f0 (Ay 4 [(1,.ptr 64 0)] [(64,Ae a0)] (Bn 4 (Ak (Lo rfl (st (c_ (Bq ⟨tv,tv,tv⟩ rfl (by decide)) (o_ (Bn 2 (Ak (st (Hy (u:=.ptr 64 0) rfl (fun hg=>(Bq ⟨tv,tv⟩ rfl tv)) (st (Hy (u:=Df a0.held) rfl (fun hg=>(Bq ⟨(fun _=>hg),tv⟩ rfl (nl rfl))) (st (Hy (u:=iV (a0.held.length:Int)) rfl (fun hg=>(Wt (e:=Hm) (l0:=a0.held) rfl rfl (fun _=>hg))) (st (Hy (u:=.bool (decide ((a0.held.length:Int)>4096))) rfl (fun hg=>(Bq ⟨(fun _=>hg),tv,tv⟩ rfl tv)) (st (Jm rfl rfl rfl tv (fun h=>vU h) rfl (st (Dj rfl tv (st (Hy (u:=.ptr 64 1) rfl (fun hg=>(Bq ⟨tv,tv⟩ rfl tv)) (st (Hy (u:=Ag a0.Ab) rfl (fun hg=>(Bq ⟨(fun _=>hg),tv⟩ rfl (nl rfl))) (st (Hy (u:=iV (a0.Ab.length:Int)) rfl (fun hg=>(Wt (e:=Aj) (l0:=a0.Ab) rfl rfl (fun _=>hg))) (st (Hy (u:=.bool (decide ((a0.Ab.length:Int)>4096))) rfl (fun hg=>(Bq ⟨(fun _=>hg),tv,tv⟩ rfl tv)) (st (Jm rfl rfl rfl tv (fun h=>vU h) rfl (Td (bv h0 fun v1 e2 h0=>Hz ⟨[(1,.ptr 64 0),(20,.bool v1)],[(64,Ae a0)],[]⟩ (Ho (by subst e2; kernel_rfl)) (El h0 (fun c3 h0=>?_) (fun c3 h0=>?_)))))))))))))))))))))))))))))))))))
 ·obtain rfl:=sj h0
  exact Dz 4
 ·refine Ay 6 [(1,.ptr 64 0),(3,iV 0)] [(64,Ae a0)] (Cm (bb h0 fun r30 e31 h0=>Fc (R:=(fun S=>.inl ()=r30∧S=⟨[],[],[]⟩)) (Nk a0) (fun s S=>match s with | p12=>S=⟨[(1,.ptr 64 0),(3,iV p12)],[(64,Ae a0)],[]⟩) e31 _ (Ho (by kernel_rfl)) rfl 0 (fun _=>rfl) ?_ ?_))
  ·rintro S _ hfg ⟨rfl,rfl⟩
   refine Hz _ hfg ?_
   obtain rfl:=sj h0
   exact Dz 4
  ·rintro p12 o1 _ K1 rfl h1 hx1 hK1 hE1 hR1
   refine Bn 5 (Ak (Lo rfl (o_ (Ay 2 [(1,.ptr 64 0),(3,iV p12),(25,.bool (decide (p12<(a0.Ab.length:Int))))] [(64,Ae a0)] (El h1 (fun c22 h1=>?_) (fun c22 h1=>?_))))))
   ·refine Bn 8 (Ak (bb h1 fun y23 e24 h1=>dM rfl rfl e24 (o_ (Bn 2 (Ak (bb h1 fun r25 e26 h1=>Qi (H56 y23.at_ 0 127 r25 e26) (o_ (Bn 2 (Ak (st (Hy (u:=.ptr 64 1) rfl (fun hg=>(Bq ⟨tv,tv⟩ rfl tv)) (st (Hy (u:=Ag a0.Ab) rfl (fun hg=>(Bq ⟨(fun _=>hg),tv⟩ rfl (nl rfl))) (st (Hy (u:=iV p12) rfl (fun hg=>(Yn (v:=iV p12) rfl tv)) (bb h1 fun y27 e28 h1=>st (Hy (u:=.iptr (Aj y27)) rfl (fun hg=>(yX (e:=Aj) (y:=y27) rfl rfl (fun _=>hg) rfl rfl (fun _=>hg) (ip hg e28))) (st (Hy (u:=.iptr [Df y27.data]) rfl (fun hg=>(Bq ⟨(fun _=>hg),tv⟩ rfl (nl rfl))) (st (Hy (u:=Df y27.data) rfl (fun hg=>(Bq ⟨(fun _=>hg),tv⟩ rfl (nl rfl))) (st (Hy (u:=iV (y27.data.length:Int)) rfl (fun hg=>(Wt (e:=Hm) (l0:=y27.data) rfl rfl (fun _=>hg))) (st (Hy (u:=.bool ((y27.data.length:Int) != 32)) rfl (fun hg=>(Bq ⟨(fun _=>hg),tv,tv⟩ rfl tv)) (st (Jm rfl rfl rfl tv (fun h=>vU h) rfl (o_ (Ay 1 [(1,.ptr 64 0),(3,iV p12),(45,.bool (bif (!r25) then true else ((y27.data.length:Int) != 32)))] [(64,Ae a0)] (El h1 (fun c29 h1=>?_) (fun c29 h1=>?_)))))))))))))))))))))))))))))))
    ·obtain rfl:=sj h1
     obtain rfl:=hx1 _ rfl
     obtain rfl:=sj h0
     exact xV 4 hR1
    ·refine Bn 7 ?_
     obtain rfl:=sj h1
     exact kn hK1 rfl rfl
   ·obtain rfl:=sj h1
    obtain rfl:=hx1 _ rfl
    refine Vm rfl ?_
    exact jn hE1 ⟨rfl,rfl⟩

/- loop.example/g00149/spec.l01Fits -/
def pX:=[k_ 4 (.bool false)]
def pY:=[m_ 5 0,B_ .geq 6 5 0,m_ 7 6,mT 7 8 1,pT 7 9 (.bin .leq (.t 8) (.c (iV 4096))),pa 10 7 9,m_ 11 10,mT 11 12 0,mT 11 13 1,pT 11 14 (.bin .sub (.c (iV 4096)) (.t 13)),pT 11 15 (.bin .leq (.t 12) (.t 14)),pa 16 11 15,m_ 4 16]
def DZ:Es:=⟨2,17,[.t 4],sr pX (rr pY)⟩
def AB (D:Aq):Prop:=∀a0 a1 r,wI a0 a1=some r→D 291 ⟨[iV a0,iV a1],[]⟩ ⟨.bool r,[],[]⟩
theorem GW:AB (FO C DZ):=by
 intro a0 a1 r h0
 refine f0 (Ay 3 [(0,iV a0),(1,iV a1)] [] (CT 15 (bv h0 fun v1 e2 h0=>Hz ⟨[(4,.bool v1)],[],[]⟩ (Ho (by subst e2; kernel_rfl)) ?_)))
 obtain rfl:=sj h0
 exact Zf (Ms rfl rfl rfl rfl rfl tv)

/- loop.example/g00149/spec.l01Put -/
def uO:List Bj:=[X_ 3 1,⟨some 4,.nilS 1,none⟩]
def uP:List Bj:=[⟨some 6,.mkS 1 [.int .u8 0] 0 [],none⟩,m_ 7 0,⟨some 8,.app 1 1 (.t 6) (.t 7),none⟩,m_ 5 8]
def uQ:=[m_ 9 5,n_ 10 9,f_ 11 3 0,l_ 12 11 1,B_ .add 13 12 1,B_ .mul 14 13 32,b_ .lss 15 10 14]
def uR:List Bj:=[m_ 16 5,⟨some 17,.appz 1 1 [.int .u8 0] (.t 16) (.c (iV 32)),none⟩,m_ 5 17]
def uN:IR:=(.seq (sr uQ (.ite (.t 15) .skip (.exit 0))) (.block 1 (.reg uR)))
def uS:=tk [m_ 18 5,f_ 19 3 0,l_ 20 19 1,B_ .mul 21 20 32,⟨some 22,.p (.slice (.t 18) (some (.t 21)) none 1),none⟩,f_ 23 3 1,l_ 24 23 1] (.alt [] ⟨some 25,.copy 1 (.t 22) (.t 24),none⟩ .fin .stop)
def uT:=[m_ 26 5,m_ 4 26]
def ER:Es:=⟨2,27,[.t 4],sr uO (sr uP (.seq (Vh 0 uN) (sd uS (rr uT))))⟩
def AR (D:Aq):Prop:=∀a0 a1 r,xE a0 a1=some r→D 352 ⟨[Df a0,.agg (Aj a1)],[]⟩ ⟨At 0 r,[],[]⟩
theorem HO:AR (FO C ER):=by
 intro a0 a1 r h0
 refine f0 (Ay 4 [(0,Df a0),(3,.ptr 192 0)] [(192,Aj a1)] (Bn 3 (Ak (gg h0 fun c1 h0=>st (Qg (e:=Hm) (l0:=([]:List UInt8)) (l1:=a0) rfl rfl tv rfl (by decide) c1 (o_ (Ay 2 [(3,.ptr 192 0),(5,At 384 (([]:List UInt8)++a0))] [(192,Aj a1)] (Ce (Cm (bb h0 fun r20 e21 h0=>Fc (R:=(fun S=>∃p14:List UInt8,p14=r20∧S=⟨[(3,.ptr 192 0),(5,At 384 p14)],[(192,Aj a1)],[]⟩)) (Ns a1) (fun s S=>match s with | p7=>S=⟨[(3,.ptr 192 0),(5,At 384 p7)],[(192,Aj a1)],[]⟩) e21 _ (Ho (by kernel_rfl)) rfl 0 (fun _=>rfl) ?_ ?_))))))))))
 ·rintro S _ hfg ⟨p14,rfl,rfl⟩
  refine Hz _ hfg (Ce (bb h0 fun s22 e23 h0=>Bn 4 (Ez (Ca tv (c_ (Ir (e:=Hm) (y:=s22) rfl rfl tv ⟨tv,tv⟩ rfl rfl e23) (⟨tv,d_ (Bn 2 (Ez (Ep (copy_ (e:=Hm) (l1:=a1.data) rfl rfl tv rfl (d0 tv (bY (Hz ⟨[(5,At 384 (ovl p14 ((wi (a1.at_*32)).toNat) (a1.data.take s22.length)))],[],[]⟩ (fg ⟨congrArg (fun z=>some ((.own 384 0 1 z:V))) Hq,tv⟩ tv) (Bn 4 (bv h0 fun v24 e25 h0=>Hz ⟨[(4,At 384 v24)],[],[]⟩ (Ho (by subst e25; kernel_rfl)) ?_)))))) Cg)))⟩))))))
  obtain rfl:=sj h0
  exact Zf (Ms rfl rfl rfl rfl rfl tv)
 ·rintro p7 o1 _ K1 rfl h1 hx1 hK1 hE1 hR1
  unfold Ns at h1
  refine Bn 3 (Ak (xO rfl (o_ (Bn 6 (bv h1 fun v15 e16 h1=>Hz ⟨[(3,.ptr 192 0),(5,At 384 p7),(15,.bool v15)],[(192,Aj a1)],[]⟩ (Ho (by subst e16; kernel_rfl)) (El h1 (fun c17 h1=>?_) (fun c17 h1=>?_)))))))
  ·refine Bn 4 (Ak (gg h1 fun c18 h1=>gg h1 fun c19 h1=>st (dW (e:=Hm) (l0:=p7) (0:UInt8) rfl rfl rfl (by decide) c18 c19 (st (Dj rfl tv (Td (CR ?_)))))))
   obtain rfl:=sj h1
   exact kn hK1 rfl rfl
  ·obtain rfl:=sj h1
   obtain rfl:=hx1 _ rfl
   refine Vm rfl ?_
   exact jn hE1 ⟨_,rfl,rfl⟩

/- loop.example/g00149/spec.l01Read -/
def sP:List Bj:=[X_ 1 0,⟨some 2,.nilS 1,none⟩]
def sQ:List Bj:=[⟨some 5,.mkS 1 [.int .u8 0] 0 [],none⟩,f_ 6 1 0,l_ 7 6 1,⟨some 8,.app 1 1 (.t 5) (.t 7),none⟩,m_ 3 8]
def sR:=[i_ 4 0]
def sS:=[m_ 9 4,f_ 10 1 1,l_ 11 10 1,n_ 12 11,b_ .lss 13 9 12]
def sT:=[m_ 16 3,f_ 17 1 1,l_ 18 17 1,m_ 19 4,x_ 20 18 19 2,L_ 21 20 2,q_ 22 352 [.t 16,.t 21],m_ 3 22]
def sU:=[m_ 14 4,B_ .add 15 14 1,m_ 4 15]
def sO:IR:=(.seq (sr sS (.ite (.t 13) .skip (.exit 0))) (.seq (.block 1 (.reg sT)) (.reg sU)))
def sV:=[m_ 23 3,m_ 2 23]
def EH:Es:=⟨1,24,[.t 2],sr sP (sr sQ (.seq (sr sR (Vh 0 sO)) (rr sV)))⟩
def AI (D:Aq):Prop:=∀a0 r,wU a0=some r→D 303 ⟨[.agg (Ae a0)],[]⟩ ⟨At 0 r,[],[]⟩
theorem HE (H352:AR C):AI (FO C EH):=by
 intro a0 r h0
 refine f0 (Ay 4 [(1,.ptr 64 0)] [(64,Ae a0)] (Bn 4 (Ak (gg h0 fun c1 h0=>st (Qg (e:=Hm) (l0:=([]:List UInt8)) (l1:=a0.held) rfl rfl tv rfl (by decide) c1 (o_ (Ay 7 [(1,.ptr 64 0),(3,At 320 (([]:List UInt8)++a0.held)),(4,iV 0)] [(64,Ae a0)] (Cm (bb h0 fun r22 e23 h0=>Fc (R:=(fun S=>∃p16:List UInt8,p16=r22∧S=⟨[(3,At 320 p16)],[],[]⟩)) (No a0) (fun s S=>match s with | (p7,p8)=>S=⟨[(1,.ptr 64 0),(3,At 320 p7),(4,iV p8)],[(64,Ae a0)],[]⟩) e23 _ (Ho (by kernel_rfl)) rfl 0 (fun _=>rfl) ?_ ?_)))))))))
 ·rintro S _ hfg ⟨p16,rfl,rfl⟩
  refine Hz _ hfg ?_
  obtain rfl:=sj h0
  exact Dz 5
 ·rintro ⟨p7,p8⟩ o1 _ K1 rfl h1 hx1 hK1 hE1 hR1
  refine Bn 5 (Ak (Lo rfl (o_ (Ay 2 [(1,.ptr 64 0),(3,At 320 p7),(4,iV p8),(13,.bool (decide (p8<(a0.Ab.length:Int))))] [(64,Ae a0)] (El h1 (fun c17 h1=>?_) (fun c17 h1=>?_))))))
  ·refine Bn 8 (Ak (bb h1 fun y18 e19 h1=>dM rfl rfl e19 (st (c_ (v:=.agg (Aj y18)) (Bq ⟨tv,tv⟩ rfl (nl rfl)) (bb h1 fun r20 e21 h1=>Tx (H352 p7 y18 r20 e21) (af rfl) (o_ (Ay 3 [(1,.ptr 64 0),(3,At 1408 r20),(4,iV p8)] [(64,Ae a0)] (Bn 4 ?_))))))))
   obtain rfl:=sj h1
   exact hK1 _ rfl _ _ (Lt [] [(1408,320)] rfl (by kernel_rfl)) rfl
  ·obtain rfl:=sj h1
   obtain rfl:=hx1 _ rfl
   refine Vm rfl ?_
   exact jn hE1 ⟨_,rfl,rfl⟩

/- loop.example/g00149/spec.l01Write -/
def qB:=[X_ 3 0,a_ 6 [.own 385 0 1 [],.own 386 0 2 []]]
def qC:=[L_ 10 3 2,q_ 11 303 [.t 10],m_ 7 11]
def qD:=[m_ 12 7,n_ 13 12,m_ 14 1,m_ 15 2,n_ 16 15,b_ .add 17 14 16,b_ .lss 18 13 17,m_ 19 18,mF 19 20 7,pF 19 21 (.len (.t 20)),pF 19 22 (.bin .rem (.t 21) (.c (iV 32))),pF 19 23 (.bin .neq (.t 22) (.c (iV 0))),po 24 19 23]
def qE:List Bj:=[m_ 25 7,⟨some 26,.mkS 1 [.int .u8 0] 1 [(0,.c (.int .u8 0))],none⟩,⟨some 27,.app 1 1 (.t 25) (.t 26),none⟩,m_ 7 27]
def pZ:IR:=(.seq (sr qD (.ite (.t 24) .skip (.exit 0))) (.block 1 (.reg qE)))
def qF:List Bj:=[m_ 28 7,m_ 29 1,⟨some 30,.p (.slice (.t 28) (some (.t 29)) none 1),none⟩,m_ 31 2,⟨some 32,.copy 1 (.t 30) (.t 31),none⟩]
def Wq:DP:=.alt [l_ 34 33 1,f_ 33 3 0] ⟨some 38,.app 2 32 (.t 35) (.t 37),none⟩ (tk [⟨some 39,.p (.build [.own 2497 0 1 [],.own 2498 0 2 []] [(0,1,.t 34),(1,1,.t 38)]),none⟩] (.alt [] (s_ 8 39 2) .fin .stop)) .stop
def qG:=tk [f_ 33 3 0,l_ 34 33 1,f_ 36 3 1,l_ 37 36 1] (.alt [l_ 37 36 1,f_ 36 3 1,l_ 34 33 1,f_ 33 3 0] ⟨some 35,.mkS 2 [iV 0,.lst 1 []] 0 [],none⟩ (.alt [l_ 34 33 1,f_ 33 3 0] ⟨some 38,.app 2 32 (.t 35) (.t 37),none⟩ (tk [⟨some 39,.p (.build [.own 2497 0 1 [],.own 2498 0 2 []] [(0,1,.t 34),(1,1,.t 38)]),none⟩] (.alt [⟨some 39,.p (.build [.own 2497 0 1 [],.own 2498 0 2 []] [(0,1,.t 34),(1,1,.t 38)]),none⟩,l_ 34 33 1,f_ 33 3 0] (a_ 8 [.own 513 0 1 [],.own 514 0 2 []]) (.alt [] (s_ 8 39 2) .fin .stop) .stop)) (.alt [l_ 37 36 1,f_ 36 3 1,l_ 34 33 1,f_ 33 3 0] (a_ 8 [.own 513 0 1 [],.own 514 0 2 []]) Wq .stop)) (.alt [l_ 37 36 1,f_ 36 3 1,l_ 34 33 1,f_ 33 3 0] (a_ 8 [.own 513 0 1 [],.own 514 0 2 []]) (.alt [l_ 37 36 1,f_ 36 3 1,l_ 34 33 1,f_ 33 3 0] ⟨some 35,.mkS 2 [iV 0,.lst 1 []] 0 [],none⟩ Wq .stop) .stop))
def qH:=[m_ 40 2,n_ 41 40,B_ .eql 42 41 0]
def qI:=[L_ 43 8 2,s_ 6 43 2]
def qJ:=[m_ 44 1,B_ .quo 45 44 32,m_ 9 45]
def qK:=[m_ 46 9,B_ .mul 47 46 32,m_ 48 1,m_ 49 2,n_ 50 49,b_ .add 51 48 50,b_ .lss 52 47 51]
def fL:=tk [f_ 55 8 1,l_ 56 55 1,m_ 57 9,m_ 59 7,m_ 60 9,B_ .mul 61 60 32,m_ 62 9,B_ .add 63 62 1,B_ .mul 64 63 32,⟨some 65,.p (.slice (.t 59) (some (.t 61)) (some (.t 64)) 1),none⟩] (.alt [⟨some 65,.p (.slice (.t 59) (some (.t 61)) (some (.t 64)) 1),none⟩,B_ .mul 64 63 32,B_ .add 63 62 1,m_ 62 9,B_ .mul 61 60 32,m_ 60 9,m_ 59 7,m_ 57 9,l_ 56 55 1,f_ 55 8 1] ⟨some 58,.mkS 1 [.int .u8 0] 0 [],none⟩ (.alt [m_ 57 9,l_ 56 55 1,f_ 55 8 1] ⟨some 66,.app 1 1 (.t 58) (.t 65),none⟩ (tk [⟨some 67,.p (.build [iV 0,.own 4290 0 1 []] [(0,1,.t 57),(1,1,.t 66)]),none⟩] (.alt [l_ 56 55 1,f_ 55 8 1] ⟨some 68,.mkS 2 [iV 0,.lst 1 []] 1 [(0,.t 67)],none⟩ (.alt [] ⟨some 69,.app 2 32 (.t 56) (.t 68),none⟩ (tk [f_ 70 8 1] (.alt [] (s_ 70 69 1) .fin .stop)) .stop) .stop)) .stop) .stop)
def fM:=[m_ 53 9,B_ .add 54 53 1,m_ 9 54]
def qA:IR:=(.seq (sr qK (.ite (.t 52) .skip (.exit 2))) (.seq (.block 3 (.draw fL)) (.reg fM)))
def fN:=[L_ 71 8 2,s_ 6 71 2]
def EA:Es:=⟨3,72,[.cell 6 2 true],sr qB (sr qC (.seq (Vh 0 pZ) (sr qF (sd qG (.seq (sr qH (iz 42 (rr qI))) (.seq (sr qJ (Vh 2 qA)) (rr fN)))))))⟩
def AC (D:Aq):Prop:=∀a0 a1 a2 r,wJ a0 a1 a2=some r→D 292 ⟨[.agg (Ae a0),iV a1,Df a2],[]⟩ ⟨.agg (Ai r u_ (Br 0)),[],[]⟩
abbrev Gb:=fun (r:List (Nat×List V))=>(384,[At 385 [],Ac 386 []])::r
abbrev Hg:=fun x0 x1 (r:List (Nat×V))=>(1,iV x0)::(2,Df x1)::(6,.ptr 384 0)::r
theorem GX (H303:AI C):AC (FO C EA):=by
 intro a0 a1 a2 r h0
 refine f0 (Ay 4 (Hg a1 a2 [(3,.ptr 192 0)]) (Gb [(192,Ae a0)]) (Ce (Ak (st (c_ (v:=.agg (Ae a0)) (Bq ⟨tv,tv⟩ rfl (nl rfl)) (bb h0 fun r1 e2 h0=>Tx (H303 a0 r1 e2) (af rfl) (o_ (Ay 2 (Hg a1 a2 [(3,.ptr 192 0),(7,At 704 r1)]) (Gb [(192,Ae a0)]) (Ce (Cm (bb h0 fun r18 e19 h0=>Fc (R:=(fun S=>∃p13:List UInt8,p13=r18∧S=⟨Hg a1 a2 [(3,.ptr 192 0),(7,At 704 p13)],Gb [(192,Ae a0)],[]⟩)) (Nl a1 a2) (fun s S=>match s with | p7=>S=⟨Hg a1 a2 [(3,.ptr 192 0),(7,At 704 p7)],Gb [(192,Ae a0)],[]⟩) e19 _ (Ho (by kernel_rfl)) rfl 0 (fun _=>rfl) ?_ ?_)))))))))))
 ·rintro S _ hfg ⟨p13,rfl,rfl⟩
  refine Hz _ hfg (Ce (Ak (st (Dj rfl tv (st (Dj rfl tv (bb h0 fun s20 e21 h0=>st (c_ (Ir (e:=Hm) (y:=s20) rfl rfl tv ⟨tv,tv⟩ rfl rfl e21) (st (Dj rfl tv (st (copy_ (e:=Hm) (l1:=a2) rfl rfl tv rfl (Td (Hz ⟨[(1,iV a1),(2,Df a2),(3,.ptr 192 0),(6,.ptr 384 0),(7,At 704 (ovl p13 a1.toNat (a2.take s20.length)))],[(192,Ae a0),(384,[At 385 [],Ac 386 []])],[]⟩ (fg ⟨rfl,rfl,rfl,rfl,congrArg (fun z=>some ((.own 704 0 1 z:V))) Hq,tv⟩ ⟨rfl,rfl,tv⟩) (Ce (gg h0 fun c22 h0=>EZ (fun S=>S=⟨Hg a1 a2 [(7,At 704 (ovl p13 a1.toNat (a2.take s20.length))),(8,.ptr 512 0)],Gb [(512,[Df a0.held,Ac 2240 (([]:List Aa)++a0.Ab)])],[]⟩) ?_ (fun J23=>?_)))))))))))))))))
  ·rintro _ rfl
   refine Ce (Ce (Ak (st (Dj rfl tv (Lo rfl (o_ (Ay 2 (Hg a1 a2 [(7,At 704 (ovl p13 a1.toNat (a2.take s20.length))),(8,.ptr 512 0),(42,.bool ((a2.length:Int)==0))]) (Gb [(512,[Df a0.held,Ac 2240 (([]:List Aa)++a0.Ab)])]) (El h0 (fun c24 h0=>?_) (fun c24 h0=>?_)))))))))
   ·obtain rfl:=sj h0
    exact Dz 5
   ·refine xZ (yE (Ce (Ce (Ak (st (Dj rfl tv (st (c_ (Bq ⟨tv,tv,tv⟩ rfl (by decide)) (o_ (Ay 2 (Hg a1 a2 [(7,At 704 (ovl p13 a1.toNat (a2.take s20.length))),(8,.ptr 512 0),(9,iV (wi ((a1).tdiv 32)))]) (Gb [(512,[Df a0.held,Ac 2240 (([]:List Aa)++a0.Ab)])]) (Cm (bb h0 fun r53 e54 h0=>Fc (R:=(fun S=>∃p45:List Aa,p45=r53∧S=⟨[(6,.ptr 384 0),(8,.ptr 512 0)],Gb [(512,[Df a0.held,Ac 2240 p45])],[]⟩)) (Lc a1 a2 p13 s20) (fun s S=>match s with | (p34,p35)=>S=⟨Hg a1 a2 [(7,At 704 (ovl p13 a1.toNat (a2.take s20.length))),(8,.ptr 512 0),(9,iV p34)],Gb [(512,[Df a0.held,Ac 2240 p35])],[]⟩) e54 _ (Ho (by kernel_rfl)) rfl 2 (fun _=>rfl) ?_ ?_))))))))))))
    ·rintro S _ hfg ⟨p45,rfl,rfl⟩
     refine Hz _ hfg ?_
     obtain rfl:=sj h0
     exact Dz 5
    ·rintro ⟨p34,p35⟩ o1 _ K1 rfl h1 hx1 hK1 hE1 hR1
     unfold Lc at h1
     refine Ce (Ce (Ak (st (Dj rfl tv (st (c_ (Bq t3 rfl tv) (st (Dj rfl tv (st (Dj rfl tv (Lo rfl (st (c_ (Bq t3 rfl tv) (st (c_ (Bq t3 rfl tv) (Td (bv h1 fun v46 e47 h1=>Hz ⟨Hg a1 a2 [(7,At 704 (ovl p13 a1.toNat (a2.take s20.length))),(8,.ptr 512 0),(9,iV p34),(52,.bool v46)],Gb [(512,[Df a0.held,Ac 2240 p35])],[]⟩ (Ho (by subst e47; kernel_rfl)) (El h1 (fun c48 h1=>?_) (fun c48 h1=>?_)))))))))))))))))))
     ·refine xW 4 (bb h1 fun s49 e50 h1=>gg h1 fun c51 h1=>gg h1 fun c52 h1=>Ez (Ca tv (c_ (Bq ⟨tv,tv⟩ rfl tv) (⟨tv,Ca tv (c_ (Bq ⟨tv,tv⟩ rfl (nl rfl)) (⟨tv,Ca tv (Dj rfl tv (⟨tv,Ca tv (Dj rfl tv (⟨tv,Ca tv (Dj rfl tv (⟨tv,Ca tv (c_ (Bq t3 rfl tv) (⟨tv,Ca tv (Dj rfl tv (⟨tv,Ca tv (c_ (Bq t3 rfl tv) (⟨tv,Ca tv (c_ (Bq t3 rfl tv) (⟨tv,Ca tv (c_ (Ir (e:=Hm) (y:=s49) rfl rfl tv ⟨tv,tv,tv⟩ rfl rfl e50) (⟨tv,Ep (Xj tv tv (d0 ⟨⟨.inl tv,Bc (Ir (e:=Hm) (y:=s49) rfl rfl tv ⟨tv,tv,tv⟩ rfl rfl e50) rfl⟩,⟨.inl tv,Bc (Bq t3 rfl tv) rfl⟩,⟨.inl tv,Bc (Bq t3 rfl tv) rfl⟩,⟨.inl tv,Bc (Yn (v:=iV p34) rfl tv) rfl⟩,⟨.inl tv,Bc (Bq t3 rfl tv) rfl⟩,⟨.inl tv,Bc (Yn (v:=iV p34) rfl tv) rfl⟩,⟨.inl tv,Bc (Yn (v:=At 704 (ovl p13 a1.toNat (a2.take s20.length))) rfl tv) rfl⟩,⟨.inl tv,Bc (Yn (v:=iV p34) rfl tv) rfl⟩,⟨.inl tv,Bc (Bq ⟨tv,tv⟩ rfl (nl rfl)) rfl⟩,⟨.inl tv,Bc (Bq ⟨tv,tv⟩ rfl tv) rfl⟩,tv⟩ (Ep (Qg (e:=Hm) (l0:=([]:List UInt8)) (l1:=s49) rfl rfl tv rfl (by decide) c51 (dw [(1,iV a1),(2,Df a2),(6,.ptr 384 0),(7,At 704 (ovl p13 a1.toNat (a2.take s20.length))),(8,.ptr 512 0),(9,iV p34),(55,.ptr 512 1),(56,Ac 2240 p35),(57,iV p34),(66,At 3712 (([]:List UInt8)++s49))] [(384,[At 385 [],Ac 386 []]),(512,[Df a0.held,Ac 2240 p35])] hB (Ca tv (c_ (v:=.agg [iV p34,At 3712 (([]:List UInt8)++s49)]) (Bq ⟨tv,tv,tv⟩ rfl ⟨⟨rfl,rfl,nl rfl⟩,⟨rfl,rfl,nl rfl⟩,tv⟩) (⟨tv,Ep (Xj ⟨tv,tv⟩ ⟨⟨nl rfl,rfl,rfl⟩,tv⟩ (d0 hB (Ep (Qg (e:=Aj) (l0:=p35) (l1:=([Aa.mk p34 (([]:List UInt8)++s49)]:List Aa)) rfl rfl tv rfl (by decide) c52 (d0 tv ?_)) Cg))) Cg⟩))))) Cg))) Cg⟩))⟩))⟩))⟩))⟩))⟩))⟩))⟩))⟩))⟩))))
      refine Ca tv (c_ (Bq ⟨tv,tv⟩ rfl tv) (⟨tv,Ep (Jg rfl rfl tv rfl rfl rfl (nl rfl) (d0 tv (d_ (Ay 2 (Hg a1 a2 [(7,At 704 (ovl p13 a1.toNat (a2.take s20.length))),(8,.ptr 512 0),(9,iV p34)]) (Gb [(512,[Df a0.held,.own 2240 0 2 ((p35++([Aa.mk p34 (([]:List UInt8)++s49)]:List Aa)).map Aj)])]) (Ak (st (Dj rfl tv (st (c_ (Bq t3 rfl tv) (st (Dj rfl tv (Td ?_)))))))))))) Cg⟩))
      obtain rfl:=sj h1
      exact kn hK1 rfl rfl
     ·obtain rfl:=sj h1
      obtain rfl:=hx1 _ rfl
      refine Vm rfl ?_
      exact jn hE1 ⟨_,rfl,rfl⟩
  ·refine Ca tv (c_ (Bq ⟨tv,tv⟩ rfl tv) ?_)
   refine ⟨tv,Ca tv (c_ (Bq ⟨tv,tv⟩ rfl (nl rfl)) (⟨tv,Ca tv (c_ (Bq ⟨tv,tv⟩ rfl tv) (⟨tv,Ca tv (c_ (Bq ⟨tv,tv⟩ rfl (nl rfl)) (⟨tv,Ep (Xj tv tv ?_) ?_⟩))⟩))⟩))⟩
   ·refine d0 hB ?_
    refine Ep (Qg (e:=Aj) (l0:=([]:List Aa)) (l1:=a0.Ab) rfl rfl tv rfl (by decide) c22 ?_) ?_
    ·refine d0 hB ?_
     refine Ca tv (c_ (v:=.agg [Df a0.held,Ac 2240 (([]:List Aa)++a0.Ab)]) (Bq ⟨tv,tv,tv⟩ rfl ⟨⟨rfl,rfl,nl rfl⟩,⟨rfl,rfl,nl rfl⟩,tv⟩) (⟨tv,Ep (Gs (d0 ⟨⟨.inl tv,Bc (Bq ⟨tv,tv,tv⟩ rfl ⟨⟨rfl,rfl,nl rfl⟩,⟨rfl,rfl,nl rfl⟩,tv⟩) rfl⟩,⟨.inl tv,Bc (Bq ⟨tv,tv⟩ rfl (nl rfl)) rfl⟩,⟨.inl tv,Bc (Bq ⟨tv,tv⟩ rfl tv) rfl⟩,tv⟩ (Ep (Jg rfl rfl tv rfl rfl rfl (nl rfl) (d0 tv (bY ?_))) Cg))) Cg⟩))
     exact jn J23 rfl
    ·refine Ep (Gs ?_) Cg
     refine d0 hB (Ep (Qg (e:=Aj) (l0:=([]:List Aa)) (l1:=a0.Ab) rfl rfl tv rfl (by decide) c22 (d0 hB (Ca tv (c_ (v:=.agg [Df a0.held,Ac 2240 (([]:List Aa)++a0.Ab)]) (Bq ⟨tv,tv,tv⟩ rfl ⟨⟨rfl,rfl,nl rfl⟩,⟨rfl,rfl,nl rfl⟩,tv⟩) (⟨tv,Ep (Jg rfl rfl tv rfl rfl rfl (nl rfl) (d0 tv (bY ?_))) Cg⟩))))) Cg)
     exact jn J23 rfl
   ·refine Ep (Gs ?_) Cg
    refine d0 hB (Ep (Xj tv tv (d0 hB (Ep (Qg (e:=Aj) (l0:=([]:List Aa)) (l1:=a0.Ab) rfl rfl tv rfl (by decide) c22 (d0 hB (Ca tv (c_ (v:=.agg [Df a0.held,Ac 2240 (([]:List Aa)++a0.Ab)]) (Bq ⟨tv,tv,tv⟩ rfl ⟨⟨rfl,rfl,nl rfl⟩,⟨rfl,rfl,nl rfl⟩,tv⟩) (⟨tv,Ep (Jg rfl rfl tv rfl rfl rfl (nl rfl) (d0 tv (bY ?_))) Cg⟩))))) Cg))) Cg)
    exact jn J23 rfl
 ·rintro p7 o1 _ K1 rfl h1 hx1 hK1 hE1 hR1
  unfold Nl at h1
  refine Ce (Ce (Ak (st (Dj rfl tv (xO rfl (st (Dj rfl tv (st (Dj rfl tv (Lo rfl (st (c_ (Bq t3 rfl tv) (st (c_ (Bq t3 rfl tv) (st (Dj rfl tv (st (Hy (u:=At 704 p7) rfl (fun hg=>(Yn (v:=At 704 p7) rfl tv)) (st (Hy (u:=iV (p7.length:Int)) rfl (fun hg=>(EV (e:=Hm) (l0:=p7) rfl rfl (fun _=>hg))) (st (Hy (u:=iV (((p7.length:Int)).tmod 32)) rfl (fun hg=>(Bq ⟨(fun _=>hg),tv,tv⟩ rfl (by decide))) (st (Hy (u:=.bool ((((p7.length:Int)).tmod 32) != 0)) rfl (fun hg=>(Bq ⟨(fun _=>hg),tv,tv⟩ rfl tv)) (st (Jm rfl rfl rfl tv (fun h=>vU h) rfl (Td (bv h1 fun v14 e15 h1=>Hz ⟨Hg a1 a2 [(3,.ptr 192 0),(7,At 704 p7),(24,.bool v14)],Gb [(192,Ae a0)],[]⟩ (Ho (by subst e15; kernel_rfl)) (El h1 (fun c16 h1=>?_) (fun c16 h1=>?_))))))))))))))))))))))))))))))
  ·refine xZ (yE (Cm (Ak (st (Dj rfl tv (st (Xj ⟨tv,tv⟩ ⟨⟨nl rfl,rfl,rfl⟩,tv⟩ (gg h1 fun c17 h1=>st (Qg (e:=Hm) (l0:=p7) (l1:=([(0:UInt8)]:List UInt8)) rfl rfl tv rfl (by decide) c17 (st (Dj rfl tv (Td (CR ?_)))))))))))))
   obtain rfl:=sj h1
   exact kn hK1 rfl rfl
  ·obtain rfl:=sj h1
   obtain rfl:=hx1 _ rfl
   refine Vm rfl ?_
   exact jn hE1 ⟨_,rfl,rfl⟩

/- loop.example/g00149/spec.l01Own -/
def qM:=[X_ 1 0,a_ 2 [.own 129 0 1 [],.own 130 0 2 []]]
def qN:List Bj:=[⟨some 5,.mkS 1 [.int .u8 0] 0 [],none⟩,f_ 6 1 0,l_ 7 6 1,⟨some 8,.app 1 1 (.t 5) (.t 7),none⟩,⟨some 9,.p (.build [.own 577 0 1 [],.own 578 0 2 []] [(0,1,.t 8)]),none⟩,a_ 3 [.own 193 0 1 [],.own 194 0 2 []],s_ 3 9 2]
def qO:=[i_ 4 0]
def qP:=[m_ 10 4,f_ 11 1 1,l_ 12 11 1,n_ 13 12,b_ .lss 14 10 13]
def qQ:=tk [f_ 17 3 1,l_ 18 17 1,f_ 19 1 1,l_ 20 19 1,m_ 21 4,x_ 22 20 21 2,f_ 23 22 0,l_ 24 23 1,f_ 26 1 1,l_ 27 26 1,m_ 28 4,x_ 29 27 28 2,f_ 30 29 1,l_ 31 30 1] (.alt [l_ 31 30 1,f_ 30 29 1,x_ 29 27 28 2,m_ 28 4,l_ 27 26 1,f_ 26 1 1,l_ 24 23 1,f_ 23 22 0,x_ 22 20 21 2,m_ 21 4,l_ 20 19 1,f_ 19 1 1,l_ 18 17 1,f_ 17 3 1] ⟨some 25,.mkS 1 [.int .u8 0] 0 [],none⟩ (.alt [l_ 24 23 1,f_ 23 22 0,x_ 22 20 21 2,m_ 21 4,l_ 20 19 1,f_ 19 1 1,l_ 18 17 1,f_ 17 3 1] ⟨some 32,.app 1 1 (.t 25) (.t 31),none⟩ (tk [⟨some 33,.p (.build [iV 0,.own 2114 0 1 []] [(0,1,.t 24),(1,1,.t 32)]),none⟩] (.alt [l_ 18 17 1,f_ 17 3 1] ⟨some 34,.mkS 2 [iV 0,.lst 1 []] 1 [(0,.t 33)],none⟩ (.alt [] ⟨some 35,.app 2 32 (.t 18) (.t 34),none⟩ (tk [f_ 36 3 1] (.alt [] (s_ 36 35 1) .fin .stop)) .stop) .stop)) .stop) .stop)
def qR:=[m_ 15 4,B_ .add 16 15 1,m_ 4 16]
def qL:IR:=(.seq (sr qP (.ite (.t 14) .skip (.exit 0))) (.seq (.block 1 (.draw qQ)) (.reg qR)))
def qS:=[L_ 37 3 2,s_ 2 37 2]
def EB:Es:=⟨1,38,[.cell 2 2 true],sr qM (sr qN (.seq (sr qO (Vh 0 qL)) (rr qS)))⟩
def AD (D:Aq):Prop:=∀a0 r,wL a0=some r→D 293 ⟨[.agg (Ae a0)],[]⟩ ⟨.agg (Ai r (Br 0) (Br 1)),[],[]⟩
abbrev Sf:=fun x0 (r:List (Nat×List V))=>(64,Ae x0)::(128,[At 129 [],Ac 130 []])::r
abbrev Vv:=fun (r:List (Nat×V))=>(1,.ptr 64 0)::(2,.ptr 128 0)::(3,.ptr 192 0)::r
theorem GY:AD (FO C EB):=by
 intro a0 r h0
 refine f0 (Ay 4 [(1,.ptr 64 0),(2,.ptr 128 0)] (Sf a0 []) (Bn 4 (Ak (gg h0 fun c1 h0=>st (Qg (e:=Hm) (l0:=([]:List UInt8)) (l1:=a0.held) rfl rfl tv rfl (by decide) c1 (st (c_ (v:=.agg [At 320 (([]:List UInt8)++a0.held),Ac 578 []]) (Bq ⟨tv,tv⟩ rfl ⟨⟨rfl,rfl,nl rfl⟩,tv⟩) (o_ (Ay 8 (Vv [(4,iV 0)]) (Sf a0 [(192,[At 320 (([]:List UInt8)++a0.held),Ac 578 []])]) (Cm (bb h0 fun r28 e29 h0=>Fc (R:=(fun S=>∃p20:List Aa,p20=r28∧S=⟨[(2,.ptr 128 0),(3,.ptr 192 0)],[(128,[At 129 [],Ac 130 []]),(192,[At 320 (([]:List UInt8)++a0.held),Ac 578 p20])],[]⟩)) (Ld a0) (fun s S=>match s with | (p9,p10)=>S=⟨Vv [(4,iV p9)],Sf a0 [(192,[At 320 (([]:List UInt8)++a0.held),Ac 578 p10])],[]⟩) e29 _ (Ho (by kernel_rfl)) rfl 0 (fun _=>rfl) ?_ ?_)))))))))))
 ·rintro S _ hfg ⟨p20,rfl,rfl⟩
  refine Hz _ hfg ?_
  obtain rfl:=sj h0
  exact Dz 5
 ·rintro ⟨p9,p10⟩ o1 _ K1 rfl h1 hx1 hK1 hE1 hR1
  refine Bn 5 (Ak (Lo rfl (o_ (Ay 2 (Vv [(4,iV p9),(14,.bool (decide (p9<(a0.Ab.length:Int))))]) (Sf a0 [(192,[At 320 (([]:List UInt8)++a0.held),Ac 578 p10])]) (El h1 (fun c21 h1=>?_) (fun c21 h1=>?_))))))
  ·refine xW 4 (bb h1 fun y22 e23 h1=>gg h1 fun c24 h1=>gg h1 fun c25 h1=>Bn 5 (Ez (d_ (CW rfl rfl rfl e23 (Bn 5 (Ez (d_ (CW rfl rfl rfl e23 (Bn 2 (Ez (Ep (Xj tv tv (dw [(1,.ptr 64 0),(2,.ptr 128 0),(3,.ptr 192 0),(4,iV p9),(17,.ptr 192 1),(18,Ac 578 p10),(19,.ptr 64 1),(20,Ag a0.Ab),(21,iV p9),(22,.iptr (Aj y22)),(23,.iptr (Aj y22)),(24,iV y22.at_),(25,At 1600 []),(26,.ptr 64 1),(27,Ag a0.Ab),(28,iV p9),(29,.iptr (Aj y22)),(30,.iptr [Df y22.data]),(31,Df y22.data)] [(64,Ae a0),(128,[At 129 [],Ac 130 []]),(192,[At 320 (([]:List UInt8)++a0.held),Ac 578 p10])] ⟨⟨.inl tv,Bc (Bq ⟨tv,tv⟩ rfl (nl rfl)) rfl⟩,⟨.inl tv,Bc (Bq ⟨tv,tv⟩ rfl (nl rfl)) rfl⟩,⟨.inl tv,Bc (HV rfl rfl e23) rfl⟩,⟨.inl tv,Bc (Yn (v:=iV p9) rfl tv) rfl⟩,⟨.inl tv,Bc (Bq ⟨tv,tv⟩ rfl (nl rfl)) rfl⟩,⟨.inl tv,Bc (Bq ⟨tv,tv⟩ rfl tv) rfl⟩,⟨.inl tv,Bc (Bq ⟨tv,tv⟩ rfl (nl rfl)) rfl⟩,⟨.inl tv,Bc (Bq ⟨tv,tv⟩ rfl (nl rfl)) rfl⟩,⟨.inl tv,Bc (HV rfl rfl e23) rfl⟩,⟨.inl tv,Bc (Yn (v:=iV p9) rfl tv) rfl⟩,⟨.inl tv,Bc (Bq ⟨tv,tv⟩ rfl (nl rfl)) rfl⟩,⟨.inl tv,Bc (Bq ⟨tv,tv⟩ rfl tv) rfl⟩,⟨.inl tv,Bc (Bq ⟨tv,tv⟩ rfl (nl rfl)) rfl⟩,⟨.inl tv,Bc (Bq ⟨tv,tv⟩ rfl tv) rfl⟩,tv⟩ ?_)) Cg)))))))))))
   refine Ep (Qg (e:=Hm) (l0:=([]:List UInt8)) (l1:=y22.data) rfl rfl tv rfl (by decide) c24 (d0 ⟨⟨.inl tv,Bc (Bq ⟨tv,tv⟩ rfl (nl rfl)) rfl⟩,⟨.inl tv,Bc (Bq ⟨tv,tv⟩ rfl (nl rfl)) rfl⟩,⟨.inl tv,Bc (HV rfl rfl e23) rfl⟩,⟨.inl tv,Bc (Yn (v:=iV p9) rfl tv) rfl⟩,⟨.inl tv,Bc (Bq ⟨tv,tv⟩ rfl (nl rfl)) rfl⟩,⟨.inl tv,Bc (Bq ⟨tv,tv⟩ rfl tv) rfl⟩,⟨.inl tv,Bc (Bq ⟨tv,tv⟩ rfl (nl rfl)) rfl⟩,⟨.inl tv,Bc (Bq ⟨tv,tv⟩ rfl tv) rfl⟩,tv⟩ (Ca tv (c_ (v:=.agg [iV y22.at_,At 1600 (([]:List UInt8)++y22.data)]) (Bq ⟨tv,tv,tv⟩ rfl ⟨⟨rfl,rfl,nl rfl⟩,⟨rfl,rfl,nl rfl⟩,tv⟩) (⟨tv,Ep (Xj ⟨tv,tv⟩ ⟨⟨nl rfl,rfl,rfl⟩,tv⟩ (d0 hB (Ep (Qg (e:=Aj) (l0:=p10) (l1:=([Aa.mk y22.at_ (([]:List UInt8)++y22.data)]:List Aa)) rfl rfl tv rfl (by decide) c25 (d0 tv (Ca tv (c_ (Bq ⟨tv,tv⟩ rfl tv) (⟨tv,Ep (Jg rfl rfl tv rfl rfl rfl (nl rfl) (d0 tv (bY (CR (bv h1 fun v26 e27 h1=>Hz ⟨Vv [(4,iV p9)],Sf a0 [(192,[At 320 (([]:List UInt8)++a0.held),Ac 578 v26])],[]⟩ (Ho (by subst e27; kernel_rfl)) (Bn 4 ?_)))))) Cg⟩))))) Cg))) Cg⟩))))) Cg
   obtain rfl:=sj h1
   exact kn hK1 rfl rfl
  ·obtain rfl:=sj h1
   obtain rfl:=hx1 _ rfl
   refine Vm rfl ?_
   exact jn hE1 ⟨_,rfl,rfl⟩

/- loop.example/g00149/spec.DeviceWrite -/
def lN:=[X_ 3 0,a_ 6 [.own 385 0 1 [],.own 386 0 2 []],i_ 7 0]
def lO:=[m_ 9 2,n_ 10 9,B_ .gtr 11 10 65536]
def lP:=[iQ 12 (.build [.own 769 0 1 [],.own 770 0 2 []] []),s_ 6 12 2,i_ 7 2]
def lQ:=[L_ 13 3 2,q_ 14 290 [.t 13],N_ 15 14]
def lR:=[iQ 16 (.build [.own 1025 0 1 [],.own 1026 0 2 []] []),s_ 6 16 2,i_ 7 1]
def lS:=[m_ 17 1,m_ 18 2,n_ 19 18,q_ 20 291 [.t 17,.t 19],N_ 21 20]
def lU:=[iQ 22 (.build [.own 1409 0 1 [],.own 1410 0 2 []] []),s_ 6 22 2,i_ 7 9]
def lV:=[L_ 23 3 2,m_ 24 1,m_ 25 2,q_ 26 292 [.t 23,.t 24,.t 25],a_ 8 [.own 513 0 1 [],.own 514 0 2 []],s_ 8 26 2]
def lW:=[f_ 27 8 1,l_ 28 27 1,n_ 29 28,B_ .gtr 30 29 4096]
def lX:=[iQ 31 (.build [.own 1985 0 1 [],.own 1986 0 2 []] []),s_ 6 31 2,i_ 7 6]
def fJ:=[L_ 32 8 2,q_ 33 293 [.t 32],s_ 6 33 2,i_ 7 0]
def DH:Es:=⟨3,34,[.cell 6 2 true,.t 7],sr lN (.seq (sr lO (iz 11 (rr lP))) (.seq (sr lQ (iz 15 (rr lR))) (.seq (sr lS (iz 21 (rr lU))) (sr lV (.seq (sr lW (iz 30 (rr lX))) (rr fJ))))))⟩
def zN (D:Aq):Prop:=∀a0 a1 a2 r,wB a0 a1 a2=some r→D 229 ⟨[.agg (Ae a0),iV a1,Df a2],[]⟩ ⟨.tup [.agg (Ai r.1 (Br 0) (Br 1)),iV r.2],[],[]⟩
abbrev Pj:=fun (r:List (Nat×List V))=>(384,[At 385 [],Ac 386 []])::r
abbrev Vu:=fun x0 x1 (r:List (Nat×V))=>(1,iV x0)::(2,Df x1)::(3,.ptr 192 0)::(6,.ptr 384 0)::r
theorem GF (H290:AA C) (H291:AB C) (H292:AC C) (H293:AD C):zN (FO C DH):=by
 intro a0 a1 a2 r h0
 refine f0 (Ay 5 (Vu a1 a2 []) (Pj [(192,Ae a0)]) (Bn 3 (Ak (Lo rfl (o_ (Ay 2 (Vu a1 a2 [(11,.bool (decide ((a2.length:Int)>65536)))]) (Pj [(192,Ae a0)]) (El h0 (fun c1 h0=>?_) (fun c1 h0=>?_))))))))
 ·obtain rfl:=sj h0
  exact Dz 6
 ·refine Bn 5 (Ak (bb h0 fun r2 e3 h0=>Qi (H290 a0 r2 e3) (o_ (Ay 2 (Vu a1 a2 [(15,.bool (!r2))]) (Pj [(192,Ae a0)]) (El h0 (fun c4 h0=>?_) (fun c4 h0=>?_))))))
  ·obtain rfl:=sj h0
   exact Dz 6
  ·refine Bn 6 (Ak (Lo rfl (bb h0 fun r5 e6 h0=>Qi (H291 a1 (a2.length:Int) r5 e6) (o_ (Ay 2 (Vu a1 a2 [(21,.bool (!r5))]) (Pj [(192,Ae a0)]) (El h0 (fun c7 h0=>?_) (fun c7 h0=>?_)))))))
   ·obtain rfl:=sj h0
    exact Dz 6
   ·refine Bn 6 (Ak (bb h0 fun r8 e9 h0=>st (Io (r:=.agg (Ai r8 u_ (Br 0))) true (H292 a0 a1 a2 r8 e9) ⟨tv,tv,tv,tv⟩ rfl rfl (fun h=>nomatch h) (o_ (Ay 3 [(6,.ptr 384 0),(8,.ptr 512 0)] (Pj [(512,Ai r8 u_ (Br 1664))]) (Bn 4 (Ak (xO rfl (o_ (Ay 2 [(6,.ptr 384 0),(8,.ptr 512 0),(30,.bool (decide ((r8.Ab.length:Int)>4096)))] (Pj [(512,Ai r8 u_ (Br 1664))]) (El h0 (fun c10 h0=>?_) (fun c10 h0=>?_))))))))))))
    ·obtain rfl:=sj h0
     exact Dz 6
    ·refine Bn 4 (Ak (bb h0 fun r11 e12 h0=>st (Io (r:=.agg (Ai r11 (Br 0) (Br 1))) true (H293 r8 r11 e12) ⟨tv,tv⟩ rfl rfl (fun h=>nomatch h) (o_ ?_))))
     obtain rfl:=sj h0
     exact Dz 4

/- loop.example/g00149/laws.toByteS -/
def mE:List Bj:=[⟨some 2,.nilS 1,none⟩]
def mG:List Bj:=[m_ 5 0,n_ 6 5,⟨some 7,.make 1 1 [.int .u8 0] (.t 6) (.t 6),none⟩,m_ 3 7]
def mH:=[i_ 4 0]
def mI:=[m_ 8 4,m_ 9 0,n_ 10 9,b_ .lss 11 8 10]
def mJ:=[m_ 14 3,m_ 15 4,m_ 16 0,m_ 17 4,x_ 18 16 17 1,l_ 19 18 1,x_ 20 14 15 1,s_ 20 19 1]
def mK:=[m_ 12 4,B_ .add 13 12 1,m_ 4 13]
def mD:IR:=(.seq (sr mI (.ite (.t 11) .skip (.exit 0))) (.seq (.block 1 (.reg mJ)) (.reg mK)))
def mL:=[m_ 21 3,m_ 2 21]
def DJ:Es:=⟨1,22,[.t 2],sr mE (sr mG (.seq (sr mH (Vh 0 mD)) (rr mL)))⟩
def dN (D:Aq):Prop:=∀a0 r,Vn a0=some r→D 231 ⟨[Df a0],[]⟩ ⟨At 0 r,[],[]⟩
theorem GH:dN (FO C DJ):=by
 intro a0 r h0
 refine f0 (Ay 3 [(0,Df a0)] [] (Ce (Ak (st (Dj rfl tv (Lo rfl (gg h0 fun c1 h0=>gg h0 fun c2 h0=>st (FF (e:=Hm) (0:UInt8) rfl rfl c1 rfl c2 rfl (o_ (Ay 7 [(0,Df a0),(3,At 448 (List.replicate (a0.length:Int).toNat (0:UInt8))),(4,iV 0)] [] (Cm (bb h0 fun r29 e30 h0=>Fc (R:=(fun S=>∃p21:List UInt8,p21=r29∧S=⟨[(3,At 448 p21)],[],[]⟩)) (Lb a0) (fun s S=>match s with | (p10,p11)=>S=⟨[(0,Df a0),(3,At 448 p10),(4,iV p11)],[],[]⟩) e30 _ (Ho (by kernel_rfl)) rfl 0 (fun _=>rfl) ?_ ?_))))))))))))
 ·rintro S _ hfg ⟨p21,rfl,rfl⟩
  refine Hz _ hfg ?_
  obtain rfl:=sj h0
  exact Dz 5
 ·rintro ⟨p10,p11⟩ o1 _ K1 rfl h1 hx1 hK1 hE1 hR1
  refine Bn 4 (Ak (Lo rfl (o_ (Ay 2 [(0,Df a0),(3,At 448 p10),(4,iV p11),(11,.bool (decide (p11<(a0.length:Int))))] [] (El h1 (fun c22 h1=>?_) (fun c22 h1=>?_))))))
  ·refine Bn 8 (Ak (bb h1 fun y23 e24 h1=>dM rfl rfl e24 (st (c_ (Bq ⟨tv,tv⟩ rfl (nl rfl)) (bb h1 fun y25 e26 h1=>FU rfl rfl e26 (bb h1 fun y27 e28 h1=>IQ y23 rfl rfl e28 (o_ (Ay 2 [(0,Df a0),(3,At 448 (p10.set p11.toNat y23)),(4,iV p11)] [] (Bn 4 ?_)))))))))
   obtain rfl:=sj h1
   exact kn hK1 rfl rfl
  ·obtain rfl:=sj h1
   obtain rfl:=hx1 _ rfl
   refine Vm rfl ?_
   exact jn hE1 ⟨_,rfl,rfl⟩

/- loop.example/g00149/laws.toSector -/
def uC:=[X_ 1 0,a_ 2 [iV 0,.own 130 0 1 []]]
def uD:=[a_ 3 [iV 0,.own 194 0 1 []]]
def uE:=[f_ 4 1 0,l_ 5 4 1,f_ 6 3 0,s_ 6 5 1]
def uF:=[f_ 7 1 1,l_ 8 7 1,q_ 9 231 [.t 8],f_ 10 3 1,s_ 10 9 1]
def uG:=[L_ 11 3 2,s_ 2 11 2]
def EP:Es:=⟨1,12,[.cell 2 2 true],sr uC (sr uD (sr uE (sr uF (rr uG))))⟩
def AP (D:Aq):Prop:=∀a0 r,gP a0=some r→D 346 ⟨[.agg (Aj a0)],[]⟩ ⟨.agg (gY r (Br 0)),[],[]⟩
theorem HM (H231:dN C):AP (FO C EP):=by
 intro a0 r h0
 refine f0 (Ay 15 [(1,.ptr 64 0),(2,.ptr 128 0),(3,.ptr 192 0)] [(64,Aj a0),(128,[iV 0,At 130 []]),(192,[iV a0.at_,At 194 []])] (Bn 3 (Ak (bb h0 fun r1 e2 h0=>Tx (H231 a0.data r1 e2) (af rfl) (o_ ?_)))))
 obtain rfl:=sj h0
 exact Dz 9

/- loop.example/g00149/laws.toSectorS -/
def qU:List Bj:=[⟨some 2,.nilS 2,none⟩]
def qV:List Bj:=[m_ 5 0,n_ 6 5,⟨some 7,.make 2 32 [iV 0,.lst 1 []] (.t 6) (.t 6),none⟩,m_ 3 7]
def qW:=[i_ 4 0]
def qX:=[m_ 8 4,m_ 9 0,n_ 10 9,b_ .lss 11 8 10]
def qY:=[m_ 14 3,m_ 15 4,m_ 16 0,m_ 17 4,x_ 18 16 17 2,L_ 19 18 2,q_ 20 346 [.t 19],x_ 21 14 15 2,s_ 21 20 2]
def qZ:=[m_ 12 4,B_ .add 13 12 1,m_ 4 13]
def qT:IR:=(.seq (sr qX (.ite (.t 11) .skip (.exit 0))) (.seq (.block 1 (.reg qY)) (.reg qZ)))
def rA:=[m_ 22 3,m_ 2 22]
def EC:Es:=⟨1,23,[.t 2],sr qU (sr qV (.seq (sr qW (Vh 0 qT)) (rr rA)))⟩
def AE (D:Aq):Prop:=∀a0 r,wN a0=some r→D 294 ⟨[Ag a0],[]⟩ ⟨Ac 32 r,[],[]⟩
theorem GZ (H346:AP C):AE (FO C EC):=by
 intro a0 r h0
 refine f0 (FK 3 [] [(128,160)] [(0,Ag a0)] [] (Ce (Ak (st (Dj rfl tv (Lo rfl (gg h0 fun c1 h0=>gg h0 fun c2 h0=>st (BY (e:=Aj) (Aa.mk 0 ([]:List UInt8)) rfl rfl c1 rfl c2 rfl (st (Dj rfl tv (Td (bv h0 fun v3 e4 h0=>Hz ⟨[(0,Ag a0),(3,Ac 480 v3)],[],[]⟩ (Ho (by subst e4; kernel_rfl)) (Ay 4 [(0,Ag a0),(3,Ac 480 v3),(4,iV 0)] [] (Cm (bb h0 fun r37 e38 h0=>Fc (R:=(fun S=>∃p27:List Aa,p27=r37∧S=⟨[(3,Ac 480 p27)],[],[]⟩)) (Nm a0) (fun s S=>match s with | (p14,p15)=>S=⟨[(0,Ag a0),(3,Ac 480 p14),(4,iV p15)],[],[]⟩) e38 _ (Ho (by kernel_rfl)) rfl 0 (fun _=>rfl) ?_ ?_)))))))))))))))
 ·rintro S _ hfg ⟨p27,rfl,rfl⟩
  refine Hz _ hfg ?_
  obtain rfl:=sj h0
  exact Dz 5
 ·rintro ⟨p14,p15⟩ o1 _ K1 rfl h1 hx1 hK1 hE1 hR1
  refine Bn 4 (Ak (Lo rfl (o_ (Ay 2 [(0,Ag a0),(3,Ac 480 p14),(4,iV p15),(11,.bool (decide (p15<(a0.length:Int))))] [] (El h1 (fun c28 h1=>?_) (fun c28 h1=>?_))))))
  ·refine Bn 8 (Ak (bb h1 fun y29 e30 h1=>dM rfl rfl e30 (st (c_ (v:=.agg (Aj y29)) (Bq ⟨tv,tv⟩ rfl (nl rfl)) (bb h1 fun r31 e32 h1=>Tx (H346 y29 r31 e32) (ar (af rfl)) (bb h1 fun y33 e34 h1=>FU rfl rfl e34 (bb h1 fun y35 e36 h1=>st (zG (y':=r31) rfl rfl tv rfl rfl rfl rfl e36 (nl rfl) rfl (Fj bA (Fj (iK (fun _=>rfl)) rfl)) rfl rfl (Td (CR (Hz ⟨[(0,Ag a0),(3,Ac 480 (p14.set p15.toNat r31)),(4,iV p15)],[],[]⟩ (fg ⟨rfl,congrArg (fun z=>some ((.own 480 0 2 z:V))) Kp,rfl,tv⟩ tv) (Bn 4 ?_))))))))))))
   obtain rfl:=sj h1
   exact kn hK1 rfl rfl
  ·obtain rfl:=sj h1
   obtain rfl:=hx1 _ rfl
   refine Vm rfl ?_
   exact jn hE1 ⟨_,rfl,rfl⟩

/- loop.example/g00149/laws.toDevice -/
def lY:=[X_ 1 0,a_ 2 [.own 129 0 1 [],.own 130 0 2 []]]
def lZ:=[a_ 3 [.own 193 0 1 [],.own 194 0 2 []]]
def mA:=[f_ 4 1 0,l_ 5 4 1,q_ 6 231 [.t 5],f_ 7 3 0,s_ 7 6 1]
def mB:=[f_ 8 1 1,l_ 9 8 1,q_ 10 294 [.t 9],f_ 11 3 1,s_ 11 10 1]
def mC:=[L_ 12 3 2,s_ 2 12 2]
def DI:Es:=⟨1,13,[.cell 2 2 true],sr lY (sr lZ (sr mA (sr mB (rr mC))))⟩
def zO (D:Aq):Prop:=∀a0 r,Yt a0=some r→D 230 ⟨[.agg (Ae a0)],[]⟩ ⟨.agg (Ai r (Br 0) (Br 33)),[],[]⟩
theorem GG (H231:dN C) (H294:AE C):zO (FO C DI):=by
 intro a0 r h0
 refine f0 (FK 4 [] [(130,162)] [(1,.ptr 64 0),(2,.ptr 128 0)] [(64,Ae a0),(128,[At 129 [],Ac 162 []])] (FK 3 [] [(194,226)] [(1,.ptr 64 0),(2,.ptr 128 0),(3,.ptr 192 0)] [(64,Ae a0),(128,[At 129 [],Ac 162 []]),(192,[At 193 [],Ac 226 []])] (Bn 3 (Ak (bb h0 fun r1 e2 h0=>Tx (H231 a0.held r1 e2) (af rfl) (o_ (Ay 3 [(1,.ptr 64 0),(2,.ptr 128 0),(3,.ptr 192 0)] [(64,Ae a0),(128,[At 129 [],Ac 162 []]),(192,[At 384 r1,Ac 226 []])] (Bn 3 (Ak (bb h0 fun r3 e4 h0=>Tx (H294 a0.Ab r3 e4) (Fj (Tb rfl) rfl) (o_ ?_)))))))))))
 obtain rfl:=sj h0
 exact Dz 9

/- loop.example/g00149/laws.eqByteS -/
def mU:=[k_ 4 (.bool false)]
def mV:=[m_ 6 0,n_ 7 6,m_ 8 1,n_ 9 8,b_ .neq 10 7 9]
def mW:=[k_ 4 (.bool false)]
def mX:=[i_ 5 0]
def mY:=[m_ 11 5,m_ 12 0,n_ 13 12,b_ .lss 14 11 13]
def mZ:=tk [m_ 17 0,m_ 18 5,x_ 19 17 18 1,l_ 20 19 1,m_ 21 1,m_ 22 5,x_ 23 21 22 1,l_ 24 23 1,b_ .neq 25 20 24] .fin
def nA:=[k_ 4 (.bool false)]
def nB:=[m_ 15 5,B_ .add 16 15 1,m_ 5 16]
def mS:IR:=(.seq (sr mY (.ite (.t 14) .skip (.exit 0))) (.seq (.block 1 (sd mZ (iz 25 (rr nA)))) (.reg nB)))
def nC:=[k_ 4 (.bool true)]
def DL:Es:=⟨2,26,[.t 4],sr mU (.seq (sr mV (iz 10 (rr mW))) (.seq (sr mX (Vh 0 mS)) (rr nC)))⟩
def dO (D:Aq):Prop:=∀a0 a1 r,cD a0 a1=some r→D 233 ⟨[Df a0,Df a1],[]⟩ ⟨.bool r,[],[]⟩
theorem GJ:dO (FO C DL):=by
 intro a0 a1 r h0
 refine f0 (Ay 3 [(0,Df a0),(1,Df a1)] [] (Bn 3 (Ak (Lo rfl (st (Dj rfl tv (Lo rfl (o_ (Ay 2 [(0,Df a0),(1,Df a1),(10,.bool ((a0.length:Int) != (a1.length:Int)))] [] (El h0 (fun c1 h0=>?_) (fun c1 h0=>?_)))))))))))
 ·obtain rfl:=sj h0
  exact Dz 4
 ·refine Ay 6 [(0,Df a0),(1,Df a1),(5,iV 0)] [] (Cm (bb h0 fun r22 e23 h0=>Fc (R:=(fun S=>.inl ()=r22∧S=⟨[],[],[]⟩)) (Ng a0 a1) (fun s S=>match s with | p8=>S=⟨[(0,Df a0),(1,Df a1),(5,iV p8)],[],[]⟩) e23 _ (Ho (by kernel_rfl)) rfl 0 (fun _=>rfl) ?_ ?_))
  ·rintro S _ hfg ⟨rfl,rfl⟩
   refine Hz _ hfg ?_
   obtain rfl:=sj h0
   exact Dz 4
  ·rintro p8 o1 _ K1 rfl h1 hx1 hK1 hE1 hR1
   refine Bn 4 (Ak (Lo rfl (o_ (Ay 2 [(0,Df a0),(1,Df a1),(5,iV p8),(14,.bool (decide (p8<(a0.length:Int))))] [] (El h1 (fun c16 h1=>?_) (fun c16 h1=>?_))))))
   ·refine xW 5 (bb h1 fun y17 e18 h1=>bb h1 fun y19 e20 h1=>Bn 2 (Ez (d_ (CW rfl rfl rfl e18 (Bn 3 (Ez (d_ (CW rfl rfl rfl e20 (Ay 3 [(0,Df a0),(1,Df a1),(5,iV p8),(25,.bool (((y17).toNat:Int) != ((y19).toNat:Int)))] [] (El h1 (fun c21 h1=>?_) (fun c21 h1=>?_)))))))))))
    ·obtain rfl:=sj h1
     obtain rfl:=hx1 _ rfl
     obtain rfl:=sj h0
     exact xV 4 hR1
    ·refine Bn 7 ?_
     obtain rfl:=sj h1
     exact kn hK1 rfl rfl
   ·obtain rfl:=sj h1
    obtain rfl:=hx1 _ rfl
    refine Vm rfl ?_
    exact jn hE1 ⟨rfl,rfl⟩

/- loop.example/g00149/laws.eqSector -/
def uH:=[X_ 2 0,X_ 3 1,k_ 4 (.bool false)]
def uI:=[f_ 5 2 0,l_ 6 5 1,f_ 7 3 0,l_ 8 7 1,b_ .neq 9 6 8]
def uJ:=[k_ 4 (.bool false)]
def uK:=[f_ 10 2 1,l_ 11 10 1,f_ 12 3 1,l_ 13 12 1,q_ 14 233 [.t 11,.t 13],N_ 15 14]
def uL:=[k_ 4 (.bool false)]
def uM:=[k_ 4 (.bool true)]
def EQ:Es:=⟨2,16,[.t 4],sr uH (.seq (sr uI (iz 9 (rr uJ))) (.seq (sr uK (iz 15 (rr uL))) (rr uM)))⟩
def AQ (D:Aq):Prop:=∀a0 a1 r,gQ a0 a1=some r→D 347 ⟨[.agg (Aj a0),.agg (Aj a1)],[]⟩ ⟨.bool r,[],[]⟩
theorem HN (H233:dO C):AQ (FO C EQ):=by
 intro a0 a1 r h0
 refine f0 (Ay 14 [(2,.ptr 128 0),(3,.ptr 192 0),(9,.bool (a0.at_ != a1.at_))] [(128,Aj a0),(192,Aj a1)] (El h0 (fun c1 h0=>?_) (fun c1 h0=>?_)))
 ·obtain rfl:=sj h0
  exact Dz 4
 ·refine Bn 8 (Ak (bb h0 fun r2 e3 h0=>Qi (H233 a0.data a1.data r2 e3) (o_ (Ay 2 [(15,.bool (!r2))] [] (El h0 (fun c4 h0=>?_) (fun c4 h0=>?_))))))
  ·obtain rfl:=sj h0
   exact Dz 4
  ·obtain rfl:=sj h0
   exact Dz 6

/- loop.example/g00149/laws.eqSectorS -/
def rC:=[k_ 4 (.bool false)]
def rD:=[m_ 6 0,n_ 7 6,m_ 8 1,n_ 9 8,b_ .neq 10 7 9]
def rE:=[k_ 4 (.bool false)]
def rF:=[i_ 5 0]
def rG:=[m_ 11 5,m_ 12 0,n_ 13 12,b_ .lss 14 11 13]
def rH:=tk [m_ 17 0,m_ 18 5,x_ 19 17 18 2,L_ 20 19 2,m_ 21 1,m_ 22 5,x_ 23 21 22 2,L_ 24 23 2] (.alt [] (q_ 25 347 [.t 20,.t 24]) (tk [N_ 26 25] .fin) .stop)
def rI:=[k_ 4 (.bool false)]
def rJ:=[m_ 15 5,B_ .add 16 15 1,m_ 5 16]
def rB:IR:=(.seq (sr rG (.ite (.t 14) .skip (.exit 0))) (.seq (.block 1 (sd rH (iz 26 (rr rI)))) (.reg rJ)))
def rK:=[k_ 4 (.bool true)]
def ED:Es:=⟨2,27,[.t 4],sr rC (.seq (sr rD (iz 10 (rr rE))) (.seq (sr rF (Vh 0 rB)) (rr rK)))⟩
def AF (D:Aq):Prop:=∀a0 a1 r,wP a0 a1=some r→D 295 ⟨[Ag a0,Ag a1],[]⟩ ⟨.bool r,[],[]⟩
theorem HA (H347:AQ C):AF (FO C ED):=by
 intro a0 a1 r h0
 refine f0 (Ay 3 [(0,Ag a0),(1,Ag a1)] [] (Bn 3 (Ak (Lo rfl (st (Dj rfl tv (Lo rfl (o_ (Ay 2 [(0,Ag a0),(1,Ag a1),(10,.bool ((a0.length:Int) != (a1.length:Int)))] [] (El h0 (fun c1 h0=>?_) (fun c1 h0=>?_)))))))))))
 ·obtain rfl:=sj h0
  exact Dz 4
 ·refine Ay 6 [(0,Ag a0),(1,Ag a1),(5,iV 0)] [] (Cm (bb h0 fun r28 e29 h0=>Fc (R:=(fun S=>.inl ()=r28∧S=⟨[],[],[]⟩)) (Nn a0 a1) (fun s S=>match s with | p10=>S=⟨[(0,Ag a0),(1,Ag a1),(5,iV p10)],[],[]⟩) e29 _ (Ho (by kernel_rfl)) rfl 0 (fun _=>rfl) ?_ ?_))
  ·rintro S _ hfg ⟨rfl,rfl⟩
   refine Hz _ hfg ?_
   obtain rfl:=sj h0
   exact Dz 4
  ·rintro p10 o1 _ K1 rfl h1 hx1 hK1 hE1 hR1
   refine Bn 4 (Ak (Lo rfl (o_ (Ay 2 [(0,Ag a0),(1,Ag a1),(5,iV p10),(14,.bool (decide (p10<(a0.length:Int))))] [] (El h1 (fun c20 h1=>?_) (fun c20 h1=>?_))))))
   ·refine xW 5 (bb h1 fun y21 e22 h1=>bb h1 fun y23 e24 h1=>bb h1 fun r25 e26 h1=>Bn 2 (Ez (d_ (CW rfl rfl rfl e22 (Bn 3 (Ez (d_ (CW rfl rfl rfl e24 (Ez (Ca tv (c_ (v:=.agg (Aj y23)) (Bq ⟨tv,tv⟩ rfl (nl rfl)) (⟨tv,EX (H347 y21 y23 r25 e26) rfl (dw [(0,Ag a0),(1,Ag a1),(5,iV p10),(25,.bool r25)] [] tv (d_ (Ay 2 [(0,Ag a0),(1,Ag a1),(5,iV p10),(26,.bool (!r25))] [] (El h1 (fun c27 h1=>?_) (fun c27 h1=>?_))))) Cg⟩))))))))))))
    ·obtain rfl:=sj h1
     obtain rfl:=hx1 _ rfl
     obtain rfl:=sj h0
     exact xV 4 hR1
    ·refine Bn 7 ?_
     obtain rfl:=sj h1
     exact kn hK1 rfl rfl
   ·obtain rfl:=sj h1
    obtain rfl:=hx1 _ rfl
    refine Vm rfl ?_
    exact jn hE1 ⟨rfl,rfl⟩

/- loop.example/g00149/laws.eqDevice -/
def mM:=[X_ 2 0,X_ 3 1,k_ 4 (.bool false)]
def mN:=[f_ 5 2 0,l_ 6 5 1,f_ 7 3 0,l_ 8 7 1,q_ 9 233 [.t 6,.t 8],N_ 10 9]
def mO:=[k_ 4 (.bool false)]
def mP:=[f_ 11 2 1,l_ 12 11 1,f_ 13 3 1,l_ 14 13 1,q_ 15 295 [.t 12,.t 14],N_ 16 15]
def mQ:=[k_ 4 (.bool false)]
def mR:=[k_ 4 (.bool true)]
def DK:Es:=⟨2,17,[.t 4],sr mM (.seq (sr mN (iz 10 (rr mO))) (.seq (sr mP (iz 16 (rr mQ))) (rr mR)))⟩
def zP (D:Aq):Prop:=∀a0 a1 r,Yu a0 a1=some r→D 232 ⟨[.agg (Ae a0),.agg (Ae a1)],[]⟩ ⟨.bool r,[],[]⟩
theorem GI (H233:dO C) (H295:AF C):zP (FO C DK):=by
 intro a0 a1 r h0
 refine f0 (Ay 5 [(2,.ptr 128 0),(3,.ptr 192 0)] [(128,Ae a0),(192,Ae a1)] (Bn 6 (Ak (bb h0 fun r1 e2 h0=>Qi (H233 a0.held a1.held r1 e2) (o_ (Ay 2 [(2,.ptr 128 0),(3,.ptr 192 0),(10,.bool (!r1))] [(128,Ae a0),(192,Ae a1)] (El h0 (fun c3 h0=>?_) (fun c3 h0=>?_))))))))
 ·obtain rfl:=sj h0
  exact Dz 4
 ·refine Bn 8 (Ak (bb h0 fun r4 e5 h0=>Qi (H295 a0.Ab a1.Ab r4 e5) (o_ (Ay 2 [(16,.bool (!r4))] [] (El h0 (fun c6 h0=>?_) (fun c6 h0=>?_))))))
  ·obtain rfl:=sj h0
   exact Dz 4
  ·obtain rfl:=sj h0
   exact Dz 6

/- loop.example/g00149/laws.markByteS -/
def nI:=[i_ 4 0]
def nJ:=[i_ 5 0]
def nK:=[m_ 6 5,m_ 7 0,n_ 8 7,b_ .lss 9 6 8]
def nL:=[m_ 12 0,m_ 13 5,m_ 14 1,iQ 15 (.conv .u8 (.t 14)),x_ 16 12 13 1,s_ 16 15 1]
def nM:=[m_ 17 1,B_ .add 18 17 1,m_ 1 18]
def nN:=[m_ 10 5,B_ .add 11 10 1,m_ 5 11]
def nH:IR:=(.seq (sr nK (.ite (.t 9) .skip (.exit 0))) (.seq (.block 1 (sr nL (.reg nM))) (.reg nN)))
def nO:=[m_ 19 1,m_ 4 19]
def DN:Es:=⟨2,20,[.t 4],sr nI (.seq (sr nJ (Vh 0 nH)) (rr nO))⟩
def dP (D:Aq):Prop:=∀a0 a1 r,cE a0 a1=some r→D 235 ⟨[At 2097152 a0,iV a1],[]⟩ ⟨iV r.1,[],[(0,1,r.2.map Hm)]⟩
theorem GL:dP (FO C DN):=by
 intro a0 a1 r h0
 refine f0 (Ay 8 [(0,At 2097152 a0),(1,iV a1),(5,iV 0)] [] (Cm (bb h0 fun r24 e25 h0=>Fc (R:=(fun S=>∃p17:List UInt8,∃p18:Int,(p17,p18)=r24∧S=⟨[(0,At 2097152 p17),(1,iV p18)],[],[]⟩)) (Nh) (fun s S=>match s with | (p6,p7,p8)=>S=⟨[(0,At 2097152 p6),(1,iV p7),(5,iV p8)],[],[]⟩) e25 _ (Ho (by kernel_rfl)) rfl 0 (fun _=>rfl) ?_ ?_)))
 ·rintro S _ hfg ⟨p17,p18,rfl,rfl⟩
  refine Hz _ hfg (Ay 4 [(0,At 2097152 p17),(4,iV p18)] [] ?_)
  obtain rfl:=sj h0
  exact Zf (Ms rfl rfl rfl rfl rfl ⟨⟨rfl,xM (fun _=>rfl)⟩,tv⟩)
 ·rintro ⟨p6,p7,p8⟩ o1 _ K1 rfl h1 hx1 hK1 hE1 hR1
  refine Bn 4 (Ak (xO rfl (o_ (Ay 2 [(0,At 2097152 p6),(1,iV p7),(5,iV p8),(9,.bool (decide (p8<(p6.length:Int))))] [] (El h1 (fun c19 h1=>?_) (fun c19 h1=>?_))))))
  ·refine Bn 8 (Ak (st (c_ (IM (Bq ⟨tv,tv⟩ rfl tv)) (bb h1 fun y20 e21 h1=>FU rfl rfl e21 (bb h1 fun y22 e23 h1=>IQ (b8 p7) rfl rfl e23 (o_ (Ay 7 [(0,At 2097152 (p6.set p8.toNat (b8 p7))),(1,iV (wi (p7+1))),(5,iV p8)] [] (Bn 4 ?_))))))))
   obtain rfl:=sj h1
   exact kn hK1 rfl rfl
  ·obtain rfl:=sj h1
   obtain rfl:=hx1 _ rfl
   refine Vm rfl ?_
   exact jn hE1 ⟨_,_,rfl,rfl⟩

/- loop.example/g00149/laws.markSectorS -/
def rM:=[i_ 4 0]
def rN:=[i_ 5 0]
def rO:=[m_ 6 5,m_ 7 0,n_ 8 7,b_ .lss 9 6 8]
def rP:=[m_ 12 0,m_ 13 5,m_ 14 1,x_ 15 12 13 2,f_ 16 15 0,s_ 16 14 1]
def rQ:=[m_ 17 1,B_ .add 18 17 1,m_ 1 18]
def rR:=[m_ 19 0,m_ 20 5,x_ 21 19 20 2,f_ 22 21 1,l_ 23 22 1,m_ 24 1,q_ 25 235 [.t 23,.t 24],m_ 1 25]
def rS:=[m_ 10 5,B_ .add 11 10 1,m_ 5 11]
def rL:IR:=(.seq (sr rO (.ite (.t 9) .skip (.exit 0))) (.seq (.block 1 (sr rP (sr rQ (.reg rR)))) (.reg rS)))
def rT:=[m_ 26 1,m_ 4 26]
def EE:Es:=⟨2,27,[.t 4],sr rM (.seq (sr rN (Vh 0 rL)) (rr rT))⟩
def AG (D:Aq):Prop:=∀a0 a1 r,wQ a0 a1=some r→D 296 ⟨[Ac 2097184 a0,iV a1],[]⟩ ⟨iV r.1,[],[(0,2,r.2.map Aj)]⟩
theorem HB (H235:dP C):AG (FO C EE):=by
 intro a0 a1 r h0
 refine f0 (Ay 8 [(0,Ac 2097184 a0),(1,iV a1),(5,iV 0)] [] (Cm (bb h0 fun r51 e52 h0=>Fc (R:=(fun S=>∃p35:List Aa,∃p36:Int,(p35,p36)=r51∧S=⟨[(0,Ac 2097184 p35),(1,iV p36)],[],[]⟩)) (Lf) (fun s S=>match s with | (p15,p16,p17)=>S=⟨[(0,Ac 2097184 p15),(1,iV p16),(5,iV p17)],[],[]⟩) e52 _ (Ho (by kernel_rfl)) rfl 0 (fun _=>rfl) ?_ ?_)))
 ·rintro S _ hfg ⟨p35,p36,rfl,rfl⟩
  refine Hz _ hfg (Ay 4 [(0,Ac 2097184 p35),(4,iV p36)] [] ?_)
  obtain rfl:=sj h0
  exact Zf (Ms rfl rfl rfl rfl rfl ⟨⟨rfl,xM (fun _=>rfl)⟩,tv⟩)
 ·rintro ⟨p15,p16,p17⟩ o1 _ K1 rfl h1 hx1 hK1 hE1 hR1
  refine Bn 4 (Ak (xO rfl (o_ (Ay 2 [(0,Ac 2097184 p15),(1,iV p16),(5,iV p17),(9,.bool (decide (p17<(p15.length:Int))))] [] (El h1 (fun c37 h1=>?_) (fun c37 h1=>?_))))))
  ·refine Bn 8 (Ak (bb h1 fun y38 e39 h1=>FU rfl rfl e39 (st (c_ (Bq ⟨tv,tv⟩ rfl tv) (bb h1 fun y40 e41 h1=>st (zG (y':=(Aa.mk p16 y40.data)) rfl rfl tv rfl rfl rfl rfl e41 (nl rfl) rfl (Fj bA rfl) rfl rfl (Td (Hz ⟨[(0,Ac 2097184 (p15.set p17.toNat (Aa.mk p16 y40.data))),(1,iV p16),(5,iV p17)],[],[]⟩ (fg ⟨congrArg (fun z=>some ((.own 2097184 0 2 z:V))) Kp,rfl,rfl,tv⟩ tv) (Ay 5 [(0,Ac 2097184 (p15.set p17.toNat (Aa.mk p16 y40.data))),(1,iV (wi (p16+1))),(5,iV p17)] [] (Bn 2 (Ak (bb h1 fun y42 e43 h1=>FU rfl rfl e43 (st (c_ (Bq ⟨tv,tv⟩ rfl tv) (bb h1 fun y44 e45 h1=>st (c_ (BF (e:=Aj) (y:=y44) (v:=.nrow 2097184 (0+p17.toNat) 1 1 (y44.data.map Hm)) rfl rfl tv rfl rfl e45 rfl (nl rfl) rfl) (st (Dj rfl tv (bb h1 fun r46 e47 h1=>gg h1 fun c48 h1=>st (BD (e0:=Aj) (L0:=p15.set p17.toNat (Aa.mk p16 y40.data)) (e:=Hm) (xs:=y44.data) (xs':=r46.2) (y:=y44) (r:=iV r46.1) (H235 y44.data (wi (p16+1)) r46 e47) ⟨tv,tv,tv⟩ ⟨.inl ⟨rfl,rfl⟩,⟨.inr ⟨rfl,rfl,rfl⟩,tv⟩⟩ rfl rfl e45 rfl rfl c48 (fun _=>rfl) (sw ⟨[(0,Ac 2097184 ((p15.set p17.toNat (Aa.mk p16 y40.data)).set p17.toNat (Aa.mk y44.at_ r46.2))),(5,iV p17),(25,iV r46.1)],[],[]⟩ (fg ⟨congrArg (fun z=>some ((z:V))) (xY (y:=y44) (y':=(Aa.mk y44.at_ r46.2)) e45 rfl),rfl,rfl,tv⟩ tv) (Dj rfl tv (Td (CR (bv h1 fun v49 e50 h1=>Hz ⟨[(0,Ac 2097184 v49),(1,iV r46.1),(5,iV p17)],[],[]⟩ (Ho (by subst e50; kernel_rfl)) (Bn 4 ?_))))))))))))))))))))))))))
   obtain rfl:=sj h1
   exact kn hK1 rfl rfl
  ·obtain rfl:=sj h1
   obtain rfl:=hx1 _ rfl
   refine Vm rfl ?_
   exact jn hE1 ⟨_,_,rfl,rfl⟩

/- loop.example/g00149/laws.markDevice -/
def nD:=[X_ 2 0,i_ 4 0]
def nE:=[f_ 5 2 0,l_ 6 5 1,m_ 7 1,q_ 8 235 [.t 6,.t 7],m_ 1 8]
def nF:=[f_ 9 2 1,l_ 10 9 1,m_ 11 1,q_ 12 296 [.t 10,.t 11],m_ 1 12]
def nG:=[m_ 13 1,m_ 4 13]
def DM:Es:=⟨2,14,[.t 4],sr nD (sr nE (sr nF (rr nG)))⟩
def zQ (D:Aq):Prop:=∀a0 a1 r,gM a0 a1=some r→D 234 ⟨[.agg (Ai a0 (Br 2097152) (Br 2097185)),iV a1],[]⟩ ⟨iV r.1,[],[(0,1,r.2.1.map Hm),(0,2,r.2.2.map Aj)]⟩
theorem GK (H235:dP C) (H296:AG C):zQ (FO C DM):=by
 intro a0 a1 r h0
 refine f0 (Ay 4 [(0,.agg (Ai a0 (Br 2097152) (Br 2097185))),(1,iV a1),(2,.ptr 128 0)] [(128,Ai a0 (Br 2097152) (Br 2097185))] (Ce (Ak (st (c_ (Bq ⟨tv,tv⟩ rfl tv) (st (c_ (Bq ⟨tv,tv⟩ rfl (nl rfl)) (st (Dj rfl tv (bb h0 fun r1 e2 h0=>gg h0 fun c3 h0=>HT [] [2097152] [] (H235 a0.held a1 r1 e2) (ar (Fj (IN (fun _=>rfl)) rfl)) (sw ⟨[(0,.agg [At 2097152 r1.2,Ac 2097185 a0.Ab]),(2,.ptr 128 0),(8,iV r1.1)],[(128,[At 2097152 r1.2,Ac 2097185 a0.Ab])],[]⟩ (fg ⟨congrArg (fun z=>some ((.agg [z,Ac 2097185 a0.Ab]:V))) (Sr c3),rfl,rfl,tv⟩ ⟨congrArg (fun z=>some (([z,Ac 2097185 a0.Ab]:List V))) (Sr c3),tv⟩) (Dj rfl tv (o_ (Ay 1 [(0,.agg [At 2097152 r1.2,Ac 2097185 a0.Ab]),(1,iV r1.1),(2,.ptr 128 0)] [(128,[At 2097152 r1.2,Ac 2097185 a0.Ab])] (Ce (Ak (st (c_ (Bq ⟨tv,tv⟩ rfl tv) (st (c_ (Bq ⟨tv,tv⟩ rfl (nl rfl)) (st (Dj rfl tv (bb h0 fun r4 e5 h0=>gg h0 fun c6 h0=>HU [] [2097185] [] (H296 a0.Ab r1.1 r4 e5) (sw ⟨[(0,.agg [At 2097152 r1.2,Ac 2097185 r4.2]),(12,iV r4.1)],[],[]⟩ (fg ⟨congrArg (fun z=>some ((.agg [At 2097152 r1.2,z]:V))) (Sr c6),rfl,tv⟩ tv) (Dj rfl tv (o_ (Ay 6 [(0,.agg [At 2097152 r1.2,Ac 2097185 r4.2]),(4,iV r4.1)] [] ?_)))))))))))))))))))))))))))
 obtain rfl:=sj h0
 exact Zf (Ms rfl rfl rfl rfl rfl ⟨⟨rfl,xM (fun _=>rfl)⟩,⟨⟨rfl,xM (fun _=>rfl)⟩,tv⟩⟩)

/- loop.example/g00149/laws.heldByteS -/
def rV:=[i_ 4 0]
def rW:=[i_ 5 0]
def rX:=[m_ 6 5,m_ 7 0,n_ 8 7,b_ .lss 9 6 8]
def rY:=[m_ 12 0,m_ 13 5,x_ 14 12 13 1,l_ 15 14 1,m_ 16 1,iQ 17 (.conv .u8 (.t 16)),b_ .neq 18 15 17]
def rZ:=[i_ 4 (-1)]
def sA:=[m_ 19 1,B_ .add 20 19 1,m_ 1 20]
def sB:=[m_ 10 5,B_ .add 11 10 1,m_ 5 11]
def rU:IR:=(.seq (sr rX (.ite (.t 9) .skip (.exit 0))) (.seq (.block 1 (.seq (sr rY (iz 18 (rr rZ))) (.reg sA))) (.reg sB)))
def sC:=[m_ 21 1,m_ 4 21]
def EF:Es:=⟨2,22,[.t 4],sr rV (.seq (sr rW (Vh 0 rU)) (rr sC))⟩
def kJ (D:Aq):Prop:=∀a0 a1 r,gO a0 a1=some r→D 297 ⟨[Df a0,iV a1],[]⟩ ⟨iV r,[],[]⟩
theorem HC:kJ (FO C EF):=by
 intro a0 a1 r h0
 refine f0 (Ay 8 [(0,Df a0),(1,iV a1),(5,iV 0)] [] (Cm (bb h0 fun r18 e19 h0=>Fc (R:=(fun S=>∃p13:Int,.inl p13=r18∧S=⟨[(1,iV p13)],[],[]⟩)) (Lg a0) (fun s S=>match s with | (p5,p6)=>S=⟨[(0,Df a0),(1,iV p5),(5,iV p6)],[],[]⟩) e19 _ (Ho (by kernel_rfl)) rfl 0 (fun _=>rfl) ?_ ?_)))
 ·rintro S _ hfg ⟨p13,rfl,rfl⟩
  refine Hz _ hfg ?_
  obtain rfl:=sj h0
  exact Dz 5
 ·rintro ⟨p5,p6⟩ o1 _ K1 rfl h1 hx1 hK1 hE1 hR1
  refine Bn 4 (Ak (Lo rfl (o_ (Ay 2 [(0,Df a0),(1,iV p5),(5,iV p6),(9,.bool (decide (p6<(a0.length:Int))))] [] (El h1 (fun c14 h1=>?_) (fun c14 h1=>?_))))))
  ·refine Bn 8 (Ak (bb h1 fun y15 e16 h1=>dM rfl rfl e16 (o_ (Bn 2 (Ak (st (c_ (IM (Bq ⟨tv,tv⟩ rfl tv)) (o_ (Ay 2 [(0,Df a0),(1,iV p5),(5,iV p6),(18,.bool (((y15).toNat:Int) != ((b8 p5).toNat:Int)))] [] (El h1 (fun c17 h1=>?_) (fun c17 h1=>?_)))))))))))
   ·obtain rfl:=sj h1
    obtain rfl:=hx1 _ rfl
    obtain rfl:=sj h0
    exact xV 4 hR1
   ·refine Ay 7 [(0,Df a0),(1,iV (wi (p5+1))),(5,iV p6)] [] (Bn 4 ?_)
    obtain rfl:=sj h1
    exact kn hK1 rfl rfl
  ·obtain rfl:=sj h1
   obtain rfl:=hx1 _ rfl
   refine Vm rfl ?_
   exact jn hE1 ⟨_,rfl,rfl⟩

/- loop.example/g00149/laws.heldSectorS -/
def sE:=[i_ 4 0]
def sF:=[i_ 5 0]
def sG:=[m_ 6 5,m_ 7 0,n_ 8 7,b_ .lss 9 6 8]
def sH:=[m_ 12 0,m_ 13 5,x_ 14 12 13 2,f_ 15 14 0,l_ 16 15 1,m_ 17 1,b_ .neq 18 16 17]
def sI:=[i_ 4 (-1)]
def sJ:=[m_ 19 1,B_ .add 20 19 1,m_ 1 20]
def sK:=[m_ 21 0,m_ 22 5,x_ 23 21 22 2,f_ 24 23 1,l_ 25 24 1,m_ 26 1,q_ 27 297 [.t 25,.t 26],m_ 1 27]
def sL:=[m_ 28 1,B_ .lss 29 28 0]
def sM:=[i_ 4 (-1)]
def sN:=[m_ 10 5,B_ .add 11 10 1,m_ 5 11]
def sD:IR:=(.seq (sr sG (.ite (.t 9) .skip (.exit 0))) (.seq (.block 1 (.seq (sr sH (iz 18 (rr sI))) (sr sJ (sr sK (sr sL (iz 29 (rr sM))))))) (.reg sN)))
def fO:=[m_ 30 1,m_ 4 30]
def EG:Es:=⟨2,31,[.t 4],sr sE (.seq (sr sF (Vh 0 sD)) (rr fO))⟩
def AH (D:Aq):Prop:=∀a0 a1 r,wS a0 a1=some r→D 298 ⟨[Ag a0,iV a1],[]⟩ ⟨iV r,[],[]⟩
theorem HD (H297:kJ C):AH (FO C EG):=by
 intro a0 a1 r h0
 refine f0 (Ay 8 [(0,Ag a0),(1,iV a1),(5,iV 0)] [] (Cm (bb h0 fun r33 e34 h0=>Fc (R:=(fun S=>∃p23:Int,.inl p23=r33∧S=⟨[(1,iV p23)],[],[]⟩)) (Lh a0) (fun s S=>match s with | (p10,p11)=>S=⟨[(0,Ag a0),(1,iV p10),(5,iV p11)],[],[]⟩) e34 _ (Ho (by kernel_rfl)) rfl 0 (fun _=>rfl) ?_ ?_)))
 ·rintro S _ hfg ⟨p23,rfl,rfl⟩
  refine Hz _ hfg ?_
  obtain rfl:=sj h0
  exact Dz 5
 ·rintro ⟨p10,p11⟩ o1 _ K1 rfl h1 hx1 hK1 hE1 hR1
  refine Bn 4 (Ak (Lo rfl (o_ (Ay 2 [(0,Ag a0),(1,iV p10),(5,iV p11),(9,.bool (decide (p11<(a0.length:Int))))] [] (El h1 (fun c24 h1=>?_) (fun c24 h1=>?_))))))
  ·refine Bn 8 (Ak (bb h1 fun y25 e26 h1=>dM rfl rfl e26 (o_ (Ay 5 [(0,Ag a0),(1,iV p10),(5,iV p11),(18,.bool (y25.at_ != p10))] [] (El h1 (fun c27 h1=>?_) (fun c27 h1=>?_))))))
   ·obtain rfl:=sj h1
    obtain rfl:=hx1 _ rfl
    obtain rfl:=sj h0
    exact xV 4 hR1
   ·refine Ay 7 [(0,Ag a0),(1,iV (wi (p10+1))),(5,iV p11)] [] (Bn 3 (Ak (bb h1 fun y28 e29 h1=>dM rfl rfl e29 (o_ (Bn 3 (Ak (bb h1 fun r30 e31 h1=>Qi (H297 y28.data (wi (p10+1)) r30 e31) (o_ (Ay 7 [(0,Ag a0),(1,iV r30),(5,iV p11),(29,.bool (decide (r30<0)))] [] (El h1 (fun c32 h1=>?_) (fun c32 h1=>?_)))))))))))
    ·obtain rfl:=sj h1
     obtain rfl:=hx1 _ rfl
     obtain rfl:=sj h0
     exact xV 4 hR1
    ·refine Bn 7 ?_
     obtain rfl:=sj h1
     exact kn hK1 rfl rfl
  ·obtain rfl:=sj h1
   obtain rfl:=hx1 _ rfl
   refine Vm rfl ?_
   exact jn hE1 ⟨_,rfl,rfl⟩

/- loop.example/g00149/laws.heldDevice -/
def nP:=[X_ 2 0,i_ 4 0]
def nQ:=[f_ 5 2 0,l_ 6 5 1,m_ 7 1,q_ 8 297 [.t 6,.t 7],m_ 1 8]
def nR:=[m_ 9 1,B_ .lss 10 9 0]
def nS:=[i_ 4 (-1)]
def nT:=[f_ 11 2 1,l_ 12 11 1,m_ 13 1,q_ 14 298 [.t 12,.t 13],m_ 1 14]
def nU:=[m_ 15 1,B_ .lss 16 15 0]
def nV:=[i_ 4 (-1)]
def nW:=[m_ 17 1,m_ 4 17]
def DO:Es:=⟨2,18,[.t 4],sr nP (sr nQ (.seq (sr nR (iz 10 (rr nS))) (sr nT (.seq (sr nU (iz 16 (rr nV))) (rr nW)))))⟩
def zR (D:Aq):Prop:=∀a0 a1 r,gN a0 a1=some r→D 236 ⟨[.agg (Ae a0),iV a1],[]⟩ ⟨iV r,[],[]⟩
theorem GM (H297:kJ C) (H298:AH C):zR (FO C DO):=by
 intro a0 a1 r h0
 refine f0 (Ay 4 [(1,iV a1),(2,.ptr 128 0)] [(128,Ae a0)] (Bn 4 (Ak (bb h0 fun r1 e2 h0=>Qi (H297 a0.held a1 r1 e2) (o_ (Ay 8 [(1,iV r1),(2,.ptr 128 0),(10,.bool (decide (r1<0)))] [(128,Ae a0)] (El h0 (fun c3 h0=>?_) (fun c3 h0=>?_))))))))
 ·obtain rfl:=sj h0
  exact Dz 4
 ·refine Bn 6 (Ak (bb h0 fun r4 e5 h0=>Qi (H298 a0.Ab r1 r4 e5) (o_ (Ay 8 [(1,iV r4),(16,.bool (decide (r4<0)))] [] (El h0 (fun c6 h0=>?_) (fun c6 h0=>?_))))))
  ·obtain rfl:=sj h0
   exact Dz 4
  ·obtain rfl:=sj h0
   exact Dz 7

/- loop.example/g00149/laws.FnExactDeviceWrite -/
def kM:=[X_ 3 0,k_ 6 (.bool false)]
def kN:=[m_ 19 2,n_ 20 19,B_ .gtr 21 20 1048576]
def kO:=[k_ 6 (.bool true)]
def kP:=[i_ 7 1048576]
def kQ:=[L_ 22 3 2,m_ 23 7,q_ 24 228 [.t 22,.t 23],m_ 7 24]
def kR:=[m_ 25 7,B_ .lss 26 25 0]
def kS:=[k_ 6 (.bool true)]
def kT:=[L_ 28 3 2,q_ 29 230 [.t 28],m_ 30 1,m_ 31 2,q_ 32 231 [.t 31],q_ 33 229 [.t 29,.t 30,.t 32],m_ 27 33,e_ 34 27 0,e_ 35 27 1,a_ 8 [.own 513 0 1 [],.own 514 0 2 []],s_ 8 34 2,m_ 9 35]
def kU:=[L_ 36 3 2,q_ 37 230 [.t 36],a_ 10 [.own 641 0 1 [],.own 642 0 2 []],s_ 10 37 2]
def kV:=[m_ 38 2,q_ 39 231 [.t 38],m_ 11 39]
def eA:=[L_ 41 10 2,m_ 42 1,m_ 43 11,q_ 44 214 [.t 41,.t 42,.t 43],m_ 40 44,e_ 45 40 0,e_ 46 40 1,a_ 12 [.own 769 0 1 [],.own 770 0 2 []],s_ 12 45 2,m_ 13 46]
def eC:=[L_ 47 12 2,L_ 48 8 2,q_ 49 232 [.t 47,.t 48],N_ 50 49,m_ 51 50,mF 51 52 13,mF 51 53 9,pF 51 54 (.bin .neq (.t 52) (.t 53)),po 55 51 54]
def eD:=[k_ 6 (.bool false)]
def eE:=tk [L_ 56 10 2,L_ 57 3 2] (.alt [L_ 56 10 2] (q_ 58 230 [.t 57]) (.alt [] (q_ 59 232 [.t 56,.t 58]) (tk [N_ 60 59] .fin) .stop) .stop)
def eF:=[k_ 6 (.bool false)]
def eG:=[m_ 61 11,m_ 62 2,q_ 63 231 [.t 62],q_ 64 233 [.t 61,.t 63],N_ 65 64]
def eH:=[k_ 6 (.bool false)]
def eJ:=[i_ 14 1]
def eK:=[L_ 66 10 2,m_ 67 14,q_ 68 234 [.t 66,.t 67],m_ 14 68]
def eM:=[m_ 69 11,m_ 70 14,q_ 71 235 [.t 69,.t 70],m_ 14 71]
def eN:List Bj:=[m_ 72 14,B_ .lss 73 72 0,m_ 74 73,lF 74 75 12 2 true,lF 74 76 8 2 true,⟨some 77,.call 232 [.t 75,.t 76],some (74,false)⟩,pF 74 78 (.un .not (.t 77)),po 79 74 78,m_ 80 79,mF 80 81 13,mF 80 82 9,pF 80 83 (.bin .neq (.t 81) (.t 82)),po 84 80 83]
def eO:=[k_ 6 (.bool false)]
def eP:=[i_ 15 1]
def eQ:=[L_ 85 12 2,m_ 86 15,q_ 87 234 [.t 85,.t 86],m_ 15 87]
def eR:=[i_ 16 1]
def eT:=[L_ 88 12 2,m_ 89 16,q_ 90 236 [.t 88,.t 89],m_ 16 90]
def eU:=[m_ 91 16,B_ .lss 92 91 0]
def eV:=[k_ 6 (.bool false)]
def eW:=[m_ 93 16,m_ 94 15,b_ .neq 95 93 94]
def eX:=[k_ 6 (.bool false)]
def eY:=[L_ 97 3 2,q_ 98 230 [.t 97],m_ 99 1,m_ 100 2,q_ 101 231 [.t 100],q_ 102 214 [.t 98,.t 99,.t 101],m_ 96 102,e_ 103 96 0,e_ 104 96 1,a_ 17 [.own 1089 0 1 [],.own 1090 0 2 []],s_ 17 103 2,m_ 18 104]
def eZ:=[L_ 105 17 2,L_ 106 8 2,q_ 107 232 [.t 105,.t 106],N_ 108 107,m_ 109 108,mF 109 110 18,mF 109 111 9,pF 109 112 (.bin .neq (.t 110) (.t 111)),po 113 109 112]
def fA:=[k_ 6 (.bool false)]
def fB:=[i_ 16 1]
def fC:=[L_ 114 12 2,m_ 115 16,q_ 116 236 [.t 114,.t 115],m_ 16 116]
def fD:=[m_ 117 16,B_ .lss 118 117 0]
def fE:=[k_ 6 (.bool false)]
def fG:=[m_ 119 16,m_ 120 15,b_ .neq 121 119 120]
def fH:=[k_ 6 (.bool false)]
def fI:=[k_ 6 (.bool true)]
def DD:Es:=⟨3,122,[.t 6],sr kM (.seq (sr kN (iz 21 (rr kO))) (sr kP (sr kQ (.seq (sr kR (iz 26 (rr kS))) (sr kT (sr kU (sr kV (sr eA (.seq (sr eC (iz 55 (rr eD))) (.seq (sd eE (iz 60 (rr eF))) (.seq (sr eG (iz 65 (rr eH))) (sr eJ (sr eK (sr eM (.seq (sr eN (iz 84 (rr eO))) (sr eP (sr eQ (sr eR (sr eT (.seq (sr eU (iz 92 (rr eV))) (.seq (sr eW (iz 95 (rr eX))) (sr eY (.seq (sr eZ (iz 113 (rr fA))) (sr fB (sr fC (.seq (sr fD (iz 118 (rr fE))) (.seq (sr fG (iz 121 (rr fH))) (rr fI))))))))))))))))))))))))))))⟩
def CY (D:Aq):Prop:=∀a0 a1 a2 r,BI a0 a1 a2=some r→D 204 ⟨[.agg (Ae a0),iV a1,Df a2],[]⟩ ⟨.bool r,[],[]⟩
abbrev Dy:=fun x0 x1 x2 (r:List (Nat×V))=>(1,iV x0)::(2,Df x1)::(3,.ptr 192 0)::(8,.ptr 512 0)::(9,iV x2)::(12,.ptr 768 0)::r
abbrev Ga:=fun x0 x1 x2 (r:List (Nat×List V))=>(192,Ae x0)::(512,Ai x1 (Br 2112) (Br 2113))::(768,Ai x2 (Br 2816) (Br 2849))::r
abbrev Kl:=fun x0 x1 (r:List (Nat×List V))=>(192,Ae x0)::(512,Ai x1 (Br 2112) (Br 2113))::r
abbrev Hf:=fun x0 x1 (r:List (Nat×V))=>(1,iV x0)::(2,Df x1)::(3,.ptr 192 0)::r
theorem GB (H214:zK C) (H228:zM C) (H229:zN C) (H230:zO C) (H231:dN C) (H232:zP C) (H233:dO C) (H234:zQ C) (H235:dP C) (H236:zR C):CY (FO C DD):=by
 intro a0 a1 a2 r h0
 refine f0 (Ay 4 (Hf a1 a2 []) [(192,Ae a0)] (Ce (Ce (Ak (st (Dj rfl tv (Lo rfl (o_ (Ay 2 (Hf a1 a2 [(21,.bool (decide ((a2.length:Int)>1048576)))]) [(192,Ae a0)] (El h0 (fun c1 h0=>?_) (fun c1 h0=>?_)))))))))))
 ·obtain rfl:=sj h0
  exact Dz 4
 ·refine Ay 5 (Hf a1 a2 [(7,iV 1048576)]) [(192,Ae a0)] (Ce (Ak (st (c_ (v:=.agg (Ae a0)) (Bq ⟨tv,tv⟩ rfl (nl rfl)) (st (Dj rfl tv (bb h0 fun r2 e3 h0=>Qi (H228 a0 1048576 r2 e3) (o_ (Ay 8 (Hf a1 a2 [(26,.bool (decide (r2<0)))]) [(192,Ae a0)] (El h0 (fun c4 h0=>?_) (fun c4 h0=>?_)))))))))))
  ·obtain rfl:=sj h0
   exact Dz 4
  ·refine xZ (yE (Ce (Ak (st (c_ (v:=.agg (Ae a0)) (Bq ⟨tv,tv⟩ rfl (nl rfl)) (bb h0 fun r5 e6 h0=>Tx (H230 a0 r5 e6) (af (Fj (Tb rfl) rfl)) (st (Dj rfl tv (st (Dj rfl tv (bb h0 fun r7 e8 h0=>sw ⟨Hf a1 a2 [(29,.agg (Ai r5 (Br 1856) (Br 1889))),(30,iV a1),(31,Df a2)],[(192,Ae a0)],[]⟩ (Ho (by kernel_rfl)) (Io (r:=At 0 r7) false (H231 a2 r7 e8) ⟨tv,tv⟩ rfl rfl (fun _=>(af rfl)) (bb h0 fun r9 e10 h0=>st (Io (r:=.tup [.agg (Ai r9.1 (Br 0) (Br 1)),iV r9.2]) true (H229 r5 a1 r7 r9 e10) ⟨tv,tv,tv,tv⟩ rfl rfl (fun h=>nomatch h) (sw ⟨Hf a1 a2 [(33,.tup [.agg (Ai r9.1 (Br 2112) (Br 2113)),iV r9.2])],[(192,Ae a0)],[]⟩ (Ho (by kernel_rfl)) (Dj rfl tv (st (c_ (Bq ⟨tv,tv⟩ rfl tv) (st (c_ (Bq ⟨tv,tv⟩ rfl tv) (st (Gs (sw ⟨Hf a1 a2 [(8,.ptr 512 0),(34,.agg (Ai r9.1 (Br 2112) (Br 2113))),(35,iV r9.2)],[(192,Ae a0),(512,[At 513 [],Ac 546 []])],[]⟩ (Lt [] [(514,546)] rfl (by kernel_rfl)) (Jg rfl rfl tv rfl rfl rfl (nl rfl) (o_ (Ay 2 (Hf a1 a2 [(8,.ptr 512 0),(9,iV r9.2)]) (Kl a0 r9.1 []) (Ce (Ak (st (c_ (v:=.agg (Ae a0)) (Bq ⟨tv,tv⟩ rfl (nl rfl)) (bb h0 fun r11 e12 h0=>Tx (H230 a0 r11 e12) (af (Fj (Tb rfl) rfl)) (st (Gs (sw ⟨Hf a1 a2 [(8,.ptr 512 0),(9,iV r9.2),(10,.ptr 640 0),(37,.agg (Ai r11 (Br 2368) (Br 2401)))],Kl a0 r9.1 [(640,[At 641 [],Ac 674 []])],[]⟩ (Lt [] [(642,674)] rfl (by kernel_rfl)) (Jg rfl rfl tv rfl rfl rfl (nl rfl) (o_ (Ay 1 (Hf a1 a2 [(8,.ptr 512 0),(9,iV r9.2),(10,.ptr 640 0)]) (Kl a0 r9.1 [(640,Ai r11 (Br 2368) (Br 2401))]) (Ce (Ak (st (Dj rfl tv (bb h0 fun r13 e14 h0=>Tx (H231 a2 r13 e14) (af rfl) (o_ (Ay 2 (Hf a1 a2 [(8,.ptr 512 0),(9,iV r9.2),(10,.ptr 640 0),(11,At 2496 r13)]) (Kl a0 r9.1 [(640,Ai r11 (Br 2368) (Br 2401))]) (Ce (Ak (st (c_ (v:=.agg (Ai r11 (Br 2368) (Br 2401))) (Bq ⟨tv,tv⟩ rfl (nl rfl)) (st (Dj rfl tv (st (Dj rfl tv (bb h0 fun r15 e16 h0=>Tx (H214 r11 a1 r13 r15 e16) (af (Fj (Tb rfl) (Fj rfl rfl))) (st (Dj rfl tv (st (c_ (Bq ⟨tv,tv⟩ rfl tv) (st (c_ (Bq ⟨tv,tv⟩ rfl tv) (st (Gs (sw ⟨Dy a1 a2 r9.2 [(10,.ptr 640 0),(11,At 2496 r13),(45,.agg (Ai r15.1 (Br 2816) (Br 2849))),(46,iV r15.2)],Kl a0 r9.1 [(640,Ai r11 (Br 2368) (Br 2401)),(768,[At 769 [],Ac 802 []])],[]⟩ (Lt [] [(770,802)] rfl (by kernel_rfl)) (Jg rfl rfl tv rfl rfl rfl (nl rfl) (o_ (Ay 2 (Dy a1 a2 r9.2 [(10,.ptr 640 0),(11,At 2496 r13),(13,iV r15.2)]) (Ga a0 r9.1 r15.1 [(640,Ai r11 (Br 2368) (Br 2401))]) (Ce (Ce (Ak (st (c_ (v:=.agg (Ai r15.1 (Br 2816) (Br 2849))) (Bq ⟨tv,tv⟩ rfl (nl rfl)) (st (c_ (v:=.agg (Ai r9.1 (Br 2112) (Br 2113))) (Bq ⟨tv,tv⟩ rfl (nl rfl)) (bb h0 fun r17 e18 h0=>Qi (H232 r15.1 r9.1 r17 e18) (st (c_ (Bq ⟨tv,tv⟩ rfl tv) (st (Dj rfl tv (st (Hy (u:=iV r15.2) rfl (fun hg=>(Yn (v:=iV r15.2) rfl tv)) (st (Hy (u:=iV r9.2) rfl (fun hg=>(Yn (v:=iV r9.2) rfl tv)) (st (Hy (u:=.bool (r15.2 != r9.2)) rfl (fun hg=>(Bq ⟨(fun _=>hg),(fun _=>hg),tv⟩ rfl tv)) (st (Jm rfl rfl rfl tv (fun h=>vU h) rfl (o_ (Ay 1 (Dy a1 a2 r9.2 [(10,.ptr 640 0),(11,At 2496 r13),(13,iV r15.2),(55,.bool (bif (!r17) then true else (r15.2 != r9.2)))]) (Ga a0 r9.1 r15.1 [(640,Ai r11 (Br 2368) (Br 2401))]) (El h0 (fun c19 h0=>?_) (fun c19 h0=>?_)))))))))))))))))))))))))))))))))))))))))))))))))))))))))))))))))))))))))))))))))))))))))
   ·obtain rfl:=sj h0
    exact Dz 4
   ·refine xW 4 (bb h0 fun r20 e21 h0=>bb h0 fun r22 e23 h0=>Ez (Ca tv (c_ (v:=.agg (Ai r11 (Br 2368) (Br 2401))) (Bq ⟨tv,tv⟩ rfl (nl rfl)) (⟨tv,Ca tv (c_ (v:=.agg (Ae a0)) (Bq ⟨tv,tv⟩ rfl (nl rfl)) (⟨tv,EX (H230 a0 r20 e21) (af (Fj (Tb rfl) rfl)) (dw [(1,iV a1),(2,Df a2),(3,.ptr 192 0),(8,.ptr 512 0),(9,iV r9.2),(10,.ptr 640 0),(11,At 2496 r13),(12,.ptr 768 0),(13,iV r15.2),(56,.agg (Ai r11 (Br 2368) (Br 2401))),(58,.agg (Ai r20 (Br 3712) (Br 3745)))] [(192,Ae a0),(512,Ai r9.1 (Br 2112) (Br 2113)),(640,Ai r11 (Br 2368) (Br 2401)),(768,Ai r15.1 (Br 2816) (Br 2849))] hB (EX (H232 r11 r20 r22 e23) rfl (dw [(1,iV a1),(2,Df a2),(3,.ptr 192 0),(8,.ptr 512 0),(9,iV r9.2),(10,.ptr 640 0),(11,At 2496 r13),(12,.ptr 768 0),(13,iV r15.2),(59,.bool r22)] [(192,Ae a0),(512,Ai r9.1 (Br 2112) (Br 2113)),(640,Ai r11 (Br 2368) (Br 2401)),(768,Ai r15.1 (Br 2816) (Br 2849))] tv (d_ (Ay 2 (Dy a1 a2 r9.2 [(10,.ptr 640 0),(11,At 2496 r13),(13,iV r15.2),(60,.bool (!r22))]) (Ga a0 r9.1 r15.1 [(640,Ai r11 (Br 2368) (Br 2401))]) (El h0 (fun c24 h0=>?_) (fun c24 h0=>?_))))) Cg)) Cg⟩))⟩))))
    ·obtain rfl:=sj h0
     exact Dz 4
    ·refine xZ (yE (Ce (Ce (Ak (st (Dj rfl tv (st (Dj rfl tv (bb h0 fun r25 e26 h0=>Tx (H231 a2 r25 e26) (af rfl) (bb h0 fun r27 e28 h0=>Qi (H233 r13 r25 r27 e28) (o_ (Ay 2 (Dy a1 a2 r9.2 [(10,.ptr 640 0),(11,At 2496 r13),(13,iV r15.2),(65,.bool (!r27))]) (Ga a0 r9.1 r15.1 [(640,Ai r11 (Br 2368) (Br 2401))]) (El h0 (fun c29 h0=>?_) (fun c29 h0=>?_))))))))))))))
     ·obtain rfl:=sj h0
      exact Dz 4
     ·refine Ay 5 (Dy a1 a2 r9.2 [(10,.ptr 640 0),(11,At 2496 r13),(13,iV r15.2),(14,iV 1)]) (Ga a0 r9.1 r15.1 [(640,Ai r11 (Br 2368) (Br 2401))]) (Ce (Ak (st (c_ (v:=.agg (Ai r11 (Br 2368) (Br 2401))) (Bq ⟨tv,tv⟩ rfl (nl rfl)) (st (Dj rfl tv (bb h0 fun r30 e31 h0=>gg h0 fun c32 h0=>gg h0 fun c33 h0=>HU [] [2368,2401] [] (H234 r11 1 r30 e31) (sw ⟨Dy a1 a2 r9.2 [(11,At 2496 r13),(13,iV r15.2),(68,iV r30.1)],Ga a0 r9.1 r15.1 [],[]⟩ (Ho (by kernel_rfl)) (Dj rfl tv (o_ (Ay 1 (Dy a1 a2 r9.2 [(11,At 2496 r13),(13,iV r15.2),(14,iV r30.1)]) (Ga a0 r9.1 r15.1 []) (Ce (Ak (st (Dj rfl tv (st (Dj rfl tv (bb h0 fun r34 e35 h0=>gg h0 fun c36 h0=>HT [] [2496] [] (H235 r13 r30.1 r34 e35) (ar (Fj (IN (fun _=>rfl)) rfl)) (sw ⟨Dy a1 a2 r9.2 [(13,iV r15.2),(71,iV r34.1)],Ga a0 r9.1 r15.1 [],[]⟩ (Ho (by kernel_rfl)) (Dj rfl tv (o_ (Ay 1 (Dy a1 a2 r9.2 [(13,iV r15.2),(14,iV r34.1)]) (Ga a0 r9.1 r15.1 []) (Ce (Ce (Ak (st (Dj rfl tv (st (c_ (Bq t3 rfl tv) (st (Dj rfl tv (st (Hy (u:=.agg (Ai r15.1 (Br 2816) (Br 2849))) rfl (fun hg=>(Bq ⟨tv,tv⟩ rfl (nl rfl))) (st (Hy (u:=.agg (Ai r9.1 (Br 2112) (Br 2113))) rfl (fun hg=>(Bq ⟨tv,tv⟩ rfl (nl rfl))) (bb h0 fun r37 e38 h0=>st (Yi (r:=.bool r37) rfl false (fun hg=>H232 r15.1 r9.1 r37 (ip hg e38)) ⟨(fun hg=>hg),(fun hg=>hg),tv⟩ (fun _=>rfl) (fun _=>rfl) (fun _=>rfl) (fun h=>nomatch h) (st (Hy (u:=.bool (!r37)) rfl (fun hg=>(Bq ⟨(fun _=>hg),tv⟩ rfl tv)) (st (Jm rfl rfl rfl tv (fun h=>vU h) rfl (st (Dj rfl tv (st (Hy (u:=iV r15.2) rfl (fun hg=>(Yn (v:=iV r15.2) rfl tv)) (st (Hy (u:=iV r9.2) rfl (fun hg=>(Yn (v:=iV r9.2) rfl tv)) (st (Hy (u:=.bool (r15.2 != r9.2)) rfl (fun hg=>(Bq ⟨(fun _=>hg),(fun _=>hg),tv⟩ rfl tv)) (sw ⟨Dy a1 a2 r9.2 [(80,.bool (bif (decide (r34.1<0)) then true else (!r37))),(83,.may ((bif (decide (r34.1<0)) then true else (!r37))==false) (.bool (r15.2 != r9.2)))],Ga a0 r9.1 r15.1 [],[]⟩ (Ho (by kernel_rfl)) (Jm rfl rfl rfl tv (fun h=>vU h) rfl (Td (bv h0 fun v39 e40 h0=>Hz ⟨Dy a1 a2 r9.2 [(84,.bool v39)],Ga a0 r9.1 r15.1 [],[]⟩ (Ho (by subst e40; kernel_rfl)) (El h0 (fun c41 h0=>?_) (fun c41 h0=>?_)))))))))))))))))))))))))))))))))))))))))))))))))))))))
      ·obtain rfl:=sj h0
       exact Dz 4
      ·refine Ay 5 (Dy a1 a2 r9.2 [(15,iV 1)]) (Ga a0 r9.1 r15.1 []) (Ce (Ak (st (c_ (v:=.agg (Ai r15.1 (Br 2816) (Br 2849))) (Bq ⟨tv,tv⟩ rfl (nl rfl)) (st (Dj rfl tv (bb h0 fun r42 e43 h0=>gg h0 fun c44 h0=>gg h0 fun c45 h0=>HU [] [2816,2849] [] (H234 r15.1 1 r42 e43) (sw ⟨[(1,iV a1),(2,Df a2),(3,.ptr 192 0),(8,.ptr 512 0),(9,iV r9.2),(12,.ptr 768 0),(87,iV r42.1)],[(192,Ae a0),(512,Ai r9.1 (Br 2112) (Br 2113)),(768,[At 2816 r42.2.1,Ac 2849 r42.2.2])],[]⟩ (fg ⟨rfl,rfl,rfl,rfl,rfl,rfl,rfl,tv⟩ ⟨rfl,rfl,IX (fun z0 z1=>some (([z0,z1]:List V))) (Sr c44) (Sr c45),tv⟩) (Dj rfl tv (o_ (Ay 5 (Dy a1 a2 r9.2 [(15,iV r42.1),(16,iV 1)]) (Kl a0 r9.1 [(768,[At 2816 r42.2.1,Ac 2849 r42.2.2])]) (Ce (Ak (st (c_ (v:=.agg [At 2816 r42.2.1,Ac 2849 r42.2.2]) (Bq ⟨tv,tv⟩ rfl (nl rfl)) (st (Dj rfl tv (bb h0 fun r46 e47 h0=>Qi (H236 (Af.mk r42.2.1 r42.2.2) 1 r46 e47) (o_ (Ay 8 (Dy a1 a2 r9.2 [(15,iV r42.1),(16,iV r46),(92,.bool (decide (r46<0)))]) (Kl a0 r9.1 [(768,[At 2816 r42.2.1,Ac 2849 r42.2.2])]) (El h0 (fun c48 h0=>?_) (fun c48 h0=>?_))))))))))))))))))))))
       ·obtain rfl:=sj h0
        exact Dz 4
       ·refine Ay 8 (Dy a1 a2 r9.2 [(15,iV r42.1),(95,.bool (r46 != r42.1))]) (Kl a0 r9.1 [(768,[At 2816 r42.2.1,Ac 2849 r42.2.2])]) (El h0 (fun c49 h0=>?_) (fun c49 h0=>?_))
        ·obtain rfl:=sj h0
         exact Dz 4
        ·refine xZ (yE (Ce (Ak (st (c_ (v:=.agg (Ae a0)) (Bq ⟨tv,tv⟩ rfl (nl rfl)) (bb h0 fun r50 e51 h0=>Tx (H230 a0 r50 e51) (af (Fj (Tb rfl) rfl)) (st (Dj rfl tv (st (Dj rfl tv (bb h0 fun r52 e53 h0=>sw ⟨[(8,.ptr 512 0),(9,iV r9.2),(12,.ptr 768 0),(15,iV r42.1),(98,.agg (Ai r50 (Br 6272) (Br 6305))),(99,iV a1),(100,Df a2)],[(512,Ai r9.1 (Br 2112) (Br 2113)),(768,[At 2816 r42.2.1,Ac 2849 r42.2.2])],[]⟩ (Ho (by kernel_rfl)) (Io (r:=At 0 r52) false (H231 a2 r52 e53) ⟨tv,tv⟩ rfl rfl (fun _=>(af rfl)) (bb h0 fun r54 e55 h0=>Tx (H214 r50 a1 r52 r54 e55) (af (Fj (Tb rfl) (Fj rfl rfl))) (st (Dj rfl tv (st (c_ (Bq ⟨tv,tv⟩ rfl tv) (st (c_ (Bq ⟨tv,tv⟩ rfl tv) (st (Gs (sw ⟨[(8,.ptr 512 0),(9,iV r9.2),(12,.ptr 768 0),(15,iV r42.1),(17,.ptr 1088 0),(103,.agg (Ai r54.1 (Br 6528) (Br 6561))),(104,iV r54.2)],[(512,Ai r9.1 (Br 2112) (Br 2113)),(768,[At 2816 r42.2.1,Ac 2849 r42.2.2]),(1088,[At 1089 [],Ac 1122 []])],[]⟩ (Lt [] [(1090,1122)] rfl (by kernel_rfl)) (Jg rfl rfl tv rfl rfl rfl (nl rfl) (o_ (Ay 2 [(8,.ptr 512 0),(9,iV r9.2),(12,.ptr 768 0),(15,iV r42.1),(17,.ptr 1088 0),(18,iV r54.2)] [(512,Ai r9.1 (Br 2112) (Br 2113)),(768,[At 2816 r42.2.1,Ac 2849 r42.2.2]),(1088,Ai r54.1 (Br 6528) (Br 6561))] (Ce (Ce (Ak (st (c_ (v:=.agg (Ai r54.1 (Br 6528) (Br 6561))) (Bq ⟨tv,tv⟩ rfl (nl rfl)) (st (c_ (v:=.agg (Ai r9.1 (Br 2112) (Br 2113))) (Bq ⟨tv,tv⟩ rfl (nl rfl)) (bb h0 fun r56 e57 h0=>Qi (H232 r54.1 r9.1 r56 e57) (st (c_ (Bq ⟨tv,tv⟩ rfl tv) (st (Dj rfl tv (st (Hy (u:=iV r54.2) rfl (fun hg=>(Yn (v:=iV r54.2) rfl tv)) (st (Hy (u:=iV r9.2) rfl (fun hg=>(Yn (v:=iV r9.2) rfl tv)) (st (Hy (u:=.bool (r54.2 != r9.2)) rfl (fun hg=>(Bq ⟨(fun _=>hg),(fun _=>hg),tv⟩ rfl tv)) (st (Jm rfl rfl rfl tv (fun h=>vU h) rfl (o_ (Ay 1 [(12,.ptr 768 0),(15,iV r42.1),(113,.bool (bif (!r56) then true else (r54.2 != r9.2)))] [(768,[At 2816 r42.2.1,Ac 2849 r42.2.2])] (El h0 (fun c58 h0=>?_) (fun c58 h0=>?_)))))))))))))))))))))))))))))))))))))))))))))))))
         ·obtain rfl:=sj h0
          exact Dz 4
         ·refine Ay 5 [(12,.ptr 768 0),(15,iV r42.1),(16,iV 1)] [(768,[At 2816 r42.2.1,Ac 2849 r42.2.2])] (Ce (Ak (st (c_ (v:=.agg [At 2816 r42.2.1,Ac 2849 r42.2.2]) (Bq ⟨tv,tv⟩ rfl (nl rfl)) (st (Dj rfl tv (bb h0 fun r59 e60 h0=>Qi (H236 (Af.mk r42.2.1 r42.2.2) 1 r59 e60) (o_ (Ay 8 [(15,iV r42.1),(16,iV r59),(118,.bool (decide (r59<0)))] [] (El h0 (fun c61 h0=>?_) (fun c61 h0=>?_)))))))))))
          ·obtain rfl:=sj h0
           exact Dz 4
          ·refine Ay 8 [(121,.bool (r59 != r42.1))] [] (El h0 (fun c62 h0=>?_) (fun c62 h0=>?_))
           ·obtain rfl:=sj h0
            exact Dz 4
           ·obtain rfl:=sj h0
            exact Dz 6
end Go.Ev
