/- The walks of functions: the code comes to the answers that QgD tells. Written by a program of ours. -/
import Derived.Test.YtdmclbbhhcpjfaaQgD
set_option linter.all false
set_option maxHeartbeats 4000000
set_option linter.unusedVariables false
set_option maxRecDepth 100000
namespace Go.Ev
variable {C:Ar}
theorem sj {α:Type} {a b:α} (h:some a=some b):a=b:=Option.some.inj h
abbrev wi:Int→Int:=IntKind.i64.wrap
theorem tv:True:=True.intro
abbrev iQ (n:Nat) (o:PU):Az:=⟨some n,.p o,none⟩
abbrev iV (n:Int):V:=.int .i64 n
theorem nl {a b:Nat} (h:Nat.ble a b=true):a≤b:=Nat.le_of_ble_eq_true h
theorem t3:True∧True∧True:=⟨trivial,trivial,trivial⟩
abbrev m_ (d s:Nat):Az:=⟨some d,.p (.mv (.t s)),none⟩
abbrev k_ (d:Nat) (v:V):Az:=⟨some d,.p (.mv (.c v)),none⟩
abbrev i_ (d:Nat) (n:Int):Az:=⟨some d,.p (.mv (.c (.int .i64 n))),none⟩
abbrev f_ (d x o:Nat):Az:=⟨some d,.p (.fieldA (.t x) o),none⟩
abbrev l_ (d x n:Nat):Az:=⟨some d,.p (.load (.t x) n false),none⟩
abbrev L_ (d x n:Nat):Az:=⟨some d,.p (.load (.t x) n true),none⟩
abbrev x_ (d x y n:Nat):Az:=⟨some d,.p (.idxA (.t x) (.t y) n),none⟩
abbrev e_ (d x n:Nat):Az:=⟨some d,.p (.ext (.t x) n),none⟩
abbrev b_ (o:BinOp) (d x y:Nat):Az:=⟨some d,.p (.bin o (.t x) (.t y)),none⟩
abbrev B_ (o:BinOp) (d x:Nat) (n:Int):Az:=⟨some d,.p (.bin o (.t x) (.c (.int .i64 n))),none⟩
abbrev n_ (d x:Nat):Az:=⟨some d,.p (.len (.t x)),none⟩
abbrev N_ (d x:Nat):Az:=⟨some d,.p (.un .not (.t x)),none⟩
abbrev s_ (x y n:Nat):Az:=⟨none,.store (.t x) (.t y) n,none⟩
abbrev a_ (d:Nat) (z:List V):Az:=⟨some d,.alloc z,none⟩
abbrev X_ (d x:Nat):Az:=⟨some d,.box (.t x),none⟩
abbrev q_ (d f:Nat) (l:List Aq):Az:=⟨some d,.call f l,none⟩
abbrev pk (d:Nat) (a b c:Aq):Az:=⟨some d,.pick a b c,none⟩
abbrev pT (g d:Nat) (o:PU):Az:=⟨some d,.p o,some (g,true)⟩
abbrev pF (g d:Nat) (o:PU):Az:=⟨some d,.p o,some (g,false)⟩
abbrev zV (a b c:Nat):List V:=[.int .i64 0,.int .i64 0,.own a 0 4 [],.own b 0 2 [],.own c 0 1 [],.bool false]
abbrev zT (a:Nat):List V:=[.int .i64 0,.int .i64 0,.own a 0 4 []]
abbrev mT (g d s:Nat):Az:=⟨some d,.p (.mv (.t s)),some (g,true)⟩
abbrev mF (g d s:Nat):Az:=⟨some d,.p (.mv (.t s)),some (g,false)⟩
abbrev lT (g d x n:Nat) (a:Bool):Az:=⟨some d,.p (.load (.t x) n a),some (g,true)⟩
abbrev lF (g d x n:Nat) (a:Bool):Az:=⟨some d,.p (.load (.t x) n a),some (g,false)⟩
abbrev fT (g d x n:Nat):Az:=⟨some d,.p (.fieldA (.t x) n),some (g,true)⟩
abbrev fF (g d x n:Nat):Az:=⟨some d,.p (.fieldA (.t x) n),some (g,false)⟩
abbrev xT (g d x y n:Nat):Az:=⟨some d,.p (.idxA (.t x) (.t y) n),some (g,true)⟩
abbrev xF (g d x y n:Nat):Az:=⟨some d,.p (.idxA (.t x) (.t y) n),some (g,false)⟩
abbrev pa (d a b:Nat):Az:=⟨some d,.pick (.t a) (.t b) (.c (.bool false)),none⟩
abbrev po (d a b:Nat):Az:=⟨some d,.pick (.t a) (.c (.bool true)) (.t b),none⟩
abbrev sr (l:List Az) (b:IR):IR:=.seq (.reg l) b
abbrev sd (p:DP) (b:IR):IR:=.seq (.draw p) b
abbrev rr (l:List Az):IR:=.seq (.reg l) .ret
abbrev iz (n:Nat) (a:IR):IR:=.ite (.t n) a .skip
abbrev Pz (n:Nat) (a:IR):IR:=.block n (.loop a)
def tk:List Az→DP→DP
  | [],p=>p
  | i::l,p=>.take i (tk l p)
abbrev FO (C:Ar) (c:Dx):Ar:=fun _=>dO C c
theorem f0 {C:Ar} {fn:Dx} {args:List V} {bx:List (List V)} {t:Cz} (h:WL C [.c fn.body] (FQ fn.res bx.length t) .normal ⟨My args 0,Mz bx Am,[]⟩) (h0:Nat.ble args.length fn.nt=true:=by kernel_rfl):dO C fn ⟨args,bx⟩ t:=QN (Nat.le_of_ble_eq_true h0) h
abbrev Cf (t k:Nat) (l:List (List V)):V:=.own t 0 k l
abbrev u_ (k:Nat) (l:List (List V)):V:=.lst k l
abbrev Ah (l:List Aa):V:=.lst 2 (l.map Ak)
abbrev Bd (l:List UInt8):V:=.lst 1 (l.map Dh)
abbrev Ad (t:Nat) (l:List Aa):V:=.own t 0 2 (l.map Ak)
abbrev As (t:Nat) (l:List UInt8):V:=.own t 0 1 (l.map Dh)
abbrev lE (x:Aa) (w1:Nat→List (List V)→V):List V:=[iV x.at_,w1 1 (x.data.map Dh)]
abbrev Ai (x:Af) (w0:Nat→List (List V)→V) (w1:Nat→List (List V)→V):List V:=[w0 1 (x.held.map Dh),w1 2 (x.Ab.map Ak)]

/- loop.example/g00149/impl.isList[loop.example/g00149/impl.Sector] -/
def sC:=[k_ 2 (.bool false)]
def sD:=[m_ 3 0,n_ 4 3,B_ .leq 5 4 4096,m_ 2 5]
def KL:Dx:=⟨1,6,[.t 2],sr sC (rr sD)⟩
def GI (D:Ar):Prop:=∀a0 r,CT a0=some r→D 269 ⟨[Ah a0],[]⟩ ⟨.bool r,[],[]⟩
theorem NU:GI (FO C KL):=by
 intro a0 r h0
 refine f0 (At 3 [(0,Ah a0)] [] (Bi (Aj (st (Cd rfl tv (Iw rfl (o_ ?_)))))))
 obtain rfl:=sj h0
 exact Dq 4

/- slices.IndexFunc[[]loop.example/g00149/impl.Sector,loop.example/g00149/impl.Sector] -/
def BW:=[i_ 4 0]
def BX:=[m_ 6 0,n_ 7 6,i_ 8 0]
def BY:=[b_ .lss 9 8 7]
def BZ:=[m_ 10 8,m_ 5 10]
def CA:List Az:=[m_ 11 1,m_ 12 0,m_ 13 5,x_ 14 12 13 2,L_ 15 14 2,⟨some 16,.callv (.t 11) [.t 15],none⟩]
def CB:=[m_ 17 5,m_ 4 17]
def CC:=[B_ .add 18 8 1,m_ 8 18]
def BV:IR:=(sr BY (.seq (.ite (.t 9) .skip (.exit 0)) (.seq (.block 1 (sr BZ (sr CA (iz 16 (rr CB))))) (.reg CC))))
def CD:=[i_ 4 (-1)]
def LX:Dx:=⟨2,19,[.t 4],sr BW (.seq (sr BX (Pz 0 BV)) (rr CD))⟩
def HL (C:Ar) (D:Ar:=C):Prop:=∀(a0:List Aa) (f1:Nat) (k1:List V) (is1:Aa→Option Bool) (hs1:dR k1) (hf1:∀(x0:Aa) r,is1 x0=some r→C f1 ⟨.agg (Ak x0)::k1,[]⟩ ⟨.bool r,[],[]⟩) (r:Int),IK a0 is1=some r→D 367 ⟨[Ah a0,.clo f1 k1],[]⟩ ⟨iV r,[],[]⟩
theorem PE:HL C (FO C LX):=by
 intro a0 f1 k1 is1 hs1 hf1 r h0
 refine f0 (At 3 [(0,Ah a0),(1,.clo f1 k1)] [] (Bg 3 (Aj (Iw rfl (o_ (At 2 [(0,Ah a0),(1,.clo f1 k1),(7,iV (a0.length:Int)),(8,iV 0)] [] (Bw (bb h0 fun r21 e22 h0=>Cw (R:=(fun S=>.inl ()=r21∧S=⟨[],[],[]⟩)) (cI a0 is1) (fun s S=>match s with | p7=>S=⟨[(0,Ah a0),(1,.clo f1 k1),(7,iV (a0.length:Int)),(8,iV p7)],[],[]⟩) e22 _ (Fp (by kernel_rfl)) rfl 0 (fun _=>rfl) ?_ ?_))))))))
 ·rintro S _ hfg ⟨rfl,rfl⟩
  refine Fz _ hfg ?_
  obtain rfl:=sj h0
  exact Dq 4
 ·rintro p7 o1 _ K1 rfl h1 hx1 hK1 hE1 hR1
  refine At 3 [(0,Ah a0),(1,.clo f1 k1),(7,iV (a0.length:Int)),(8,iV p7),(9,.bool (decide (p7<(a0.length:Int))))] [] (Bi (Dk h1 (fun c15 h1=>?_) (fun c15 h1=>?_)))
  ·refine At 8 [(0,Ah a0),(1,.clo f1 k1),(5,iV p7),(7,iV (a0.length:Int)),(8,iV p7)] [] (Bg 4 (Aj (bb h1 fun y16 e17 h1=>bE rfl rfl e17 (st (c_ (v:=.agg (Ak y16)) (Bb ⟨tv,tv⟩ rfl (nl rfl)) (bb h1 fun r18 e19 h1=>st (bV (r:=.bool r18) rfl false (hf1 _ r18 e19) ⟨tv,tv⟩ (Fh rfl hs1.2.2.1) (Vz rfl (hs1.2.1 _ _ _ _ _)) (fun _=>rfl) (o_ (At 1 [(0,Ah a0),(1,.clo f1 k1),(5,iV p7),(7,iV (a0.length:Int)),(8,iV p7),(16,.bool r18)] [] (Dk h1 (fun c20 h1=>?_) (fun c20 h1=>?_)))))))))))
   ·obtain rfl:=sj h1
    obtain rfl:=hx1 _ rfl
    obtain rfl:=sj h0
    exact mH 5 hR1
   ·refine Bg 6 ?_
    obtain rfl:=sj h1
    exact kn hK1 rfl rfl
  ·obtain rfl:=sj h1
   obtain rfl:=hx1 _ rfl
   refine Qj rfl ?_
   exact jn hE1 ⟨rfl,rfl⟩

/- slices.ContainsFunc[[]loop.example/g00149/impl.Sector,loop.example/g00149/impl.Sector] -/
def yI:=[k_ 4 (.bool false)]
def yJ:=[m_ 5 0,m_ 6 1,q_ 7 367 [.t 5,.t 6],B_ .geq 8 7 0,m_ 4 8]
def LJ:Dx:=⟨2,9,[.t 4],sr yI (rr yJ)⟩
def HA (C:Ar) (D:Ar:=C):Prop:=∀(a0:List Aa) (f1:Nat) (k1:List V) (is1:Aa→Option Bool) (hs1:dR k1) (hf1:∀(x0:Aa) r,is1 x0=some r→C f1 ⟨.agg (Ak x0)::k1,[]⟩ ⟨.bool r,[],[]⟩) (r:Bool),DN a0 is1=some r→D 329 ⟨[Ah a0,.clo f1 k1],[]⟩ ⟨.bool r,[],[]⟩
theorem OS (H367:HL C):HA C (FO C LJ):=by
 intro a0 f1 k1 is1 hs1 hf1 r h0
 refine f0 (At 3 [(0,Ah a0),(1,.clo f1 k1)] [] (Bg 3 (Aj (bb h0 fun r1 e2 h0=>st (Jh (r:=iV r1) false (H367 a0 f1 k1 is1 hs1 hf1 r1 e2) ⟨tv,tv,tv⟩ rfl (Vz rfl (Vz (HV hs1) rfl)) (fun _=>rfl) (o_ ?_))))))
 obtain rfl:=sj h0
 exact Dq 4

/- loop.example/g00149/impl.areAll[loop.example/g00149/impl.Sector]$1 -/
def yK:=[X_ 2 0,k_ 3 (.bool false)]
def yL:List Az:=[l_ 4 1 1,L_ 5 2 2,⟨some 6,.callv (.t 4) [.t 5],none⟩,N_ 7 6,m_ 3 7]
def LK:Dx:=⟨2,8,[.t 3],sr yK (rr yL)⟩
def HB (C:Ar) (D:Ar:=C):Prop:=∀(a0:Aa) (f1:Nat) (k1:List V) (is1:Aa→Option Bool) (hs1:dR k1) (hf1:∀(x0:Aa) r,is1 x0=some r→C f1 ⟨.agg (Ak x0)::k1,[]⟩ ⟨.bool r,[],[]⟩) (r:Bool),DQ a0 is1=some r→D 330 ⟨[.agg (Ak a0),.iptr [.clo f1 k1]],[]⟩ ⟨.bool r,[],[]⟩
theorem OT:HB C (FO C LK):=by
 intro a0 f1 k1 is1 hs1 hf1 r h0
 refine f0 (At 4 [(1,.iptr [.clo f1 k1]),(2,.ptr 128 0)] [(128,Ak a0)] (Bg 3 (Aj (bb h0 fun r1 e2 h0=>st (bV (r:=.bool r1) rfl false (hf1 _ r1 e2) ⟨tv,tv⟩ (Fh rfl hs1.2.2.1) (Vz rfl (hs1.2.1 _ _ _ _ _)) (fun _=>rfl) (o_ ?_))))))
 obtain rfl:=sj h0
 exact Dq 4

/- loop.example/g00149/impl.areAll[loop.example/g00149/impl.Sector] -/
def sE:=[X_ 3 1,k_ 4 (.bool false)]
def sF:=[m_ 5 0,iQ 6 (.fn 330 [.t 3]),q_ 7 329 [.t 5,.t 6],N_ 8 7,m_ 4 8]
def KM:Dx:=⟨2,9,[.t 4],sr sE (rr sF)⟩
def GJ (C:Ar) (D:Ar:=C):Prop:=∀(a0:List Aa) (f1:Nat) (k1:List V) (is1:Aa→Option Bool) (hs1:dR k1) (hf1:∀(x0:Aa) r,is1 x0=some r→C f1 ⟨.agg (Ak x0)::k1,[]⟩ ⟨.bool r,[],[]⟩) (r:Bool),CU a0 is1=some r→D 270 ⟨[Ah a0,.clo f1 k1],[]⟩ ⟨.bool r,[],[]⟩
theorem NV (H329:HA C) (H330:HB C):GJ C (FO C KM):=by
 intro a0 f1 k1 is1 hs1 hf1 r h0
 refine f0 (Bi (Aj (st (JV (MD hs1) tv rfl (o_ (At 2 [(0,Ah a0),(3,.ptr 192 0)] [(192,[.clo f1 k1])] (Bg 3 (Aj (bb h0 fun r1 e2 h0=>st (Jh (r:=.bool r1) false (H329 a0 330 [.iptr [.clo f1 k1]] (fun z330_0=>DQ z330_0 is1) (⟨fun _ _ _ _ _=>rfl,fun _ _ _ _ _=>rfl,rfl,fun _ _ _ n=>by cases n<;>rfl,fun _=>rfl⟩) (fun z330_0 r h=>H330 z330_0 f1 k1 is1 hs1 hf1 r h) r1 e2) ⟨tv,tv,tv⟩ rfl (Vz rfl (Vz (congrArg (fun z=>V.clo 330 [.iptr [.clo f1 z]]) (hs1.2.2.2.1 _ _ _ _)) rfl)) (fun _=>rfl) (o_ ?_)))))))))))
 obtain rfl:=sj h0
 exact Dq 4

/- loop.example/g00149/impl.within -/
def HS:=[k_ 6 (.bool false)]
def HT:=[m_ 7 1,m_ 8 0,b_ .leq 9 7 8,m_ 10 9,mT 10 11 0,mT 10 12 2,pT 10 13 (.bin .leq (.t 11) (.t 12)),pa 14 10 13,m_ 6 14]
def QC:Dx:=⟨3,15,[.t 6],sr HS (rr HT)⟩
def JR (D:Ar):Prop:=∀a0 a1 a2 r,nX a0 a1 a2=some r→D 63 ⟨[iV a0,iV a1,iV a2],[]⟩ ⟨.bool r,[],[]⟩
theorem QI:JR (FO C QC):=by
 intro a0 a1 a2 r h0
 refine f0 (At 3 [(0,iV a0),(1,iV a1),(2,iV a2)] [] (JL 9 (Aj (o_ ?_))))
 obtain rfl:=sj h0
 exact Dq 3

/- loop.example/g00149/impl.DeviceOK$1 -/
def sG:=[X_ 1 0,k_ 2 (.bool false)]
def sH:=[f_ 3 1 0,l_ 4 3 1,q_ 5 63 [.t 4,.c (iV 0),.c (iV 127)],m_ 6 5,fT 6 7 1 1,lT 6 8 7 1 false,pT 6 9 (.len (.t 8)),pT 6 10 (.bin .eql (.t 9) (.c (iV 32))),pa 11 6 10,m_ 2 11]
def KN:Dx:=⟨1,12,[.t 2],sr sG (rr sH)⟩
def GK (D:Ar):Prop:=∀a0 r,eO a0=some r→D 271 ⟨[.agg (Ak a0)],[]⟩ ⟨.bool r,[],[]⟩
theorem NW (H63:JR C):GK (FO C KN):=by
 intro a0 r h0
 refine f0 (At 4 [(1,.ptr 64 0)] [(64,Ak a0)] (Bg 3 (Aj (bb h0 fun r1 e2 h0=>Qg (H63 a0.at_ 0 127 r1 e2) (o_ (JL 3 (Aj (st (Ei (u:=iV (a0.data.length:Int)) rfl (fun hg=>(Su (e:=Dh) (l0:=a0.data) rfl rfl (fun _=>hg))) (o_ (JL 2 (Aj (o_ ?_)))))))))))))
 obtain rfl:=sj h0
 exact Dq 3

/- loop.example/g00149/impl.DeviceOK -/
def oQ:=[X_ 1 0,k_ 2 (.bool false)]
def oR:List Az:=[f_ 3 1 0,l_ 4 3 1,n_ 5 4,B_ .rem 6 5 32,B_ .eql 7 6 0,m_ 8 7,fT 8 9 1 0,lT 8 10 9 1 false,pT 8 11 (.len (.t 10)),pT 8 12 (.bin .leq (.t 11) (.c (iV 4096))),pa 13 8 12,m_ 14 13,fT 14 15 1 1,lT 14 16 15 1 false,⟨some 17,.call 269 [.t 16],some (14,true)⟩,pa 18 14 17,m_ 19 18,fT 19 20 1 1,lT 19 21 20 1 false,⟨some 22,.call 270 [.t 21,.c (.clo 271 [])],some (19,true)⟩,pa 23 19 22,m_ 2 23]
def JX:Dx:=⟨1,24,[.t 2],sr oQ (rr oR)⟩
def FY (D:Ar):Prop:=∀a0 r,CP a0=some r→D 216 ⟨[.agg (Ae a0)],[]⟩ ⟨.bool r,[],[]⟩
theorem NE (H269:GI C) (H270:GJ C) (H271:GK C):FY (FO C JX):=by
 intro a0 r h0
 refine f0 (At 4 [(1,.ptr 64 0)] [(64,Ae a0)] (Bg 3 (Aj (Iw rfl (st (c_ (Bb ⟨tv,tv,tv⟩ rfl (by decide)) (o_ (Bg 2 (Aj (st (Ei (u:=.ptr 64 0) rfl (fun hg=>(Bb ⟨tv,tv⟩ rfl tv)) (st (Ei (u:=Bd a0.held) rfl (fun hg=>(Bb ⟨(fun _=>hg),tv⟩ rfl (nl rfl))) (st (Ei (u:=iV (a0.held.length:Int)) rfl (fun hg=>(Su (e:=Dh) (l0:=a0.held) rfl rfl (fun _=>hg))) (st (Ei (u:=.bool (decide ((a0.held.length:Int)≤4096))) rfl (fun hg=>(Bb ⟨(fun _=>hg),tv,tv⟩ rfl tv)) (st (Gt rfl rfl rfl (fun h=>PK h) tv rfl (st (Cd rfl tv (st (Ei (u:=.ptr 64 1) rfl (fun hg=>(Bb ⟨tv,tv⟩ rfl tv)) (st (Ei (u:=Ah a0.Ab) rfl (fun hg=>(Bb ⟨(fun _=>hg),tv⟩ rfl (nl rfl))) (bb h0 fun r1 e2 h0=>st (Sp (r:=.bool r1) rfl false (fun hg=>H269 a0.Ab r1 (ip hg e2)) ⟨(fun hg=>hg),tv⟩ (fun _=>rfl) (fun _=>rfl) (fun _=>rfl) (fun h=>nomatch h) (st (Gt rfl rfl rfl (fun h=>PK h) tv rfl (st (Cd rfl tv (st (Ei (u:=.ptr 64 1) rfl (fun hg=>(Bb ⟨tv,tv⟩ rfl tv)) (st (Ei (u:=Ah a0.Ab) rfl (fun hg=>(Bb ⟨(fun _=>hg),tv⟩ rfl (nl rfl))) (bb h0 fun r3 e4 h0=>st (Sp (r:=.bool r3) rfl false (fun hg=>H270 a0.Ab 271 [] (fun z271_0=>eO z271_0) (⟨fun _ _ _ _ _=>rfl,fun _ _ _ _ _=>rfl,rfl,fun _ _ _ n=>by cases n<;>rfl,fun _=>rfl⟩) (fun z271_0 r h=>H271 z271_0 r h) r3 (ip hg e4)) ⟨(fun hg=>hg),tv,tv⟩ (fun _=>rfl) (fun _=>rfl) (fun _=>rfl) (fun h=>nomatch h) (st (Gt rfl rfl rfl (fun h=>PK h) tv rfl (st (Cd rfl tv (Rl (bv h0 fun v5 e6 h0=>Fz ⟨[(2,.bool v5)],[],[]⟩ (Fp (by subst e6; kernel_rfl)) ?_)))))))))))))))))))))))))))))))))))))))))))
 obtain rfl:=sj h0
 exact Zf (Lp rfl rfl rfl rfl rfl tv)

/- loop.example/g00149/impl.isShort[[]byte] -/
def rY:=[k_ 2 (.bool false)]
def rZ:=[m_ 3 0,n_ 4 3,B_ .leq 5 4 65536,m_ 2 5]
def KJ:Dx:=⟨1,6,[.t 2],sr rY (rr rZ)⟩
def GG (D:Ar):Prop:=∀a0 r,IC a0=some r→D 264 ⟨[Bd a0],[]⟩ ⟨.bool r,[],[]⟩
theorem NS:GG (FO C KJ):=by
 intro a0 r h0
 refine f0 (At 3 [(0,Bd a0)] [] (Bi (Aj (st (Cd rfl tv (Iw rfl (o_ ?_)))))))
 obtain rfl:=sj h0
 exact Dq 4

/- slices.Clone[[]byte,byte] -/
def xK:List Az:=[⟨some 2,.nilS 1,none⟩]
def xL:List Az:=[m_ 3 0,⟨some 4,.isnil (.t 3) false,none⟩]
def xM:List Az:=[⟨some 2,.nilS 1,none⟩]
def xN:List Az:=[⟨some 5,.mkS 1 [.int .u8 0] 0 [],none⟩,m_ 6 0,⟨some 7,.app 1 1 (.t 5) (.t 6),none⟩,m_ 2 7]
def LF:Dx:=⟨1,8,[.t 2],sr xK (.seq (sr xL (iz 4 (rr xM))) (rr xN))⟩
def dP (D:Ar):Prop:=∀a0 r,Yn a0=some r→D 325 ⟨[Bd a0],[]⟩ ⟨As 0 r,[],[]⟩
theorem OO:dP (FO C LF):=by
 intro a0 r h0
 refine f0 ?_
 obtain ⟨hc,h0⟩:=PM h0
 obtain rfl:=sj h0
 refine At 3 [(0,Bd a0)] [] (Bg 3 (Aj (st (IM (e:=Dh) (l0:=a0) rfl fun b hb=>(Rl (mZ (IN (cb:=b) rfl (fun h=>?_) (fun h=>?_))))))))
 ·obtain rfl:=hb h
  refine Bi (Aj (st (FN (Rl (mZ ?_)))))
  refine Zf (Lp rfl rfl rfl rfl rfl tv)
 ·refine gC ?_
  refine At 0 [(0,Bd a0)] [] (Bg 3 (Aj (st (Mt (e:=Dh) (l0:=([]:List UInt8)) (l1:=a0) rfl rfl tv rfl (by decide) ?_ ?_))))
  rotate_left
  refine st (Cd rfl tv (Rl (mZ ?_)))
  refine Zf (Lp rfl rfl rfl rfl rfl tv)
  have:=Nat.mul_le_mul_right 1 hc
  exact Nat.le_trans this (by decide)

/- loop.example/g00149/impl.put -/
def xO:List Az:=[X_ 3 1,⟨some 4,.nilS 1,none⟩]
def xP:List Az:=[f_ 6 3 0,l_ 7 6 1,B_ .add 8 7 1,⟨some 9,.p (.bin .mul (.c (iV 32)) (.t 8)),none⟩,m_ 5 9]
def xQ:=[m_ 10 0,n_ 11 10,m_ 12 5,b_ .lss 13 11 12]
def xR:List Az:=[m_ 14 0,m_ 15 5,m_ 16 0,n_ 17 16,b_ .sub 18 15 17,⟨some 19,.appz 1 1 [.int .u8 0] (.t 14) (.t 18),none⟩,m_ 0 19]
def xS:=tk [m_ 20 0,f_ 21 3 0,l_ 22 21 1,⟨some 23,.p (.bin .mul (.c (iV 32)) (.t 22)),none⟩,⟨some 24,.p (.slice (.t 20) (some (.t 23)) none 1),none⟩,f_ 25 3 1,l_ 26 25 1] (.alt [] ⟨some 27,.copy 1 (.t 24) (.t 26),none⟩ .fin .stop)
def xU:=[m_ 28 0,m_ 4 28]
def LG:Dx:=⟨2,29,[.t 4],sr xO (.seq (sr xP (sr xQ (iz 13 (.reg xR)))) (sd xS (rr xU)))⟩
def GX (D:Ar):Prop:=∀a0 a1 r,DJ a0 a1=some r→D 326 ⟨[As 1024000 a0,.agg (Ak a1)],[]⟩ ⟨As 0 r,[],[]⟩
theorem OP:GX (FO C LG):=by
 intro a0 a1 r h0
 refine f0 (At 13 [(0,As 1024000 a0),(3,.ptr 192 0),(5,iV (wi (32*(wi (a1.at_+1)))))] [(192,Ak a1)] (Bi (Aj (st (Cd rfl tv (lP rfl (o_ (Bg 3 (bv h0 fun v1 e2 h0=>Fz ⟨[(0,As 1024000 a0),(3,.ptr 192 0),(5,iV (wi (32*(wi (a1.at_+1))))),(13,.bool v1)],[(192,Ak a1)],[]⟩ (Fp (by subst e2; kernel_rfl)) (MK (cb:=v1) (fun S=>∃p6:List UInt8,S=⟨[(0,As 1024000 p6),(3,.ptr 192 0)],[(192,Ak a1)],[]⟩∧Ox a1 p6=some r) rfl ?_ (fun c12 J11=>?_) (fun c12 J11=>?_)))))))))))
 ·rintro _ ⟨p6,rfl,h0⟩
  refine cZ 2 (bb h0 fun s7 e8 h0=>Bg 4 (Dt (An tv (c_ (Jl (e:=Dh) (y:=s7) rfl rfl tv ⟨tv,tv⟩ rfl rfl e8) (⟨tv,d_ (Bg 2 (Dt (Fu (copy_ (e:=Dh) (l1:=a1.data) rfl rfl tv rfl (d0 tv (Yk (Fz ⟨[(0,As 1024000 (ovl p6 ((wi (32*a1.at_)).toNat) (a1.data.take s7.length)))],[],[]⟩ (fg ⟨congrArg (fun z=>some ((.own 1024000 0 1 z:V))) Ik,tv⟩ tv) (Bg 4 (bv h0 fun v9 e10 h0=>Fz ⟨[(4,As 1024000 v9)],[],[]⟩ (Fp (by subst e10; kernel_rfl)) ?_)))))) Cp)))⟩)))))
  obtain rfl:=sj h0
  exact Zf (Lp rfl rfl rfl rfl rfl tv)
 ·replace h0:=ip c12 h0
  refine Bg 3 (Aj (lP rfl (st (c_ (Bb t3 rfl tv) (gg h0 fun c13 h0=>gg h0 fun c14 h0=>st (gN (e:=Dh) (l0:=a0) (0:UInt8) rfl rfl rfl (by decide) c13 c14 (st (Cd rfl tv (Rl ?_)))))))))
  exact jn J11 ⟨_,rfl,h0⟩
 ·replace h0:=PO c12 h0
  refine gC ?_
  exact jn J11 ⟨_,rfl,h0⟩

/- (loop.example/g00149/impl.Device).read -/
def rQ:List Az:=[X_ 1 0,⟨some 2,.nilS 1,none⟩]
def rR:=[f_ 6 1 0,l_ 7 6 1,q_ 8 325 [.t 7],m_ 3 8]
def rS:=[f_ 9 1 1,l_ 10 9 1,n_ 11 10,i_ 12 0]
def rT:=[b_ .lss 13 12 11]
def rU:=[x_ 14 10 12 2,L_ 15 14 2,a_ 5 [iV 0,.own 322 0 1 []],s_ 5 15 2]
def rV:=[m_ 16 3,L_ 17 5 2,q_ 18 326 [.t 16,.t 17],m_ 3 18]
def rW:=[B_ .add 19 12 1,m_ 12 19]
def rP:IR:=(sr rT (.seq (.ite (.t 13) .skip (.exit 0)) (.seq (.block 1 (sr rU (.reg rV))) (.reg rW))))
def rX:=[m_ 20 3,m_ 2 20]
def KI:Dx:=⟨1,21,[.t 2],sr rQ (sr rR (.seq (sr rS (Pz 0 rP)) (rr rX)))⟩
def gG (D:Ar):Prop:=∀a0 r,Ym a0=some r→D 263 ⟨[.agg (Ae a0)],[]⟩ ⟨As 0 r,[],[]⟩
theorem NQ (H325:dP C) (H326:GX C):gG (FO C KI):=by
 intro a0 r h0
 refine f0 (At 4 [(1,.ptr 64 0)] [(64,Ae a0)] (Bg 3 (Aj (bb h0 fun r1 e2 h0=>Mv (H325 a0.held r1 e2) (af rfl) (o_ (At 2 [(1,.ptr 64 0),(3,As 512 r1)] [(64,Ae a0)] (Bg 4 (Aj (Iw rfl (o_ (At 2 [(3,As 512 r1),(10,Ah a0.Ab),(11,iV (a0.Ab.length:Int)),(12,iV 0)] [] (Bw (bb h0 fun r23 e24 h0=>Cw (R:=(fun S=>∃p17:List UInt8,p17=r23∧S=⟨[(3,As 512 p17)],[],[]⟩)) (If a0) (fun s S=>match s with | (p8,p9)=>S=⟨[(3,As 512 p8),(10,Ah a0.Ab),(11,iV (a0.Ab.length:Int)),(12,iV p9)],[],[]⟩) e24 _ (Fp (by kernel_rfl)) rfl 0 (fun _=>rfl) ?_ ?_)))))))))))))
 ·rintro S _ hfg ⟨p17,rfl,rfl⟩
  refine Fz _ hfg ?_
  obtain rfl:=sj h0
  exact Dq 5
 ·rintro ⟨p8,p9⟩ o1 _ K1 rfl h1 hx1 hK1 hE1 hR1
  refine At 3 [(3,As 512 p8),(10,Ah a0.Ab),(11,iV (a0.Ab.length:Int)),(12,iV p9),(13,.bool (decide (p9<(a0.Ab.length:Int))))] [] (Bi (Dk h1 (fun c18 h1=>?_) (fun c18 h1=>?_)))
  ·refine cZ 5 (Aj (bb h1 fun y19 e20 h1=>bE rfl rfl e20 (o_ (At 4 [(3,As 512 p8),(5,.ptr 320 0),(10,Ah a0.Ab),(11,iV (a0.Ab.length:Int)),(12,iV p9)] [(320,Ak y19)] (Bg 2 (Aj (bb h1 fun r21 e22 h1=>PH [] [] [512] (H326 p8 y19 r21 e22) (Fh (af rfl) rfl) (o_ (At 3 [(3,As 1152 r21),(10,Ah a0.Ab),(11,iV (a0.Ab.length:Int)),(12,iV p9)] [] (Bg 3 ?_))))))))))
   obtain rfl:=sj h1
   exact hK1 _ rfl _ _ (Mw [] [(1152,512)] rfl (by kernel_rfl)) rfl
  ·obtain rfl:=sj h1
   obtain rfl:=hx1 _ rfl
   refine Qj rfl ?_
   exact jn hE1 ⟨_,rfl,rfl⟩

/- (loop.example/g00149/impl.Device).flush -/
def sA:=[X_ 1 0,a_ 2 [.own 129 0 1 [],.own 130 0 2 []]]
def sB:List Az:=[L_ 3 1 2,q_ 4 263 [.t 3],⟨some 5,.p (.build [.own 321 0 1 [],.own 322 0 2 []] [(0,1,.t 4)]),none⟩,s_ 2 5 2]
def KK:Dx:=⟨1,6,[.cell 2 2 true],sr sA (rr sB)⟩
def GH (D:Ar):Prop:=∀a0 r,ID a0=some r→D 267 ⟨[.agg (Ae a0)],[]⟩ ⟨.agg (Ai r (Cf 0) (Cf 33)),[],[]⟩
theorem NT (H263:gG C):GH (FO C KK):=by
 intro a0 r h0
 refine f0 (JN 4 [] [(130,162)] [(1,.ptr 64 0),(2,.ptr 128 0)] [(64,Ae a0),(128,[As 129 [],Ad 162 []])] (Bg 2 (Aj (bb h0 fun r1 e2 h0=>Mv (H263 a0 r1 e2) (af rfl) (st (c_ (v:=.agg [As 256 r1,Ad 322 []]) (Bb ⟨tv,tv⟩ rfl ⟨⟨rfl,rfl,nl rfl⟩,tv⟩) (sw ⟨[(2,.ptr 128 0),(5,.agg [As 256 r1,Ad 354 []])],[(128,[As 129 [],Ad 162 []])],[]⟩ (Mw [] [(322,354)] rfl (by kernel_rfl)) (Kg rfl rfl tv rfl rfl rfl (nl rfl) (o_ (At 1 [(2,.ptr 128 0)] [(128,[As 256 r1,Ad 354 []])] ?_))))))))))
 obtain rfl:=sj h0
 exact Zf (Lp rfl rfl rfl rfl rfl tv)

/- loop.example/g00149/impl.big -/
def yN:List Az:=[⟨some 4,.nilS 1,none⟩]
def yO:List Az:=[m_ 7 1,⟨some 8,.make 1 1 [.int .u8 0] (.t 7) (.t 7),none⟩,m_ 5 8]
def yP:=[m_ 9 5,n_ 10 9,i_ 11 0]
def yQ:=[b_ .lss 12 11 10]
def yR:=[m_ 13 11,m_ 6 13]
def yS:List Az:=[m_ 14 5,m_ 15 1,B_ .sub 16 15 1,m_ 17 6,b_ .sub 18 16 17,m_ 19 0,m_ 20 6,⟨some 21,.p (.bin .mul (.c (iV 8)) (.t 20)),none⟩,b_ .shr 22 19 21,iQ 23 (.conv .u8 (.t 22)),x_ 24 14 18 1,s_ 24 23 1]
def yT:=[B_ .add 25 11 1,m_ 11 25]
def yM:IR:=(sr yQ (.seq (.ite (.t 12) .skip (.exit 0)) (.seq (.block 1 (sr yR (.reg yS))) (.reg yT))))
def yU:=[m_ 26 5,m_ 4 26]
def LL:Dx:=⟨2,27,[.t 4],sr yN (sr yO (.seq (sr yP (Pz 0 yM)) (rr yU)))⟩
def HC (D:Ar):Prop:=∀a0 a1 r,aL a0 a1=some r→D 331 ⟨[iV a0,iV a1],[]⟩ ⟨As 0 r,[],[]⟩
theorem OU:HC (FO C LL):=by
 intro a0 a1 r h0
 refine f0 (At 3 [(0,iV a0),(1,iV a1)] [] (Bi (Aj (st (Cd rfl tv (gg h0 fun c1 h0=>gg h0 fun c2 h0=>st (FL (e:=Dh) (0:UInt8) rfl rfl c1 rfl c2 rfl (o_ (At 2 [(0,iV a0),(1,iV a1),(5,As 512 (List.replicate a1.toNat (0:UInt8)))] [] (Bg 3 (Aj (lP rfl (o_ (At 2 [(0,iV a0),(1,iV a1),(5,As 512 (List.replicate a1.toNat (0:UInt8))),(10,iV ((List.replicate a1.toNat (0:UInt8)).length:Int)),(11,iV 0)] [] (Bw (bb h0 fun r26 e27 h0=>Cw (R:=(fun S=>∃p19:List UInt8,p19=r26∧S=⟨[(5,As 512 p19)],[],[]⟩)) (Mf a0 a1) (fun s S=>match s with | (p9,p10)=>S=⟨[(0,iV a0),(1,iV a1),(5,As 512 p9),(10,iV ((List.replicate a1.toNat (0:UInt8)).length:Int)),(11,iV p10)],[],[]⟩) e27 _ (Fp (by kernel_rfl)) rfl 0 (fun _=>rfl) ?_ ?_))))))))))))))))
 ·rintro S _ hfg ⟨p19,rfl,rfl⟩
  refine Fz _ hfg ?_
  obtain rfl:=sj h0
  exact Dq 5
 ·rintro ⟨p9,p10⟩ o1 _ K1 rfl h1 hx1 hK1 hE1 hR1
  refine At 3 [(0,iV a0),(1,iV a1),(5,As 512 p9),(10,iV ((List.replicate a1.toNat (0:UInt8)).length:Int)),(11,iV p10),(12,.bool (decide (p10<((List.replicate a1.toNat (0:UInt8)).length:Int))))] [] (Bi (Dk h1 (fun c20 h1=>?_) (fun c20 h1=>?_)))
  ·refine At 8 [(0,iV a0),(1,iV a1),(5,As 512 p9),(6,iV p10),(10,iV ((List.replicate a1.toNat (0:UInt8)).length:Int)),(11,iV p10)] [] (Bg 8 (Aj (gg h1 fun c21 h1=>st (c_ (Bb ⟨tv,tv,tv⟩ rfl c21) (st (c_ (CH (Bb ⟨tv,tv⟩ rfl tv)) (bb h1 fun y22 e23 h1=>JO rfl rfl e23 (bb h1 fun y24 e25 h1=>PW (b8 (Ux .i64 a0 (wi (8*p10)))) rfl rfl e25 (o_ (At 2 [(0,iV a0),(1,iV a1),(5,.own 512 0 1 ((p9.set ((wi ((wi (a1-1))-p10)).toNat) (b8 (Ux .i64 a0 (wi (8*p10))))).map Dh)),(10,iV ((List.replicate a1.toNat (0:UInt8)).length:Int)),(11,iV p10)] [] (Bg 3 ?_)))))))))))
   obtain rfl:=sj h1
   exact kn hK1 rfl rfl
  ·obtain rfl:=sj h1
   obtain rfl:=hx1 _ rfl
   refine Qj rfl ?_
   exact jn hE1 ⟨_,rfl,rfl⟩

/- loop.example/g00149/impl.crc -/
def yX:=[i_ 2 0]
def yY:=[k_ 3 (.int .u32 4294967295)]
def yZ:=[m_ 7 0,n_ 8 7,i_ 9 0]
def zA:=[b_ .lss 10 9 8]
def zB:=[x_ 11 7 9 1,l_ 12 11 1,m_ 5 12]
def zC:=[m_ 13 3,m_ 14 5,iQ 15 (.conv .u32 (.t 14)),b_ .xor 16 13 15,m_ 3 16]
def zD:=[i_ 17 0]
def zE:=[B_ .lss 18 17 8]
def zF:List Az:=[m_ 19 3,⟨some 20,.p (.bin .and (.t 19) (.c (.int .u32 1))),none⟩,m_ 6 20]
def zG:List Az:=[m_ 21 3,⟨some 22,.p (.bin .shr (.t 21) (.c (.int .u64 1))),none⟩,m_ 3 22]
def jH:List Az:=[m_ 23 6,⟨some 24,.p (.bin .eql (.t 23) (.c (.int .u32 1))),none⟩]
def jI:List Az:=[m_ 25 3,⟨some 26,.p (.bin .xor (.t 25) (.c (.int .u32 3988292384))),none⟩,m_ 3 26]
def jJ:=[B_ .add 27 17 1,m_ 17 27]
def yV:IR:=(sr zE (.seq (.ite (.t 18) .skip (.exit 2)) (.seq (.block 3 (sr zF (sr zG (sr jH (iz 24 (.reg jI)))))) (.reg jJ))))
def jK:=[B_ .add 28 9 1,m_ 9 28]
def yW:IR:=(sr zA (.seq (.ite (.t 10) .skip (.exit 0)) (.seq (.block 1 (sr zB (sr zC (sr zD (Pz 2 yV))))) (.reg jK))))
def jL:=[m_ 29 3,iQ 30 (.un .xor (.t 29)),iQ 31 (.conv .i64 (.t 30)),m_ 2 31]
def LN:Dx:=⟨1,32,[.t 2],sr yX (sr yY (.seq (sr yZ (Pz 0 yW)) (rr jL)))⟩
def oD (D:Ar):Prop:=∀a0 r,kU a0=some r→D 332 ⟨[Bd a0],[]⟩ ⟨iV r,[],[]⟩
theorem OV:oD (FO C LN):=by
 intro a0 r h0
 refine f0 (At 7 [(0,Bd a0),(3,.int .u32 4294967295)] [] (Bg 3 (Aj (Iw rfl (o_ (At 2 [(3,.int .u32 4294967295),(7,Bd a0),(8,iV (a0.length:Int)),(9,iV 0)] [] (Bw (bb h0 fun r63 e64 h0=>Cw (R:=(fun S=>∃p39:Int,p39=r63∧S=⟨[(3,.int .u32 p39)],[],[]⟩)) (Mg a0) (fun s S=>match s with | (p19,p20)=>S=⟨[(3,.int .u32 p19),(7,Bd a0),(8,iV (a0.length:Int)),(9,iV p20)],[],[]⟩) e64 _ (Fp (by kernel_rfl)) rfl 0 (fun _=>rfl) ?_ ?_))))))))
 ·rintro S _ hfg ⟨p39,rfl,rfl⟩
  refine Fz _ hfg ?_
  obtain rfl:=sj h0
  exact Dq 7
 ·rintro ⟨p19,p20⟩ o1 _ K1 rfl h1 hx1 hK1 hE1 hR1
  refine At 3 [(3,.int .u32 p19),(7,Bd a0),(8,iV (a0.length:Int)),(9,iV p20),(10,.bool (decide (p20<(a0.length:Int))))] [] (Bi (Dk h1 (fun c40 h1=>?_) (fun c40 h1=>?_)))
  ·refine cZ 5 (Aj (bb h1 fun y41 e42 h1=>bE rfl rfl e42 (o_ (At 15 [(3,.int .u32 (Rt .u32 p19 (IntKind.u32.wrap ((y41).toNat:Int)))),(7,Bd a0),(8,iV (a0.length:Int)),(9,iV p20),(17,iV 0)] [] (Bw (bb h1 fun r61 e62 h1=>Cw (R:=(fun S=>∃p55:Int,p55=r61∧S=⟨[(3,.int .u32 p55),(7,Bd a0),(8,iV (a0.length:Int)),(9,iV p20)],[],[]⟩)) (Mh) (fun s S=>match s with | (p48,p49)=>S=⟨[(3,.int .u32 p48),(7,Bd a0),(8,iV (a0.length:Int)),(9,iV p20),(17,iV p49)],[],[]⟩) e62 _ (Fp (by kernel_rfl)) rfl 2 (fun _=>rfl) ?_ ?_))))))
   ·rintro S _ hfg ⟨p55,rfl,rfl⟩
    refine nW (Fz _ hfg (Bg 3 ?_))
    obtain rfl:=sj h1
    exact kn hK1 rfl rfl
   ·rintro ⟨p48,p49⟩ o2 _ K2 rfl h2 hx2 hK2 hE2 hR2
    refine At 3 [(3,.int .u32 p48),(7,Bd a0),(8,iV (a0.length:Int)),(9,iV p20),(17,iV p49),(18,.bool (decide (p49<8)))] [] (Bi (Dk h2 (fun MW h2=>?_) (fun MW h2=>?_)))
    ·refine cZ 3 (gO (fun S=>∃p58:Int,S=⟨[(3,.int .u32 p58),(7,Bd a0),(8,iV (a0.length:Int)),(9,iV p20),(17,iV p49)],[],[]⟩∧Sd p49 p58=some o2) ?_ (fun J59=>?_))
     ·rintro _ ⟨p58,rfl,h2⟩
      refine Bg 4 ?_
      obtain rfl:=sj h2
      exact kn hK2 rfl rfl
     ·refine Bi ?_
      refine At 4 [(3,.int .u32 p48),(6,.int .u32 (eV .u32 p48 1)),(7,Bd a0),(8,iV (a0.length:Int)),(9,iV p20),(17,iV p49)] [] (Bi (Aj (st (Cd rfl tv (st (c_ (Bb ⟨tv,tv,tv⟩ rfl (by decide)) (o_ (At 7 [(3,.int .u32 (Ux .u32 p48 1)),(7,Bd a0),(8,iV (a0.length:Int)),(9,iV p20),(17,iV p49),(24,.bool ((eV .u32 p48 1)==1))] [] (Dk h2 (fun c60 h2=>?_) (fun c60 h2=>?_))))))))))
      ·refine Bg 5 ?_
       exact jn J59 ⟨_,rfl,h2⟩
      ·refine gC (nW ?_)
       exact jn J59 ⟨_,rfl,h2⟩
    ·obtain rfl:=sj h2
     obtain rfl:=hx2 _ rfl
     refine Qj rfl ?_
     exact jn hE2 ⟨_,rfl,rfl⟩
  ·obtain rfl:=sj h1
   obtain rfl:=hx1 _ rfl
   refine Qj rfl ?_
   exact jn hE1 ⟨_,rfl,rfl⟩

/- loop.example/g00149/impl.frame -/
def sQ:List Az:=[⟨some 2,.nilS 1,none⟩]
def sR:List Az:=[m_ 4 0,n_ 5 4,B_ .add 6 5 1,q_ 7 331 [.t 6,.c (iV 2)],m_ 8 0,⟨some 9,.app 1 1 (.t 7) (.t 8),none⟩,m_ 3 9]
def sS:List Az:=[m_ 10 3,m_ 11 3,q_ 12 332 [.t 11],q_ 13 331 [.t 12,.c (iV 4)],⟨some 14,.app 1 1 (.t 10) (.t 13),none⟩,m_ 2 14]
def KP:Dx:=⟨1,15,[.t 2],sr sQ (sr sR (rr sS))⟩
def GM (D:Ar):Prop:=∀a0 r,CX a0=some r→D 274 ⟨[Bd a0],[]⟩ ⟨As 0 r,[],[]⟩
theorem NY (H331:HC C) (H332:oD C):GM (FO C KP):=by
 intro a0 r h0
 refine f0 (At 3 [(0,Bd a0)] [] (Bi (Aj (st (Cd rfl tv (Iw rfl (st (c_ (Bb t3 rfl tv) (bb h0 fun r1 e2 h0=>Mv (H331 (wi ((a0.length:Int)+1)) 2 r1 e2) (af rfl) (st (Cd rfl tv (gg h0 fun c3 h0=>st (Mt (e:=Dh) (l0:=r1) (l1:=a0) rfl rfl tv rfl (by decide) c3 (o_ (At 2 [(3,As 448 (r1++a0))] [] (Bg 3 (Aj (bb h0 fun r4 e5 h0=>Qg (H332 (r1++a0) r4 e5) (bb h0 fun r6 e7 h0=>Mv (H331 r4 4 r6 e7) (af rfl) (gg h0 fun c8 h0=>st (Mt (e:=Dh) (l0:=r1++a0) (l1:=r6) rfl rfl tv rfl (by decide) c8 (o_ ?_))))))))))))))))))))))
 obtain rfl:=sj h0
 exact Dq 3

/- loop.example/g00149/impl.bigOf -/
def zI:=[i_ 2 0]
def zJ:=[i_ 3 0]
def zK:=[m_ 6 0,n_ 7 6,i_ 8 0]
def zL:=[b_ .lss 9 8 7]
def zM:=[x_ 10 6 8 1,l_ 11 10 1,m_ 5 11]
def zN:List Az:=[m_ 12 3,⟨some 13,.p (.bin .shl (.t 12) (.c (.int .u64 8))),none⟩,m_ 14 5,iQ 15 (.conv .i64 (.t 14)),b_ .or 16 13 15,m_ 3 16]
def zO:=[B_ .add 17 8 1,m_ 8 17]
def zH:IR:=(sr zL (.seq (.ite (.t 9) .skip (.exit 0)) (.seq (.block 1 (sr zM (.reg zN))) (.reg zO))))
def zP:=[m_ 18 3,m_ 2 18]
def LO:Dx:=⟨1,19,[.t 2],sr zI (sr zJ (.seq (sr zK (Pz 0 zH)) (rr zP)))⟩
def HD (D:Ar):Prop:=∀a0 r,kV a0=some r→D 333 ⟨[Bd a0],[]⟩ ⟨iV r,[],[]⟩
theorem OW:HD (FO C LO):=by
 intro a0 r h0
 refine f0 (At 7 [(0,Bd a0),(3,iV 0)] [] (Bg 3 (Aj (Iw rfl (o_ (At 2 [(3,iV 0),(6,Bd a0),(7,iV (a0.length:Int)),(8,iV 0)] [] (Bw (bb h0 fun r15 e16 h0=>Cw (R:=(fun S=>∃p11:Int,p11=r15∧S=⟨[(3,iV p11)],[],[]⟩)) (Mi a0) (fun s S=>match s with | (p4,p5)=>S=⟨[(3,iV p4),(6,Bd a0),(7,iV (a0.length:Int)),(8,iV p5)],[],[]⟩) e16 _ (Fp (by kernel_rfl)) rfl 0 (fun _=>rfl) ?_ ?_))))))))
 ·rintro S _ hfg ⟨p11,rfl,rfl⟩
  refine Fz _ hfg ?_
  obtain rfl:=sj h0
  exact Dq 5
 ·rintro ⟨p4,p5⟩ o1 _ K1 rfl h1 hx1 hK1 hE1 hR1
  refine At 3 [(3,iV p4),(6,Bd a0),(7,iV (a0.length:Int)),(8,iV p5),(9,.bool (decide (p5<(a0.length:Int))))] [] (Bi (Dk h1 (fun c12 h1=>?_) (fun c12 h1=>?_)))
  ·refine cZ 5 (Aj (bb h1 fun y13 e14 h1=>bE rfl rfl e14 (o_ (At 3 [(3,iV p4),(5,.int .u8 ((y13).toNat:Int)),(6,Bd a0),(7,iV (a0.length:Int)),(8,iV p5)] [] (Aj (st (Cd rfl tv (st (c_ (Bb ⟨tv,tv,tv⟩ rfl (by decide)) (o_ (At 6 [(3,iV (MY .i64 (EB .i64 p4 8) (wi ((y13).toNat:Int)))),(6,Bd a0),(7,iV (a0.length:Int)),(8,iV p5)] [] (Bg 3 ?_))))))))))))
   obtain rfl:=sj h1
   exact kn hK1 rfl rfl
  ·obtain rfl:=sj h1
   obtain rfl:=hx1 _ rfl
   refine Qj rfl ?_
   exact jn hE1 ⟨_,rfl,rfl⟩

/- loop.example/g00149/impl.scan -/
def sU:List Az:=[⟨some 2,.nilS 1,none⟩,i_ 3 0]
def sV:List Az:=[⟨some 4,.nilS 1,none⟩]
def sW:=[i_ 5 0]
def sX:=[m_ 8 5,B_ .add 9 8 2,m_ 10 0,n_ 11 10,b_ .leq 12 9 11]
def sY:List Az:=[m_ 13 0,m_ 14 5,m_ 15 5,B_ .add 16 15 2,⟨some 17,.p (.slice (.t 13) (some (.t 14)) (some (.t 16)) 1),none⟩,q_ 18 333 [.t 17],B_ .sub 19 18 1,m_ 6 19]
def sZ:=[m_ 20 5,B_ .add 21 20 2,m_ 22 6,b_ .add 23 21 22,m_ 7 23]
def tA:=tk [m_ 24 6] (.alt [] (q_ 25 63 [.t 24,.c (iV 0),.c (iV 2000)]) (tk [N_ 26 25,m_ 27 26,mF 27 28 7,pF 27 29 (.bin .add (.t 28) (.c (iV 4))),mF 27 30 0,pF 27 31 (.len (.t 30)),pF 27 32 (.bin .gtr (.t 29) (.t 31)),po 33 27 32,m_ 34 33,mF 34 35 0,mF 34 36 5,mF 34 37 7,pF 34 38 (.slice (.t 35) (some (.t 36)) (some (.t 37)) 1),mF 34 40 0,mF 34 41 7,mF 34 42 7,pF 34 43 (.bin .add (.t 42) (.c (iV 4))),pF 34 44 (.slice (.t 40) (some (.t 41)) (some (.t 43)) 1)] (.alt [pF 34 44 (.slice (.t 40) (some (.t 41)) (some (.t 43)) 1),pF 34 43 (.bin .add (.t 42) (.c (iV 4))),mF 34 42 7,mF 34 41 7,mF 34 40 0] ⟨some 39,.call 332 [.t 38],some (34,false)⟩ (.alt [] ⟨some 45,.call 333 [.t 44],some (34,false)⟩ (tk [pF 34 46 (.bin .neq (.t 39) (.t 45)),po 47 34 46] .fin) .stop) .stop)) .stop)
def tB:List Az:=[m_ 48 4,m_ 49 0,m_ 50 5,B_ .add 51 50 2,m_ 52 7,⟨some 53,.p (.slice (.t 49) (some (.t 51)) (some (.t 52)) 1),none⟩,q_ 54 325 [.t 53],⟨some 55,.mkS 1 [.lst 1 []] 1 [(0,.t 54)],none⟩,⟨some 56,.app 1 24 (.t 48) (.t 55),none⟩,m_ 4 56]
def tC:=[m_ 57 7,B_ .add 58 57 4,m_ 5 58]
def sT:IR:=(.seq (sr sX (.ite (.t 12) .skip (.exit 0))) (.block 1 (sr sY (sr sZ (.seq (sd tA (iz 47 (.exit 0))) (sr tB (.reg tC)))))))
def tD:=[m_ 59 4,m_ 60 5,m_ 2 59,m_ 3 60]
def KQ:Dx:=⟨1,61,[.t 2,.t 3],sr sU (sr sV (sr sW (.seq (Pz 0 sT) (rr tD))))⟩
def GN (D:Ar):Prop:=∀a0 r,eP a0=some r→D 275 ⟨[Bd a0],[]⟩ ⟨.tup [.own 0 0 1 (r.1.map (eL 1 Dh)),iV r.2],[],[]⟩
theorem NZ (H63:JR C) (H325:dP C) (H332:oD C) (H333:HD C):GN (FO C KQ):=by
 intro a0 r h0
 refine f0 (At 12 [(0,Bd a0),(4,.own 256 0 1 ([].map (eL 1 Dh))),(5,iV 0)] [] (Bi (Bw (bb h0 fun r82 e83 h0=>Cw (R:=(fun S=>∃p55:List (List UInt8),∃p56:Int,(p55,p56)=r82∧S=⟨[(4,.own 256 0 1 (p55.map (eL 1 Dh))),(5,iV p56)],[],[]⟩)) (Ig a0) (fun s S=>match s with | (p26,p27)=>S=⟨[(0,Bd a0),(4,.own 256 0 1 (p26.map (eL 1 Dh))),(5,iV p27)],[],[]⟩) e83 _ (Fp (by kernel_rfl)) rfl 0 (fun _=>rfl) ?_ ?_))))
 ·rintro S _ hfg ⟨p55,p56,rfl,rfl⟩
  refine Fz _ hfg ?_
  obtain rfl:=sj h0
  exact Dq 7
 ·rintro ⟨p26,p27⟩ o1 _ K1 rfl h1 hx1 hK1 hE1 hR1
  refine Bg 5 (Aj (Iw rfl (o_ (At 2 [(0,Bd a0),(4,.own 256 0 1 (p26.map (eL 1 Dh))),(5,iV p27),(12,.bool (decide ((wi (p27+2))≤(a0.length:Int))))] [] (Dk h1 (fun c57 h1=>?_) (fun c57 h1=>?_))))))
  ·refine Bg 8 (Aj (bb h1 fun s58 e59 h1=>st (c_ (Lv (e:=Dh) (y:=s58) rfl rfl tv ⟨tv,tv,tv⟩ rfl rfl e59) (bb h1 fun r60 e61 h1=>Qg (H333 s58 r60 e61) (o_ (At 3 [(0,Bd a0),(4,.own 256 0 1 (p26.map (eL 1 Dh))),(5,iV p27),(6,iV (wi (r60-1)))] [] (Bg 7 (bv h1 fun v62 e63 h1=>Fz ⟨[(0,Bd a0),(4,.own 256 0 1 (p26.map (eL 1 Dh))),(5,iV p27),(6,iV (wi (r60-1))),(7,iV v62)],[],[]⟩ (Fp (by subst e63; kernel_rfl)) (Bi (Bi (bb h1 fun r64 e65 h1=>bb h1 fun s66 e67 h1=>bb h1 fun s68 e69 h1=>bb h1 fun r70 e71 h1=>bb h1 fun r72 e73 h1=>Dt (An tv (Cd rfl tv (⟨tv,JK (H63 (wi (r60-1)) 0 2000 r64 e65) rfl (dw [(0,Bd a0),(4,.own 256 0 1 (p26.map (eL 1 Dh))),(5,iV p27),(7,iV v62),(25,.bool r64)] [] tv (d_ (Bg 2 (Dt (An tv (Ei (u:=iV v62) rfl (fun hg=>(Qh (v:=iV v62) rfl tv)) (⟨tv,An tv (Ei (u:=iV (wi (v62+4))) rfl (fun hg=>(Bb ⟨(fun _=>hg),tv,tv⟩ rfl tv)) (⟨tv,An tv (Ei (u:=Bd a0) rfl (fun hg=>(Qh (v:=Bd a0) rfl tv)) (⟨tv,An tv (Ei (u:=iV (a0.length:Int)) rfl (fun hg=>(Su (e:=Dh) (l0:=a0) rfl rfl (fun _=>hg))) (⟨tv,An tv (Ei (u:=.bool (decide ((wi (v62+4))>(a0.length:Int)))) rfl (fun hg=>(Bb ⟨(fun _=>hg),(fun _=>hg),tv⟩ rfl tv)) (⟨tv,An tv (Gt rfl rfl rfl tv (fun h=>eG h) rfl (⟨tv,An tv (Cd rfl tv (⟨tv,An tv (Ei (u:=Bd a0) rfl (fun hg=>(Qh (v:=Bd a0) rfl tv)) (⟨tv,An tv (Ei (u:=iV p27) rfl (fun hg=>(Qh (v:=iV p27) rfl tv)) (⟨tv,An tv (Ei (u:=iV v62) rfl (fun hg=>(Qh (v:=iV v62) rfl tv)) (⟨tv,An tv (Ei (u:=Bd s66) rfl (fun hg=>(Lv (e:=Dh) (y:=s66) rfl rfl (fun _=>hg) ⟨(fun _=>hg),(fun _=>hg),tv⟩ rfl rfl (ip hg e67))) (⟨tv,?_⟩))⟩))⟩))⟩))⟩))⟩))⟩))⟩))⟩))⟩))⟩))))))) Cp⟩))))))))))))))
   refine An tv (Ei (u:=Bd a0) rfl (fun hg=>(Qh (v:=Bd a0) rfl tv)) (⟨tv,An tv (Ei (u:=iV v62) rfl (fun hg=>(Qh (v:=iV v62) rfl tv)) (⟨tv,An tv (Ei (u:=iV v62) rfl (fun hg=>(Qh (v:=iV v62) rfl tv)) (⟨tv,An tv (Ei (u:=iV (wi (v62+4))) rfl (fun hg=>(Bb ⟨(fun _=>hg),tv,tv⟩ rfl tv)) (⟨tv,An tv (Ei (u:=Bd s68) rfl (fun hg=>(Lv (e:=Dh) (y:=s68) rfl rfl (fun _=>hg) ⟨(fun _=>hg),(fun _=>hg),tv⟩ rfl rfl (ip hg e69))) (⟨tv,Fu (Sp (r:=iV r70) rfl false (fun hg=>H332 s66 r70 (ip hg e71)) ⟨(fun hg=>hg),tv⟩ (fun _=>rfl) (fun _=>rfl) (fun _=>rfl) (fun h=>nomatch h) (dw [(0,Bd a0),(4,.own 256 0 1 (p26.map (eL 1 Dh))),(5,iV p27),(7,iV v62),(34,.bool (bif (!r64) then true else (decide ((wi (v62+4))>(a0.length:Int))))),(39,.may ((bif (!r64) then true else (decide ((wi (v62+4))>(a0.length:Int))))==false) (iV r70)),(40,.may ((bif (!r64) then true else (decide ((wi (v62+4))>(a0.length:Int))))==false) (Bd a0)),(41,.may ((bif (!r64) then true else (decide ((wi (v62+4))>(a0.length:Int))))==false) (iV v62)),(42,.may ((bif (!r64) then true else (decide ((wi (v62+4))>(a0.length:Int))))==false) (iV v62)),(43,.may ((bif (!r64) then true else (decide ((wi (v62+4))>(a0.length:Int))))==false) (iV (wi (v62+4)))),(44,.may ((bif (!r64) then true else (decide ((wi (v62+4))>(a0.length:Int))))==false) (Bd s68))] [] ⟨⟨.inl tv,Sm (v:=Bd s68) rfl (fun hg=>(Lv (e:=Dh) (y:=s68) rfl rfl (fun _=>hg) ⟨(fun _=>hg),(fun _=>hg),tv⟩ rfl rfl (ip hg e69))) rfl⟩,⟨.inl tv,Sm (v:=iV (wi (v62+4))) rfl (fun hg=>(Bb ⟨(fun _=>hg),tv,tv⟩ rfl tv)) rfl⟩,⟨.inl tv,Sm (v:=iV v62) rfl (fun hg=>(Qh (v:=iV v62) rfl tv)) rfl⟩,⟨.inl tv,Sm (v:=iV v62) rfl (fun hg=>(Qh (v:=iV v62) rfl tv)) rfl⟩,⟨.inl tv,Sm (v:=Bd a0) rfl (fun hg=>(Qh (v:=Bd a0) rfl tv)) rfl⟩,tv⟩ (Fu (Sp (r:=iV r72) rfl false (fun hg=>H333 s68 r72 (ip hg e73)) ⟨(fun hg=>hg),tv⟩ (fun _=>rfl) (fun _=>rfl) (fun _=>rfl) (fun h=>nomatch h) (dw [(0,Bd a0),(4,.own 256 0 1 (p26.map (eL 1 Dh))),(5,iV p27),(7,iV v62),(34,.bool (bif (!r64) then true else (decide ((wi (v62+4))>(a0.length:Int))))),(39,.may ((bif (!r64) then true else (decide ((wi (v62+4))>(a0.length:Int))))==false) (iV r70)),(45,.may ((bif (!r64) then true else (decide ((wi (v62+4))>(a0.length:Int))))==false) (iV r72))] [] tv (An tv (Ei (u:=.bool (r70 != r72)) rfl (fun hg=>(Bb ⟨(fun _=>hg),(fun _=>hg),tv⟩ rfl tv)) (⟨tv,An tv (Gt rfl rfl rfl tv (fun h=>eG h) rfl (⟨tv,Yk (bv h1 fun v74 e75 h1=>Fz ⟨[(0,Bd a0),(4,.own 256 0 1 (p26.map (eL 1 Dh))),(5,iV p27),(7,iV v62),(47,.bool v74)],[],[]⟩ (Fp (by subst e75; kernel_rfl)) (Dk h1 (fun c76 h1=>?_) (fun c76 h1=>?_)))⟩))⟩))))) Cp))) Cp⟩))⟩))⟩))⟩))⟩))
   ·obtain rfl:=sj h1
    obtain rfl:=hx1 _ rfl
    refine Qj rfl ?_
    exact jn hE1 ⟨_,_,rfl,rfl⟩
   ·refine Bg 8 (Aj (bb h1 fun s77 e78 h1=>st (c_ (Lv (e:=Dh) (y:=s77) rfl rfl tv ⟨tv,tv,tv⟩ rfl rfl e78) (bb h1 fun r79 e80 h1=>Mv (H325 s77 r79 e80) (af rfl) (st (Xi ⟨tv,tv⟩ ⟨⟨nl rfl,rfl,rfl⟩,tv⟩ (gg h1 fun c81 h1=>st (Mt (e:=(eL 1 Dh)) (l0:=p26) (l1:=([r79]:List (List UInt8))) rfl rfl tv rfl (by decide) c81 (o_ (At 2 [(0,Bd a0),(4,.own 256 0 1 ((p26++([r79]:List (List UInt8))).map (eL 1 Dh))),(7,iV v62)] [] (Bg 5 ?_)))))))))))
    obtain rfl:=sj h1
    exact kn hK1 rfl rfl
  ·obtain rfl:=sj h1
   obtain rfl:=hx1 _ rfl
   refine Qj rfl ?_
   exact jn hE1 ⟨_,_,rfl,rfl⟩

/- loop.example/g00149/impl.isRoom -/
def xV:=[k_ 4 (.bool false)]
def xW:=[m_ 5 0,q_ 6 63 [.t 5,.c (iV 0),.c (iV 4096)],m_ 7 6,mT 7 8 0,mT 7 9 1,pT 7 10 (.bin .add (.t 8) (.t 9)),pT 7 11 (.bin .leq (.t 10) (.c (iV 4096))),pa 12 7 11,m_ 4 12]
def LH:Dx:=⟨2,13,[.t 4],sr xV (rr xW)⟩
def GY (D:Ar):Prop:=∀a0 a1 r,DK a0 a1=some r→D 327 ⟨[iV a0,iV a1],[]⟩ ⟨.bool r,[],[]⟩
theorem OQ (H63:JR C):GY (FO C LH):=by
 intro a0 a1 r h0
 refine f0 (At 3 [(0,iV a0),(1,iV a1)] [] (Bi (Aj (st (Cd rfl tv (bb h0 fun r1 e2 h0=>Qg (H63 a0 0 4096 r1 e2) (o_ (JL 8 (bv h0 fun v3 e4 h0=>Fz ⟨[(4,.bool v3)],[],[]⟩ (Fp (by subst e4; kernel_rfl)) ?_)))))))))
 obtain rfl:=sj h0
 exact Zf (Lp rfl rfl rfl rfl rfl tv)

/- (loop.example/g00149/impl.Device).own -/
def BN:=[X_ 1 0,a_ 2 [.own 129 0 1 [],.own 130 0 2 []]]
def BO:List Az:=[f_ 6 1 0,l_ 7 6 1,q_ 8 325 [.t 7],⟨some 9,.p (.build [.own 577 0 1 [],.own 578 0 2 []] [(0,1,.t 8)]),none⟩,a_ 3 [.own 193 0 1 [],.own 194 0 2 []],s_ 3 9 2]
def BP:=[f_ 10 1 1,l_ 11 10 1,n_ 12 11,i_ 13 0]
def BQ:=[b_ .lss 14 13 12]
def BR:=[x_ 15 11 13 2,L_ 16 15 2,a_ 5 [iV 0,.own 322 0 1 []],s_ 5 16 2]
def BS:=tk [f_ 17 3 1,l_ 18 17 1,f_ 19 5 0,l_ 20 19 1,f_ 21 5 1,l_ 22 21 1] (.alt [l_ 20 19 1,f_ 19 5 0,l_ 18 17 1,f_ 17 3 1] (q_ 23 325 [.t 22]) (tk [⟨some 24,.p (.build [iV 0,.own 1538 0 1 []] [(0,1,.t 20),(1,1,.t 23)]),none⟩] (.alt [l_ 18 17 1,f_ 17 3 1] ⟨some 25,.mkS 2 [iV 0,.lst 1 []] 1 [(0,.t 24)],none⟩ (.alt [] ⟨some 26,.app 2 32 (.t 18) (.t 25),none⟩ (tk [f_ 27 3 1] (.alt [] (s_ 27 26 1) .fin .stop)) .stop) .stop)) .stop)
def BT:=[B_ .add 28 13 1,m_ 13 28]
def BM:IR:=(sr BQ (.seq (.ite (.t 14) .skip (.exit 0)) (.seq (.block 1 (sr BR (.draw BS))) (.reg BT))))
def BU:=[L_ 29 3 2,s_ 2 29 2]
def LW:Dx:=⟨1,30,[.cell 2 2 true],sr BN (sr BO (.seq (sr BP (Pz 0 BM)) (rr BU)))⟩
def HK (D:Ar):Prop:=∀a0 r,DW a0=some r→D 366 ⟨[.agg (Ae a0)],[]⟩ ⟨.agg (Ai r (Cf 0) (Cf 33)),[],[]⟩
abbrev Is:=fun (r:List (Nat×List V))=>(128,[As 129 [],Ad 162 []])::r
abbrev Lj:=fun (r:List (Nat×V))=>(2,.ptr 128 0)::(3,.ptr 192 0)::r
theorem PD (H325:dP C):HK (FO C LW):=by
 intro a0 r h0
 refine f0 (JN 4 [] [(130,162)] [(1,.ptr 64 0),(2,.ptr 128 0)] (Is [(64,Ae a0)]) (Bg 3 (Aj (bb h0 fun r1 e2 h0=>Mv (H325 a0.held r1 e2) (af rfl) (st (c_ (v:=.agg [As 512 r1,Ad 578 []]) (Bb ⟨tv,tv⟩ rfl ⟨⟨rfl,rfl,nl rfl⟩,tv⟩) (sw ⟨[(1,.ptr 64 0),(2,.ptr 128 0),(9,.agg [As 512 r1,Ad 610 []])],Is [(64,Ae a0)],[]⟩ (Mw [] [(578,610)] rfl (by kernel_rfl)) (Io (sw ⟨Lj [(1,.ptr 64 0),(9,.agg [As 512 r1,Ad 610 []])],Is [(64,Ae a0),(192,[As 193 [],Ad 226 []])],[]⟩ (Mw [] [(194,226)] rfl (by kernel_rfl)) (Kg rfl rfl tv rfl rfl rfl (nl rfl) (o_ (At 1 (Lj [(1,.ptr 64 0)]) (Is [(64,Ae a0),(192,[As 512 r1,Ad 610 []])]) (Bg 4 (Aj (Iw rfl (o_ (At 2 (Lj [(11,Ah a0.Ab),(12,iV (a0.Ab.length:Int)),(13,iV 0)]) (Is [(192,[As 512 r1,Ad 610 []])]) (Bw (bb h0 fun r26 e27 h0=>Cw (R:=(fun S=>∃p19:List Aa,p19=r26∧S=⟨Lj [],Is [(192,[As 512 r1,Ad 610 p19])],[]⟩)) (Ml a0) (fun s S=>match s with | (p9,p10)=>S=⟨Lj [(11,Ah a0.Ab),(12,iV (a0.Ab.length:Int)),(13,iV p9)],Is [(192,[As 512 r1,Ad 610 p10])],[]⟩) e27 _ (Fp (by kernel_rfl)) rfl 0 (fun _=>rfl) ?_ ?_)))))))))))))))))))
 ·rintro S _ hfg ⟨p19,rfl,rfl⟩
  refine Fz _ hfg ?_
  obtain rfl:=sj h0
  exact Dq 5
 ·rintro ⟨p9,p10⟩ o1 _ K1 rfl h1 hx1 hK1 hE1 hR1
  refine At 3 (Lj [(11,Ah a0.Ab),(12,iV (a0.Ab.length:Int)),(13,iV p9),(14,.bool (decide (p9<(a0.Ab.length:Int))))]) (Is [(192,[As 512 r1,Ad 610 p10])]) (Bi (Dk h1 (fun c20 h1=>?_) (fun c20 h1=>?_)))
  ·refine cZ 5 (Aj (bb h1 fun y21 e22 h1=>bE rfl rfl e22 (o_ (At 4 (Lj [(5,.ptr 320 0),(11,Ah a0.Ab),(12,iV (a0.Ab.length:Int)),(13,iV p9)]) (Is [(192,[As 512 r1,Ad 610 p10]),(320,Ak y21)]) (bb h1 fun r23 e24 h1=>gg h1 fun c25 h1=>Bg 6 (Dt (JK (H325 y21.data r23 e24) (af rfl) (dw [(2,.ptr 128 0),(3,.ptr 192 0),(5,.ptr 320 0),(11,Ah a0.Ab),(12,iV (a0.Ab.length:Int)),(13,iV p9),(17,.ptr 192 1),(18,Ad 610 p10),(19,.ptr 320 0),(20,iV y21.at_),(23,As 1472 r23)] [(128,[As 129 [],Ad 162 []]),(192,[As 512 r1,Ad 610 p10]),(320,Ak y21)] hB (An tv (c_ (v:=.agg [iV y21.at_,As 1472 r23]) (Bb ⟨tv,tv,tv⟩ rfl ⟨⟨rfl,rfl,nl rfl⟩,⟨rfl,rfl,nl rfl⟩,tv⟩) (⟨tv,Fu (ML rfl tv rfl rfl (Fh dB (Fh (cX (fun _=>rfl)) rfl)) rfl (dw [(2,.ptr 128 0),(3,.ptr 192 0),(11,Ah a0.Ab),(12,iV (a0.Ab.length:Int)),(13,iV p9),(17,.ptr 192 1),(18,Ad 610 p10),(25,Ad 1632 ([Aa.mk y21.at_ r23]:List Aa))] [(128,[As 129 [],Ad 162 []]),(192,[As 512 r1,Ad 610 p10])] hB (Fu (FF (e:=Ak) (l0:=p10) (l1:=([Aa.mk y21.at_ r23]:List Aa)) rfl rfl (by decide) (by decide) (by decide) c25 (d0 tv (An tv (c_ (Bb ⟨tv,tv⟩ rfl tv) (⟨tv,Fu (Kg rfl rfl tv rfl rfl rfl (nl rfl) (d0 tv (d_ (At 2 (Lj [(11,Ah a0.Ab),(12,iV (a0.Ab.length:Int)),(13,iV p9)]) (Is [(192,[As 512 r1,Ad 610 (p10++([Aa.mk y21.at_ r23]:List Aa))])]) (Bg 2 (Aj ?_)))))) Cp⟩))))) Cp))) Cp⟩)))) Cp)))))))
   refine Rl ?_
   obtain rfl:=sj h1
   exact kn hK1 rfl rfl
  ·obtain rfl:=sj h1
   obtain rfl:=hx1 _ rfl
   refine Qj rfl ?_
   exact jn hE1 ⟨_,rfl,rfl⟩

/- (loop.example/g00149/impl.Device).write -/
def xY:=[X_ 3 0,a_ 6 [.own 385 0 1 [],.own 386 0 2 []]]
def xZ:=[L_ 13 3 2,q_ 14 366 [.t 13],a_ 7 [.own 449 0 1 [],.own 450 0 2 []],s_ 7 14 2]
def yA:=[m_ 15 2,n_ 16 15,B_ .eql 17 16 0]
def yB:=[L_ 18 7 2,s_ 6 18 2]
def yC:=[L_ 19 3 2,q_ 20 263 [.t 19],m_ 8 20]
def yD:=[m_ 21 1,m_ 22 2,n_ 23 22,b_ .add 24 21 23,m_ 9 24]
def yE:=[m_ 25 9,B_ .sub 26 25 1,B_ .quo 27 26 32,m_ 10 27]
def yF:List Az:=[m_ 28 10,B_ .add 29 28 1,⟨some 30,.p (.bin .mul (.c (iV 32)) (.t 29)),none⟩,m_ 11 30]
def yG:=[m_ 31 8,n_ 32 31,m_ 33 11,b_ .lss 34 32 33]
def yH:List Az:=[m_ 35 8,m_ 36 11,m_ 37 8,n_ 38 37,b_ .sub 39 36 38,⟨some 40,.appz 1 1 [.int .u8 0] (.t 35) (.t 39),none⟩,m_ 8 40]
def jB:List Az:=[m_ 41 8,m_ 42 1,⟨some 43,.p (.slice (.t 41) (some (.t 42)) none 1),none⟩,m_ 44 2,⟨some 45,.copy 1 (.t 43) (.t 44),none⟩]
def jC:=[m_ 46 1,B_ .quo 47 46 32,m_ 12 47]
def jD:=[m_ 48 12,m_ 49 10,b_ .leq 50 48 49]
def jE:=tk [f_ 53 7 1,l_ 54 53 1,m_ 55 12,m_ 56 8,m_ 57 12,⟨some 58,.p (.bin .mul (.c (iV 32)) (.t 57)),none⟩,m_ 59 12,B_ .add 60 59 1,⟨some 61,.p (.bin .mul (.c (iV 32)) (.t 60)),none⟩,⟨some 62,.p (.slice (.t 56) (some (.t 58)) (some (.t 61)) 1),none⟩] (.alt [m_ 55 12,l_ 54 53 1,f_ 53 7 1] (q_ 63 325 [.t 62]) (tk [⟨some 64,.p (.build [iV 0,.own 4098 0 1 []] [(0,1,.t 55),(1,1,.t 63)]),none⟩] (.alt [l_ 54 53 1,f_ 53 7 1] ⟨some 65,.mkS 2 [iV 0,.lst 1 []] 1 [(0,.t 64)],none⟩ (.alt [] ⟨some 66,.app 2 32 (.t 54) (.t 65),none⟩ (tk [f_ 67 7 1] (.alt [] (s_ 67 66 1) .fin .stop)) .stop) .stop)) .stop)
def jF:=[m_ 51 12,B_ .add 52 51 1,m_ 12 52]
def xX:IR:=(.seq (sr jD (.ite (.t 50) .skip (.exit 0))) (.seq (.block 1 (.draw jE)) (.reg jF)))
def jG:=[L_ 68 7 2,s_ 6 68 2]
def LI:Dx:=⟨3,69,[.cell 6 2 true],sr xY (sr xZ (.seq (sr yA (iz 17 (rr yB))) (sr yC (sr yD (sr yE (.seq (sr yF (sr yG (iz 34 (.reg yH)))) (sr jB (.seq (sr jC (Pz 0 xX)) (rr jG)))))))))⟩
def GZ (D:Ar):Prop:=∀a0 a1 a2 r,DL a0 a1 a2=some r→D 328 ⟨[.agg (Ae a0),iV a1,Bd a2],[]⟩ ⟨.agg (Ai r (Cf 0) (Cf 33)),[],[]⟩
abbrev Js:=fun x0 (r:List (Nat×List V))=>(384,[As 385 [],Ad 418 []])::(448,Ai x0 (Cf 896) (Cf 929))::r
abbrev Jt:=fun x0 x1 (r:List (Nat×V))=>(1,iV x0)::(2,Bd x1)::(6,.ptr 384 0)::(7,.ptr 448 0)::r
abbrev Qt:=fun (r:List (Nat×List V))=>(384,[As 385 [],Ad 418 []])::r
abbrev Xk:=fun x0 (r:List (Nat×V))=>(6,.ptr 384 0)::(7,.ptr 448 0)::(10,iV x0)::r
theorem OR (H263:gG C) (H325:dP C) (H366:HK C):GZ (FO C LI):=by
 intro a0 a1 a2 r h0
 refine f0 (JN 4 [] [(386,418)] [(1,iV a1),(2,Bd a2),(3,.ptr 192 0),(6,.ptr 384 0)] (Qt [(192,Ae a0)]) (Bg 2 (Aj (bb h0 fun r1 e2 h0=>Mv (H366 a0 r1 e2) (af (Fh (Tc rfl) rfl)) (st (Io (sw ⟨Jt a1 a2 [(3,.ptr 192 0),(14,.agg (Ai r1 (Cf 896) (Cf 929)))],Qt [(192,Ae a0),(448,[As 449 [],Ad 482 []])],[]⟩ (Mw [] [(450,482)] rfl (by kernel_rfl)) (Kg rfl rfl tv rfl rfl rfl (nl rfl) (o_ (At 1 (Jt a1 a2 [(3,.ptr 192 0)]) (Js r1 [(192,Ae a0)]) (Bg 3 (Aj (Iw rfl (o_ (At 2 (Jt a1 a2 [(3,.ptr 192 0),(17,.bool ((a2.length:Int)==0))]) (Js r1 [(192,Ae a0)]) (Dk h0 (fun c3 h0=>?_) (fun c3 h0=>?_)))))))))))))))))
 ·obtain rfl:=sj h0
  exact Dq 5
 ·refine Bg 4 (Aj (bb h0 fun r4 e5 h0=>Mv (H263 a0 r4 e5) (af rfl) (o_ (At 2 (Jt a1 a2 [(8,As 1280 r4)]) (Js r1 []) (Bg 3 (Aj (Iw rfl (o_ (At 3 (Jt a1 a2 [(8,As 1280 r4),(9,iV (wi (a1+(a2.length:Int))))]) (Js r1 []) (Bg 3 (Aj (st (c_ (Bb ⟨tv,tv,tv⟩ rfl (by decide)) (st (Cd rfl tv (Rl (bv h0 fun v6 e7 h0=>Fz ⟨Jt a1 a2 [(8,As 1280 r4),(10,iV v6)],Js r1 [],[]⟩ (Fp (by subst e7; kernel_rfl)) (At 7 (Jt a1 a2 [(8,As 1280 r4),(10,iV v6),(11,iV (wi (32*(wi (v6+1)))))]) (Js r1 []) (Bi (Aj (st (Cd rfl tv (lP rfl (o_ (Bg 3 (bv h0 fun v8 e9 h0=>Fz ⟨Jt a1 a2 [(8,As 1280 r4),(10,iV v6),(11,iV (wi (32*(wi (v6+1))))),(34,.bool v8)],Js r1 [],[]⟩ (Fp (by subst e9; kernel_rfl)) (MK (cb:=v8) (fun S=>∃p13:List UInt8,S=⟨Jt a1 a2 [(8,As 1280 p13),(10,iV v6)],Js r1 [],[]⟩∧Oy a1 a2 r1 v6 p13=some r) rfl ?_ (fun c44 J43=>?_) (fun c44 J43=>?_))))))))))))))))))))))))))))
  ·rintro _ ⟨p13,rfl,h0⟩
   refine Bg 4 (Aj (bb h0 fun s14 e15 h0=>st (c_ (Jl (e:=Dh) (y:=s14) rfl rfl tv ⟨tv,tv⟩ rfl rfl e15) (st (Cd rfl tv (st (copy_ (e:=Dh) (l1:=a2) rfl rfl tv rfl (Rl (Fz ⟨[(1,iV a1),(6,.ptr 384 0),(7,.ptr 448 0),(8,As 1280 (ovl p13 a1.toNat (a2.take s14.length))),(10,iV v6)],[(384,[As 385 [],Ad 418 []]),(448,Ai r1 (Cf 896) (Cf 929))],[]⟩ (fg ⟨rfl,rfl,rfl,congrArg (fun z=>some ((.own 1280 0 1 z:V))) Ik,rfl,tv⟩ ⟨rfl,rfl,tv⟩) (Bg 3 (Aj (st (c_ (Bb ⟨tv,tv,tv⟩ rfl (by decide)) (o_ (At 2 (Xk v6 [(8,As 1280 (ovl p13 a1.toNat (a2.take s14.length))),(12,iV (wi ((a1).tdiv 32)))]) (Js r1 []) (Bw (bb h0 fun r41 e42 h0=>Cw (R:=(fun S=>∃p34:List Aa,p34=r41∧S=⟨[(6,.ptr 384 0),(7,.ptr 448 0)],Qt [(448,[As 896 r1.held,Ad 929 p34])],[]⟩)) (Oz a1 a2 v6 p13 s14) (fun s S=>match s with | (p24,p25)=>S=⟨Xk v6 [(8,As 1280 (ovl p13 a1.toNat (a2.take s14.length))),(12,iV p24)],Qt [(448,[As 896 r1.held,Ad 929 p25])],[]⟩) e42 _ (Fp (by kernel_rfl)) rfl 0 (fun _=>rfl) ?_ ?_)))))))))))))))))
   ·rintro S _ hfg ⟨p34,rfl,rfl⟩
    refine Fz _ hfg ?_
    obtain rfl:=sj h0
    exact Dq 5
   ·rintro ⟨p24,p25⟩ o1 _ K1 rfl h1 hx1 hK1 hE1 hR1
    refine At 6 (Xk v6 [(8,As 1280 (ovl p13 a1.toNat (a2.take s14.length))),(12,iV p24),(50,.bool (decide (p24≤v6)))]) (Qt [(448,[As 896 r1.held,Ad 929 p25])]) (Dk h1 (fun c35 h1=>?_) (fun c35 h1=>?_))
    ·refine cZ 4 (bb h1 fun s36 e37 h1=>bb h1 fun r38 e39 h1=>gg h1 fun c40 h1=>Bg 9 (Dt (An tv (c_ (Jl (e:=Dh) (y:=s36) rfl rfl tv ⟨tv,tv,tv⟩ rfl rfl e37) (⟨tv,JK (H325 s36 r38 e39) (af rfl) (dw [(6,.ptr 384 0),(7,.ptr 448 0),(8,As 1280 (ovl p13 a1.toNat (a2.take s14.length))),(10,iV v6),(12,iV p24),(53,.ptr 448 1),(54,Ad 929 p25),(55,iV p24),(63,As 4032 r38)] [(384,[As 385 [],Ad 418 []]),(448,[As 896 r1.held,Ad 929 p25])] hB (An tv (c_ (v:=.agg [iV p24,As 4032 r38]) (Bb ⟨tv,tv,tv⟩ rfl ⟨⟨rfl,rfl,nl rfl⟩,⟨rfl,rfl,nl rfl⟩,tv⟩) (⟨tv,Fu (ML rfl tv rfl rfl (Fh dB (Fh (cX (fun _=>rfl)) rfl)) rfl (dw [(6,.ptr 384 0),(7,.ptr 448 0),(8,As 1280 (ovl p13 a1.toNat (a2.take s14.length))),(10,iV v6),(12,iV p24),(53,.ptr 448 1),(54,Ad 929 p25),(65,Ad 4192 ([Aa.mk p24 r38]:List Aa))] [(384,[As 385 [],Ad 418 []]),(448,[As 896 r1.held,Ad 929 p25])] hB (Fu (FF (e:=Ak) (l0:=p25) (l1:=([Aa.mk p24 r38]:List Aa)) rfl rfl (by decide) (by decide) (by decide) c40 (d0 tv (An tv (c_ (Bb ⟨tv,tv⟩ rfl tv) (⟨tv,?_⟩))))) Cp))) Cp⟩)))) Cp⟩)))))
     refine Fu (Kg rfl rfl tv rfl rfl rfl (nl rfl) (d0 tv (d_ (At 2 (Xk v6 [(8,As 1280 (ovl p13 a1.toNat (a2.take s14.length))),(12,iV p24)]) (Qt [(448,[As 896 r1.held,Ad 929 (p25++([Aa.mk p24 r38]:List Aa))])]) (Bg 4 ?_))))) Cp
     obtain rfl:=sj h1
     exact kn hK1 rfl rfl
    ·obtain rfl:=sj h1
     obtain rfl:=hx1 _ rfl
     refine Qj rfl ?_
     exact jn hE1 ⟨_,rfl,rfl⟩
  ·replace h0:=ip c44 h0
   refine Bg 3 (Aj (lP rfl (st (c_ (Bb t3 rfl tv) (gg h0 fun c45 h0=>gg h0 fun c46 h0=>st (gN (e:=Dh) (l0:=r4) (0:UInt8) rfl rfl rfl (by decide) c45 c46 (st (Cd rfl tv (Rl ?_)))))))))
   exact jn J43 ⟨_,rfl,h0⟩
  ·replace h0:=PO c44 h0
   refine gC ?_
   exact jn J43 ⟨_,rfl,h0⟩

/- (loop.example/g00149/impl.Device).appended -/
def sI:=[X_ 2 0,a_ 4 [.own 257 0 1 [],.own 258 0 2 []],i_ 5 0]
def sJ:=[m_ 9 1,n_ 10 9,B_ .gtr 11 10 2000]
def sK:=[iQ 12 (.build [.own 769 0 1 [],.own 770 0 2 []] []),s_ 4 12 2,i_ 5 4]
def sL:=[L_ 14 2 2,q_ 15 263 [.t 14],q_ 16 275 [.t 15],m_ 13 16,e_ 17 13 0,e_ 18 13 1,m_ 6 17,m_ 7 18]
def sM:=[m_ 19 1,q_ 20 274 [.t 19],m_ 8 20]
def sN:=[m_ 21 7,m_ 22 8,n_ 23 22,q_ 24 327 [.t 21,.t 23],N_ 25 24]
def sO:=[iQ 26 (.build [.own 1665 0 1 [],.own 1666 0 2 []] []),s_ 4 26 2,i_ 5 9]
def sP:=[L_ 27 2 2,m_ 28 7,m_ 29 8,q_ 30 328 [.t 27,.t 28,.t 29],q_ 31 267 [.t 30],s_ 4 31 2,i_ 5 0]
def KO:Dx:=⟨2,32,[.cell 4 2 true,.t 5],sr sI (.seq (sr sJ (iz 11 (rr sK))) (sr sL (sr sM (.seq (sr sN (iz 25 (rr sO))) (rr sP)))))⟩
def GL (D:Ar):Prop:=∀a0 a1 r,kO a0 a1=some r→D 273 ⟨[.agg (Ae a0),Bd a1],[]⟩ ⟨.tup [.agg (Ai r.1 (Cf 0) (Cf 33)),iV r.2],[],[]⟩
abbrev Qr:=fun x0 (r:List (Nat×List V))=>(128,Ae x0)::(256,[As 257 [],Ad 290 []])::r
abbrev Qs:=fun (r:List (Nat×V))=>(2,.ptr 128 0)::(4,.ptr 256 0)::r
theorem NX (H263:gG C) (H267:GH C) (H274:GM C) (H275:GN C) (H327:GY C) (H328:GZ C):GL (FO C KO):=by
 intro a0 a1 r h0
 refine f0 (Bg 3 (Aj (sw ⟨Qs [(1,Bd a1)],Qr a0 [],[]⟩ (Mw [] [(258,290)] rfl (by kernel_rfl)) (MM tv (o_ (At 1 (Qs [(1,Bd a1)]) (Qr a0 []) (Bg 3 (Aj (Iw rfl (o_ (At 2 (Qs [(1,Bd a1),(11,.bool (decide ((a1.length:Int)>2000)))]) (Qr a0 []) (Dk h0 (fun c1 h0=>?_) (fun c1 h0=>?_)))))))))))))
 ·refine Bg 2 (Aj (sw ⟨[(4,.ptr 256 0),(12,.agg [As 769 [],Ad 802 []])],[(256,[As 257 [],Ad 290 []])],[]⟩ (Mw [] [(770,802)] rfl (by kernel_rfl)) (Kg rfl rfl tv rfl rfl rfl (nl rfl) (o_ (At 2 [(4,.ptr 256 0),(5,iV 4)] [(256,[As 769 [],Ad 802 []])] ?_)))))
  obtain rfl:=sj h0
  exact Zf (Lp rfl rfl rfl rfl rfl tv)
 ·refine Bg 4 (Aj (bb h0 fun r2 e3 h0=>Mv (H263 a0 r2 e3) (af rfl) (bb h0 fun r4 e5 h0=>st (Jh (r:=.tup [.own 0 0 1 (r4.1.map (eL 1 Dh)),iV r4.2]) true (H275 r2 r4 e5) ⟨tv,tv⟩ rfl rfl (fun h=>nomatch h) (o_ (At 6 (Qs [(1,Bd a1),(7,iV r4.2)]) (Qr a0 []) (Bi (Aj (st (Cd rfl tv (bb h0 fun r6 e7 h0=>Mv (H274 a1 r6 e7) (af rfl) (o_ (At 2 (Qs [(7,iV r4.2),(8,As 1280 r6)]) (Qr a0 []) (Bg 4 (Aj (lP rfl (bb h0 fun r8 e9 h0=>Qg (H327 r4.2 (r6.length:Int) r8 e9) (o_ (At 2 (Qs [(7,iV r4.2),(8,As 1280 r6),(25,.bool (!r8))]) (Qr a0 []) (Dk h0 (fun c10 h0=>?_) (fun c10 h0=>?_)))))))))))))))))))))
  ·refine Bg 2 (Aj (sw ⟨[(4,.ptr 256 0),(26,.agg [As 1665 [],Ad 1698 []])],[(256,[As 257 [],Ad 290 []])],[]⟩ (Mw [] [(1666,1698)] rfl (by kernel_rfl)) (Kg rfl rfl tv rfl rfl rfl (nl rfl) (o_ (At 2 [(4,.ptr 256 0),(5,iV 9)] [(256,[As 1665 [],Ad 1698 []])] ?_)))))
   obtain rfl:=sj h0
   exact Zf (Lp rfl rfl rfl rfl rfl tv)
  ·refine Bg 6 (Aj (bb h0 fun r11 e12 h0=>Mv (H328 a0 r4.2 r6 r11 e12) (af (Fh (Tc rfl) rfl)) (bb h0 fun r13 e14 h0=>Mv (H267 r11 r13 e14) (af (Fh (Tc rfl) rfl)) (o_ ?_))))
   obtain rfl:=sj h0
   exact Dq 4

/- loop.example/g00149/impl.AppendLog -/
def oS:=[X_ 2 0,a_ 4 [.own 257 0 1 [],.own 258 0 2 []],i_ 5 0]
def oT:=[m_ 7 1,q_ 8 264 [.t 7],N_ 9 8,m_ 6 9]
def oU:=[iQ 10 (.build [.own 641 0 1 [],.own 642 0 2 []] []),s_ 4 10 2,i_ 5 2]
def oV:=[L_ 12 2 2,q_ 13 216 [.t 12],N_ 14 13,m_ 11 14]
def oW:=[iQ 15 (.build [.own 961 0 1 [],.own 962 0 2 []] []),s_ 4 15 2,i_ 5 1]
def oX:=[L_ 16 2 2,m_ 17 1,q_ 18 273 [.t 16,.t 17],e_ 19 18 0,e_ 20 18 1,s_ 4 19 2,m_ 5 20]
def JY:Dx:=⟨2,21,[.cell 4 2 true,.t 5],sr oS (.seq (.block 0 (sr oT (.ite (.t 6) (rr oU) (sr oV (iz 11 (rr oW)))))) (rr oX))⟩
def FZ (D:Ar):Prop:=∀a0 a1 r,kK a0 a1=some r→D 218 ⟨[.agg (Ae a0),Bd a1],[]⟩ ⟨.tup [.agg (Ai r.1 (Cf 0) (Cf 33)),iV r.2],[],[]⟩
abbrev Qq:=fun (r:List (Nat×List V))=>(256,[As 257 [],Ad 290 []])::r
abbrev Xj:=fun x0 (r:List (Nat×V))=>(1,Bd x0)::(2,.ptr 128 0)::(4,.ptr 256 0)::r
theorem NG (H216:FY C) (H264:GG C) (H273:GL C):FZ (FO C JY):=by
 intro a0 a1 r h0
 refine f0 (Bg 3 (Aj (sw ⟨Xj a1 [],Qq [(128,Ae a0)],[]⟩ (Mw [] [(258,290)] rfl (by kernel_rfl)) (MM tv (o_ (At 1 (Xj a1 []) (Qq [(128,Ae a0)]) (Bg 4 (Aj (bb h0 fun r1 e2 h0=>Qg (H264 a1 r1 e2) (o_ (At 3 (Xj a1 [(6,.bool (!r1))]) (Qq [(128,Ae a0)]) (Dk h0 (fun c3 h0=>?_) (fun c3 h0=>?_)))))))))))))
 ·refine Bg 2 (Aj (sw ⟨[(4,.ptr 256 0),(10,.agg [As 641 [],Ad 674 []])],Qq [],[]⟩ (Mw [] [(642,674)] rfl (by kernel_rfl)) (Kg rfl rfl tv rfl rfl rfl (nl rfl) (o_ (At 2 [(4,.ptr 256 0),(5,iV 2)] [(256,[As 641 [],Ad 674 []])] ?_)))))
  obtain rfl:=sj h0
  exact Zf (Lp rfl rfl rfl rfl rfl tv)
 ·refine Bg 2 (Aj (bb h0 fun r4 e5 h0=>Qg (H216 a0 r4 e5) (o_ (At 3 (Xj a1 [(11,.bool (!r4))]) (Qq [(128,Ae a0)]) (Dk h0 (fun c6 h0=>?_) (fun c6 h0=>?_))))))
  ·refine Bg 2 (Aj (sw ⟨[(4,.ptr 256 0),(15,.agg [As 961 [],Ad 994 []])],Qq [],[]⟩ (Mw [] [(962,994)] rfl (by kernel_rfl)) (Kg rfl rfl tv rfl rfl rfl (nl rfl) (o_ (At 2 [(4,.ptr 256 0),(5,iV 1)] [(256,[As 961 [],Ad 994 []])] ?_)))))
   obtain rfl:=sj h0
   exact Zf (Lp rfl rfl rfl rfl rfl tv)
  ·refine Bg 6 (Aj (bb h0 fun r7 e8 h0=>Mv (H273 a0 a1 r7 e8) (af (Fh (Tc rfl) (Fh rfl rfl))) (o_ ?_)))
   obtain rfl:=sj h0
   exact Dq 6

/- loop.example/g00149/laws.szByteS -/
def tE:=[i_ 4 0]
def tF:=[m_ 5 1,m_ 6 0,n_ 7 6,b_ .sub 8 5 7,m_ 1 8]
def tG:=[m_ 9 1,B_ .lss 10 9 0]
def tH:=[i_ 4 (-1)]
def tI:=[m_ 11 1,m_ 4 11]
def KR:Dx:=⟨2,12,[.t 4],sr tE (sr tF (.seq (sr tG (iz 10 (rr tH))) (rr tI)))⟩
def nZ (D:Ar):Prop:=∀a0 a1 r,eQ a0 a1=some r→D 276 ⟨[Bd a0,iV a1],[]⟩ ⟨iV r,[],[]⟩
theorem OA:nZ (FO C KR):=by
 intro a0 a1 r h0
 refine f0 (At 3 [(0,Bd a0),(1,iV a1)] [] (Bg 3 (Aj (Iw rfl (o_ (At 9 [(1,iV (wi (a1-(a0.length:Int)))),(10,.bool (decide ((wi (a1-(a0.length:Int)))<0)))] [] (Dk h0 (fun c1 h0=>?_) (fun c1 h0=>?_))))))))
 ·obtain rfl:=sj h0
  exact Dq 4
 ·obtain rfl:=sj h0
  exact Dq 7

/- loop.example/g00149/laws.szSector -/
def zQ:=[X_ 2 0,i_ 4 0]
def zR:=[f_ 5 2 1,l_ 6 5 1,m_ 7 1,q_ 8 276 [.t 6,.t 7],m_ 1 8]
def zS:=[m_ 9 1,B_ .lss 10 9 0]
def zU:=[i_ 4 (-1)]
def zW:=[m_ 11 1,m_ 4 11]
def LP:Dx:=⟨2,12,[.t 4],sr zQ (sr zR (.seq (sr zS (iz 10 (rr zU))) (rr zW)))⟩
def HE (D:Ar):Prop:=∀a0 a1 r,IJ a0 a1=some r→D 345 ⟨[.agg (Ak a0),iV a1],[]⟩ ⟨iV r,[],[]⟩
theorem OX (H276:nZ C):HE (FO C LP):=by
 intro a0 a1 r h0
 refine f0 (At 4 [(1,iV a1),(2,.ptr 128 0)] [(128,Ak a0)] (Bg 4 (Aj (bb h0 fun r1 e2 h0=>Qg (H276 a0.data a1 r1 e2) (o_ (At 8 [(1,iV r1),(10,.bool (decide (r1<0)))] [] (Dk h0 (fun c3 h0=>?_) (fun c3 h0=>?_))))))))
 ·obtain rfl:=sj h0
  exact Dq 4
 ·obtain rfl:=sj h0
  exact Dq 7

/- loop.example/g00149/laws.szSectorS -/
def tK:=[i_ 4 0]
def tL:=[m_ 6 1,m_ 7 0,n_ 8 7,b_ .sub 9 6 8,m_ 1 9]
def tM:=[m_ 10 1,B_ .lss 11 10 0]
def tN:=[i_ 4 (-1)]
def tO:=[i_ 5 0]
def tP:=[m_ 12 5,m_ 13 0,n_ 14 13,b_ .lss 15 12 14]
def tQ:=[m_ 18 0,m_ 19 5,x_ 20 18 19 2,L_ 21 20 2,m_ 22 1,q_ 23 345 [.t 21,.t 22],m_ 1 23]
def tR:=[m_ 24 1,B_ .lss 25 24 0]
def tS:=[i_ 4 (-1)]
def tT:=[m_ 16 5,B_ .add 17 16 1,m_ 5 17]
def tJ:IR:=(.seq (sr tP (.ite (.t 15) .skip (.exit 0))) (.seq (.block 1 (sr tQ (sr tR (iz 25 (rr tS))))) (.reg tT)))
def iW:=[m_ 26 1,m_ 4 26]
def KS:Dx:=⟨2,27,[.t 4],sr tK (sr tL (.seq (sr tM (iz 11 (rr tN))) (.seq (sr tO (Pz 0 tJ)) (rr iW))))⟩
def GO (D:Ar):Prop:=∀a0 a1 r,IF a0 a1=some r→D 289 ⟨[Ah a0,iV a1],[]⟩ ⟨iV r,[],[]⟩
theorem OB (H345:HE C):GO (FO C KS):=by
 intro a0 a1 r h0
 refine f0 (At 3 [(0,Ah a0),(1,iV a1)] [] (Bg 3 (Aj (Iw rfl (o_ (At 9 [(0,Ah a0),(1,iV (wi (a1-(a0.length:Int)))),(11,.bool (decide ((wi (a1-(a0.length:Int)))<0)))] [] (Dk h0 (fun c1 h0=>?_) (fun c1 h0=>?_))))))))
 ·obtain rfl:=sj h0
  exact Dq 4
 ·refine At 6 [(0,Ah a0),(1,iV (wi (a1-(a0.length:Int)))),(5,iV 0)] [] (Bw (bb h0 fun r25 e26 h0=>Cw (R:=(fun S=>∃p18:Int,.inl p18=r25∧S=⟨[(1,iV p18)],[],[]⟩)) (Oo a0) (fun s S=>match s with | (p8,p9)=>S=⟨[(0,Ah a0),(1,iV p8),(5,iV p9)],[],[]⟩) e26 _ (Fp (by kernel_rfl)) rfl 0 (fun _=>rfl) ?_ ?_))
  ·rintro S _ hfg ⟨p18,rfl,rfl⟩
   refine Fz _ hfg ?_
   obtain rfl:=sj h0
   exact Dq 5
  ·rintro ⟨p8,p9⟩ o1 _ K1 rfl h1 hx1 hK1 hE1 hR1
   refine Bg 4 (Aj (Iw rfl (o_ (At 2 [(0,Ah a0),(1,iV p8),(5,iV p9),(15,.bool (decide (p9<(a0.length:Int))))] [] (Dk h1 (fun c19 h1=>?_) (fun c19 h1=>?_))))))
   ·refine Bg 7 (Aj (bb h1 fun y20 e21 h1=>bE rfl rfl e21 (o_ (Bg 2 (Aj (bb h1 fun r22 e23 h1=>Qg (H345 y20 p8 r22 e23) (o_ (At 7 [(0,Ah a0),(1,iV r22),(5,iV p9),(25,.bool (decide (r22<0)))] [] (Dk h1 (fun c24 h1=>?_) (fun c24 h1=>?_))))))))))
    ·obtain rfl:=sj h1
     obtain rfl:=hx1 _ rfl
     obtain rfl:=sj h0
     exact mH 4 hR1
    ·refine Bg 7 ?_
     obtain rfl:=sj h1
     exact kn hK1 rfl rfl
   ·obtain rfl:=sj h1
    obtain rfl:=hx1 _ rfl
    refine Qj rfl ?_
    exact jn hE1 ⟨_,rfl,rfl⟩

/- loop.example/g00149/laws.szDevice -/
def oY:=[X_ 2 0,i_ 4 0]
def oZ:=[f_ 5 2 0,l_ 6 5 1,m_ 7 1,q_ 8 276 [.t 6,.t 7],m_ 1 8]
def pA:=[m_ 9 1,B_ .lss 10 9 0]
def pB:=[i_ 4 (-1)]
def pC:=[f_ 11 2 1,l_ 12 11 1,m_ 13 1,q_ 14 289 [.t 12,.t 13],m_ 1 14]
def pD:=[m_ 15 1,B_ .lss 16 15 0]
def pE:=[i_ 4 (-1)]
def pG:=[m_ 17 1,m_ 4 17]
def JZ:Dx:=⟨2,18,[.t 4],sr oY (sr oZ (.seq (sr pA (iz 10 (rr pB))) (sr pC (.seq (sr pD (iz 16 (rr pE))) (rr pG)))))⟩
def GA (D:Ar):Prop:=∀a0 a1 r,CQ a0 a1=some r→D 228 ⟨[.agg (Ae a0),iV a1],[]⟩ ⟨iV r,[],[]⟩
theorem NH (H276:nZ C) (H289:GO C):GA (FO C JZ):=by
 intro a0 a1 r h0
 refine f0 (At 4 [(1,iV a1),(2,.ptr 128 0)] [(128,Ae a0)] (Bg 4 (Aj (bb h0 fun r1 e2 h0=>Qg (H276 a0.held a1 r1 e2) (o_ (At 8 [(1,iV r1),(2,.ptr 128 0),(10,.bool (decide (r1<0)))] [(128,Ae a0)] (Dk h0 (fun c3 h0=>?_) (fun c3 h0=>?_))))))))
 ·obtain rfl:=sj h0
  exact Dq 4
 ·refine Bg 6 (Aj (bb h0 fun r4 e5 h0=>Qg (H289 a0.Ab r1 r4 e5) (o_ (At 8 [(1,iV r4),(16,.bool (decide (r4<0)))] [] (Dk h0 (fun c6 h0=>?_) (fun c6 h0=>?_))))))
  ·obtain rfl:=sj h0
   exact Dq 4
  ·obtain rfl:=sj h0
   exact Dq 7

/- loop.example/g00149/laws.toByteS -/
def pN:List Az:=[⟨some 2,.nilS 1,none⟩]
def pO:List Az:=[m_ 5 0,n_ 6 5,⟨some 7,.make 1 1 [.int .u8 0] (.t 6) (.t 6),none⟩,m_ 3 7]
def pP:=[i_ 4 0]
def pQ:=[m_ 8 4,m_ 9 0,n_ 10 9,b_ .lss 11 8 10]
def pR:=[m_ 14 3,m_ 15 4,m_ 16 0,m_ 17 4,x_ 18 16 17 1,l_ 19 18 1,x_ 20 14 15 1,s_ 20 19 1]
def pS:=[m_ 12 4,B_ .add 13 12 1,m_ 4 13]
def pM:IR:=(.seq (sr pQ (.ite (.t 11) .skip (.exit 0))) (.seq (.block 1 (.reg pR)) (.reg pS)))
def pU:=[m_ 21 3,m_ 2 21]
def KB:Dx:=⟨1,22,[.t 2],sr pN (sr pO (.seq (sr pP (Pz 0 pM)) (rr pU)))⟩
def gD (D:Ar):Prop:=∀a0 r,Xc a0=some r→D 231 ⟨[Bd a0],[]⟩ ⟨As 0 r,[],[]⟩
theorem NJ:gD (FO C KB):=by
 intro a0 r h0
 refine f0 (At 3 [(0,Bd a0)] [] (Bi (Aj (st (Cd rfl tv (Iw rfl (gg h0 fun c1 h0=>gg h0 fun c2 h0=>st (FL (e:=Dh) (0:UInt8) rfl rfl c1 rfl c2 rfl (o_ (At 7 [(0,Bd a0),(3,As 448 (List.replicate (a0.length:Int).toNat (0:UInt8))),(4,iV 0)] [] (Bw (bb h0 fun r29 e30 h0=>Cw (R:=(fun S=>∃p21:List UInt8,p21=r29∧S=⟨[(3,As 448 p21)],[],[]⟩)) (Lz a0) (fun s S=>match s with | (p10,p11)=>S=⟨[(0,Bd a0),(3,As 448 p10),(4,iV p11)],[],[]⟩) e30 _ (Fp (by kernel_rfl)) rfl 0 (fun _=>rfl) ?_ ?_))))))))))))
 ·rintro S _ hfg ⟨p21,rfl,rfl⟩
  refine Fz _ hfg ?_
  obtain rfl:=sj h0
  exact Dq 5
 ·rintro ⟨p10,p11⟩ o1 _ K1 rfl h1 hx1 hK1 hE1 hR1
  refine Bg 4 (Aj (Iw rfl (o_ (At 2 [(0,Bd a0),(3,As 448 p10),(4,iV p11),(11,.bool (decide (p11<(a0.length:Int))))] [] (Dk h1 (fun c22 h1=>?_) (fun c22 h1=>?_))))))
  ·refine Bg 8 (Aj (bb h1 fun y23 e24 h1=>bE rfl rfl e24 (st (c_ (Bb ⟨tv,tv⟩ rfl (nl rfl)) (bb h1 fun y25 e26 h1=>JO rfl rfl e26 (bb h1 fun y27 e28 h1=>PW y23 rfl rfl e28 (o_ (At 2 [(0,Bd a0),(3,As 448 (p10.set p11.toNat y23)),(4,iV p11)] [] (Bg 4 ?_)))))))))
   obtain rfl:=sj h1
   exact kn hK1 rfl rfl
  ·obtain rfl:=sj h1
   obtain rfl:=hx1 _ rfl
   refine Qj rfl ?_
   exact jn hE1 ⟨_,rfl,rfl⟩

/- loop.example/g00149/laws.toSector -/
def zX:=[X_ 1 0,a_ 2 [iV 0,.own 130 0 1 []]]
def zY:=[a_ 3 [iV 0,.own 194 0 1 []]]
def zZ:=[f_ 4 1 0,l_ 5 4 1,f_ 6 3 0,s_ 6 5 1]
def AA:=[f_ 7 1 1,l_ 8 7 1,q_ 9 231 [.t 8],f_ 10 3 1,s_ 10 9 1]
def AB:=[L_ 11 3 2,s_ 2 11 2]
def LQ:Dx:=⟨1,12,[.cell 2 2 true],sr zX (sr zY (sr zZ (sr AA (rr AB))))⟩
def HF (D:Ar):Prop:=∀a0 r,kW a0=some r→D 346 ⟨[.agg (Ak a0)],[]⟩ ⟨.agg (lE r (Cf 0)),[],[]⟩
theorem OY (H231:gD C):HF (FO C LQ):=by
 intro a0 r h0
 refine f0 (At 15 [(1,.ptr 64 0),(2,.ptr 128 0),(3,.ptr 192 0)] [(64,Ak a0),(128,[iV 0,As 130 []]),(192,[iV a0.at_,As 194 []])] (Bg 3 (Aj (bb h0 fun r1 e2 h0=>Mv (H231 a0.data r1 e2) (af rfl) (o_ ?_)))))
 obtain rfl:=sj h0
 exact Dq 9

/- loop.example/g00149/laws.toSectorS -/
def uT:List Az:=[⟨some 2,.nilS 2,none⟩]
def uU:List Az:=[m_ 5 0,n_ 6 5,⟨some 7,.make 2 32 [iV 0,.lst 1 []] (.t 6) (.t 6),none⟩,m_ 3 7]
def uV:=[i_ 4 0]
def uW:=[m_ 8 4,m_ 9 0,n_ 10 9,b_ .lss 11 8 10]
def uX:=[m_ 14 3,m_ 15 4,m_ 16 0,m_ 17 4,x_ 18 16 17 2,L_ 19 18 2,q_ 20 346 [.t 19],x_ 21 14 15 2,s_ 21 20 2]
def uY:=[m_ 12 4,B_ .add 13 12 1,m_ 4 13]
def uS:IR:=(.seq (sr uW (.ite (.t 11) .skip (.exit 0))) (.seq (.block 1 (.reg uX)) (.reg uY)))
def uZ:=[m_ 22 3,m_ 2 22]
def KW:Dx:=⟨1,23,[.t 2],sr uT (sr uU (.seq (sr uV (Pz 0 uS)) (rr uZ)))⟩
def GS (D:Ar):Prop:=∀a0 r,DB a0=some r→D 294 ⟨[Ah a0],[]⟩ ⟨Ad 32 r,[],[]⟩
theorem OF (H346:HF C):GS (FO C KW):=by
 intro a0 r h0
 refine f0 (JN 3 [] [(128,160)] [(0,Ah a0)] [] (Bi (Aj (st (Cd rfl tv (Iw rfl (gg h0 fun c1 h0=>gg h0 fun c2 h0=>st (IP (e:=Ak) (Aa.mk 0 ([]:List UInt8)) rfl rfl c1 rfl c2 rfl (st (Cd rfl tv (Rl (bv h0 fun v3 e4 h0=>Fz ⟨[(0,Ah a0),(3,Ad 480 v3)],[],[]⟩ (Fp (by subst e4; kernel_rfl)) (At 4 [(0,Ah a0),(3,Ad 480 v3),(4,iV 0)] [] (Bw (bb h0 fun r37 e38 h0=>Cw (R:=(fun S=>∃p27:List Aa,p27=r37∧S=⟨[(3,Ad 480 p27)],[],[]⟩)) (Ou a0) (fun s S=>match s with | (p14,p15)=>S=⟨[(0,Ah a0),(3,Ad 480 p14),(4,iV p15)],[],[]⟩) e38 _ (Fp (by kernel_rfl)) rfl 0 (fun _=>rfl) ?_ ?_)))))))))))))))
 ·rintro S _ hfg ⟨p27,rfl,rfl⟩
  refine Fz _ hfg ?_
  obtain rfl:=sj h0
  exact Dq 5
 ·rintro ⟨p14,p15⟩ o1 _ K1 rfl h1 hx1 hK1 hE1 hR1
  refine Bg 4 (Aj (Iw rfl (o_ (At 2 [(0,Ah a0),(3,Ad 480 p14),(4,iV p15),(11,.bool (decide (p15<(a0.length:Int))))] [] (Dk h1 (fun c28 h1=>?_) (fun c28 h1=>?_))))))
  ·refine Bg 8 (Aj (bb h1 fun y29 e30 h1=>bE rfl rfl e30 (st (c_ (v:=.agg (Ak y29)) (Bb ⟨tv,tv⟩ rfl (nl rfl)) (bb h1 fun r31 e32 h1=>Mv (H346 y29 r31 e32) (ar (af rfl)) (bb h1 fun y33 e34 h1=>JO rfl rfl e34 (bb h1 fun y35 e36 h1=>st (FU (y':=r31) rfl rfl tv rfl rfl rfl rfl e36 (nl rfl) rfl (Fh dB (Fh (lW (fun _=>rfl)) rfl)) rfl rfl (Rl (nW (Fz ⟨[(0,Ah a0),(3,Ad 480 (p14.set p15.toNat r31)),(4,iV p15)],[],[]⟩ (fg ⟨rfl,congrArg (fun z=>some ((.own 480 0 2 z:V))) Ll,rfl,tv⟩ tv) (Bg 4 ?_))))))))))))
   obtain rfl:=sj h1
   exact kn hK1 rfl rfl
  ·obtain rfl:=sj h1
   obtain rfl:=hx1 _ rfl
   refine Qj rfl ?_
   exact jn hE1 ⟨_,rfl,rfl⟩

/- loop.example/g00149/laws.toDevice -/
def pH:=[X_ 1 0,a_ 2 [.own 129 0 1 [],.own 130 0 2 []]]
def pI:=[a_ 3 [.own 193 0 1 [],.own 194 0 2 []]]
def pJ:=[f_ 4 1 0,l_ 5 4 1,q_ 6 231 [.t 5],f_ 7 3 0,s_ 7 6 1]
def pK:=[f_ 8 1 1,l_ 9 8 1,q_ 10 294 [.t 9],f_ 11 3 1,s_ 11 10 1]
def pL:=[L_ 12 3 2,s_ 2 12 2]
def KA:Dx:=⟨1,13,[.cell 2 2 true],sr pH (sr pI (sr pJ (sr pK (rr pL))))⟩
def GB (D:Ar):Prop:=∀a0 r,aJ a0=some r→D 230 ⟨[.agg (Ae a0)],[]⟩ ⟨.agg (Ai r (Cf 0) (Cf 33)),[],[]⟩
theorem NI (H231:gD C) (H294:GS C):GB (FO C KA):=by
 intro a0 r h0
 refine f0 (JN 4 [] [(130,162)] [(1,.ptr 64 0),(2,.ptr 128 0)] [(64,Ae a0),(128,[As 129 [],Ad 162 []])] (JN 3 [] [(194,226)] [(1,.ptr 64 0),(2,.ptr 128 0),(3,.ptr 192 0)] [(64,Ae a0),(128,[As 129 [],Ad 162 []]),(192,[As 193 [],Ad 226 []])] (Bg 3 (Aj (bb h0 fun r1 e2 h0=>Mv (H231 a0.held r1 e2) (af rfl) (o_ (At 3 [(1,.ptr 64 0),(2,.ptr 128 0),(3,.ptr 192 0)] [(64,Ae a0),(128,[As 129 [],Ad 162 []]),(192,[As 384 r1,Ad 226 []])] (Bg 3 (Aj (bb h0 fun r3 e4 h0=>Mv (H294 a0.Ab r3 e4) (Fh (Tc rfl) rfl) (o_ ?_)))))))))))
 obtain rfl:=sj h0
 exact Dq 9

/- loop.example/g00149/laws.eqByteS -/
def qC:=[k_ 4 (.bool false)]
def qD:=[m_ 6 0,n_ 7 6,m_ 8 1,n_ 9 8,b_ .neq 10 7 9]
def qE:=[k_ 4 (.bool false)]
def qF:=[i_ 5 0]
def qG:=[m_ 11 5,m_ 12 0,n_ 13 12,b_ .lss 14 11 13]
def qH:=tk [m_ 17 0,m_ 18 5,x_ 19 17 18 1,l_ 20 19 1,m_ 21 1,m_ 22 5,x_ 23 21 22 1,l_ 24 23 1,b_ .neq 25 20 24] .fin
def qI:=[k_ 4 (.bool false)]
def qJ:=[m_ 15 5,B_ .add 16 15 1,m_ 5 16]
def qB:IR:=(.seq (sr qG (.ite (.t 14) .skip (.exit 0))) (.seq (.block 1 (sd qH (iz 25 (rr qI)))) (.reg qJ)))
def qK:=[k_ 4 (.bool true)]
def KD:Dx:=⟨2,26,[.t 4],sr qC (.seq (sr qD (iz 10 (rr qE))) (.seq (sr qF (Pz 0 qB)) (rr qK)))⟩
def gE (D:Ar):Prop:=∀a0 a1 r,eM a0 a1=some r→D 233 ⟨[Bd a0,Bd a1],[]⟩ ⟨.bool r,[],[]⟩
theorem NL:gE (FO C KD):=by
 intro a0 a1 r h0
 refine f0 (At 3 [(0,Bd a0),(1,Bd a1)] [] (Bg 3 (Aj (Iw rfl (st (Cd rfl tv (Iw rfl (o_ (At 2 [(0,Bd a0),(1,Bd a1),(10,.bool ((a0.length:Int) != (a1.length:Int)))] [] (Dk h0 (fun c1 h0=>?_) (fun c1 h0=>?_)))))))))))
 ·obtain rfl:=sj h0
  exact Dq 4
 ·refine At 6 [(0,Bd a0),(1,Bd a1),(5,iV 0)] [] (Bw (bb h0 fun r22 e23 h0=>Cw (R:=(fun S=>.inl ()=r22∧S=⟨[],[],[]⟩)) (Om a0 a1) (fun s S=>match s with | p8=>S=⟨[(0,Bd a0),(1,Bd a1),(5,iV p8)],[],[]⟩) e23 _ (Fp (by kernel_rfl)) rfl 0 (fun _=>rfl) ?_ ?_))
  ·rintro S _ hfg ⟨rfl,rfl⟩
   refine Fz _ hfg ?_
   obtain rfl:=sj h0
   exact Dq 4
  ·rintro p8 o1 _ K1 rfl h1 hx1 hK1 hE1 hR1
   refine Bg 4 (Aj (Iw rfl (o_ (At 2 [(0,Bd a0),(1,Bd a1),(5,iV p8),(14,.bool (decide (p8<(a0.length:Int))))] [] (Dk h1 (fun c16 h1=>?_) (fun c16 h1=>?_))))))
   ·refine cZ 5 (bb h1 fun y17 e18 h1=>bb h1 fun y19 e20 h1=>Bg 2 (Dt (d_ (JF rfl rfl rfl e18 (Bg 3 (Dt (d_ (JF rfl rfl rfl e20 (At 3 [(0,Bd a0),(1,Bd a1),(5,iV p8),(25,.bool (((y17).toNat:Int) != ((y19).toNat:Int)))] [] (Dk h1 (fun c21 h1=>?_) (fun c21 h1=>?_)))))))))))
    ·obtain rfl:=sj h1
     obtain rfl:=hx1 _ rfl
     obtain rfl:=sj h0
     exact mH 4 hR1
    ·refine Bg 7 ?_
     obtain rfl:=sj h1
     exact kn hK1 rfl rfl
   ·obtain rfl:=sj h1
    obtain rfl:=hx1 _ rfl
    refine Qj rfl ?_
    exact jn hE1 ⟨rfl,rfl⟩

/- loop.example/g00149/laws.eqSector -/
def AC:=[X_ 2 0,X_ 3 1,k_ 4 (.bool false)]
def AD:=[f_ 5 2 0,l_ 6 5 1,f_ 7 3 0,l_ 8 7 1,b_ .neq 9 6 8]
def AE:=[k_ 4 (.bool false)]
def AF:=[f_ 10 2 1,l_ 11 10 1,f_ 12 3 1,l_ 13 12 1,q_ 14 233 [.t 11,.t 13],N_ 15 14]
def AG:=[k_ 4 (.bool false)]
def AH:=[k_ 4 (.bool true)]
def LS:Dx:=⟨2,16,[.t 4],sr AC (.seq (sr AD (iz 9 (rr AE))) (.seq (sr AF (iz 15 (rr AG))) (rr AH)))⟩
def HG (D:Ar):Prop:=∀a0 a1 r,kX a0 a1=some r→D 347 ⟨[.agg (Ak a0),.agg (Ak a1)],[]⟩ ⟨.bool r,[],[]⟩
theorem OZ (H233:gE C):HG (FO C LS):=by
 intro a0 a1 r h0
 refine f0 (At 14 [(2,.ptr 128 0),(3,.ptr 192 0),(9,.bool (a0.at_ != a1.at_))] [(128,Ak a0),(192,Ak a1)] (Dk h0 (fun c1 h0=>?_) (fun c1 h0=>?_)))
 ·obtain rfl:=sj h0
  exact Dq 4
 ·refine Bg 8 (Aj (bb h0 fun r2 e3 h0=>Qg (H233 a0.data a1.data r2 e3) (o_ (At 2 [(15,.bool (!r2))] [] (Dk h0 (fun c4 h0=>?_) (fun c4 h0=>?_))))))
  ·obtain rfl:=sj h0
   exact Dq 4
  ·obtain rfl:=sj h0
   exact Dq 6

/- loop.example/g00149/laws.eqSectorS -/
def vB:=[k_ 4 (.bool false)]
def vC:=[m_ 6 0,n_ 7 6,m_ 8 1,n_ 9 8,b_ .neq 10 7 9]
def vD:=[k_ 4 (.bool false)]
def vE:=[i_ 5 0]
def vF:=[m_ 11 5,m_ 12 0,n_ 13 12,b_ .lss 14 11 13]
def vG:=tk [m_ 17 0,m_ 18 5,x_ 19 17 18 2,L_ 20 19 2,m_ 21 1,m_ 22 5,x_ 23 21 22 2,L_ 24 23 2] (.alt [] (q_ 25 347 [.t 20,.t 24]) (tk [N_ 26 25] .fin) .stop)
def vH:=[k_ 4 (.bool false)]
def vI:=[m_ 15 5,B_ .add 16 15 1,m_ 5 16]
def vA:IR:=(.seq (sr vF (.ite (.t 14) .skip (.exit 0))) (.seq (.block 1 (sd vG (iz 26 (rr vH)))) (.reg vI)))
def vJ:=[k_ 4 (.bool true)]
def KX:Dx:=⟨2,27,[.t 4],sr vB (.seq (sr vC (iz 10 (rr vD))) (.seq (sr vE (Pz 0 vA)) (rr vJ)))⟩
def GT (D:Ar):Prop:=∀a0 a1 r,DD a0 a1=some r→D 295 ⟨[Ah a0,Ah a1],[]⟩ ⟨.bool r,[],[]⟩
theorem OG (H347:HG C):GT (FO C KX):=by
 intro a0 a1 r h0
 refine f0 (At 3 [(0,Ah a0),(1,Ah a1)] [] (Bg 3 (Aj (Iw rfl (st (Cd rfl tv (Iw rfl (o_ (At 2 [(0,Ah a0),(1,Ah a1),(10,.bool ((a0.length:Int) != (a1.length:Int)))] [] (Dk h0 (fun c1 h0=>?_) (fun c1 h0=>?_)))))))))))
 ·obtain rfl:=sj h0
  exact Dq 4
 ·refine At 6 [(0,Ah a0),(1,Ah a1),(5,iV 0)] [] (Bw (bb h0 fun r28 e29 h0=>Cw (R:=(fun S=>.inl ()=r28∧S=⟨[],[],[]⟩)) (Ov a0 a1) (fun s S=>match s with | p10=>S=⟨[(0,Ah a0),(1,Ah a1),(5,iV p10)],[],[]⟩) e29 _ (Fp (by kernel_rfl)) rfl 0 (fun _=>rfl) ?_ ?_))
  ·rintro S _ hfg ⟨rfl,rfl⟩
   refine Fz _ hfg ?_
   obtain rfl:=sj h0
   exact Dq 4
  ·rintro p10 o1 _ K1 rfl h1 hx1 hK1 hE1 hR1
   refine Bg 4 (Aj (Iw rfl (o_ (At 2 [(0,Ah a0),(1,Ah a1),(5,iV p10),(14,.bool (decide (p10<(a0.length:Int))))] [] (Dk h1 (fun c20 h1=>?_) (fun c20 h1=>?_))))))
   ·refine cZ 5 (bb h1 fun y21 e22 h1=>bb h1 fun y23 e24 h1=>bb h1 fun r25 e26 h1=>Bg 2 (Dt (d_ (JF rfl rfl rfl e22 (Bg 3 (Dt (d_ (JF rfl rfl rfl e24 (Dt (An tv (c_ (v:=.agg (Ak y23)) (Bb ⟨tv,tv⟩ rfl (nl rfl)) (⟨tv,JK (H347 y21 y23 r25 e26) rfl (dw [(0,Ah a0),(1,Ah a1),(5,iV p10),(25,.bool r25)] [] tv (d_ (At 2 [(0,Ah a0),(1,Ah a1),(5,iV p10),(26,.bool (!r25))] [] (Dk h1 (fun c27 h1=>?_) (fun c27 h1=>?_))))) Cp⟩))))))))))))
    ·obtain rfl:=sj h1
     obtain rfl:=hx1 _ rfl
     obtain rfl:=sj h0
     exact mH 4 hR1
    ·refine Bg 7 ?_
     obtain rfl:=sj h1
     exact kn hK1 rfl rfl
   ·obtain rfl:=sj h1
    obtain rfl:=hx1 _ rfl
    refine Qj rfl ?_
    exact jn hE1 ⟨rfl,rfl⟩

/- loop.example/g00149/laws.eqDevice -/
def pV:=[X_ 2 0,X_ 3 1,k_ 4 (.bool false)]
def pW:=[f_ 5 2 0,l_ 6 5 1,f_ 7 3 0,l_ 8 7 1,q_ 9 233 [.t 6,.t 8],N_ 10 9]
def pX:=[k_ 4 (.bool false)]
def pY:=[f_ 11 2 1,l_ 12 11 1,f_ 13 3 1,l_ 14 13 1,q_ 15 295 [.t 12,.t 14],N_ 16 15]
def pZ:=[k_ 4 (.bool false)]
def qA:=[k_ 4 (.bool true)]
def KC:Dx:=⟨2,17,[.t 4],sr pV (.seq (sr pW (iz 10 (rr pX))) (.seq (sr pY (iz 16 (rr pZ))) (rr qA)))⟩
def GC (D:Ar):Prop:=∀a0 a1 r,aK a0 a1=some r→D 232 ⟨[.agg (Ae a0),.agg (Ae a1)],[]⟩ ⟨.bool r,[],[]⟩
theorem NK (H233:gE C) (H295:GT C):GC (FO C KC):=by
 intro a0 a1 r h0
 refine f0 (At 5 [(2,.ptr 128 0),(3,.ptr 192 0)] [(128,Ae a0),(192,Ae a1)] (Bg 6 (Aj (bb h0 fun r1 e2 h0=>Qg (H233 a0.held a1.held r1 e2) (o_ (At 2 [(2,.ptr 128 0),(3,.ptr 192 0),(10,.bool (!r1))] [(128,Ae a0),(192,Ae a1)] (Dk h0 (fun c3 h0=>?_) (fun c3 h0=>?_))))))))
 ·obtain rfl:=sj h0
  exact Dq 4
 ·refine Bg 8 (Aj (bb h0 fun r4 e5 h0=>Qg (H295 a0.Ab a1.Ab r4 e5) (o_ (At 2 [(16,.bool (!r4))] [] (Dk h0 (fun c6 h0=>?_) (fun c6 h0=>?_))))))
  ·obtain rfl:=sj h0
   exact Dq 4
  ·obtain rfl:=sj h0
   exact Dq 6

/- loop.example/g00149/laws.markByteS -/
def qQ:=[i_ 4 0]
def qR:=[i_ 5 0]
def qS:=[m_ 6 5,m_ 7 0,n_ 8 7,b_ .lss 9 6 8]
def qT:=[m_ 12 0,m_ 13 5,m_ 14 1,iQ 15 (.conv .u8 (.t 14)),x_ 16 12 13 1,s_ 16 15 1]
def qU:=[m_ 17 1,B_ .add 18 17 1,m_ 1 18]
def qV:=[m_ 10 5,B_ .add 11 10 1,m_ 5 11]
def qP:IR:=(.seq (sr qS (.ite (.t 9) .skip (.exit 0))) (.seq (.block 1 (sr qT (.reg qU))) (.reg qV)))
def qW:=[m_ 19 1,m_ 4 19]
def KF:Dx:=⟨2,20,[.t 4],sr qQ (.seq (sr qR (Pz 0 qP)) (rr qW))⟩
def gF (D:Ar):Prop:=∀a0 a1 r,eN a0 a1=some r→D 235 ⟨[As 2097152 a0,iV a1],[]⟩ ⟨iV r.1,[],[(0,1,r.2.map Dh)]⟩
theorem NN:gF (FO C KF):=by
 intro a0 a1 r h0
 refine f0 (At 8 [(0,As 2097152 a0),(1,iV a1),(5,iV 0)] [] (Bw (bb h0 fun r24 e25 h0=>Cw (R:=(fun S=>∃p17:List UInt8,∃p18:Int,(p17,p18)=r24∧S=⟨[(0,As 2097152 p17),(1,iV p18)],[],[]⟩)) (On) (fun s S=>match s with | (p6,p7,p8)=>S=⟨[(0,As 2097152 p6),(1,iV p7),(5,iV p8)],[],[]⟩) e25 _ (Fp (by kernel_rfl)) rfl 0 (fun _=>rfl) ?_ ?_)))
 ·rintro S _ hfg ⟨p17,p18,rfl,rfl⟩
  refine Fz _ hfg (At 4 [(0,As 2097152 p17),(4,iV p18)] [] ?_)
  obtain rfl:=sj h0
  exact Zf (Lp rfl rfl rfl rfl rfl ⟨⟨rfl,ED (fun _=>rfl)⟩,tv⟩)
 ·rintro ⟨p6,p7,p8⟩ o1 _ K1 rfl h1 hx1 hK1 hE1 hR1
  refine Bg 4 (Aj (lP rfl (o_ (At 2 [(0,As 2097152 p6),(1,iV p7),(5,iV p8),(9,.bool (decide (p8<(p6.length:Int))))] [] (Dk h1 (fun c19 h1=>?_) (fun c19 h1=>?_))))))
  ·refine Bg 8 (Aj (st (c_ (CH (Bb ⟨tv,tv⟩ rfl tv)) (bb h1 fun y20 e21 h1=>JO rfl rfl e21 (bb h1 fun y22 e23 h1=>PW (b8 p7) rfl rfl e23 (o_ (At 7 [(0,As 2097152 (p6.set p8.toNat (b8 p7))),(1,iV (wi (p7+1))),(5,iV p8)] [] (Bg 4 ?_))))))))
   obtain rfl:=sj h1
   exact kn hK1 rfl rfl
  ·obtain rfl:=sj h1
   obtain rfl:=hx1 _ rfl
   refine Qj rfl ?_
   exact jn hE1 ⟨_,_,rfl,rfl⟩

/- loop.example/g00149/laws.markSectorS -/
def vL:=[i_ 4 0]
def vM:=[i_ 5 0]
def vN:=[m_ 6 5,m_ 7 0,n_ 8 7,b_ .lss 9 6 8]
def vO:=[m_ 12 0,m_ 13 5,m_ 14 1,x_ 15 12 13 2,f_ 16 15 0,s_ 16 14 1]
def vP:=[m_ 17 1,B_ .add 18 17 1,m_ 1 18]
def vQ:=[m_ 19 0,m_ 20 5,x_ 21 19 20 2,f_ 22 21 1,l_ 23 22 1,m_ 24 1,q_ 25 235 [.t 23,.t 24],m_ 1 25]
def vR:=[m_ 10 5,B_ .add 11 10 1,m_ 5 11]
def vK:IR:=(.seq (sr vN (.ite (.t 9) .skip (.exit 0))) (.seq (.block 1 (sr vO (sr vP (.reg vQ)))) (.reg vR)))
def vS:=[m_ 26 1,m_ 4 26]
def KY:Dx:=⟨2,27,[.t 4],sr vL (.seq (sr vM (Pz 0 vK)) (rr vS))⟩
def GU (D:Ar):Prop:=∀a0 a1 r,DE a0 a1=some r→D 296 ⟨[Ad 2097184 a0,iV a1],[]⟩ ⟨iV r.1,[],[(0,2,r.2.map Ak)]⟩
theorem OH (H235:gF C):GU (FO C KY):=by
 intro a0 a1 r h0
 refine f0 (At 8 [(0,Ad 2097184 a0),(1,iV a1),(5,iV 0)] [] (Bw (bb h0 fun r51 e52 h0=>Cw (R:=(fun S=>∃p35:List Aa,∃p36:Int,(p35,p36)=r51∧S=⟨[(0,Ad 2097184 p35),(1,iV p36)],[],[]⟩)) (Mb) (fun s S=>match s with | (p15,p16,p17)=>S=⟨[(0,Ad 2097184 p15),(1,iV p16),(5,iV p17)],[],[]⟩) e52 _ (Fp (by kernel_rfl)) rfl 0 (fun _=>rfl) ?_ ?_)))
 ·rintro S _ hfg ⟨p35,p36,rfl,rfl⟩
  refine Fz _ hfg (At 4 [(0,Ad 2097184 p35),(4,iV p36)] [] ?_)
  obtain rfl:=sj h0
  exact Zf (Lp rfl rfl rfl rfl rfl ⟨⟨rfl,ED (fun _=>rfl)⟩,tv⟩)
 ·rintro ⟨p15,p16,p17⟩ o1 _ K1 rfl h1 hx1 hK1 hE1 hR1
  refine Bg 4 (Aj (lP rfl (o_ (At 2 [(0,Ad 2097184 p15),(1,iV p16),(5,iV p17),(9,.bool (decide (p17<(p15.length:Int))))] [] (Dk h1 (fun c37 h1=>?_) (fun c37 h1=>?_))))))
  ·refine Bg 8 (Aj (bb h1 fun y38 e39 h1=>JO rfl rfl e39 (st (c_ (Bb ⟨tv,tv⟩ rfl tv) (bb h1 fun y40 e41 h1=>st (FU (y':=(Aa.mk p16 y40.data)) rfl rfl tv rfl rfl rfl rfl e41 (nl rfl) rfl (Fh dB rfl) rfl rfl (Rl (Fz ⟨[(0,Ad 2097184 (p15.set p17.toNat (Aa.mk p16 y40.data))),(1,iV p16),(5,iV p17)],[],[]⟩ (fg ⟨congrArg (fun z=>some ((.own 2097184 0 2 z:V))) Ll,rfl,rfl,tv⟩ tv) (At 5 [(0,Ad 2097184 (p15.set p17.toNat (Aa.mk p16 y40.data))),(1,iV (wi (p16+1))),(5,iV p17)] [] (Bg 2 (Aj (bb h1 fun y42 e43 h1=>JO rfl rfl e43 (st (c_ (Bb ⟨tv,tv⟩ rfl tv) (bb h1 fun y44 e45 h1=>st (c_ (HW (e:=Ak) (y:=y44) (v:=.nrow 2097184 (0+p17.toNat) 1 1 (y44.data.map Dh)) rfl rfl tv rfl rfl e45 rfl (nl rfl) rfl) (st (Cd rfl tv (bb h1 fun r46 e47 h1=>gg h1 fun c48 h1=>st (HU (e0:=Ak) (L0:=p15.set p17.toNat (Aa.mk p16 y40.data)) (e:=Dh) (xs:=y44.data) (xs':=r46.2) (y:=y44) (r:=iV r46.1) (H235 y44.data (wi (p16+1)) r46 e47) ⟨tv,tv,tv⟩ ⟨.inl ⟨rfl,rfl⟩,⟨.inr ⟨rfl,rfl,rfl⟩,tv⟩⟩ rfl rfl e45 rfl rfl c48 (fun _=>rfl) (sw ⟨[(0,Ad 2097184 ((p15.set p17.toNat (Aa.mk p16 y40.data)).set p17.toNat (Aa.mk y44.at_ r46.2))),(5,iV p17),(25,iV r46.1)],[],[]⟩ (fg ⟨congrArg (fun z=>some ((z:V))) (EL (y:=y44) (y':=(Aa.mk y44.at_ r46.2)) e45 rfl),rfl,rfl,tv⟩ tv) (Cd rfl tv (Rl (nW (bv h1 fun v49 e50 h1=>Fz ⟨[(0,Ad 2097184 v49),(1,iV r46.1),(5,iV p17)],[],[]⟩ (Fp (by subst e50; kernel_rfl)) (Bg 4 ?_))))))))))))))))))))))))))
   obtain rfl:=sj h1
   exact kn hK1 rfl rfl
  ·obtain rfl:=sj h1
   obtain rfl:=hx1 _ rfl
   refine Qj rfl ?_
   exact jn hE1 ⟨_,_,rfl,rfl⟩

/- loop.example/g00149/laws.markDevice -/
def qL:=[X_ 2 0,i_ 4 0]
def qM:=[f_ 5 2 0,l_ 6 5 1,m_ 7 1,q_ 8 235 [.t 6,.t 7],m_ 1 8]
def qN:=[f_ 9 2 1,l_ 10 9 1,m_ 11 1,q_ 12 296 [.t 10,.t 11],m_ 1 12]
def qO:=[m_ 13 1,m_ 4 13]
def KE:Dx:=⟨2,14,[.t 4],sr qL (sr qM (sr qN (rr qO)))⟩
def GD (D:Ar):Prop:=∀a0 a1 r,kL a0 a1=some r→D 234 ⟨[.agg (Ai a0 (Cf 2097152) (Cf 2097185)),iV a1],[]⟩ ⟨iV r.1,[],[(0,1,r.2.1.map Dh),(0,2,r.2.2.map Ak)]⟩
theorem NM (H235:gF C) (H296:GU C):GD (FO C KE):=by
 intro a0 a1 r h0
 refine f0 (At 4 [(0,.agg (Ai a0 (Cf 2097152) (Cf 2097185))),(1,iV a1),(2,.ptr 128 0)] [(128,Ai a0 (Cf 2097152) (Cf 2097185))] (Bi (Aj (st (c_ (Bb ⟨tv,tv⟩ rfl tv) (st (c_ (Bb ⟨tv,tv⟩ rfl (nl rfl)) (st (Cd rfl tv (bb h0 fun r1 e2 h0=>gg h0 fun c3 h0=>PH [] [2097152] [] (H235 a0.held a1 r1 e2) (ar (Fh (QD (fun _=>rfl)) rfl)) (sw ⟨[(0,.agg [As 2097152 r1.2,Ad 2097185 a0.Ab]),(2,.ptr 128 0),(8,iV r1.1)],[(128,[As 2097152 r1.2,Ad 2097185 a0.Ab])],[]⟩ (fg ⟨congrArg (fun z=>some ((.agg [z,Ad 2097185 a0.Ab]:V))) (Uj c3),rfl,rfl,tv⟩ ⟨congrArg (fun z=>some (([z,Ad 2097185 a0.Ab]:List V))) (Uj c3),tv⟩) (Cd rfl tv (o_ (At 1 [(0,.agg [As 2097152 r1.2,Ad 2097185 a0.Ab]),(1,iV r1.1),(2,.ptr 128 0)] [(128,[As 2097152 r1.2,Ad 2097185 a0.Ab])] (Bi (Aj (st (c_ (Bb ⟨tv,tv⟩ rfl tv) (st (c_ (Bb ⟨tv,tv⟩ rfl (nl rfl)) (st (Cd rfl tv (bb h0 fun r4 e5 h0=>gg h0 fun c6 h0=>PI [] [2097185] [] (H296 a0.Ab r1.1 r4 e5) (sw ⟨[(0,.agg [As 2097152 r1.2,Ad 2097185 r4.2]),(12,iV r4.1)],[],[]⟩ (fg ⟨congrArg (fun z=>some ((.agg [As 2097152 r1.2,z]:V))) (Uj c6),rfl,tv⟩ tv) (Cd rfl tv (o_ (At 6 [(0,.agg [As 2097152 r1.2,Ad 2097185 r4.2]),(4,iV r4.1)] [] ?_)))))))))))))))))))))))))))
 obtain rfl:=sj h0
 exact Zf (Lp rfl rfl rfl rfl rfl ⟨⟨rfl,ED (fun _=>rfl)⟩,⟨⟨rfl,ED (fun _=>rfl)⟩,tv⟩⟩)

/- loop.example/g00149/laws.heldByteS -/
def vU:=[i_ 4 0]
def vV:=[i_ 5 0]
def vW:=[m_ 6 5,m_ 7 0,n_ 8 7,b_ .lss 9 6 8]
def vX:=[m_ 12 0,m_ 13 5,x_ 14 12 13 1,l_ 15 14 1,m_ 16 1,iQ 17 (.conv .u8 (.t 16)),b_ .neq 18 15 17]
def vY:=[i_ 4 (-1)]
def vZ:=[m_ 19 1,B_ .add 20 19 1,m_ 1 20]
def wA:=[m_ 10 5,B_ .add 11 10 1,m_ 5 11]
def vT:IR:=(.seq (sr vW (.ite (.t 9) .skip (.exit 0))) (.seq (.block 1 (.seq (sr vX (iz 18 (rr vY))) (.reg vZ))) (.reg wA)))
def wB:=[m_ 21 1,m_ 4 21]
def KZ:Dx:=⟨2,22,[.t 4],sr vU (.seq (sr vV (Pz 0 vT)) (rr wB))⟩
def oA (D:Ar):Prop:=∀a0 a1 r,kR a0 a1=some r→D 297 ⟨[Bd a0,iV a1],[]⟩ ⟨iV r,[],[]⟩
theorem OI:oA (FO C KZ):=by
 intro a0 a1 r h0
 refine f0 (At 8 [(0,Bd a0),(1,iV a1),(5,iV 0)] [] (Bw (bb h0 fun r18 e19 h0=>Cw (R:=(fun S=>∃p13:Int,.inl p13=r18∧S=⟨[(1,iV p13)],[],[]⟩)) (Mc a0) (fun s S=>match s with | (p5,p6)=>S=⟨[(0,Bd a0),(1,iV p5),(5,iV p6)],[],[]⟩) e19 _ (Fp (by kernel_rfl)) rfl 0 (fun _=>rfl) ?_ ?_)))
 ·rintro S _ hfg ⟨p13,rfl,rfl⟩
  refine Fz _ hfg ?_
  obtain rfl:=sj h0
  exact Dq 5
 ·rintro ⟨p5,p6⟩ o1 _ K1 rfl h1 hx1 hK1 hE1 hR1
  refine Bg 4 (Aj (Iw rfl (o_ (At 2 [(0,Bd a0),(1,iV p5),(5,iV p6),(9,.bool (decide (p6<(a0.length:Int))))] [] (Dk h1 (fun c14 h1=>?_) (fun c14 h1=>?_))))))
  ·refine Bg 8 (Aj (bb h1 fun y15 e16 h1=>bE rfl rfl e16 (o_ (Bg 2 (Aj (st (c_ (CH (Bb ⟨tv,tv⟩ rfl tv)) (o_ (At 2 [(0,Bd a0),(1,iV p5),(5,iV p6),(18,.bool (((y15).toNat:Int) != ((b8 p5).toNat:Int)))] [] (Dk h1 (fun c17 h1=>?_) (fun c17 h1=>?_)))))))))))
   ·obtain rfl:=sj h1
    obtain rfl:=hx1 _ rfl
    obtain rfl:=sj h0
    exact mH 4 hR1
   ·refine At 7 [(0,Bd a0),(1,iV (wi (p5+1))),(5,iV p6)] [] (Bg 4 ?_)
    obtain rfl:=sj h1
    exact kn hK1 rfl rfl
  ·obtain rfl:=sj h1
   obtain rfl:=hx1 _ rfl
   refine Qj rfl ?_
   exact jn hE1 ⟨_,rfl,rfl⟩

/- loop.example/g00149/laws.heldSectorS -/
def wD:=[i_ 4 0]
def wE:=[i_ 5 0]
def wF:=[m_ 6 5,m_ 7 0,n_ 8 7,b_ .lss 9 6 8]
def wG:=[m_ 12 0,m_ 13 5,x_ 14 12 13 2,f_ 15 14 0,l_ 16 15 1,m_ 17 1,b_ .neq 18 16 17]
def wH:=[i_ 4 (-1)]
def wI:=[m_ 19 1,B_ .add 20 19 1,m_ 1 20]
def wJ:=[m_ 21 0,m_ 22 5,x_ 23 21 22 2,f_ 24 23 1,l_ 25 24 1,m_ 26 1,q_ 27 297 [.t 25,.t 26],m_ 1 27]
def wK:=[m_ 28 1,B_ .lss 29 28 0]
def wL:=[i_ 4 (-1)]
def wM:=[m_ 10 5,B_ .add 11 10 1,m_ 5 11]
def wC:IR:=(.seq (sr wF (.ite (.t 9) .skip (.exit 0))) (.seq (.block 1 (.seq (sr wG (iz 18 (rr wH))) (sr wI (sr wJ (sr wK (iz 29 (rr wL))))))) (.reg wM)))
def jA:=[m_ 30 1,m_ 4 30]
def LA:Dx:=⟨2,31,[.t 4],sr wD (.seq (sr wE (Pz 0 wC)) (rr jA))⟩
def GV (D:Ar):Prop:=∀a0 a1 r,DG a0 a1=some r→D 298 ⟨[Ah a0,iV a1],[]⟩ ⟨iV r,[],[]⟩
theorem OJ (H297:oA C):GV (FO C LA):=by
 intro a0 a1 r h0
 refine f0 (At 8 [(0,Ah a0),(1,iV a1),(5,iV 0)] [] (Bw (bb h0 fun r33 e34 h0=>Cw (R:=(fun S=>∃p23:Int,.inl p23=r33∧S=⟨[(1,iV p23)],[],[]⟩)) (Md a0) (fun s S=>match s with | (p10,p11)=>S=⟨[(0,Ah a0),(1,iV p10),(5,iV p11)],[],[]⟩) e34 _ (Fp (by kernel_rfl)) rfl 0 (fun _=>rfl) ?_ ?_)))
 ·rintro S _ hfg ⟨p23,rfl,rfl⟩
  refine Fz _ hfg ?_
  obtain rfl:=sj h0
  exact Dq 5
 ·rintro ⟨p10,p11⟩ o1 _ K1 rfl h1 hx1 hK1 hE1 hR1
  refine Bg 4 (Aj (Iw rfl (o_ (At 2 [(0,Ah a0),(1,iV p10),(5,iV p11),(9,.bool (decide (p11<(a0.length:Int))))] [] (Dk h1 (fun c24 h1=>?_) (fun c24 h1=>?_))))))
  ·refine Bg 8 (Aj (bb h1 fun y25 e26 h1=>bE rfl rfl e26 (o_ (At 5 [(0,Ah a0),(1,iV p10),(5,iV p11),(18,.bool (y25.at_ != p10))] [] (Dk h1 (fun c27 h1=>?_) (fun c27 h1=>?_))))))
   ·obtain rfl:=sj h1
    obtain rfl:=hx1 _ rfl
    obtain rfl:=sj h0
    exact mH 4 hR1
   ·refine At 7 [(0,Ah a0),(1,iV (wi (p10+1))),(5,iV p11)] [] (Bg 3 (Aj (bb h1 fun y28 e29 h1=>bE rfl rfl e29 (o_ (Bg 3 (Aj (bb h1 fun r30 e31 h1=>Qg (H297 y28.data (wi (p10+1)) r30 e31) (o_ (At 7 [(0,Ah a0),(1,iV r30),(5,iV p11),(29,.bool (decide (r30<0)))] [] (Dk h1 (fun c32 h1=>?_) (fun c32 h1=>?_)))))))))))
    ·obtain rfl:=sj h1
     obtain rfl:=hx1 _ rfl
     obtain rfl:=sj h0
     exact mH 4 hR1
    ·refine Bg 7 ?_
     obtain rfl:=sj h1
     exact kn hK1 rfl rfl
  ·obtain rfl:=sj h1
   obtain rfl:=hx1 _ rfl
   refine Qj rfl ?_
   exact jn hE1 ⟨_,rfl,rfl⟩

/- loop.example/g00149/laws.heldDevice -/
def qX:=[X_ 2 0,i_ 4 0]
def qY:=[f_ 5 2 0,l_ 6 5 1,m_ 7 1,q_ 8 297 [.t 6,.t 7],m_ 1 8]
def qZ:=[m_ 9 1,B_ .lss 10 9 0]
def rA:=[i_ 4 (-1)]
def rB:=[f_ 11 2 1,l_ 12 11 1,m_ 13 1,q_ 14 298 [.t 12,.t 13],m_ 1 14]
def rC:=[m_ 15 1,B_ .lss 16 15 0]
def rD:=[i_ 4 (-1)]
def rE:=[m_ 17 1,m_ 4 17]
def KG:Dx:=⟨2,18,[.t 4],sr qX (sr qY (.seq (sr qZ (iz 10 (rr rA))) (sr rB (.seq (sr rC (iz 16 (rr rD))) (rr rE)))))⟩
def GE (D:Ar):Prop:=∀a0 a1 r,kM a0 a1=some r→D 236 ⟨[.agg (Ae a0),iV a1],[]⟩ ⟨iV r,[],[]⟩
theorem NO (H297:oA C) (H298:GV C):GE (FO C KG):=by
 intro a0 a1 r h0
 refine f0 (At 4 [(1,iV a1),(2,.ptr 128 0)] [(128,Ae a0)] (Bg 4 (Aj (bb h0 fun r1 e2 h0=>Qg (H297 a0.held a1 r1 e2) (o_ (At 8 [(1,iV r1),(2,.ptr 128 0),(10,.bool (decide (r1<0)))] [(128,Ae a0)] (Dk h0 (fun c3 h0=>?_) (fun c3 h0=>?_))))))))
 ·obtain rfl:=sj h0
  exact Dq 4
 ·refine Bg 6 (Aj (bb h0 fun r4 e5 h0=>Qg (H298 a0.Ab r1 r4 e5) (o_ (At 8 [(1,iV r4),(16,.bool (decide (r4<0)))] [] (Dk h0 (fun c6 h0=>?_) (fun c6 h0=>?_))))))
  ·obtain rfl:=sj h0
   exact Dq 4
  ·obtain rfl:=sj h0
   exact Dq 7

/- loop.example/g00149/spec.l01In -/
def HQ:=[k_ 6 (.bool false)]
def HR:=[m_ 7 0,m_ 8 1,b_ .geq 9 7 8,m_ 10 9,mT 10 11 0,mT 10 12 2,pT 10 13 (.bin .leq (.t 11) (.t 12)),pa 14 10 13,m_ 6 14]
def MW:Dx:=⟨3,15,[.t 6],sr HQ (rr HR)⟩
def PF (D:Ar):Prop:=∀a0 a1 a2 r,MX a0 a1 a2=some r→D 56 ⟨[iV a0,iV a1,iV a2],[]⟩ ⟨.bool r,[],[]⟩
theorem QH:PF (FO C MW):=by
 intro a0 a1 a2 r h0
 refine f0 (At 3 [(0,iV a0),(1,iV a1),(2,iV a2)] [] (JL 9 (Aj (o_ ?_))))
 obtain rfl:=sj h0
 exact Dq 3

/- loop.example/g00149/spec.DeviceOK -/
def tV:=[X_ 1 0,k_ 2 (.bool false)]
def tW:=[f_ 4 1 0,l_ 5 4 1,n_ 6 5,B_ .rem 7 6 32,B_ .neq 8 7 0,m_ 9 8,fF 9 10 1 0,lF 9 11 10 1 false,pF 9 12 (.len (.t 11)),pF 9 13 (.bin .gtr (.t 12) (.c (iV 4096))),po 14 9 13,m_ 15 14,fF 15 16 1 1,lF 15 17 16 1 false,pF 15 18 (.len (.t 17)),pF 15 19 (.bin .gtr (.t 18) (.c (iV 4096))),po 20 15 19]
def tX:=[k_ 2 (.bool false)]
def tY:=[i_ 3 0]
def tZ:=[m_ 21 3,f_ 22 1 1,l_ 23 22 1,n_ 24 23,b_ .lss 25 21 24]
def uA:=[f_ 28 1 1,l_ 29 28 1,m_ 30 3,x_ 31 29 30 2,f_ 32 31 0,l_ 33 32 1,q_ 34 56 [.t 33,.c (iV 0),.c (iV 127)],N_ 35 34,m_ 36 35,fF 36 37 1 1,lF 36 38 37 1 false,mF 36 39 3,xF 36 40 38 39 2,fF 36 41 40 1,lF 36 42 41 1 false,pF 36 43 (.len (.t 42)),pF 36 44 (.bin .neq (.t 43) (.c (iV 32))),po 45 36 44]
def uB:=[k_ 2 (.bool false)]
def uC:=[m_ 26 3,B_ .add 27 26 1,m_ 3 27]
def tU:IR:=(.seq (sr tZ (.ite (.t 25) .skip (.exit 0))) (.seq (.block 1 (sr uA (iz 45 (rr uB)))) (.reg uC)))
def uD:=[k_ 2 (.bool true)]
def KT:Dx:=⟨1,46,[.t 2],sr tV (.seq (sr tW (iz 20 (rr tX))) (.seq (sr tY (Pz 0 tU)) (rr uD)))⟩
def GP (D:Ar):Prop:=∀a0 r,CZ a0=some r→D 290 ⟨[.agg (Ae a0)],[]⟩ ⟨.bool r,[],[]⟩
theorem OC (H56:PF C):GP (FO C KT):=by
 intro a0 r h0
 refine f0 (At 4 [(1,.ptr 64 0)] [(64,Ae a0)] (Bg 4 (Aj (Iw rfl (st (c_ (Bb ⟨tv,tv,tv⟩ rfl (by decide)) (o_ (Bg 2 (Aj (st (Ei (u:=.ptr 64 0) rfl (fun hg=>(Bb ⟨tv,tv⟩ rfl tv)) (st (Ei (u:=Bd a0.held) rfl (fun hg=>(Bb ⟨(fun _=>hg),tv⟩ rfl (nl rfl))) (st (Ei (u:=iV (a0.held.length:Int)) rfl (fun hg=>(Su (e:=Dh) (l0:=a0.held) rfl rfl (fun _=>hg))) (st (Ei (u:=.bool (decide ((a0.held.length:Int)>4096))) rfl (fun hg=>(Bb ⟨(fun _=>hg),tv,tv⟩ rfl tv)) (st (Gt rfl rfl rfl tv (fun h=>eG h) rfl (st (Cd rfl tv (st (Ei (u:=.ptr 64 1) rfl (fun hg=>(Bb ⟨tv,tv⟩ rfl tv)) (st (Ei (u:=Ah a0.Ab) rfl (fun hg=>(Bb ⟨(fun _=>hg),tv⟩ rfl (nl rfl))) (st (Ei (u:=iV (a0.Ab.length:Int)) rfl (fun hg=>(Su (e:=Ak) (l0:=a0.Ab) rfl rfl (fun _=>hg))) (st (Ei (u:=.bool (decide ((a0.Ab.length:Int)>4096))) rfl (fun hg=>(Bb ⟨(fun _=>hg),tv,tv⟩ rfl tv)) (st (Gt rfl rfl rfl tv (fun h=>eG h) rfl (Rl (bv h0 fun v1 e2 h0=>Fz ⟨[(1,.ptr 64 0),(20,.bool v1)],[(64,Ae a0)],[]⟩ (Fp (by subst e2; kernel_rfl)) (Dk h0 (fun c3 h0=>?_) (fun c3 h0=>?_)))))))))))))))))))))))))))))))))))
 ·obtain rfl:=sj h0
  exact Dq 4
 ·refine At 6 [(1,.ptr 64 0),(3,iV 0)] [(64,Ae a0)] (Bw (bb h0 fun r30 e31 h0=>Cw (R:=(fun S=>.inl ()=r30∧S=⟨[],[],[]⟩)) (Oq a0) (fun s S=>match s with | p12=>S=⟨[(1,.ptr 64 0),(3,iV p12)],[(64,Ae a0)],[]⟩) e31 _ (Fp (by kernel_rfl)) rfl 0 (fun _=>rfl) ?_ ?_))
  ·rintro S _ hfg ⟨rfl,rfl⟩
   refine Fz _ hfg ?_
   obtain rfl:=sj h0
   exact Dq 4
  ·rintro p12 o1 _ K1 rfl h1 hx1 hK1 hE1 hR1
   refine Bg 5 (Aj (Iw rfl (o_ (At 2 [(1,.ptr 64 0),(3,iV p12),(25,.bool (decide (p12<(a0.Ab.length:Int))))] [(64,Ae a0)] (Dk h1 (fun c22 h1=>?_) (fun c22 h1=>?_))))))
   ·refine Bg 8 (Aj (bb h1 fun y23 e24 h1=>bE rfl rfl e24 (o_ (Bg 2 (Aj (bb h1 fun r25 e26 h1=>Qg (H56 y23.at_ 0 127 r25 e26) (o_ (Bg 2 (Aj (st (Ei (u:=.ptr 64 1) rfl (fun hg=>(Bb ⟨tv,tv⟩ rfl tv)) (st (Ei (u:=Ah a0.Ab) rfl (fun hg=>(Bb ⟨(fun _=>hg),tv⟩ rfl (nl rfl))) (st (Ei (u:=iV p12) rfl (fun hg=>(Qh (v:=iV p12) rfl tv)) (bb h1 fun y27 e28 h1=>st (Ei (u:=.iptr (Ak y27)) rfl (fun hg=>(LY (e:=Ak) (y:=y27) rfl rfl (fun _=>hg) rfl rfl (fun _=>hg) (ip hg e28))) (st (Ei (u:=.iptr [Bd y27.data]) rfl (fun hg=>(Bb ⟨(fun _=>hg),tv⟩ rfl (nl rfl))) (st (Ei (u:=Bd y27.data) rfl (fun hg=>(Bb ⟨(fun _=>hg),tv⟩ rfl (nl rfl))) (st (Ei (u:=iV (y27.data.length:Int)) rfl (fun hg=>(Su (e:=Dh) (l0:=y27.data) rfl rfl (fun _=>hg))) (st (Ei (u:=.bool ((y27.data.length:Int) != 32)) rfl (fun hg=>(Bb ⟨(fun _=>hg),tv,tv⟩ rfl tv)) (st (Gt rfl rfl rfl tv (fun h=>eG h) rfl (o_ (At 1 [(1,.ptr 64 0),(3,iV p12),(45,.bool (bif (!r25) then true else ((y27.data.length:Int) != 32)))] [(64,Ae a0)] (Dk h1 (fun c29 h1=>?_) (fun c29 h1=>?_)))))))))))))))))))))))))))))))
    ·obtain rfl:=sj h1
     obtain rfl:=hx1 _ rfl
     obtain rfl:=sj h0
     exact mH 4 hR1
    ·refine Bg 7 ?_
     obtain rfl:=sj h1
     exact kn hK1 rfl rfl
   ·obtain rfl:=sj h1
    obtain rfl:=hx1 _ rfl
    refine Qj rfl ?_
    exact jn hE1 ⟨rfl,rfl⟩

/- loop.example/g00149/spec.l01Fits -/
def uE:=[k_ 4 (.bool false)]
def uF:=[m_ 5 0,B_ .geq 6 5 0,m_ 7 6,mT 7 8 1,pT 7 9 (.bin .leq (.t 8) (.c (iV 4096))),pa 10 7 9,m_ 11 10,mT 11 12 0,mT 11 13 1,pT 11 14 (.bin .sub (.c (iV 4096)) (.t 13)),pT 11 15 (.bin .leq (.t 12) (.t 14)),pa 16 11 15,m_ 4 16]
def KU:Dx:=⟨2,17,[.t 4],sr uE (rr uF)⟩
def GQ (D:Ar):Prop:=∀a0 a1 r,kP a0 a1=some r→D 291 ⟨[iV a0,iV a1],[]⟩ ⟨.bool r,[],[]⟩
theorem OD:GQ (FO C KU):=by
 intro a0 a1 r h0
 refine f0 (At 3 [(0,iV a0),(1,iV a1)] [] (JL 15 (bv h0 fun v1 e2 h0=>Fz ⟨[(4,.bool v1)],[],[]⟩ (Fp (by subst e2; kernel_rfl)) ?_)))
 obtain rfl:=sj h0
 exact Zf (Lp rfl rfl rfl rfl rfl tv)

/- loop.example/g00149/spec.l01Put -/
def AU:List Az:=[X_ 3 1,⟨some 4,.nilS 1,none⟩]
def AV:List Az:=[⟨some 6,.mkS 1 [.int .u8 0] 0 [],none⟩,m_ 7 0,⟨some 8,.app 1 1 (.t 6) (.t 7),none⟩,m_ 5 8]
def AW:=[m_ 9 5,n_ 10 9,f_ 11 3 0,l_ 12 11 1,B_ .add 13 12 1,B_ .mul 14 13 32,b_ .lss 15 10 14]
def AX:List Az:=[m_ 16 5,⟨some 17,.appz 1 1 [.int .u8 0] (.t 16) (.c (iV 32)),none⟩,m_ 5 17]
def AT:IR:=(.seq (sr AW (.ite (.t 15) .skip (.exit 0))) (.block 1 (.reg AX)))
def AY:=tk [m_ 18 5,f_ 19 3 0,l_ 20 19 1,B_ .mul 21 20 32,⟨some 22,.p (.slice (.t 18) (some (.t 21)) none 1),none⟩,f_ 23 3 1,l_ 24 23 1] (.alt [] ⟨some 25,.copy 1 (.t 22) (.t 24),none⟩ .fin .stop)
def AZ:=[m_ 26 5,m_ 4 26]
def LU:Dx:=⟨2,27,[.t 4],sr AU (sr AV (.seq (Pz 0 AT) (sd AY (rr AZ))))⟩
def HI (D:Ar):Prop:=∀a0 a1 r,DT a0 a1=some r→D 352 ⟨[Bd a0,.agg (Ak a1)],[]⟩ ⟨As 0 r,[],[]⟩
theorem PB:HI (FO C LU):=by
 intro a0 a1 r h0
 refine f0 (At 4 [(0,Bd a0),(3,.ptr 192 0)] [(192,Ak a1)] (Bg 3 (Aj (gg h0 fun c1 h0=>st (Mt (e:=Dh) (l0:=([]:List UInt8)) (l1:=a0) rfl rfl tv rfl (by decide) c1 (o_ (At 2 [(3,.ptr 192 0),(5,As 384 (([]:List UInt8)++a0))] [(192,Ak a1)] (Bi (Bw (bb h0 fun r20 e21 h0=>Cw (R:=(fun S=>∃p14:List UInt8,p14=r20∧S=⟨[(3,.ptr 192 0),(5,As 384 p14)],[(192,Ak a1)],[]⟩)) (Pa a1) (fun s S=>match s with | p7=>S=⟨[(3,.ptr 192 0),(5,As 384 p7)],[(192,Ak a1)],[]⟩) e21 _ (Fp (by kernel_rfl)) rfl 0 (fun _=>rfl) ?_ ?_))))))))))
 ·rintro S _ hfg ⟨p14,rfl,rfl⟩
  refine Fz _ hfg (Bi (bb h0 fun s22 e23 h0=>Bg 4 (Dt (An tv (c_ (Jl (e:=Dh) (y:=s22) rfl rfl tv ⟨tv,tv⟩ rfl rfl e23) (⟨tv,d_ (Bg 2 (Dt (Fu (copy_ (e:=Dh) (l1:=a1.data) rfl rfl tv rfl (d0 tv (Yk (Fz ⟨[(5,As 384 (ovl p14 ((wi (a1.at_*32)).toNat) (a1.data.take s22.length)))],[],[]⟩ (fg ⟨congrArg (fun z=>some ((.own 384 0 1 z:V))) Ik,tv⟩ tv) (Bg 4 (bv h0 fun v24 e25 h0=>Fz ⟨[(4,As 384 v24)],[],[]⟩ (Fp (by subst e25; kernel_rfl)) ?_)))))) Cp)))⟩))))))
  obtain rfl:=sj h0
  exact Zf (Lp rfl rfl rfl rfl rfl tv)
 ·rintro p7 o1 _ K1 rfl h1 hx1 hK1 hE1 hR1
  unfold Pa at h1
  refine Bg 3 (Aj (lP rfl (o_ (Bg 6 (bv h1 fun v15 e16 h1=>Fz ⟨[(3,.ptr 192 0),(5,As 384 p7),(15,.bool v15)],[(192,Ak a1)],[]⟩ (Fp (by subst e16; kernel_rfl)) (Dk h1 (fun c17 h1=>?_) (fun c17 h1=>?_)))))))
  ·refine Bg 4 (Aj (gg h1 fun c18 h1=>gg h1 fun c19 h1=>st (gN (e:=Dh) (l0:=p7) (0:UInt8) rfl rfl rfl (by decide) c18 c19 (st (Cd rfl tv (Rl (nW ?_)))))))
   obtain rfl:=sj h1
   exact kn hK1 rfl rfl
  ·obtain rfl:=sj h1
   obtain rfl:=hx1 _ rfl
   refine Qj rfl ?_
   exact jn hE1 ⟨_,rfl,rfl⟩

/- loop.example/g00149/spec.l01Read -/
def wX:List Az:=[X_ 1 0,⟨some 2,.nilS 1,none⟩]
def wY:List Az:=[⟨some 5,.mkS 1 [.int .u8 0] 0 [],none⟩,f_ 6 1 0,l_ 7 6 1,⟨some 8,.app 1 1 (.t 5) (.t 7),none⟩,m_ 3 8]
def wZ:=[i_ 4 0]
def xA:=[m_ 9 4,f_ 10 1 1,l_ 11 10 1,n_ 12 11,b_ .lss 13 9 12]
def xB:=[m_ 16 3,f_ 17 1 1,l_ 18 17 1,m_ 19 4,x_ 20 18 19 2,L_ 21 20 2,q_ 22 352 [.t 16,.t 21],m_ 3 22]
def xC:=[m_ 14 4,B_ .add 15 14 1,m_ 4 15]
def wW:IR:=(.seq (sr xA (.ite (.t 13) .skip (.exit 0))) (.seq (.block 1 (.reg xB)) (.reg xC)))
def xD:=[m_ 23 3,m_ 2 23]
def LD:Dx:=⟨1,24,[.t 2],sr wX (sr wY (.seq (sr wZ (Pz 0 wW)) (rr xD)))⟩
def oB (D:Ar):Prop:=∀a0 r,Uv a0=some r→D 303 ⟨[.agg (Ae a0)],[]⟩ ⟨As 0 r,[],[]⟩
theorem OM (H352:HI C):oB (FO C LD):=by
 intro a0 r h0
 refine f0 (At 4 [(1,.ptr 64 0)] [(64,Ae a0)] (Bg 4 (Aj (gg h0 fun c1 h0=>st (Mt (e:=Dh) (l0:=([]:List UInt8)) (l1:=a0.held) rfl rfl tv rfl (by decide) c1 (o_ (At 7 [(1,.ptr 64 0),(3,As 320 (([]:List UInt8)++a0.held)),(4,iV 0)] [(64,Ae a0)] (Bw (bb h0 fun r22 e23 h0=>Cw (R:=(fun S=>∃p16:List UInt8,p16=r22∧S=⟨[(3,As 320 p16)],[],[]⟩)) (Ih a0) (fun s S=>match s with | (p7,p8)=>S=⟨[(1,.ptr 64 0),(3,As 320 p7),(4,iV p8)],[(64,Ae a0)],[]⟩) e23 _ (Fp (by kernel_rfl)) rfl 0 (fun _=>rfl) ?_ ?_)))))))))
 ·rintro S _ hfg ⟨p16,rfl,rfl⟩
  refine Fz _ hfg ?_
  obtain rfl:=sj h0
  exact Dq 5
 ·rintro ⟨p7,p8⟩ o1 _ K1 rfl h1 hx1 hK1 hE1 hR1
  refine Bg 5 (Aj (Iw rfl (o_ (At 2 [(1,.ptr 64 0),(3,As 320 p7),(4,iV p8),(13,.bool (decide (p8<(a0.Ab.length:Int))))] [(64,Ae a0)] (Dk h1 (fun c17 h1=>?_) (fun c17 h1=>?_))))))
  ·refine Bg 8 (Aj (bb h1 fun y18 e19 h1=>bE rfl rfl e19 (st (c_ (v:=.agg (Ak y18)) (Bb ⟨tv,tv⟩ rfl (nl rfl)) (bb h1 fun r20 e21 h1=>Mv (H352 p7 y18 r20 e21) (af rfl) (o_ (At 3 [(1,.ptr 64 0),(3,As 1408 r20),(4,iV p8)] [(64,Ae a0)] (Bg 4 ?_))))))))
   obtain rfl:=sj h1
   exact hK1 _ rfl _ _ (Mw [] [(1408,320)] rfl (by kernel_rfl)) rfl
  ·obtain rfl:=sj h1
   obtain rfl:=hx1 _ rfl
   refine Qj rfl ?_
   exact jn hE1 ⟨_,rfl,rfl⟩

/- loop.example/g00149/spec.l01Write -/
def uI:=[X_ 3 0,a_ 6 [.own 385 0 1 [],.own 386 0 2 []]]
def uJ:=[L_ 10 3 2,q_ 11 303 [.t 10],m_ 7 11]
def uK:=[m_ 12 7,n_ 13 12,m_ 14 1,m_ 15 2,n_ 16 15,b_ .add 17 14 16,b_ .lss 18 13 17,m_ 19 18,mF 19 20 7,pF 19 21 (.len (.t 20)),pF 19 22 (.bin .rem (.t 21) (.c (iV 32))),pF 19 23 (.bin .neq (.t 22) (.c (iV 0))),po 24 19 23]
def uL:List Az:=[m_ 25 7,⟨some 26,.mkS 1 [.int .u8 0] 1 [(0,.c (.int .u8 0))],none⟩,⟨some 27,.app 1 1 (.t 25) (.t 26),none⟩,m_ 7 27]
def uG:IR:=(.seq (sr uK (.ite (.t 24) .skip (.exit 0))) (.block 1 (.reg uL)))
def uM:List Az:=[m_ 28 7,m_ 29 1,⟨some 30,.p (.slice (.t 28) (some (.t 29)) none 1),none⟩,m_ 31 2,⟨some 32,.copy 1 (.t 30) (.t 31),none⟩]
def Yg:DP:=.alt [l_ 34 33 1,f_ 33 3 0] ⟨some 38,.app 2 32 (.t 35) (.t 37),none⟩ (tk [⟨some 39,.p (.build [.own 2497 0 1 [],.own 2498 0 2 []] [(0,1,.t 34),(1,1,.t 38)]),none⟩] (.alt [] (s_ 8 39 2) .fin .stop)) .stop
def uN:=tk [f_ 33 3 0,l_ 34 33 1,f_ 36 3 1,l_ 37 36 1] (.alt [l_ 37 36 1,f_ 36 3 1,l_ 34 33 1,f_ 33 3 0] ⟨some 35,.mkS 2 [iV 0,.lst 1 []] 0 [],none⟩ (.alt [l_ 34 33 1,f_ 33 3 0] ⟨some 38,.app 2 32 (.t 35) (.t 37),none⟩ (tk [⟨some 39,.p (.build [.own 2497 0 1 [],.own 2498 0 2 []] [(0,1,.t 34),(1,1,.t 38)]),none⟩] (.alt [⟨some 39,.p (.build [.own 2497 0 1 [],.own 2498 0 2 []] [(0,1,.t 34),(1,1,.t 38)]),none⟩,l_ 34 33 1,f_ 33 3 0] (a_ 8 [.own 513 0 1 [],.own 514 0 2 []]) (.alt [] (s_ 8 39 2) .fin .stop) .stop)) (.alt [l_ 37 36 1,f_ 36 3 1,l_ 34 33 1,f_ 33 3 0] (a_ 8 [.own 513 0 1 [],.own 514 0 2 []]) Yg .stop)) (.alt [l_ 37 36 1,f_ 36 3 1,l_ 34 33 1,f_ 33 3 0] (a_ 8 [.own 513 0 1 [],.own 514 0 2 []]) (.alt [l_ 37 36 1,f_ 36 3 1,l_ 34 33 1,f_ 33 3 0] ⟨some 35,.mkS 2 [iV 0,.lst 1 []] 0 [],none⟩ Yg .stop) .stop))
def uO:=[m_ 40 2,n_ 41 40,B_ .eql 42 41 0]
def uP:=[L_ 43 8 2,s_ 6 43 2]
def uQ:=[m_ 44 1,B_ .quo 45 44 32,m_ 9 45]
def uR:=[m_ 46 9,B_ .mul 47 46 32,m_ 48 1,m_ 49 2,n_ 50 49,b_ .add 51 48 50,b_ .lss 52 47 51]
def iX:=tk [f_ 55 8 1,l_ 56 55 1,m_ 57 9,m_ 59 7,m_ 60 9,B_ .mul 61 60 32,m_ 62 9,B_ .add 63 62 1,B_ .mul 64 63 32,⟨some 65,.p (.slice (.t 59) (some (.t 61)) (some (.t 64)) 1),none⟩] (.alt [⟨some 65,.p (.slice (.t 59) (some (.t 61)) (some (.t 64)) 1),none⟩,B_ .mul 64 63 32,B_ .add 63 62 1,m_ 62 9,B_ .mul 61 60 32,m_ 60 9,m_ 59 7,m_ 57 9,l_ 56 55 1,f_ 55 8 1] ⟨some 58,.mkS 1 [.int .u8 0] 0 [],none⟩ (.alt [m_ 57 9,l_ 56 55 1,f_ 55 8 1] ⟨some 66,.app 1 1 (.t 58) (.t 65),none⟩ (tk [⟨some 67,.p (.build [iV 0,.own 4290 0 1 []] [(0,1,.t 57),(1,1,.t 66)]),none⟩] (.alt [l_ 56 55 1,f_ 55 8 1] ⟨some 68,.mkS 2 [iV 0,.lst 1 []] 1 [(0,.t 67)],none⟩ (.alt [] ⟨some 69,.app 2 32 (.t 56) (.t 68),none⟩ (tk [f_ 70 8 1] (.alt [] (s_ 70 69 1) .fin .stop)) .stop) .stop)) .stop) .stop)
def iY:=[m_ 53 9,B_ .add 54 53 1,m_ 9 54]
def uH:IR:=(.seq (sr uR (.ite (.t 52) .skip (.exit 2))) (.seq (.block 3 (.draw iX)) (.reg iY)))
def iZ:=[L_ 71 8 2,s_ 6 71 2]
def KV:Dx:=⟨3,72,[.cell 6 2 true],sr uI (sr uJ (.seq (Pz 0 uG) (sr uM (sd uN (.seq (sr uO (iz 42 (rr uP))) (.seq (sr uQ (Pz 2 uH)) (rr iZ)))))))⟩
def GR (D:Ar):Prop:=∀a0 a1 a2 r,kQ a0 a1 a2=some r→D 292 ⟨[.agg (Ae a0),iV a1,Bd a2],[]⟩ ⟨.agg (Ai r u_ (Cf 0)),[],[]⟩
abbrev Gn:=fun (r:List (Nat×List V))=>(384,[As 385 [],Ad 386 []])::r
abbrev Hx:=fun x0 x1 (r:List (Nat×V))=>(1,iV x0)::(2,Bd x1)::(6,.ptr 384 0)::r
theorem OE (H303:oB C):GR (FO C KV):=by
 intro a0 a1 a2 r h0
 refine f0 (At 4 (Hx a1 a2 [(3,.ptr 192 0)]) (Gn [(192,Ae a0)]) (Bi (Aj (st (c_ (v:=.agg (Ae a0)) (Bb ⟨tv,tv⟩ rfl (nl rfl)) (bb h0 fun r1 e2 h0=>Mv (H303 a0 r1 e2) (af rfl) (o_ (At 2 (Hx a1 a2 [(3,.ptr 192 0),(7,As 704 r1)]) (Gn [(192,Ae a0)]) (Bi (Bw (bb h0 fun r18 e19 h0=>Cw (R:=(fun S=>∃p13:List UInt8,p13=r18∧S=⟨Hx a1 a2 [(3,.ptr 192 0),(7,As 704 p13)],Gn [(192,Ae a0)],[]⟩)) (Ot a1 a2) (fun s S=>match s with | p7=>S=⟨Hx a1 a2 [(3,.ptr 192 0),(7,As 704 p7)],Gn [(192,Ae a0)],[]⟩) e19 _ (Fp (by kernel_rfl)) rfl 0 (fun _=>rfl) ?_ ?_)))))))))))
 ·rintro S _ hfg ⟨p13,rfl,rfl⟩
  refine Fz _ hfg (Bi (Aj (st (Cd rfl tv (st (Cd rfl tv (bb h0 fun s20 e21 h0=>st (c_ (Jl (e:=Dh) (y:=s20) rfl rfl tv ⟨tv,tv⟩ rfl rfl e21) (st (Cd rfl tv (st (copy_ (e:=Dh) (l1:=a2) rfl rfl tv rfl (Rl (Fz ⟨[(1,iV a1),(2,Bd a2),(3,.ptr 192 0),(6,.ptr 384 0),(7,As 704 (ovl p13 a1.toNat (a2.take s20.length)))],[(192,Ae a0),(384,[As 385 [],Ad 386 []])],[]⟩ (fg ⟨rfl,rfl,rfl,rfl,congrArg (fun z=>some ((.own 704 0 1 z:V))) Ik,tv⟩ ⟨rfl,rfl,tv⟩) (Bi (gg h0 fun c22 h0=>ME (fun S=>S=⟨Hx a1 a2 [(7,As 704 (ovl p13 a1.toNat (a2.take s20.length))),(8,.ptr 512 0)],Gn [(512,[Bd a0.held,Ad 2240 (([]:List Aa)++a0.Ab)])],[]⟩) ?_ (fun J23=>?_)))))))))))))))))
  ·rintro _ rfl
   refine Bi (Bi (Aj (st (Cd rfl tv (Iw rfl (o_ (At 2 (Hx a1 a2 [(7,As 704 (ovl p13 a1.toNat (a2.take s20.length))),(8,.ptr 512 0),(42,.bool ((a2.length:Int)==0))]) (Gn [(512,[Bd a0.held,Ad 2240 (([]:List Aa)++a0.Ab)])]) (Dk h0 (fun c24 h0=>?_) (fun c24 h0=>?_)))))))))
   ·obtain rfl:=sj h0
    exact Dq 5
   ·refine gC (mZ (Bi (Bi (Aj (st (Cd rfl tv (st (c_ (Bb ⟨tv,tv,tv⟩ rfl (by decide)) (o_ (At 2 (Hx a1 a2 [(7,As 704 (ovl p13 a1.toNat (a2.take s20.length))),(8,.ptr 512 0),(9,iV (wi ((a1).tdiv 32)))]) (Gn [(512,[Bd a0.held,Ad 2240 (([]:List Aa)++a0.Ab)])]) (Bw (bb h0 fun r53 e54 h0=>Cw (R:=(fun S=>∃p45:List Aa,p45=r53∧S=⟨[(6,.ptr 384 0),(8,.ptr 512 0)],Gn [(512,[Bd a0.held,Ad 2240 p45])],[]⟩)) (Ma a1 a2 p13 s20) (fun s S=>match s with | (p34,p35)=>S=⟨Hx a1 a2 [(7,As 704 (ovl p13 a1.toNat (a2.take s20.length))),(8,.ptr 512 0),(9,iV p34)],Gn [(512,[Bd a0.held,Ad 2240 p35])],[]⟩) e54 _ (Fp (by kernel_rfl)) rfl 2 (fun _=>rfl) ?_ ?_))))))))))))
    ·rintro S _ hfg ⟨p45,rfl,rfl⟩
     refine Fz _ hfg ?_
     obtain rfl:=sj h0
     exact Dq 5
    ·rintro ⟨p34,p35⟩ o1 _ K1 rfl h1 hx1 hK1 hE1 hR1
     unfold Ma at h1
     refine Bi (Bi (Aj (st (Cd rfl tv (st (c_ (Bb t3 rfl tv) (st (Cd rfl tv (st (Cd rfl tv (Iw rfl (st (c_ (Bb t3 rfl tv) (st (c_ (Bb t3 rfl tv) (Rl (bv h1 fun v46 e47 h1=>Fz ⟨Hx a1 a2 [(7,As 704 (ovl p13 a1.toNat (a2.take s20.length))),(8,.ptr 512 0),(9,iV p34),(52,.bool v46)],Gn [(512,[Bd a0.held,Ad 2240 p35])],[]⟩ (Fp (by subst e47; kernel_rfl)) (Dk h1 (fun c48 h1=>?_) (fun c48 h1=>?_)))))))))))))))))))
     ·refine cZ 4 (bb h1 fun s49 e50 h1=>gg h1 fun c51 h1=>gg h1 fun c52 h1=>Dt (An tv (c_ (Bb ⟨tv,tv⟩ rfl tv) (⟨tv,An tv (c_ (Bb ⟨tv,tv⟩ rfl (nl rfl)) (⟨tv,An tv (Cd rfl tv (⟨tv,An tv (Cd rfl tv (⟨tv,An tv (Cd rfl tv (⟨tv,An tv (c_ (Bb t3 rfl tv) (⟨tv,An tv (Cd rfl tv (⟨tv,An tv (c_ (Bb t3 rfl tv) (⟨tv,An tv (c_ (Bb t3 rfl tv) (⟨tv,An tv (c_ (Jl (e:=Dh) (y:=s49) rfl rfl tv ⟨tv,tv,tv⟩ rfl rfl e50) (⟨tv,Fu (Xi tv tv (d0 ⟨⟨.inl tv,Ee (Jl (e:=Dh) (y:=s49) rfl rfl tv ⟨tv,tv,tv⟩ rfl rfl e50) rfl⟩,⟨.inl tv,Ee (Bb t3 rfl tv) rfl⟩,⟨.inl tv,Ee (Bb t3 rfl tv) rfl⟩,⟨.inl tv,Ee (Qh (v:=iV p34) rfl tv) rfl⟩,⟨.inl tv,Ee (Bb t3 rfl tv) rfl⟩,⟨.inl tv,Ee (Qh (v:=iV p34) rfl tv) rfl⟩,⟨.inl tv,Ee (Qh (v:=As 704 (ovl p13 a1.toNat (a2.take s20.length))) rfl tv) rfl⟩,⟨.inl tv,Ee (Qh (v:=iV p34) rfl tv) rfl⟩,⟨.inl tv,Ee (Bb ⟨tv,tv⟩ rfl (nl rfl)) rfl⟩,⟨.inl tv,Ee (Bb ⟨tv,tv⟩ rfl tv) rfl⟩,tv⟩ (Fu (Mt (e:=Dh) (l0:=([]:List UInt8)) (l1:=s49) rfl rfl tv rfl (by decide) c51 (dw [(1,iV a1),(2,Bd a2),(6,.ptr 384 0),(7,As 704 (ovl p13 a1.toNat (a2.take s20.length))),(8,.ptr 512 0),(9,iV p34),(55,.ptr 512 1),(56,Ad 2240 p35),(57,iV p34),(66,As 3712 (([]:List UInt8)++s49))] [(384,[As 385 [],Ad 386 []]),(512,[Bd a0.held,Ad 2240 p35])] hB (An tv (c_ (v:=.agg [iV p34,As 3712 (([]:List UInt8)++s49)]) (Bb ⟨tv,tv,tv⟩ rfl ⟨⟨rfl,rfl,nl rfl⟩,⟨rfl,rfl,nl rfl⟩,tv⟩) (⟨tv,Fu (Xi ⟨tv,tv⟩ ⟨⟨nl rfl,rfl,rfl⟩,tv⟩ (d0 hB (Fu (Mt (e:=Ak) (l0:=p35) (l1:=([Aa.mk p34 (([]:List UInt8)++s49)]:List Aa)) rfl rfl tv rfl (by decide) c52 (d0 tv ?_)) Cp))) Cp⟩))))) Cp))) Cp⟩))⟩))⟩))⟩))⟩))⟩))⟩))⟩))⟩))⟩))))
      refine An tv (c_ (Bb ⟨tv,tv⟩ rfl tv) (⟨tv,Fu (Kg rfl rfl tv rfl rfl rfl (nl rfl) (d0 tv (d_ (At 2 (Hx a1 a2 [(7,As 704 (ovl p13 a1.toNat (a2.take s20.length))),(8,.ptr 512 0),(9,iV p34)]) (Gn [(512,[Bd a0.held,.own 2240 0 2 ((p35++([Aa.mk p34 (([]:List UInt8)++s49)]:List Aa)).map Ak)])]) (Aj (st (Cd rfl tv (st (c_ (Bb t3 rfl tv) (st (Cd rfl tv (Rl ?_)))))))))))) Cp⟩))
      obtain rfl:=sj h1
      exact kn hK1 rfl rfl
     ·obtain rfl:=sj h1
      obtain rfl:=hx1 _ rfl
      refine Qj rfl ?_
      exact jn hE1 ⟨_,rfl,rfl⟩
  ·refine An tv (c_ (Bb ⟨tv,tv⟩ rfl tv) ?_)
   refine ⟨tv,An tv (c_ (Bb ⟨tv,tv⟩ rfl (nl rfl)) (⟨tv,An tv (c_ (Bb ⟨tv,tv⟩ rfl tv) (⟨tv,An tv (c_ (Bb ⟨tv,tv⟩ rfl (nl rfl)) (⟨tv,Fu (Xi tv tv ?_) ?_⟩))⟩))⟩))⟩
   ·refine d0 hB ?_
    refine Fu (Mt (e:=Ak) (l0:=([]:List Aa)) (l1:=a0.Ab) rfl rfl tv rfl (by decide) c22 ?_) ?_
    ·refine d0 hB ?_
     refine An tv (c_ (v:=.agg [Bd a0.held,Ad 2240 (([]:List Aa)++a0.Ab)]) (Bb ⟨tv,tv,tv⟩ rfl ⟨⟨rfl,rfl,nl rfl⟩,⟨rfl,rfl,nl rfl⟩,tv⟩) (⟨tv,Fu (Io (d0 ⟨⟨.inl tv,Ee (Bb ⟨tv,tv,tv⟩ rfl ⟨⟨rfl,rfl,nl rfl⟩,⟨rfl,rfl,nl rfl⟩,tv⟩) rfl⟩,⟨.inl tv,Ee (Bb ⟨tv,tv⟩ rfl (nl rfl)) rfl⟩,⟨.inl tv,Ee (Bb ⟨tv,tv⟩ rfl tv) rfl⟩,tv⟩ (Fu (Kg rfl rfl tv rfl rfl rfl (nl rfl) (d0 tv (Yk ?_))) Cp))) Cp⟩))
     exact jn J23 rfl
    ·refine Fu (Io ?_) Cp
     refine d0 hB (Fu (Mt (e:=Ak) (l0:=([]:List Aa)) (l1:=a0.Ab) rfl rfl tv rfl (by decide) c22 (d0 hB (An tv (c_ (v:=.agg [Bd a0.held,Ad 2240 (([]:List Aa)++a0.Ab)]) (Bb ⟨tv,tv,tv⟩ rfl ⟨⟨rfl,rfl,nl rfl⟩,⟨rfl,rfl,nl rfl⟩,tv⟩) (⟨tv,Fu (Kg rfl rfl tv rfl rfl rfl (nl rfl) (d0 tv (Yk ?_))) Cp⟩))))) Cp)
     exact jn J23 rfl
   ·refine Fu (Io ?_) Cp
    refine d0 hB (Fu (Xi tv tv (d0 hB (Fu (Mt (e:=Ak) (l0:=([]:List Aa)) (l1:=a0.Ab) rfl rfl tv rfl (by decide) c22 (d0 hB (An tv (c_ (v:=.agg [Bd a0.held,Ad 2240 (([]:List Aa)++a0.Ab)]) (Bb ⟨tv,tv,tv⟩ rfl ⟨⟨rfl,rfl,nl rfl⟩,⟨rfl,rfl,nl rfl⟩,tv⟩) (⟨tv,Fu (Kg rfl rfl tv rfl rfl rfl (nl rfl) (d0 tv (Yk ?_))) Cp⟩))))) Cp))) Cp)
    exact jn J23 rfl
 ·rintro p7 o1 _ K1 rfl h1 hx1 hK1 hE1 hR1
  unfold Ot at h1
  refine Bi (Bi (Aj (st (Cd rfl tv (lP rfl (st (Cd rfl tv (st (Cd rfl tv (Iw rfl (st (c_ (Bb t3 rfl tv) (st (c_ (Bb t3 rfl tv) (st (Cd rfl tv (st (Ei (u:=As 704 p7) rfl (fun hg=>(Qh (v:=As 704 p7) rfl tv)) (st (Ei (u:=iV (p7.length:Int)) rfl (fun hg=>(MB (e:=Dh) (l0:=p7) rfl rfl (fun _=>hg))) (st (Ei (u:=iV (((p7.length:Int)).tmod 32)) rfl (fun hg=>(Bb ⟨(fun _=>hg),tv,tv⟩ rfl (by decide))) (st (Ei (u:=.bool ((((p7.length:Int)).tmod 32) != 0)) rfl (fun hg=>(Bb ⟨(fun _=>hg),tv,tv⟩ rfl tv)) (st (Gt rfl rfl rfl tv (fun h=>eG h) rfl (Rl (bv h1 fun v14 e15 h1=>Fz ⟨Hx a1 a2 [(3,.ptr 192 0),(7,As 704 p7),(24,.bool v14)],Gn [(192,Ae a0)],[]⟩ (Fp (by subst e15; kernel_rfl)) (Dk h1 (fun c16 h1=>?_) (fun c16 h1=>?_))))))))))))))))))))))))))))))
  ·refine gC (mZ (Bw (Aj (st (Cd rfl tv (st (Xi ⟨tv,tv⟩ ⟨⟨nl rfl,rfl,rfl⟩,tv⟩ (gg h1 fun c17 h1=>st (Mt (e:=Dh) (l0:=p7) (l1:=([(0:UInt8)]:List UInt8)) rfl rfl tv rfl (by decide) c17 (st (Cd rfl tv (Rl (nW ?_)))))))))))))
   obtain rfl:=sj h1
   exact kn hK1 rfl rfl
  ·obtain rfl:=sj h1
   obtain rfl:=hx1 _ rfl
   refine Qj rfl ?_
   exact jn hE1 ⟨_,rfl,rfl⟩

/- loop.example/g00149/spec.l02Crc -/
def BC:=[i_ 2 0]
def BD:=[i_ 3 4294967295]
def BE:=[i_ 4 0]
def BF:=[m_ 6 4,m_ 7 0,n_ 8 7,b_ .lss 9 6 8]
def BG:=[m_ 12 3,m_ 13 0,m_ 14 4,x_ 15 13 14 1,l_ 16 15 1,iQ 17 (.conv .i64 (.t 16)),b_ .xor 18 12 17,m_ 3 18]
def BH:=[i_ 5 0]
def BI:=[m_ 19 5,B_ .lss 20 19 8]
def BJ:=[m_ 23 3,B_ .rem 24 23 2,B_ .eql 25 24 1]
def BK:=[m_ 26 3,B_ .quo 27 26 2,B_ .xor 28 27 3988292384,m_ 3 28]
def BL:=[m_ 29 3,B_ .quo 30 29 2,m_ 3 30]
def jQ:=[m_ 21 5,B_ .add 22 21 1,m_ 5 22]
def BA:IR:=(.seq (sr BI (.ite (.t 20) .skip (.exit 2))) (.seq (.block 3 (sr BJ (.ite (.t 25) (.reg BK) (.reg BL)))) (.reg jQ)))
def jR:=[m_ 10 4,B_ .add 11 10 1,m_ 4 11]
def BB:IR:=(.seq (sr BF (.ite (.t 9) .skip (.exit 0))) (.seq (.block 1 (sr BG (sr BH (Pz 2 BA)))) (.reg jR)))
def jS:=[m_ 31 3,B_ .xor 32 31 4294967295,m_ 2 32]
def LV:Dx:=⟨1,33,[.t 2],sr BC (sr BD (.seq (sr BE (Pz 0 BB)) (rr jS)))⟩
def HJ (D:Ar):Prop:=∀a0 r,DU a0=some r→D 353 ⟨[Bd a0],[]⟩ ⟨iV r,[],[]⟩
theorem PC:HJ (FO C LV):=by
 intro a0 r h0
 refine f0 (At 12 [(0,Bd a0),(3,iV 4294967295),(4,iV 0)] [] (Bw (bb h0 fun r61 e62 h0=>Cw (R:=(fun S=>∃p37:Int,p37=r61∧S=⟨[(3,iV p37)],[],[]⟩)) (Mj a0) (fun s S=>match s with | (p17,p18)=>S=⟨[(0,Bd a0),(3,iV p17),(4,iV p18)],[],[]⟩) e62 _ (Fp (by kernel_rfl)) rfl 0 (fun _=>rfl) ?_ ?_)))
 ·rintro S _ hfg ⟨p37,rfl,rfl⟩
  refine Fz _ hfg ?_
  obtain rfl:=sj h0
  exact Dq 6
 ·rintro ⟨p17,p18⟩ o1 _ K1 rfl h1 hx1 hK1 hE1 hR1
  refine Bg 4 (Aj (Iw rfl (o_ (At 2 [(0,Bd a0),(3,iV p17),(4,iV p18),(9,.bool (decide (p18<(a0.length:Int))))] [] (Dk h1 (fun c38 h1=>?_) (fun c38 h1=>?_))))))
  ·refine Bg 8 (Aj (bb h1 fun y39 e40 h1=>bE rfl rfl e40 (o_ (At 9 [(0,Bd a0),(3,iV (Rt .i64 p17 (wi ((y39).toNat:Int)))),(4,iV p18),(5,iV 0)] [] (Bw (bb h1 fun r59 e60 h1=>Cw (R:=(fun S=>∃p53:Int,p53=r59∧S=⟨[(0,Bd a0),(3,iV p53),(4,iV p18)],[],[]⟩)) (Mk) (fun s S=>match s with | (p46,p47)=>S=⟨[(0,Bd a0),(3,iV p46),(4,iV p18),(5,iV p47)],[],[]⟩) e60 _ (Fp (by kernel_rfl)) rfl 2 (fun _=>rfl) ?_ ?_))))))
   ·rintro S _ hfg ⟨p53,rfl,rfl⟩
    refine nW (Fz _ hfg (Bg 4 ?_))
    obtain rfl:=sj h1
    exact kn hK1 rfl rfl
   ·rintro ⟨p46,p47⟩ o2 _ K2 rfl h2 hx2 hK2 hE2 hR2
    refine At 5 [(0,Bd a0),(3,iV p46),(4,iV p18),(5,iV p47),(20,.bool (decide (p47<8)))] [] (Dk h2 (fun c54 h2=>?_) (fun c54 h2=>?_))
    ·refine cZ 3 (gO (fun S=>∃p56:Int,S=⟨[(0,Bd a0),(3,iV p56),(4,iV p18),(5,iV p47)],[],[]⟩∧Se p47 p56=some o2) ?_ (fun J57=>?_))
     ·rintro _ ⟨p56,rfl,h2⟩
      refine Bg 5 ?_
      obtain rfl:=sj h2
      exact kn hK2 rfl rfl
     ·refine Bi ?_
      refine Aj (st (Cd rfl tv (st (c_ (Bb ⟨tv,tv,tv⟩ rfl (by decide)) (o_ (At 2 [(0,Bd a0),(3,iV p46),(4,iV p18),(5,iV p47),(25,.bool (((p46).tmod 2)==1))] [] (Dk h2 (fun c58 h2=>?_) (fun c58 h2=>?_))))))))
      ·refine Aj (st (Cd rfl tv (st (c_ (Bb ⟨tv,tv,tv⟩ rfl (by decide)) (o_ (Bg 4 ?_))))))
       exact jn J57 ⟨_,rfl,h2⟩
      ·refine Aj (st (Cd rfl tv (st (c_ (Bb ⟨tv,tv,tv⟩ rfl (by decide)) (st (Cd rfl tv (Rl (nW ?_))))))))
       exact jn J57 ⟨_,rfl,h2⟩
    ·obtain rfl:=sj h2
     obtain rfl:=hx2 _ rfl
     refine Qj rfl ?_
     exact jn hE2 ⟨_,rfl,rfl⟩
  ·obtain rfl:=sj h1
   obtain rfl:=hx1 _ rfl
   refine Qj rfl ?_
   exact jn hE1 ⟨_,rfl,rfl⟩

/- loop.example/g00149/spec.l02Frame -/
def xE:List Az:=[⟨some 2,.nilS 1,none⟩]
def xG:=[m_ 6 0,n_ 7 6,B_ .add 8 7 1,m_ 3 8]
def xH:List Az:=[m_ 9 3,B_ .quo 10 9 256,iQ 11 (.conv .u8 (.t 10)),m_ 12 3,B_ .rem 13 12 256,iQ 14 (.conv .u8 (.t 13)),⟨some 15,.mkS 1 [.int .u8 0] 2 [(0,.t 11),(1,.t 14)],none⟩,m_ 16 0,⟨some 17,.app 1 1 (.t 15) (.t 16),none⟩,m_ 4 17]
def xI:=[m_ 18 4,q_ 19 353 [.t 18],m_ 5 19]
def xJ:List Az:=[m_ 20 4,m_ 21 5,B_ .quo 22 21 16777216,iQ 23 (.conv .u8 (.t 22)),m_ 24 5,B_ .quo 25 24 65536,B_ .rem 26 25 256,iQ 27 (.conv .u8 (.t 26)),m_ 28 5,B_ .quo 29 28 256,B_ .rem 30 29 256,iQ 31 (.conv .u8 (.t 30)),m_ 32 5,B_ .rem 33 32 256,iQ 34 (.conv .u8 (.t 33)),⟨some 35,.mkS 1 [.int .u8 0] 4 [(0,.t 23),(1,.t 27),(2,.t 31),(3,.t 34)],none⟩,⟨some 36,.app 1 1 (.t 20) (.t 35),none⟩,m_ 2 36]
def LE:Dx:=⟨1,37,[.t 2],sr xE (sr xG (sr xH (sr xI (rr xJ))))⟩
def oC (D:Ar):Prop:=∀a0 r,eT a0=some r→D 304 ⟨[Bd a0],[]⟩ ⟨As 0 r,[],[]⟩
theorem ON (H353:HJ C):oC (FO C LE):=by
 intro a0 r h0
 refine f0 (At 3 [(0,Bd a0)] [] (Bi (Aj (st (Cd rfl tv (Iw rfl (o_ (At 3 [(0,Bd a0),(3,iV (wi ((a0.length:Int)+1)))] [] (Bi (Aj (st (Cd rfl tv (st (c_ (Bb ⟨tv,tv,tv⟩ rfl (by decide)) (st (c_ (CH (Bb ⟨tv,tv⟩ rfl tv)) (st (Cd rfl tv (st (c_ (Bb ⟨tv,tv,tv⟩ rfl (by decide)) (st (c_ (CH (Bb ⟨tv,tv⟩ rfl tv)) (o_ (Bg 2 (Aj (gg h0 fun c1 h0=>st (Mt (e:=Dh) (l0:=([b8 (wi (((wi ((a0.length:Int)+1))).tdiv 256)),b8 (((wi ((a0.length:Int)+1))).tmod 256)]:List UInt8)) (l1:=a0) rfl rfl tv rfl (by decide) c1 (st (Cd rfl tv (Rl (bv h0 fun v2 e3 h0=>Fz ⟨[(4,As 960 v2)],[],[]⟩ (Fp (by subst e3; kernel_rfl)) (Bi (Aj (st (Cd rfl tv (bb h0 fun r4 e5 h0=>Qg (H353 v2 r4 e5) (o_ (At 2 [(4,As 960 v2),(5,iV r4)] [] (Bg 3 (Aj (st (c_ (Bb ⟨tv,tv,tv⟩ rfl (by decide)) (st (c_ (CH (Bb ⟨tv,tv⟩ rfl tv)) (st (Cd rfl tv (st (c_ (Bb ⟨tv,tv,tv⟩ rfl (by decide)) (st (c_ (Bb ⟨tv,tv,tv⟩ rfl (by decide)) (st (c_ (CH (Bb ⟨tv,tv⟩ rfl tv)) (st (Cd rfl tv (st (c_ (Bb ⟨tv,tv,tv⟩ rfl (by decide)) (st (c_ (Bb ⟨tv,tv,tv⟩ rfl (by decide)) (st (c_ (CH (Bb ⟨tv,tv⟩ rfl tv)) (st (Cd rfl tv (st (c_ (Bb ⟨tv,tv,tv⟩ rfl (by decide)) (st (c_ (CH (Bb ⟨tv,tv⟩ rfl tv)) (st (Xi ⟨tv,tv,tv,tv,tv⟩ ⟨⟨nl rfl,rfl,rfl⟩,⟨nl rfl,rfl,rfl⟩,⟨nl rfl,rfl,rfl⟩,⟨nl rfl,rfl,rfl⟩,tv⟩ (gg h0 fun c6 h0=>st (Mt (e:=Dh) (l0:=v2) (l1:=([b8 (wi ((r4).tdiv 16777216)),b8 (((wi ((r4).tdiv 65536))).tmod 256),b8 (((wi ((r4).tdiv 256))).tmod 256),b8 ((r4).tmod 256)]:List UInt8)) rfl rfl tv rfl (by decide) c6 (st (Cd rfl tv (Rl (bv h0 fun v7 e8 h0=>Fz ⟨[(2,As 960 v7)],[],[]⟩ (Fp (by subst e8; kernel_rfl)) ?_))))))))))))))))))))))))))))))))))))))))))))))))))))))))))))))))))))))))))
 obtain rfl:=sj h0
 exact Zf (Lp rfl rfl rfl rfl rfl tv)

/- loop.example/g00149/spec.l02Next -/
def AJ:List Az:=[⟨some 4,.nilS 1,none⟩,k_ 5 (.bool false)]
def AK:=[m_ 10 1,B_ .add 11 10 2,m_ 12 0,n_ 13 12,b_ .gtr 14 11 13]
def AL:List Az:=[⟨some 15,.mkS 1 [.int .u8 0] 0 [],none⟩,m_ 4 15,k_ 5 (.bool false)]
def AM:=tk [m_ 16 0,m_ 17 1,x_ 18 16 17 1,l_ 19 18 1,iQ 20 (.conv .i64 (.t 19)),B_ .mul 21 20 256,m_ 22 0,m_ 23 1,B_ .add 24 23 1,x_ 25 22 24 1,l_ 26 25 1,iQ 27 (.conv .i64 (.t 26)),b_ .add 28 21 27,B_ .sub 29 28 1,m_ 6 29] .fin
def AN:=[m_ 30 6,B_ .lss 31 30 0,m_ 32 31,mF 32 33 6,pF 32 34 (.bin .gtr (.t 33) (.c (iV 2000))),po 35 32 34,m_ 36 35,mF 36 37 1,mF 36 38 6,pF 36 39 (.bin .add (.t 37) (.t 38)),pF 36 40 (.bin .add (.t 39) (.c (iV 6))),mF 36 41 0,pF 36 42 (.len (.t 41)),pF 36 43 (.bin .gtr (.t 40) (.t 42)),po 44 36 43]
def AO:List Az:=[⟨some 45,.mkS 1 [.int .u8 0] 0 [],none⟩,m_ 4 45,k_ 5 (.bool false)]
def AP:List Az:=[⟨some 46,.mkS 1 [.int .u8 0] 0 [],none⟩,m_ 47 0,m_ 48 1,B_ .add 49 48 2,m_ 50 1,B_ .add 51 50 2,m_ 52 6,b_ .add 53 51 52,⟨some 54,.p (.slice (.t 47) (some (.t 49)) (some (.t 53)) 1),none⟩,⟨some 55,.app 1 1 (.t 46) (.t 54),none⟩,m_ 7 55]
def AQ:=[m_ 56 7,q_ 57 304 [.t 56],m_ 8 57]
def AR:=[i_ 9 0]
def AS:=[m_ 58 9,B_ .lss 59 58 4]
def jM:=tk [m_ 62 0,m_ 63 1,B_ .add 64 63 2,m_ 65 6,b_ .add 66 64 65,m_ 67 9,b_ .add 68 66 67,x_ 69 62 68 1,l_ 70 69 1,m_ 71 8,m_ 72 6,⟨some 73,.p (.bin .add (.c (iV 2)) (.t 72)),none⟩,m_ 74 9,b_ .add 75 73 74,x_ 76 71 75 1,l_ 77 76 1,b_ .neq 78 70 77] .fin
def jN:List Az:=[⟨some 79,.mkS 1 [.int .u8 0] 0 [],none⟩,m_ 4 79,k_ 5 (.bool false)]
def jO:=[m_ 60 9,B_ .add 61 60 1,m_ 9 61]
def AI:IR:=(.seq (sr AS (.ite (.t 59) .skip (.exit 0))) (.seq (.block 1 (sd jM (iz 78 (rr jN)))) (.reg jO)))
def jP:=[m_ 80 7,m_ 4 80,k_ 5 (.bool true)]
def LT:Dx:=⟨2,81,[.t 4,.t 5],sr AJ (.seq (sr AK (iz 14 (rr AL))) (sd AM (.seq (sr AN (iz 44 (rr AO))) (sr AP (sr AQ (.seq (sr AR (Pz 0 AI)) (rr jP)))))))⟩
def HH (D:Ar):Prop:=∀a0 a1 r,DR a0 a1=some r→D 351 ⟨[Bd a0,iV a1],[]⟩ ⟨.tup [As 0 r.1,.bool r.2],[],[]⟩
theorem PA (H304:oC C):HH (FO C LT):=by
 intro a0 a1 r h0
 refine f0 (At 4 [(0,Bd a0),(1,iV a1)] [] (Bi (Bi (Aj (st (Cd rfl tv (st (c_ (Bb t3 rfl tv) (st (Cd rfl tv (Iw rfl (o_ (At 2 [(0,Bd a0),(1,iV a1),(14,.bool (decide ((wi (a1+2))>(a0.length:Int))))] [] (Dk h0 (fun c1 h0=>?_) (fun c1 h0=>?_)))))))))))))))
 ·obtain rfl:=sj h0
  exact Dq 6
 ·refine cZ 3 (bb h0 fun y2 e3 h0=>bb h0 fun y4 e5 h0=>Dt (An tv (Cd rfl tv (⟨tv,An tv (Cd rfl tv (⟨tv,d_ (JF rfl rfl rfl e3 (Dt (An tv (c_ (Bb ⟨tv,tv⟩ rfl (nl rfl)) (⟨tv,An tv (c_ (Bb ⟨tv,tv⟩ rfl tv) (⟨tv,An tv (c_ (Bb t3 rfl tv) (⟨tv,An tv (Cd rfl tv (⟨tv,An tv (Cd rfl tv (⟨tv,An tv (c_ (Bb t3 rfl tv) (⟨tv,d_ (JF rfl rfl rfl e5 (Dt (An tv (c_ (Bb ⟨tv,tv⟩ rfl (nl rfl)) (⟨tv,An tv (c_ (Bb ⟨tv,tv⟩ rfl tv) (⟨tv,An tv (c_ (Bb t3 rfl tv) (⟨tv,An tv (c_ (Bb t3 rfl tv) (⟨tv,An tv (Cd rfl tv (⟨tv,?_⟩))⟩))⟩))⟩))⟩)))))⟩))⟩))⟩))⟩))⟩))⟩)))))⟩))⟩))))
  refine Yk (bv h0 fun v6 e7 h0=>Fz ⟨[(0,Bd a0),(1,iV a1),(6,iV v6)],[],[]⟩ (Fp (by subst e7; kernel_rfl)) (Bi (Bi (Aj (st (Cd rfl tv (st (c_ (Bb t3 rfl tv) (st (Cd rfl tv (st (Ei (u:=iV v6) rfl (fun hg=>(Qh (v:=iV v6) rfl tv)) (st (Ei (u:=.bool (decide (v6>2000))) rfl (fun hg=>(Bb ⟨(fun _=>hg),tv,tv⟩ rfl tv)) (st (Gt rfl rfl rfl tv (fun h=>eG h) rfl (st (Cd rfl tv (st (Ei (u:=iV a1) rfl (fun hg=>(Qh (v:=iV a1) rfl tv)) (st (Ei (u:=iV v6) rfl (fun hg=>(Qh (v:=iV v6) rfl tv)) (st (Ei (u:=iV (wi (a1+v6))) rfl (fun hg=>(Bb ⟨(fun _=>hg),(fun _=>hg),tv⟩ rfl tv)) (st (Ei (u:=iV (wi ((wi (a1+v6))+6))) rfl (fun hg=>(Bb ⟨(fun _=>hg),tv,tv⟩ rfl tv)) (st (Ei (u:=Bd a0) rfl (fun hg=>(Qh (v:=Bd a0) rfl tv)) (st (Ei (u:=iV (a0.length:Int)) rfl (fun hg=>(Su (e:=Dh) (l0:=a0) rfl rfl (fun _=>hg))) (st (Ei (u:=.bool (decide ((wi ((wi (a1+v6))+6))>(a0.length:Int)))) rfl (fun hg=>(Bb ⟨(fun _=>hg),(fun _=>hg),tv⟩ rfl tv)) (st (Gt rfl rfl rfl tv (fun h=>eG h) rfl (Rl (bv h0 fun v8 e9 h0=>Fz ⟨[(0,Bd a0),(1,iV a1),(6,iV v6),(44,.bool v8)],[],[]⟩ (Fp (by subst e9; kernel_rfl)) (Dk h0 (fun c10 h0=>?_) (fun c10 h0=>?_))))))))))))))))))))))))))))))))))))))
  ·obtain rfl:=sj h0
   exact Dq 6
  ·refine gC (mZ (Bi (Aj (st (Xi tv tv (st (Cd rfl tv (st (Cd rfl tv (st (c_ (Bb t3 rfl tv) (st (Cd rfl tv (st (c_ (Bb t3 rfl tv) (st (Cd rfl tv (st (c_ (Bb t3 rfl tv) (bb h0 fun s11 e12 h0=>st (c_ (Lv (e:=Dh) (y:=s11) rfl rfl tv ⟨tv,tv,tv⟩ rfl rfl e12) (gg h0 fun c13 h0=>st (Mt (e:=Dh) (l0:=([]:List UInt8)) (l1:=s11) rfl rfl tv rfl (by decide) c13 (o_ (At 2 [(0,Bd a0),(1,iV a1),(6,iV v6),(7,As 2944 (([]:List UInt8)++s11))] [] (Bi (Aj (st (Cd rfl tv (bb h0 fun r14 e15 h0=>Mv (H304 (([]:List UInt8)++s11) r14 e15) (af rfl) (o_ (At 7 [(0,Bd a0),(1,iV a1),(6,iV v6),(7,As 2944 (([]:List UInt8)++s11)),(8,As 3648 r14),(9,iV 0)] [] (Bw (bb h0 fun r42 e43 h0=>Cw (R:=(fun S=>.inl ()=r42∧S=⟨[(7,As 2944 (([]:List UInt8)++s11))],[],[]⟩)) (Ii a0 a1 v6 r14) (fun s S=>match s with | p24=>S=⟨[(0,Bd a0),(1,iV a1),(6,iV v6),(7,As 2944 (([]:List UInt8)++s11)),(8,As 3648 r14),(9,iV p24)],[],[]⟩) e43 _ (Fp (by kernel_rfl)) rfl 0 (fun _=>rfl) ?_ ?_))))))))))))))))))))))))))))))))))
   ·rintro S _ hfg ⟨rfl,rfl⟩
    refine Fz _ hfg ?_
    obtain rfl:=sj h0
    exact Dq 6
   ·rintro p24 o1 _ K1 rfl h1 hx1 hK1 hE1 hR1
    refine At 5 [(0,Bd a0),(1,iV a1),(6,iV v6),(7,As 2944 (([]:List UInt8)++s11)),(8,As 3648 r14),(9,iV p24),(59,.bool (decide (p24<4)))] [] (Dk h1 (fun c34 h1=>?_) (fun c34 h1=>?_))
    ·refine cZ 5 (bb h1 fun y35 e36 h1=>bb h1 fun y37 e38 h1=>bb h1 fun y39 e40 h1=>Dt (An tv (Cd rfl tv (⟨tv,An tv (Cd rfl tv (⟨tv,An tv (c_ (Bb t3 rfl tv) (⟨tv,An tv (Cd rfl tv (⟨tv,An tv (c_ (Bb t3 rfl tv) (⟨tv,An tv (Cd rfl tv (⟨tv,An tv (c_ (Bb t3 rfl tv) (⟨tv,d_ (JF rfl rfl rfl e36 (Dt (An tv (c_ (Bb ⟨tv,tv⟩ rfl (nl rfl)) (⟨tv,An tv (Cd rfl tv (⟨tv,An tv (Cd rfl tv (⟨tv,An tv (c_ (Bb t3 rfl tv) (⟨tv,An tv (Cd rfl tv (⟨tv,An tv (c_ (Bb t3 rfl tv) (⟨tv,An tv (c_ (QL rfl rfl e38) (⟨tv,?_⟩))⟩))⟩))⟩))⟩))⟩))⟩)))))⟩))⟩))⟩))⟩))⟩))⟩))⟩))))
     refine HY (c_ (PP rfl rfl e40) (⟨⟨Ee (PP rfl rfl e40) rfl,tv⟩,An tv (c_ (Bb t3 rfl tv) (⟨⟨Ee (PP rfl rfl e40) rfl,tv⟩,Yk (Fz ⟨[(0,Bd a0),(1,iV a1),(6,iV v6),(7,As 2944 (([]:List UInt8)++s11)),(8,As 3648 r14),(9,iV p24),(78,.bool (((y35).toNat:Int) != ((y39).toNat:Int)))],[],[]⟩ (Fp (by kernel_rfl)) (Dk h1 (fun c41 h1=>?_) (fun c41 h1=>?_)))⟩))⟩))
     ·obtain rfl:=sj h1
      obtain rfl:=hx1 _ rfl
      obtain rfl:=sj h0
      exact mH 6 hR1
     ·refine gC (nW (mZ (Aj (st (Cd rfl tv (st (c_ (Bb t3 rfl tv) (st (Cd rfl tv (Rl ?_))))))))))
      obtain rfl:=sj h1
      exact kn hK1 rfl rfl
    ·obtain rfl:=sj h1
     obtain rfl:=hx1 _ rfl
     refine Qj rfl ?_
     exact jn hE1 ⟨rfl,rfl⟩

/- loop.example/g00149/spec.l02Scan -/
def wO:List Az:=[⟨some 2,.nilS 1,none⟩,i_ 3 0]
def wP:List Az:=[⟨some 8,.mkS 1 [.lst 1 []] 0 [],none⟩,m_ 4 8]
def wQ:=[i_ 5 0]
def wR:=[m_ 10 0,m_ 11 5,q_ 12 351 [.t 10,.t 11],m_ 9 12,e_ 13 9 0,e_ 14 9 1,m_ 6 13,m_ 7 14]
def wS:=[m_ 15 7,N_ 16 15]
def wT:=[m_ 17 4,m_ 18 5,m_ 2 17,m_ 3 18]
def wU:List Az:=[m_ 19 4,m_ 20 6,⟨some 21,.mkS 1 [.lst 1 []] 1 [(0,.t 20)],none⟩,⟨some 22,.app 1 24 (.t 19) (.t 21),none⟩,m_ 4 22]
def wV:=[m_ 23 5,m_ 24 6,n_ 25 24,B_ .add 26 25 6,b_ .add 27 23 26,m_ 5 27]
def wN:IR:=(.block 1 (sr wR (.seq (sr wS (iz 16 (rr wT))) (sr wU (.reg wV)))))
def LC:Dx:=⟨1,28,[.t 2,.t 3],sr wO (sr wP (sr wQ (Pz 0 wN)))⟩
def GW (D:Ar):Prop:=∀a0 r,kS a0=some r→D 302 ⟨[Bd a0],[]⟩ ⟨.tup [.own 0 0 1 (r.1.map (eL 1 Dh)),iV r.2],[],[]⟩
theorem OK (H351:HH C):GW (FO C LC):=by
 intro a0 r h0
 refine f0 (At 13 [(0,Bd a0),(4,.own 512 0 1 (([]:List (List UInt8)).map (eL 1 Dh))),(5,iV 0)] [] (Bw (bb h0 fun r17 e18 h0=>Cw (R:=(fun _=>False)) (Ow a0) (fun s S=>match s with | (p5,p6)=>S=⟨[(0,Bd a0),(4,.own 512 0 1 (p5.map (eL 1 Dh))),(5,iV p6)],[],[]⟩) e18 _ (Fp (by kernel_rfl)) rfl 0 (fun h=>h.elim fun _ h=>h.elim) ?_ ?_)))
 ·exact fun _ _ _ h=>h.elim
 ·rintro ⟨p5,p6⟩ o1 _ K1 rfl h1 hx1 hK1 hE1 hR1
  refine Bg 4 (Aj (bb h1 fun r13 e14 h1=>Mv (H351 a0 p6 r13 e14) (af (Fh rfl rfl)) (o_ (At 12 [(0,Bd a0),(4,.own 512 0 1 (p5.map (eL 1 Dh))),(5,iV p6),(6,As 768 r13.1),(16,.bool (!r13.2))] [] (Dk h1 (fun c15 h1=>?_) (fun c15 h1=>?_))))))
  ·obtain rfl:=sj h1
   obtain rfl:=hx1 _ rfl
   obtain rfl:=sj h0
   exact mH 7 hR1
  ·refine Bg 6 (Aj (gg h1 fun c16 h1=>st (Mt (e:=(eL 1 Dh)) (l0:=p5) (l1:=([r13.1]:List (List UInt8))) rfl rfl tv rfl (by decide) c16 (o_ (At 2 [(0,Bd a0),(4,.own 512 0 1 ((p5++([r13.1]:List (List UInt8))).map (eL 1 Dh))),(5,iV p6),(6,Bd r13.1)] [] (Bg 2 (Aj (Iw rfl (o_ (Bg 5 ?_))))))))))
   obtain rfl:=sj h1
   exact kn hK1 rfl rfl

/- loop.example/g00149/spec.AppendLog -/
def rF:=[X_ 2 0,a_ 4 [.own 257 0 1 [],.own 258 0 2 []],i_ 5 0]
def rG:=[m_ 9 1,n_ 10 9,B_ .gtr 11 10 65536]
def rH:=[iQ 12 (.build [.own 769 0 1 [],.own 770 0 2 []] []),s_ 4 12 2,i_ 5 2]
def rI:=[L_ 13 2 2,q_ 14 290 [.t 13],N_ 15 14]
def rJ:=[iQ 16 (.build [.own 1025 0 1 [],.own 1026 0 2 []] []),s_ 4 16 2,i_ 5 1]
def rK:=[m_ 17 1,n_ 18 17,B_ .gtr 19 18 2000]
def rL:=[iQ 20 (.build [.own 1281 0 1 [],.own 1282 0 2 []] []),s_ 4 20 2,i_ 5 4]
def rM:=[L_ 22 2 2,q_ 23 303 [.t 22],q_ 24 302 [.t 23],m_ 21 24,e_ 25 21 0,e_ 26 21 1,m_ 6 25,m_ 7 26]
def rN:=[m_ 27 1,q_ 28 304 [.t 27],m_ 8 28]
def rO:=[m_ 29 7,m_ 30 8,n_ 31 30,q_ 32 291 [.t 29,.t 31],N_ 33 32]
def iT:=[iQ 34 (.build [.own 2177 0 1 [],.own 2178 0 2 []] []),s_ 4 34 2,i_ 5 9]
def iU:List Az:=[L_ 35 2 2,m_ 36 7,m_ 37 8,q_ 38 292 [.t 35,.t 36,.t 37],q_ 39 303 [.t 38],⟨some 40,.p (.build [.own 2561 0 1 [],.own 2562 0 2 []] [(0,1,.t 39)]),none⟩,s_ 4 40 2,i_ 5 0]
def KH:Dx:=⟨2,41,[.cell 4 2 true,.t 5],sr rF (.seq (sr rG (iz 11 (rr rH))) (.seq (sr rI (iz 15 (rr rJ))) (.seq (sr rK (iz 19 (rr rL))) (sr rM (sr rN (.seq (sr rO (iz 33 (rr iT))) (rr iU)))))))⟩
def GF (D:Ar):Prop:=∀a0 a1 r,CR a0 a1=some r→D 240 ⟨[.agg (Ae a0),Bd a1],[]⟩ ⟨.tup [.agg (Ai r.1 (Cf 0) (Cf 1)),iV r.2],[],[]⟩
abbrev Ny:=fun x0 (r:List (Nat×List V))=>(128,Ae x0)::(256,[As 257 [],Ad 258 []])::r
abbrev Nz:=fun (r:List (Nat×V))=>(2,.ptr 128 0)::(4,.ptr 256 0)::r
theorem NP (H290:GP C) (H291:GQ C) (H292:GR C) (H302:GW C) (H303:oB C) (H304:oC C):GF (FO C KH):=by
 intro a0 a1 r h0
 refine f0 (At 5 (Nz [(1,Bd a1)]) (Ny a0 []) (Bg 3 (Aj (Iw rfl (o_ (At 2 (Nz [(1,Bd a1),(11,.bool (decide ((a1.length:Int)>65536)))]) (Ny a0 []) (Dk h0 (fun c1 h0=>?_) (fun c1 h0=>?_))))))))
 ·obtain rfl:=sj h0
  exact Dq 6
 ·refine Bg 5 (Aj (bb h0 fun r2 e3 h0=>Qg (H290 a0 r2 e3) (o_ (At 2 (Nz [(1,Bd a1),(15,.bool (!r2))]) (Ny a0 []) (Dk h0 (fun c4 h0=>?_) (fun c4 h0=>?_))))))
  ·obtain rfl:=sj h0
   exact Dq 6
  ·refine Bg 5 (Aj (Iw rfl (o_ (At 2 (Nz [(1,Bd a1),(19,.bool (decide ((a1.length:Int)>2000)))]) (Ny a0 []) (Dk h0 (fun c5 h0=>?_) (fun c5 h0=>?_))))))
   ·obtain rfl:=sj h0
    exact Dq 6
   ·refine Bg 4 (Aj (bb h0 fun r6 e7 h0=>Mv (H303 a0 r6 e7) (af rfl) (bb h0 fun r8 e9 h0=>st (Jh (r:=.tup [.own 0 0 1 (r8.1.map (eL 1 Dh)),iV r8.2]) true (H302 r6 r8 e9) ⟨tv,tv⟩ rfl rfl (fun h=>nomatch h) (o_ (At 6 (Nz [(1,Bd a1),(7,iV r8.2)]) (Ny a0 []) (Bi (Aj (st (Cd rfl tv (bb h0 fun r10 e11 h0=>Mv (H304 a1 r10 e11) (af rfl) (o_ (At 2 (Nz [(7,iV r8.2),(8,As 1792 r10)]) (Ny a0 []) (Bg 4 (Aj (lP rfl (bb h0 fun r12 e13 h0=>Qg (H291 r8.2 (r10.length:Int) r12 e13) (o_ (At 2 (Nz [(7,iV r8.2),(8,As 1792 r10),(33,.bool (!r12))]) (Ny a0 []) (Dk h0 (fun c14 h0=>?_) (fun c14 h0=>?_)))))))))))))))))))))
    ·obtain rfl:=sj h0
     exact Dq 6
    ·refine Bg 6 (Aj (bb h0 fun r15 e16 h0=>st (Jh (r:=.agg (Ai r15 u_ (Cf 0))) true (H292 a0 r8.2 r10 r15 e16) ⟨tv,tv,tv,tv⟩ rfl rfl (fun h=>nomatch h) (bb h0 fun r17 e18 h0=>Mv (H303 r15 r17 e18) (af rfl) (st (c_ (v:=.agg [As 2496 r17,Ad 2562 []]) (Bb ⟨tv,tv⟩ rfl ⟨⟨rfl,rfl,nl rfl⟩,tv⟩) (o_ ?_)))))))
     obtain rfl:=sj h0
     exact Dq 4
end Go.Ev
