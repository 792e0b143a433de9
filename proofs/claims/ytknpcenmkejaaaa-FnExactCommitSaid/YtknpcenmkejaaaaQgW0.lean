/- The walks of functions: the code comes to the answers that QgD tells. Written by a program of ours. -/
import Derived.Test.YtknpcenmkejaaaaQgD
set_option linter.all false
set_option maxHeartbeats 4000000
set_option linter.unusedVariables false
set_option maxRecDepth 100000
namespace Go.Ev
variable {C:Az}
theorem sj {α:Type} {a b:α} (h:some a=some b):a=b:=Option.some.inj h
abbrev wi:Int→Int:=IntKind.i64.wrap
theorem tv:True:=True.intro
abbrev iQ (n:Nat) (o:PU):Bg:=⟨some n,.p o,none⟩
abbrev iV (n:Int):V:=.int .i64 n
theorem nl {a b:Nat} (h:Nat.ble a b=true):a≤b:=Nat.le_of_ble_eq_true h
theorem t3:True∧True∧True:=⟨trivial,trivial,trivial⟩
abbrev m_ (d s:Nat):Bg:=⟨some d,.p (.mv (.t s)),none⟩
abbrev k_ (d:Nat) (v:V):Bg:=⟨some d,.p (.mv (.c v)),none⟩
abbrev i_ (d:Nat) (n:Int):Bg:=⟨some d,.p (.mv (.c (.int .i64 n))),none⟩
abbrev f_ (d x o:Nat):Bg:=⟨some d,.p (.fieldA (.t x) o),none⟩
abbrev l_ (d x n:Nat):Bg:=⟨some d,.p (.load (.t x) n false),none⟩
abbrev L_ (d x n:Nat):Bg:=⟨some d,.p (.load (.t x) n true),none⟩
abbrev x_ (d x y n:Nat):Bg:=⟨some d,.p (.idxA (.t x) (.t y) n),none⟩
abbrev e_ (d x n:Nat):Bg:=⟨some d,.p (.ext (.t x) n),none⟩
abbrev b_ (o:BinOp) (d x y:Nat):Bg:=⟨some d,.p (.bin o (.t x) (.t y)),none⟩
abbrev B_ (o:BinOp) (d x:Nat) (n:Int):Bg:=⟨some d,.p (.bin o (.t x) (.c (.int .i64 n))),none⟩
abbrev n_ (d x:Nat):Bg:=⟨some d,.p (.len (.t x)),none⟩
abbrev N_ (d x:Nat):Bg:=⟨some d,.p (.un .not (.t x)),none⟩
abbrev s_ (x y n:Nat):Bg:=⟨none,.store (.t x) (.t y) n,none⟩
abbrev a_ (d:Nat) (z:List V):Bg:=⟨some d,.alloc z,none⟩
abbrev X_ (d x:Nat):Bg:=⟨some d,.box (.t x),none⟩
abbrev q_ (d f:Nat) (l:List Bj):Bg:=⟨some d,.call f l,none⟩
abbrev pk (d:Nat) (a b c:Bj):Bg:=⟨some d,.pick a b c,none⟩
abbrev pT (g d:Nat) (o:PU):Bg:=⟨some d,.p o,some (g,true)⟩
abbrev pF (g d:Nat) (o:PU):Bg:=⟨some d,.p o,some (g,false)⟩
abbrev zV (a b c:Nat):List V:=[.int .i64 0,.int .i64 0,.own a 0 4 [],.own b 0 2 [],.own c 0 1 [],.bool false]
abbrev zT (a:Nat):List V:=[.int .i64 0,.int .i64 0,.own a 0 4 []]
abbrev mT (g d s:Nat):Bg:=⟨some d,.p (.mv (.t s)),some (g,true)⟩
abbrev mF (g d s:Nat):Bg:=⟨some d,.p (.mv (.t s)),some (g,false)⟩
abbrev lT (g d x n:Nat) (a:Bool):Bg:=⟨some d,.p (.load (.t x) n a),some (g,true)⟩
abbrev lF (g d x n:Nat) (a:Bool):Bg:=⟨some d,.p (.load (.t x) n a),some (g,false)⟩
abbrev fT (g d x n:Nat):Bg:=⟨some d,.p (.fieldA (.t x) n),some (g,true)⟩
abbrev fF (g d x n:Nat):Bg:=⟨some d,.p (.fieldA (.t x) n),some (g,false)⟩
abbrev xT (g d x y n:Nat):Bg:=⟨some d,.p (.idxA (.t x) (.t y) n),some (g,true)⟩
abbrev xF (g d x y n:Nat):Bg:=⟨some d,.p (.idxA (.t x) (.t y) n),some (g,false)⟩
abbrev pa (d a b:Nat):Bg:=⟨some d,.pick (.t a) (.t b) (.c (.bool false)),none⟩
abbrev po (d a b:Nat):Bg:=⟨some d,.pick (.t a) (.c (.bool true)) (.t b),none⟩
abbrev sr (l:List Bg) (b:IR):IR:=.seq (.reg l) b
abbrev sd (p:DP) (b:IR):IR:=.seq (.draw p) b
abbrev rr (l:List Bg):IR:=.seq (.reg l) .ret
abbrev iz (n:Nat) (a:IR):IR:=.ite (.t n) a .skip
abbrev Jt (n:Nat) (a:IR):IR:=.block n (.loop a)
def tk:List Bg→DP→DP
  | [],p=>p
  | i::l,p=>.take i (tk l p)
abbrev FO (C:Az) (c:Dl):Az:=fun _=>kG C c
theorem f0 {C:Az} {fn:Dl} {args:List V} {bx:List (List V)} {t:Ep} (h:WL C [.c fn.body] (FQ fn.res bx.length t) .normal ⟨Pb args 0,Pc bx Bd,[]⟩) (h0:Nat.ble args.length fn.nt=true:=by kernel_rfl):kG C fn ⟨args,bx⟩ t:=fn_ (Nat.le_of_ble_eq_true h0) h
abbrev Bk (t k:Nat) (l:List (List V)):V:=.own t 0 k l
abbrev u_ (k:Nat) (l:List (List V)):V:=.lst k l
abbrev Aa (l:List Ab):V:=.lst 3 (l.map Af)
abbrev Cn (l:List Au):V:=.lst 2 (l.map Ay)
abbrev Av (l:List Ae):V:=.lst 2 (l.map Ax)
abbrev Bl (l:List UInt8):V:=.lst 1 (l.map By)
abbrev Am (t:Nat) (l:List Ab):V:=.own t 0 3 (l.map Af)
abbrev Al (t:Nat) (l:List Au):V:=.own t 0 2 (l.map Ay)
abbrev Ad (t:Nat) (l:List Ae):V:=.own t 0 2 (l.map Ax)
abbrev Ba (t:Nat) (l:List UInt8):V:=.own t 0 1 (l.map By)
abbrev tC (x:Ae) (w1:Nat→List (List V)→V):List V:=[iV x.at_,w1 1 (x.data.map By)]
abbrev Ak (x:Ap) (w0:Nat→List (List V)→V) (w1:Nat→List (List V)→V):List V:=[w0 1 (x.held.map By),w1 2 (x.Aj.map Ax)]
abbrev Bf (x0:List UInt8) (x1:List UInt8) (x2:Bool):List V:=[.str x0,.str x1,.bool x2]

/- loop.example/g00149/laws.szByteS -/
def AS:=[i_ 4 0]
def AT:=[m_ 5 1,m_ 6 0,n_ 7 6,b_ .sub 8 5 7,m_ 1 8]
def AU:=[m_ 9 1,B_ .lss 10 9 0]
def AV:=[i_ 4 (-1)]
def AW:=[m_ 11 1,m_ 4 11]
def c276:Dl:=⟨2,12,[.t 4],sr AS (sr AT (.seq (sr AU (iz 10 (rr AV))) (rr AW)))⟩
def vZ (D:Az):Prop:=∀a0 a1 r,lG a0 a1=some r→D 276 ⟨[Bl a0,iV a1],[]⟩ ⟨iV r,[],[]⟩
theorem F276:vZ (FO C c276):=by
 intro a0 a1 r h0
 refine f0 (Bw 3 [(0,Bl a0),(1,iV a1)] [] (Ch 3 (Ac (Lp rfl (o_ (Bw 9 [(1,iV (wi (a1-(a0.length:Int)))),(10,.bool (decide ((wi (a1-(a0.length:Int)))<0)))] [] (Gi h0 (fun c1 h0=>?_) (fun c1 h0=>?_))))))))
 ·obtain rfl:=sj h0
  exact Gs 4
 ·obtain rfl:=sj h0
  exact Gs 7

/- loop.example/g00149/laws.szSector -/
def HP:=[X_ 2 0,i_ 4 0]
def HQ:=[f_ 5 2 1,l_ 6 5 1,m_ 7 1,q_ 8 276 [.t 6,.t 7],m_ 1 8]
def HR:=[m_ 9 1,B_ .lss 10 9 0]
def HS:=[i_ 4 (-1)]
def HT:=[m_ 11 1,m_ 4 11]
def c345:Dl:=⟨2,12,[.t 4],sr HP (sr HQ (.seq (sr HR (iz 10 (rr HS))) (rr HT)))⟩
def K345 (D:Az):Prop:=∀a0 a1 r,g345 a0 a1=some r→D 345 ⟨[.agg (Ax a0),iV a1],[]⟩ ⟨iV r,[],[]⟩
theorem F345 (H276:vZ C):K345 (FO C c345):=by
 intro a0 a1 r h0
 refine f0 (Bw 4 [(1,iV a1),(2,.ptr 128 0)] [(128,Ax a0)] (Ch 4 (Ac (bb h0 fun r1 e2 h0=>Ze (H276 a0.data a1 r1 e2) (o_ (Bw 8 [(1,iV r1),(10,.bool (decide (r1<0)))] [] (Gi h0 (fun c3 h0=>?_) (fun c3 h0=>?_))))))))
 ·obtain rfl:=sj h0
  exact Gs 4
 ·obtain rfl:=sj h0
  exact Gs 7

/- loop.example/g00149/laws.szSectorS -/
def AY:=[i_ 4 0]
def AZ:=[m_ 6 1,m_ 7 0,n_ 8 7,b_ .sub 9 6 8,m_ 1 9]
def BA:=[m_ 10 1,B_ .lss 11 10 0]
def BB:=[i_ 4 (-1)]
def BC:=[i_ 5 0]
def BD:=[m_ 12 5,m_ 13 0,n_ 14 13,b_ .lss 15 12 14]
def BE:=[m_ 18 0,m_ 19 5,x_ 20 18 19 2,L_ 21 20 2,m_ 22 1,q_ 23 345 [.t 21,.t 22],m_ 1 23]
def BF:=[m_ 24 1,B_ .lss 25 24 0]
def BG:=[i_ 4 (-1)]
def BH:=[m_ 16 5,B_ .add 17 16 1,m_ 5 17]
def AX:IR:=(.seq (sr BD (.ite (.t 15) .skip (.exit 0))) (.seq (.block 1 (sr BE (sr BF (iz 25 (rr BG))))) (.reg BH)))
def nP:=[m_ 26 1,m_ 4 26]
def c289:Dl:=⟨2,27,[.t 4],sr AY (sr AZ (.seq (sr BA (iz 11 (rr BB))) (.seq (sr BC (Jt 0 AX)) (rr nP))))⟩
def K289 (D:Az):Prop:=∀a0 a1 r,g289 a0 a1=some r→D 289 ⟨[Av a0,iV a1],[]⟩ ⟨iV r,[],[]⟩
theorem F289 (H345:K345 C):K289 (FO C c289):=by
 intro a0 a1 r h0
 refine f0 (Bw 3 [(0,Av a0),(1,iV a1)] [] (Ch 3 (Ac (Lp rfl (o_ (Bw 9 [(0,Av a0),(1,iV (wi (a1-(a0.length:Int)))),(11,.bool (decide ((wi (a1-(a0.length:Int)))<0)))] [] (Gi h0 (fun c1 h0=>?_) (fun c1 h0=>?_))))))))
 ·obtain rfl:=sj h0
  exact Gs 4
 ·refine Bw 6 [(0,Av a0),(1,iV (wi (a1-(a0.length:Int)))),(5,iV 0)] [] (Be (bb h0 fun r25 e26 h0=>Cs (R:=(fun S=>∃p18:Int,.inl p18=r25∧S=⟨[(1,iV p18)],[],[]⟩)) (Qr a0) (fun s S=>match s with | (p8,p9)=>S=⟨[(0,Av a0),(1,iV p8),(5,iV p9)],[],[]⟩) e26 _ (Ar (by kernel_rfl)) rfl 0 (fun _=>rfl) ?_ ?_))
  ·rintro S _ hfg ⟨p18,rfl,rfl⟩
   refine At _ hfg ?_
   obtain rfl:=sj h0
   exact Gs 5
  ·rintro ⟨p8,p9⟩ o1 _ K1 rfl h1 hx1 hK1 hE1 hR1
   refine Ch 4 (Ac (Lp rfl (o_ (Bw 2 [(0,Av a0),(1,iV p8),(5,iV p9),(15,.bool (decide (p9<(a0.length:Int))))] [] (Gi h1 (fun c19 h1=>?_) (fun c19 h1=>?_))))))
   ·refine Ch 7 (Ac (bb h1 fun y20 e21 h1=>gQ rfl rfl e21 (o_ (Ch 2 (Ac (bb h1 fun r22 e23 h1=>Ze (H345 y20 p8 r22 e23) (o_ (Bw 7 [(0,Av a0),(1,iV r22),(5,iV p9),(25,.bool (decide (r22<0)))] [] (Gi h1 (fun c24 h1=>?_) (fun c24 h1=>?_))))))))))
    ·obtain rfl:=sj h1
     obtain rfl:=hx1 _ rfl
     obtain rfl:=sj h0
     exact uH 4 hR1
    ·refine Ch 7 ?_
     obtain rfl:=sj h1
     exact kn hK1 rfl rfl
   ·obtain rfl:=sj h1
    obtain rfl:=hx1 _ rfl
    refine In rfl ?_
    exact jn hE1 ⟨_,rfl,rfl⟩

/- loop.example/g00149/laws.szDevice -/
def wM:=[X_ 2 0,i_ 4 0]
def wN:=[f_ 5 2 0,l_ 6 5 1,m_ 7 1,q_ 8 276 [.t 6,.t 7],m_ 1 8]
def wO:=[m_ 9 1,B_ .lss 10 9 0]
def wP:=[i_ 4 (-1)]
def wQ:=[f_ 11 2 1,l_ 12 11 1,m_ 13 1,q_ 14 289 [.t 12,.t 13],m_ 1 14]
def wR:=[m_ 15 1,B_ .lss 16 15 0]
def wS:=[i_ 4 (-1)]
def wT:=[m_ 17 1,m_ 4 17]
def c228:Dl:=⟨2,18,[.t 4],sr wM (sr wN (.seq (sr wO (iz 10 (rr wP))) (sr wQ (.seq (sr wR (iz 16 (rr wS))) (rr wT)))))⟩
def K228 (D:Az):Prop:=∀a0 a1 r,WE a0 a1=some r→D 228 ⟨[.agg (Ah a0),iV a1],[]⟩ ⟨iV r,[],[]⟩
theorem F228 (H276:vZ C) (H289:K289 C):K228 (FO C c228):=by
 intro a0 a1 r h0
 refine f0 (Bw 4 [(1,iV a1),(2,.ptr 128 0)] [(128,Ah a0)] (Ch 4 (Ac (bb h0 fun r1 e2 h0=>Ze (H276 a0.held a1 r1 e2) (o_ (Bw 8 [(1,iV r1),(2,.ptr 128 0),(10,.bool (decide (r1<0)))] [(128,Ah a0)] (Gi h0 (fun c3 h0=>?_) (fun c3 h0=>?_))))))))
 ·obtain rfl:=sj h0
  exact Gs 4
 ·refine Ch 6 (Ac (bb h0 fun r4 e5 h0=>Ze (H289 a0.Aj r1 r4 e5) (o_ (Bw 8 [(1,iV r4),(16,.bool (decide (r4<0)))] [] (Gi h0 (fun c6 h0=>?_) (fun c6 h0=>?_))))))
  ·obtain rfl:=sj h0
   exact Gs 4
  ·obtain rfl:=sj h0
   exact Gs 7

/- loop.example/g00149/laws.toByteS -/
def xA:List Bg:=[⟨some 2,.nilS 1,none⟩]
def xB:List Bg:=[m_ 5 0,n_ 6 5,⟨some 7,.make 1 1 [.int .u8 0] (.t 6) (.t 6),none⟩,m_ 3 7]
def xC:=[i_ 4 0]
def xD:=[m_ 8 4,m_ 9 0,n_ 10 9,b_ .lss 11 8 10]
def xE:=[m_ 14 3,m_ 15 4,m_ 16 0,m_ 17 4,x_ 18 16 17 1,l_ 19 18 1,x_ 20 14 15 1,s_ 20 19 1]
def xG:=[m_ 12 4,B_ .add 13 12 1,m_ 4 13]
def wZ:IR:=(.seq (sr xD (.ite (.t 11) .skip (.exit 0))) (.seq (.block 1 (.reg xE)) (.reg xG)))
def xH:=[m_ 21 3,m_ 2 21]
def c231:Dl:=⟨1,22,[.t 2],sr xA (sr xB (.seq (sr xC (Jt 0 wZ)) (rr xH)))⟩
def vV (D:Az):Prop:=∀a0 r,sE a0=some r→D 231 ⟨[Bl a0],[]⟩ ⟨Ba 0 r,[],[]⟩
theorem F231:vV (FO C c231):=by
 intro a0 r h0
 refine f0 (Bw 3 [(0,Bl a0)] [] (Ag (Ac (st (An rfl tv (Lp rfl (gg h0 fun c1 h0=>gg h0 fun c2 h0=>st (tE (e:=By) (0:UInt8) rfl rfl c1 rfl c2 rfl (o_ (Bw 7 [(0,Bl a0),(3,Ba 448 (List.replicate (a0.length:Int).toNat (0:UInt8))),(4,iV 0)] [] (Be (bb h0 fun r29 e30 h0=>Cs (R:=(fun S=>∃p21:List UInt8,p21=r29∧S=⟨[(3,Ba 448 p21)],[],[]⟩)) (Nu a0) (fun s S=>match s with | (p10,p11)=>S=⟨[(0,Bl a0),(3,Ba 448 p10),(4,iV p11)],[],[]⟩) e30 _ (Ar (by kernel_rfl)) rfl 0 (fun _=>rfl) ?_ ?_))))))))))))
 ·rintro S _ hfg ⟨p21,rfl,rfl⟩
  refine At _ hfg ?_
  obtain rfl:=sj h0
  exact Gs 5
 ·rintro ⟨p10,p11⟩ o1 _ K1 rfl h1 hx1 hK1 hE1 hR1
  refine Ch 4 (Ac (Lp rfl (o_ (Bw 2 [(0,Bl a0),(3,Ba 448 p10),(4,iV p11),(11,.bool (decide (p11<(a0.length:Int))))] [] (Gi h1 (fun c22 h1=>?_) (fun c22 h1=>?_))))))
  ·refine Ch 8 (Ac (bb h1 fun y23 e24 h1=>gQ rfl rfl e24 (st (c_ (Aq ⟨tv,tv⟩ rfl (nl rfl)) (bb h1 fun y25 e26 h1=>xo_ rfl rfl e26 (bb h1 fun y27 e28 h1=>so_ y23 rfl rfl e28 (o_ (Bw 2 [(0,Bl a0),(3,Ba 448 (p10.set p11.toNat y23)),(4,iV p11)] [] (Ch 4 ?_)))))))))
   obtain rfl:=sj h1
   exact kn hK1 rfl rfl
  ·obtain rfl:=sj h1
   obtain rfl:=hx1 _ rfl
   refine In rfl ?_
   exact jn hE1 ⟨_,rfl,rfl⟩

/- loop.example/g00149/laws.toSector -/
def HU:=[X_ 1 0,a_ 2 [iV 0,.own 130 0 1 []]]
def HV:=[a_ 3 [iV 0,.own 194 0 1 []]]
def HW:=[f_ 4 1 0,l_ 5 4 1,f_ 6 3 0,s_ 6 5 1]
def HX:=[f_ 7 1 1,l_ 8 7 1,q_ 9 231 [.t 8],f_ 10 3 1,s_ 10 9 1]
def HY:=[L_ 11 3 2,s_ 2 11 2]
def c346:Dl:=⟨1,12,[.cell 2 2 true],sr HU (sr HV (sr HW (sr HX (rr HY))))⟩
def K346 (D:Az):Prop:=∀a0 r,sN a0=some r→D 346 ⟨[.agg (Ax a0)],[]⟩ ⟨.agg (tC r (Bk 0)),[],[]⟩
theorem F346 (H231:vV C):K346 (FO C c346):=by
 intro a0 r h0
 refine f0 (Bw 15 [(1,.ptr 64 0),(2,.ptr 128 0),(3,.ptr 192 0)] [(64,Ax a0),(128,[iV 0,Ba 130 []]),(192,[iV a0.at_,Ba 194 []])] (Ch 3 (Ac (bb h0 fun r1 e2 h0=>Uw (H231 a0.data r1 e2) (af rfl) (o_ ?_)))))
 obtain rfl:=sj h0
 exact Gs 9

/- loop.example/g00149/laws.toSectorS -/
def CH:List Bg:=[⟨some 2,.nilS 2,none⟩]
def CI:List Bg:=[m_ 5 0,n_ 6 5,⟨some 7,.make 2 32 [iV 0,.lst 1 []] (.t 6) (.t 6),none⟩,m_ 3 7]
def CJ:=[i_ 4 0]
def CK:=[m_ 8 4,m_ 9 0,n_ 10 9,b_ .lss 11 8 10]
def CL:=[m_ 14 3,m_ 15 4,m_ 16 0,m_ 17 4,x_ 18 16 17 2,L_ 19 18 2,q_ 20 346 [.t 19],x_ 21 14 15 2,s_ 21 20 2]
def CM:=[m_ 12 4,B_ .add 13 12 1,m_ 4 13]
def CG:IR:=(.seq (sr CK (.ite (.t 11) .skip (.exit 0))) (.seq (.block 1 (.reg CL)) (.reg CM)))
def CN:=[m_ 22 3,m_ 2 22]
def c294:Dl:=⟨1,23,[.t 2],sr CH (sr CI (.seq (sr CJ (Jt 0 CG)) (rr CN)))⟩
def K294 (D:Az):Prop:=∀a0 r,WP a0=some r→D 294 ⟨[Av a0],[]⟩ ⟨Ad 32 r,[],[]⟩
theorem F294 (H346:K346 C):K294 (FO C c294):=by
 intro a0 r h0
 refine f0 (rZ_ 3 [] [(128,160)] [(0,Av a0)] [] (Ag (Ac (st (An rfl tv (Lp rfl (gg h0 fun c1 h0=>gg h0 fun c2 h0=>st (makeD_ (e:=Ax) (Ae.mk 0 ([]:List UInt8)) rfl rfl c1 rfl c2 rfl (st (An rfl tv (Aw (bv h0 fun v3 e4 h0=>At ⟨[(0,Av a0),(3,Ad 480 v3)],[],[]⟩ (Ar (by subst e4; kernel_rfl)) (Bw 4 [(0,Av a0),(3,Ad 480 v3),(4,iV 0)] [] (Be (bb h0 fun r37 e38 h0=>Cs (R:=(fun S=>∃p27:List Ae,p27=r37∧S=⟨[(3,Ad 480 p27)],[],[]⟩)) (Qu a0) (fun s S=>match s with | (p14,p15)=>S=⟨[(0,Av a0),(3,Ad 480 p14),(4,iV p15)],[],[]⟩) e38 _ (Ar (by kernel_rfl)) rfl 0 (fun _=>rfl) ?_ ?_)))))))))))))))
 ·rintro S _ hfg ⟨p27,rfl,rfl⟩
  refine At _ hfg ?_
  obtain rfl:=sj h0
  exact Gs 5
 ·rintro ⟨p14,p15⟩ o1 _ K1 rfl h1 hx1 hK1 hE1 hR1
  refine Ch 4 (Ac (Lp rfl (o_ (Bw 2 [(0,Av a0),(3,Ad 480 p14),(4,iV p15),(11,.bool (decide (p15<(a0.length:Int))))] [] (Gi h1 (fun c28 h1=>?_) (fun c28 h1=>?_))))))
  ·refine Ch 8 (Ac (bb h1 fun y29 e30 h1=>gQ rfl rfl e30 (st (c_ (v:=.agg (Ax y29)) (Aq ⟨tv,tv⟩ rfl (nl rfl)) (bb h1 fun r31 e32 h1=>Uw (H346 y29 r31 e32) (ar (af rfl)) (bb h1 fun y33 e34 h1=>xo_ rfl rfl e34 (bb h1 fun y35 e36 h1=>st (stoD_ (y':=r31) rfl rfl tv rfl rfl rfl rfl e36 (nl rfl) rfl (Cd jS (Cd (tW (fun _=>rfl)) rfl)) rfl rfl (Aw (Qc (At ⟨[(0,Av a0),(3,Ad 480 (p14.set p15.toNat r31)),(4,iV p15)],[],[]⟩ (fg ⟨rfl,congrArg (fun z=>some ((.own 480 0 2 z:V))) Fl,rfl,tv⟩ tv) (Ch 4 ?_))))))))))))
   obtain rfl:=sj h1
   exact kn hK1 rfl rfl
  ·obtain rfl:=sj h1
   obtain rfl:=hx1 _ rfl
   refine In rfl ?_
   exact jn hE1 ⟨_,rfl,rfl⟩

/- loop.example/g00149/laws.toDevice -/
def wU:=[X_ 1 0,a_ 2 [.own 129 0 1 [],.own 130 0 2 []]]
def wV:=[a_ 3 [.own 193 0 1 [],.own 194 0 2 []]]
def wW:=[f_ 4 1 0,l_ 5 4 1,q_ 6 231 [.t 5],f_ 7 3 0,s_ 7 6 1]
def wX:=[f_ 8 1 1,l_ 9 8 1,q_ 10 294 [.t 9],f_ 11 3 1,s_ 11 10 1]
def wY:=[L_ 12 3 2,s_ 2 12 2]
def c230:Dl:=⟨1,13,[.cell 2 2 true],sr wU (sr wV (sr wW (sr wX (rr wY))))⟩
def K230 (D:Az):Prop:=∀a0 r,fE a0=some r→D 230 ⟨[.agg (Ah a0)],[]⟩ ⟨.agg (Ak r (Bk 0) (Bk 33)),[],[]⟩
theorem F230 (H231:vV C) (H294:K294 C):K230 (FO C c230):=by
 intro a0 r h0
 refine f0 (rZ_ 4 [] [(130,162)] [(1,.ptr 64 0),(2,.ptr 128 0)] [(64,Ah a0),(128,[Ba 129 [],Ad 162 []])] (rZ_ 3 [] [(194,226)] [(1,.ptr 64 0),(2,.ptr 128 0),(3,.ptr 192 0)] [(64,Ah a0),(128,[Ba 129 [],Ad 162 []]),(192,[Ba 193 [],Ad 226 []])] (Ch 3 (Ac (bb h0 fun r1 e2 h0=>Uw (H231 a0.held r1 e2) (af rfl) (o_ (Bw 3 [(1,.ptr 64 0),(2,.ptr 128 0),(3,.ptr 192 0)] [(64,Ah a0),(128,[Ba 129 [],Ad 162 []]),(192,[Ba 384 r1,Ad 226 []])] (Ch 3 (Ac (bb h0 fun r3 e4 h0=>Uw (H294 a0.Aj r3 e4) (Cd (Wj rfl) rfl) (o_ ?_)))))))))))
 obtain rfl:=sj h0
 exact Gs 9

/- loop.example/g00149/laws.eqByteS -/
def xP:=[k_ 4 (.bool false)]
def xQ:=[m_ 6 0,n_ 7 6,m_ 8 1,n_ 9 8,b_ .neq 10 7 9]
def xR:=[k_ 4 (.bool false)]
def xS:=[i_ 5 0]
def xU:=[m_ 11 5,m_ 12 0,n_ 13 12,b_ .lss 14 11 13]
def xV:=tk [m_ 17 0,m_ 18 5,x_ 19 17 18 1,l_ 20 19 1,m_ 21 1,m_ 22 5,x_ 23 21 22 1,l_ 24 23 1,b_ .neq 25 20 24] .fin
def xW:=[k_ 4 (.bool false)]
def xX:=[m_ 15 5,B_ .add 16 15 1,m_ 5 16]
def xO:IR:=(.seq (sr xU (.ite (.t 14) .skip (.exit 0))) (.seq (.block 1 (sd xV (iz 25 (rr xW)))) (.reg xX)))
def xY:=[k_ 4 (.bool true)]
def c233:Dl:=⟨2,26,[.t 4],sr xP (.seq (sr xQ (iz 10 (rr xR))) (.seq (sr xS (Jt 0 xO)) (rr xY)))⟩
def vW (D:Az):Prop:=∀a0 a1 r,sF a0 a1=some r→D 233 ⟨[Bl a0,Bl a1],[]⟩ ⟨.bool r,[],[]⟩
theorem F233:vW (FO C c233):=by
 intro a0 a1 r h0
 refine f0 (Bw 3 [(0,Bl a0),(1,Bl a1)] [] (Ch 3 (Ac (Lp rfl (st (An rfl tv (Lp rfl (o_ (Bw 2 [(0,Bl a0),(1,Bl a1),(10,.bool ((a0.length:Int) != (a1.length:Int)))] [] (Gi h0 (fun c1 h0=>?_) (fun c1 h0=>?_)))))))))))
 ·obtain rfl:=sj h0
  exact Gs 4
 ·refine Bw 6 [(0,Bl a0),(1,Bl a1),(5,iV 0)] [] (Be (bb h0 fun r22 e23 h0=>Cs (R:=(fun S=>.inl ()=r22∧S=⟨[],[],[]⟩)) (Qp a0 a1) (fun s S=>match s with | p8=>S=⟨[(0,Bl a0),(1,Bl a1),(5,iV p8)],[],[]⟩) e23 _ (Ar (by kernel_rfl)) rfl 0 (fun _=>rfl) ?_ ?_))
  ·rintro S _ hfg ⟨rfl,rfl⟩
   refine At _ hfg ?_
   obtain rfl:=sj h0
   exact Gs 4
  ·rintro p8 o1 _ K1 rfl h1 hx1 hK1 hE1 hR1
   refine Ch 4 (Ac (Lp rfl (o_ (Bw 2 [(0,Bl a0),(1,Bl a1),(5,iV p8),(14,.bool (decide (p8<(a0.length:Int))))] [] (Gi h1 (fun c16 h1=>?_) (fun c16 h1=>?_))))))
   ·refine mA 5 (bb h1 fun y17 e18 h1=>bb h1 fun y19 e20 h1=>Ch 2 (Dj (d_ (xv_ rfl rfl rfl e18 (Ch 3 (Dj (d_ (xv_ rfl rfl rfl e20 (Bw 3 [(0,Bl a0),(1,Bl a1),(5,iV p8),(25,.bool (((y17).toNat:Int) != ((y19).toNat:Int)))] [] (Gi h1 (fun c21 h1=>?_) (fun c21 h1=>?_)))))))))))
    ·obtain rfl:=sj h1
     obtain rfl:=hx1 _ rfl
     obtain rfl:=sj h0
     exact uH 4 hR1
    ·refine Ch 7 ?_
     obtain rfl:=sj h1
     exact kn hK1 rfl rfl
   ·obtain rfl:=sj h1
    obtain rfl:=hx1 _ rfl
    refine In rfl ?_
    exact jn hE1 ⟨rfl,rfl⟩

/- loop.example/g00149/laws.eqSector -/
def HZ:=[X_ 2 0,X_ 3 1,k_ 4 (.bool false)]
def IA:=[f_ 5 2 0,l_ 6 5 1,f_ 7 3 0,l_ 8 7 1,b_ .neq 9 6 8]
def IB:=[k_ 4 (.bool false)]
def IC:=[f_ 10 2 1,l_ 11 10 1,f_ 12 3 1,l_ 13 12 1,q_ 14 233 [.t 11,.t 13],N_ 15 14]
def ID:=[k_ 4 (.bool false)]
def IE:=[k_ 4 (.bool true)]
def c347:Dl:=⟨2,16,[.t 4],sr HZ (.seq (sr IA (iz 9 (rr IB))) (.seq (sr IC (iz 15 (rr ID))) (rr IE)))⟩
def K347 (D:Az):Prop:=∀a0 a1 r,sO a0 a1=some r→D 347 ⟨[.agg (Ax a0),.agg (Ax a1)],[]⟩ ⟨.bool r,[],[]⟩
theorem F347 (H233:vW C):K347 (FO C c347):=by
 intro a0 a1 r h0
 refine f0 (Bw 14 [(2,.ptr 128 0),(3,.ptr 192 0),(9,.bool (a0.at_ != a1.at_))] [(128,Ax a0),(192,Ax a1)] (Gi h0 (fun c1 h0=>?_) (fun c1 h0=>?_)))
 ·obtain rfl:=sj h0
  exact Gs 4
 ·refine Ch 8 (Ac (bb h0 fun r2 e3 h0=>Ze (H233 a0.data a1.data r2 e3) (o_ (Bw 2 [(15,.bool (!r2))] [] (Gi h0 (fun c4 h0=>?_) (fun c4 h0=>?_))))))
  ·obtain rfl:=sj h0
   exact Gs 4
  ·obtain rfl:=sj h0
   exact Gs 6

/- loop.example/g00149/laws.eqSectorS -/
def CP:=[k_ 4 (.bool false)]
def CQ:=[m_ 6 0,n_ 7 6,m_ 8 1,n_ 9 8,b_ .neq 10 7 9]
def CR:=[k_ 4 (.bool false)]
def CS:=[i_ 5 0]
def CT:=[m_ 11 5,m_ 12 0,n_ 13 12,b_ .lss 14 11 13]
def CU:=tk [m_ 17 0,m_ 18 5,x_ 19 17 18 2,L_ 20 19 2,m_ 21 1,m_ 22 5,x_ 23 21 22 2,L_ 24 23 2] (.alt [] (q_ 25 347 [.t 20,.t 24]) (tk [N_ 26 25] .fin) .stop)
def CW:=[k_ 4 (.bool false)]
def CX:=[m_ 15 5,B_ .add 16 15 1,m_ 5 16]
def CO:IR:=(.seq (sr CT (.ite (.t 14) .skip (.exit 0))) (.seq (.block 1 (sd CU (iz 26 (rr CW)))) (.reg CX)))
def CY:=[k_ 4 (.bool true)]
def c295:Dl:=⟨2,27,[.t 4],sr CP (.seq (sr CQ (iz 10 (rr CR))) (.seq (sr CS (Jt 0 CO)) (rr CY)))⟩
def K295 (D:Az):Prop:=∀a0 a1 r,WR a0 a1=some r→D 295 ⟨[Av a0,Av a1],[]⟩ ⟨.bool r,[],[]⟩
theorem F295 (H347:K347 C):K295 (FO C c295):=by
 intro a0 a1 r h0
 refine f0 (Bw 3 [(0,Av a0),(1,Av a1)] [] (Ch 3 (Ac (Lp rfl (st (An rfl tv (Lp rfl (o_ (Bw 2 [(0,Av a0),(1,Av a1),(10,.bool ((a0.length:Int) != (a1.length:Int)))] [] (Gi h0 (fun c1 h0=>?_) (fun c1 h0=>?_)))))))))))
 ·obtain rfl:=sj h0
  exact Gs 4
 ·refine Bw 6 [(0,Av a0),(1,Av a1),(5,iV 0)] [] (Be (bb h0 fun r28 e29 h0=>Cs (R:=(fun S=>.inl ()=r28∧S=⟨[],[],[]⟩)) (Qw a0 a1) (fun s S=>match s with | p10=>S=⟨[(0,Av a0),(1,Av a1),(5,iV p10)],[],[]⟩) e29 _ (Ar (by kernel_rfl)) rfl 0 (fun _=>rfl) ?_ ?_))
  ·rintro S _ hfg ⟨rfl,rfl⟩
   refine At _ hfg ?_
   obtain rfl:=sj h0
   exact Gs 4
  ·rintro p10 o1 _ K1 rfl h1 hx1 hK1 hE1 hR1
   refine Ch 4 (Ac (Lp rfl (o_ (Bw 2 [(0,Av a0),(1,Av a1),(5,iV p10),(14,.bool (decide (p10<(a0.length:Int))))] [] (Gi h1 (fun c20 h1=>?_) (fun c20 h1=>?_))))))
   ·refine mA 5 (bb h1 fun y21 e22 h1=>bb h1 fun y23 e24 h1=>bb h1 fun r25 e26 h1=>Ch 2 (Dj (d_ (xv_ rfl rfl rfl e22 (Ch 3 (Dj (d_ (xv_ rfl rfl rfl e24 (Dj (Ao tv (c_ (v:=.agg (Ax y23)) (Aq ⟨tv,tv⟩ rfl (nl rfl)) (⟨tv,dc_ (H347 y21 y23 r25 e26) rfl (dw [(0,Av a0),(1,Av a1),(5,iV p10),(25,.bool r25)] [] tv (d_ (Bw 2 [(0,Av a0),(1,Av a1),(5,iV p10),(26,.bool (!r25))] [] (Gi h1 (fun c27 h1=>?_) (fun c27 h1=>?_))))) Ca⟩))))))))))))
    ·obtain rfl:=sj h1
     obtain rfl:=hx1 _ rfl
     obtain rfl:=sj h0
     exact uH 4 hR1
    ·refine Ch 7 ?_
     obtain rfl:=sj h1
     exact kn hK1 rfl rfl
   ·obtain rfl:=sj h1
    obtain rfl:=hx1 _ rfl
    refine In rfl ?_
    exact jn hE1 ⟨rfl,rfl⟩

/- loop.example/g00149/laws.eqDevice -/
def xI:=[X_ 2 0,X_ 3 1,k_ 4 (.bool false)]
def xJ:=[f_ 5 2 0,l_ 6 5 1,f_ 7 3 0,l_ 8 7 1,q_ 9 233 [.t 6,.t 8],N_ 10 9]
def xK:=[k_ 4 (.bool false)]
def xL:=[f_ 11 2 1,l_ 12 11 1,f_ 13 3 1,l_ 14 13 1,q_ 15 295 [.t 12,.t 14],N_ 16 15]
def xM:=[k_ 4 (.bool false)]
def xN:=[k_ 4 (.bool true)]
def c232:Dl:=⟨2,17,[.t 4],sr xI (.seq (sr xJ (iz 10 (rr xK))) (.seq (sr xL (iz 16 (rr xM))) (rr xN)))⟩
def K232 (D:Az):Prop:=∀a0 a1 r,fG a0 a1=some r→D 232 ⟨[.agg (Ah a0),.agg (Ah a1)],[]⟩ ⟨.bool r,[],[]⟩
theorem F232 (H233:vW C) (H295:K295 C):K232 (FO C c232):=by
 intro a0 a1 r h0
 refine f0 (Bw 5 [(2,.ptr 128 0),(3,.ptr 192 0)] [(128,Ah a0),(192,Ah a1)] (Ch 6 (Ac (bb h0 fun r1 e2 h0=>Ze (H233 a0.held a1.held r1 e2) (o_ (Bw 2 [(2,.ptr 128 0),(3,.ptr 192 0),(10,.bool (!r1))] [(128,Ah a0),(192,Ah a1)] (Gi h0 (fun c3 h0=>?_) (fun c3 h0=>?_))))))))
 ·obtain rfl:=sj h0
  exact Gs 4
 ·refine Ch 8 (Ac (bb h0 fun r4 e5 h0=>Ze (H295 a0.Aj a1.Aj r4 e5) (o_ (Bw 2 [(16,.bool (!r4))] [] (Gi h0 (fun c6 h0=>?_) (fun c6 h0=>?_))))))
  ·obtain rfl:=sj h0
   exact Gs 4
  ·obtain rfl:=sj h0
   exact Gs 6

/- loop.example/g00149/laws.markByteS -/
def yE:=[i_ 4 0]
def yF:=[i_ 5 0]
def yG:=[m_ 6 5,m_ 7 0,n_ 8 7,b_ .lss 9 6 8]
def yH:=[m_ 12 0,m_ 13 5,m_ 14 1,iQ 15 (.conv .u8 (.t 14)),x_ 16 12 13 1,s_ 16 15 1]
def yI:=[m_ 17 1,B_ .add 18 17 1,m_ 1 18]
def yJ:=[m_ 10 5,B_ .add 11 10 1,m_ 5 11]
def yD:IR:=(.seq (sr yG (.ite (.t 9) .skip (.exit 0))) (.seq (.block 1 (sr yH (.reg yI))) (.reg yJ)))
def yK:=[m_ 19 1,m_ 4 19]
def c235:Dl:=⟨2,20,[.t 4],sr yE (.seq (sr yF (Jt 0 yD)) (rr yK))⟩
def vX (D:Az):Prop:=∀a0 a1 r,sH a0 a1=some r→D 235 ⟨[Ba 2097152 a0,iV a1],[]⟩ ⟨iV r.1,[],[(0,1,r.2.map By)]⟩
theorem F235:vX (FO C c235):=by
 intro a0 a1 r h0
 refine f0 (Bw 8 [(0,Ba 2097152 a0),(1,iV a1),(5,iV 0)] [] (Be (bb h0 fun r24 e25 h0=>Cs (R:=(fun S=>∃p17:List UInt8,∃p18:Int,(p17,p18)=r24∧S=⟨[(0,Ba 2097152 p17),(1,iV p18)],[],[]⟩)) (Qq) (fun s S=>match s with | (p6,p7,p8)=>S=⟨[(0,Ba 2097152 p6),(1,iV p7),(5,iV p8)],[],[]⟩) e25 _ (Ar (by kernel_rfl)) rfl 0 (fun _=>rfl) ?_ ?_)))
 ·rintro S _ hfg ⟨p17,p18,rfl,rfl⟩
  refine At _ hfg (Bw 4 [(0,Ba 2097152 p17),(4,iV p18)] [] ?_)
  obtain rfl:=sj h0
  exact Du (Bp rfl rfl rfl rfl rfl ⟨⟨rfl,dN (fun _=>rfl)⟩,tv⟩)
 ·rintro ⟨p6,p7,p8⟩ o1 _ K1 rfl h1 hx1 hK1 hE1 hR1
  refine Ch 4 (Ac (tO rfl (o_ (Bw 2 [(0,Ba 2097152 p6),(1,iV p7),(5,iV p8),(9,.bool (decide (p8<(p6.length:Int))))] [] (Gi h1 (fun c19 h1=>?_) (fun c19 h1=>?_))))))
  ·refine Ch 8 (Ac (st (c_ (iG (Aq ⟨tv,tv⟩ rfl tv)) (bb h1 fun y20 e21 h1=>xo_ rfl rfl e21 (bb h1 fun y22 e23 h1=>so_ (b8 p7) rfl rfl e23 (o_ (Bw 7 [(0,Ba 2097152 (p6.set p8.toNat (b8 p7))),(1,iV (wi (p7+1))),(5,iV p8)] [] (Ch 4 ?_))))))))
   obtain rfl:=sj h1
   exact kn hK1 rfl rfl
  ·obtain rfl:=sj h1
   obtain rfl:=hx1 _ rfl
   refine In rfl ?_
   exact jn hE1 ⟨_,_,rfl,rfl⟩

/- loop.example/g00149/laws.markSectorS -/
def DA:=[i_ 4 0]
def DB:=[i_ 5 0]
def DC:=[m_ 6 5,m_ 7 0,n_ 8 7,b_ .lss 9 6 8]
def DD:=[m_ 12 0,m_ 13 5,m_ 14 1,x_ 15 12 13 2,f_ 16 15 0,s_ 16 14 1]
def DE:=[m_ 17 1,B_ .add 18 17 1,m_ 1 18]
def DF:=[m_ 19 0,m_ 20 5,x_ 21 19 20 2,f_ 22 21 1,l_ 23 22 1,m_ 24 1,q_ 25 235 [.t 23,.t 24],m_ 1 25]
def DG:=[m_ 10 5,B_ .add 11 10 1,m_ 5 11]
def CZ:IR:=(.seq (sr DC (.ite (.t 9) .skip (.exit 0))) (.seq (.block 1 (sr DD (sr DE (.reg DF)))) (.reg DG)))
def DH:=[m_ 26 1,m_ 4 26]
def c296:Dl:=⟨2,27,[.t 4],sr DA (.seq (sr DB (Jt 0 CZ)) (rr DH))⟩
def K296 (D:Az):Prop:=∀a0 a1 r,WS a0 a1=some r→D 296 ⟨[Ad 2097184 a0,iV a1],[]⟩ ⟨iV r.1,[],[(0,2,r.2.map Ax)]⟩
theorem F296 (H235:vX C):K296 (FO C c296):=by
 intro a0 a1 r h0
 refine f0 (Bw 8 [(0,Ad 2097184 a0),(1,iV a1),(5,iV 0)] [] (Be (bb h0 fun r51 e52 h0=>Cs (R:=(fun S=>∃p35:List Ae,∃p36:Int,(p35,p36)=r51∧S=⟨[(0,Ad 2097184 p35),(1,iV p36)],[],[]⟩)) (Nw) (fun s S=>match s with | (p15,p16,p17)=>S=⟨[(0,Ad 2097184 p15),(1,iV p16),(5,iV p17)],[],[]⟩) e52 _ (Ar (by kernel_rfl)) rfl 0 (fun _=>rfl) ?_ ?_)))
 ·rintro S _ hfg ⟨p35,p36,rfl,rfl⟩
  refine At _ hfg (Bw 4 [(0,Ad 2097184 p35),(4,iV p36)] [] ?_)
  obtain rfl:=sj h0
  exact Du (Bp rfl rfl rfl rfl rfl ⟨⟨rfl,dN (fun _=>rfl)⟩,tv⟩)
 ·rintro ⟨p15,p16,p17⟩ o1 _ K1 rfl h1 hx1 hK1 hE1 hR1
  refine Ch 4 (Ac (tO rfl (o_ (Bw 2 [(0,Ad 2097184 p15),(1,iV p16),(5,iV p17),(9,.bool (decide (p17<(p15.length:Int))))] [] (Gi h1 (fun c37 h1=>?_) (fun c37 h1=>?_))))))
  ·refine Ch 8 (Ac (bb h1 fun y38 e39 h1=>xo_ rfl rfl e39 (st (c_ (Aq ⟨tv,tv⟩ rfl tv) (bb h1 fun y40 e41 h1=>st (stoD_ (y':=(Ae.mk p16 y40.data)) rfl rfl tv rfl rfl rfl rfl e41 (nl rfl) rfl (Cd jS rfl) rfl rfl (Aw (At ⟨[(0,Ad 2097184 (p15.set p17.toNat (Ae.mk p16 y40.data))),(1,iV p16),(5,iV p17)],[],[]⟩ (fg ⟨congrArg (fun z=>some ((.own 2097184 0 2 z:V))) Fl,rfl,rfl,tv⟩ tv) (Bw 5 [(0,Ad 2097184 (p15.set p17.toNat (Ae.mk p16 y40.data))),(1,iV (wi (p16+1))),(5,iV p17)] [] (Ch 2 (Ac (bb h1 fun y42 e43 h1=>xo_ rfl rfl e43 (st (c_ (Aq ⟨tv,tv⟩ rfl tv) (bb h1 fun y44 e45 h1=>st (c_ (cloadD (e:=Ax) (y:=y44) (v:=.nrow 2097184 (0+p17.toNat) 1 1 (y44.data.map By)) rfl rfl tv rfl rfl e45 rfl (nl rfl) rfl) (st (An rfl tv (bb h1 fun r46 e47 h1=>gg h1 fun c48 h1=>st (callN_ (e0:=Ax) (L0:=p15.set p17.toNat (Ae.mk p16 y40.data)) (e:=By) (xs:=y44.data) (xs':=r46.2) (y:=y44) (r:=iV r46.1) (H235 y44.data (wi (p16+1)) r46 e47) ⟨tv,tv,tv⟩ ⟨.inl ⟨rfl,rfl⟩,⟨.inr ⟨rfl,rfl,rfl⟩,tv⟩⟩ rfl rfl e45 rfl rfl c48 (fun _=>rfl) (sw ⟨[(0,Ad 2097184 ((p15.set p17.toNat (Ae.mk p16 y40.data)).set p17.toNat (Ae.mk y44.at_ r46.2))),(5,iV p17),(25,iV r46.1)],[],[]⟩ (fg ⟨congrArg (fun z=>some ((z:V))) (ZB (y:=y44) (y':=(Ae.mk y44.at_ r46.2)) e45 rfl),rfl,rfl,tv⟩ tv) (An rfl tv (Aw (Qc (bv h1 fun v49 e50 h1=>At ⟨[(0,Ad 2097184 v49),(1,iV r46.1),(5,iV p17)],[],[]⟩ (Ar (by subst e50; kernel_rfl)) (Ch 4 ?_))))))))))))))))))))))))))
   obtain rfl:=sj h1
   exact kn hK1 rfl rfl
  ·obtain rfl:=sj h1
   obtain rfl:=hx1 _ rfl
   refine In rfl ?_
   exact jn hE1 ⟨_,_,rfl,rfl⟩

/- loop.example/g00149/laws.markDevice -/
def xZ:=[X_ 2 0,i_ 4 0]
def yA:=[f_ 5 2 0,l_ 6 5 1,m_ 7 1,q_ 8 235 [.t 6,.t 7],m_ 1 8]
def yB:=[f_ 9 2 1,l_ 10 9 1,m_ 11 1,q_ 12 296 [.t 10,.t 11],m_ 1 12]
def yC:=[m_ 13 1,m_ 4 13]
def c234:Dl:=⟨2,14,[.t 4],sr xZ (sr yA (sr yB (rr yC)))⟩
def K234 (D:Az):Prop:=∀a0 a1 r,sG a0 a1=some r→D 234 ⟨[.agg (Ak a0 (Bk 2097152) (Bk 2097185)),iV a1],[]⟩ ⟨iV r.1,[],[(0,1,r.2.1.map By),(0,2,r.2.2.map Ax)]⟩
theorem F234 (H235:vX C) (H296:K296 C):K234 (FO C c234):=by
 intro a0 a1 r h0
 refine f0 (Bw 4 [(0,.agg (Ak a0 (Bk 2097152) (Bk 2097185))),(1,iV a1),(2,.ptr 128 0)] [(128,Ak a0 (Bk 2097152) (Bk 2097185))] (Ag (Ac (st (c_ (Aq ⟨tv,tv⟩ rfl tv) (st (c_ (Aq ⟨tv,tv⟩ rfl (nl rfl)) (st (An rfl tv (bb h0 fun r1 e2 h0=>gg h0 fun c3 h0=>c1_ [] [2097152] [] (H235 a0.held a1 r1 e2) (ar (Cd (fl2 (fun _=>rfl)) rfl)) (sw ⟨[(0,.agg [Ba 2097152 r1.2,Ad 2097185 a0.Aj]),(2,.ptr 128 0),(8,iV r1.1)],[(128,[Ba 2097152 r1.2,Ad 2097185 a0.Aj])],[]⟩ (fg ⟨congrArg (fun z=>some ((.agg [z,Ad 2097185 a0.Aj]:V))) (Xx c3),rfl,rfl,tv⟩ ⟨congrArg (fun z=>some (([z,Ad 2097185 a0.Aj]:List V))) (Xx c3),tv⟩) (An rfl tv (o_ (Bw 1 [(0,.agg [Ba 2097152 r1.2,Ad 2097185 a0.Aj]),(1,iV r1.1),(2,.ptr 128 0)] [(128,[Ba 2097152 r1.2,Ad 2097185 a0.Aj])] (Ag (Ac (st (c_ (Aq ⟨tv,tv⟩ rfl tv) (st (c_ (Aq ⟨tv,tv⟩ rfl (nl rfl)) (st (An rfl tv (bb h0 fun r4 e5 h0=>gg h0 fun c6 h0=>c2_ [] [2097185] [] (H296 a0.Aj r1.1 r4 e5) (sw ⟨[(0,.agg [Ba 2097152 r1.2,Ad 2097185 r4.2]),(12,iV r4.1)],[],[]⟩ (fg ⟨congrArg (fun z=>some ((.agg [Ba 2097152 r1.2,z]:V))) (Xx c6),rfl,tv⟩ tv) (An rfl tv (o_ (Bw 6 [(0,.agg [Ba 2097152 r1.2,Ad 2097185 r4.2]),(4,iV r4.1)] [] ?_)))))))))))))))))))))))))))
 obtain rfl:=sj h0
 exact Du (Bp rfl rfl rfl rfl rfl ⟨⟨rfl,dN (fun _=>rfl)⟩,⟨⟨rfl,dN (fun _=>rfl)⟩,tv⟩⟩)

/- loop.example/g00149/laws.heldByteS -/
def DJ:=[i_ 4 0]
def DK:=[i_ 5 0]
def DL:=[m_ 6 5,m_ 7 0,n_ 8 7,b_ .lss 9 6 8]
def DM:=[m_ 12 0,m_ 13 5,x_ 14 12 13 1,l_ 15 14 1,m_ 16 1,iQ 17 (.conv .u8 (.t 16)),b_ .neq 18 15 17]
def DN:=[i_ 4 (-1)]
def DO:=[m_ 19 1,B_ .add 20 19 1,m_ 1 20]
def DQ:=[m_ 10 5,B_ .add 11 10 1,m_ 5 11]
def DI:IR:=(.seq (sr DL (.ite (.t 9) .skip (.exit 0))) (.seq (.block 1 (.seq (sr DM (iz 18 (rr DN))) (.reg DO))) (.reg DQ)))
def DR:=[m_ 21 1,m_ 4 21]
def c297:Dl:=⟨2,22,[.t 4],sr DJ (.seq (sr DK (Jt 0 DI)) (rr DR))⟩
def wA (D:Az):Prop:=∀a0 a1 r,sL a0 a1=some r→D 297 ⟨[Bl a0,iV a1],[]⟩ ⟨iV r,[],[]⟩
theorem F297:wA (FO C c297):=by
 intro a0 a1 r h0
 refine f0 (Bw 8 [(0,Bl a0),(1,iV a1),(5,iV 0)] [] (Be (bb h0 fun r18 e19 h0=>Cs (R:=(fun S=>∃p13:Int,.inl p13=r18∧S=⟨[(1,iV p13)],[],[]⟩)) (Ny a0) (fun s S=>match s with | (p5,p6)=>S=⟨[(0,Bl a0),(1,iV p5),(5,iV p6)],[],[]⟩) e19 _ (Ar (by kernel_rfl)) rfl 0 (fun _=>rfl) ?_ ?_)))
 ·rintro S _ hfg ⟨p13,rfl,rfl⟩
  refine At _ hfg ?_
  obtain rfl:=sj h0
  exact Gs 5
 ·rintro ⟨p5,p6⟩ o1 _ K1 rfl h1 hx1 hK1 hE1 hR1
  refine Ch 4 (Ac (Lp rfl (o_ (Bw 2 [(0,Bl a0),(1,iV p5),(5,iV p6),(9,.bool (decide (p6<(a0.length:Int))))] [] (Gi h1 (fun c14 h1=>?_) (fun c14 h1=>?_))))))
  ·refine Ch 8 (Ac (bb h1 fun y15 e16 h1=>gQ rfl rfl e16 (o_ (Ch 2 (Ac (st (c_ (iG (Aq ⟨tv,tv⟩ rfl tv)) (o_ (Bw 2 [(0,Bl a0),(1,iV p5),(5,iV p6),(18,.bool (((y15).toNat:Int) != ((b8 p5).toNat:Int)))] [] (Gi h1 (fun c17 h1=>?_) (fun c17 h1=>?_)))))))))))
   ·obtain rfl:=sj h1
    obtain rfl:=hx1 _ rfl
    obtain rfl:=sj h0
    exact uH 4 hR1
   ·refine Bw 7 [(0,Bl a0),(1,iV (wi (p5+1))),(5,iV p6)] [] (Ch 4 ?_)
    obtain rfl:=sj h1
    exact kn hK1 rfl rfl
  ·obtain rfl:=sj h1
   obtain rfl:=hx1 _ rfl
   refine In rfl ?_
   exact jn hE1 ⟨_,rfl,rfl⟩

/- loop.example/g00149/laws.heldSectorS -/
def DT:=[i_ 4 0]
def DU:=[i_ 5 0]
def DV:=[m_ 6 5,m_ 7 0,n_ 8 7,b_ .lss 9 6 8]
def DW:=[m_ 12 0,m_ 13 5,x_ 14 12 13 2,f_ 15 14 0,l_ 16 15 1,m_ 17 1,b_ .neq 18 16 17]
def DX:=[i_ 4 (-1)]
def DY:=[m_ 19 1,B_ .add 20 19 1,m_ 1 20]
def DZ:=[m_ 21 0,m_ 22 5,x_ 23 21 22 2,f_ 24 23 1,l_ 25 24 1,m_ 26 1,q_ 27 297 [.t 25,.t 26],m_ 1 27]
def EA:=[m_ 28 1,B_ .lss 29 28 0]
def EB:=[i_ 4 (-1)]
def EC:=[m_ 10 5,B_ .add 11 10 1,m_ 5 11]
def DS:IR:=(.seq (sr DV (.ite (.t 9) .skip (.exit 0))) (.seq (.block 1 (.seq (sr DW (iz 18 (rr DX))) (sr DY (sr DZ (sr EA (iz 29 (rr EB))))))) (.reg EC)))
def nT:=[m_ 30 1,m_ 4 30]
def c298:Dl:=⟨2,31,[.t 4],sr DT (.seq (sr DU (Jt 0 DS)) (rr nT))⟩
def K298 (D:Az):Prop:=∀a0 a1 r,WU a0 a1=some r→D 298 ⟨[Av a0,iV a1],[]⟩ ⟨iV r,[],[]⟩
theorem F298 (H297:wA C):K298 (FO C c298):=by
 intro a0 a1 r h0
 refine f0 (Bw 8 [(0,Av a0),(1,iV a1),(5,iV 0)] [] (Be (bb h0 fun r33 e34 h0=>Cs (R:=(fun S=>∃p23:Int,.inl p23=r33∧S=⟨[(1,iV p23)],[],[]⟩)) (Nz a0) (fun s S=>match s with | (p10,p11)=>S=⟨[(0,Av a0),(1,iV p10),(5,iV p11)],[],[]⟩) e34 _ (Ar (by kernel_rfl)) rfl 0 (fun _=>rfl) ?_ ?_)))
 ·rintro S _ hfg ⟨p23,rfl,rfl⟩
  refine At _ hfg ?_
  obtain rfl:=sj h0
  exact Gs 5
 ·rintro ⟨p10,p11⟩ o1 _ K1 rfl h1 hx1 hK1 hE1 hR1
  refine Ch 4 (Ac (Lp rfl (o_ (Bw 2 [(0,Av a0),(1,iV p10),(5,iV p11),(9,.bool (decide (p11<(a0.length:Int))))] [] (Gi h1 (fun c24 h1=>?_) (fun c24 h1=>?_))))))
  ·refine Ch 8 (Ac (bb h1 fun y25 e26 h1=>gQ rfl rfl e26 (o_ (Bw 5 [(0,Av a0),(1,iV p10),(5,iV p11),(18,.bool (y25.at_ != p10))] [] (Gi h1 (fun c27 h1=>?_) (fun c27 h1=>?_))))))
   ·obtain rfl:=sj h1
    obtain rfl:=hx1 _ rfl
    obtain rfl:=sj h0
    exact uH 4 hR1
   ·refine Bw 7 [(0,Av a0),(1,iV (wi (p10+1))),(5,iV p11)] [] (Ch 3 (Ac (bb h1 fun y28 e29 h1=>gQ rfl rfl e29 (o_ (Ch 3 (Ac (bb h1 fun r30 e31 h1=>Ze (H297 y28.data (wi (p10+1)) r30 e31) (o_ (Bw 7 [(0,Av a0),(1,iV r30),(5,iV p11),(29,.bool (decide (r30<0)))] [] (Gi h1 (fun c32 h1=>?_) (fun c32 h1=>?_)))))))))))
    ·obtain rfl:=sj h1
     obtain rfl:=hx1 _ rfl
     obtain rfl:=sj h0
     exact uH 4 hR1
    ·refine Ch 7 ?_
     obtain rfl:=sj h1
     exact kn hK1 rfl rfl
  ·obtain rfl:=sj h1
   obtain rfl:=hx1 _ rfl
   refine In rfl ?_
   exact jn hE1 ⟨_,rfl,rfl⟩

/- loop.example/g00149/laws.heldDevice -/
def yL:=[X_ 2 0,i_ 4 0]
def yM:=[f_ 5 2 0,l_ 6 5 1,m_ 7 1,q_ 8 297 [.t 6,.t 7],m_ 1 8]
def yN:=[m_ 9 1,B_ .lss 10 9 0]
def yO:=[i_ 4 (-1)]
def yP:=[f_ 11 2 1,l_ 12 11 1,m_ 13 1,q_ 14 298 [.t 12,.t 13],m_ 1 14]
def yQ:=[m_ 15 1,B_ .lss 16 15 0]
def yR:=[i_ 4 (-1)]
def yS:=[m_ 17 1,m_ 4 17]
def c236:Dl:=⟨2,18,[.t 4],sr yL (sr yM (.seq (sr yN (iz 10 (rr yO))) (sr yP (.seq (sr yQ (iz 16 (rr yR))) (rr yS)))))⟩
def K236 (D:Az):Prop:=∀a0 a1 r,sI a0 a1=some r→D 236 ⟨[.agg (Ah a0),iV a1],[]⟩ ⟨iV r,[],[]⟩
theorem F236 (H297:wA C) (H298:K298 C):K236 (FO C c236):=by
 intro a0 a1 r h0
 refine f0 (Bw 4 [(1,iV a1),(2,.ptr 128 0)] [(128,Ah a0)] (Ch 4 (Ac (bb h0 fun r1 e2 h0=>Ze (H297 a0.held a1 r1 e2) (o_ (Bw 8 [(1,iV r1),(2,.ptr 128 0),(10,.bool (decide (r1<0)))] [(128,Ah a0)] (Gi h0 (fun c3 h0=>?_) (fun c3 h0=>?_))))))))
 ·obtain rfl:=sj h0
  exact Gs 4
 ·refine Ch 6 (Ac (bb h0 fun r4 e5 h0=>Ze (H298 a0.Aj r1 r4 e5) (o_ (Bw 8 [(1,iV r4),(16,.bool (decide (r4<0)))] [] (Gi h0 (fun c6 h0=>?_) (fun c6 h0=>?_))))))
  ·obtain rfl:=sj h0
   exact Gs 4
  ·obtain rfl:=sj h0
   exact Gs 7

/- loop.example/g00149/impl.isList[loop.example/g00149/impl.Sector] -/
def zO:=[k_ 2 (.bool false)]
def zP:=[m_ 3 0,n_ 4 3,B_ .leq 5 4 4096,m_ 2 5]
def c269:Dl:=⟨1,6,[.t 2],sr zO (rr zP)⟩
def K269 (D:Az):Prop:=∀a0 r,WI a0=some r→D 269 ⟨[Av a0],[]⟩ ⟨.bool r,[],[]⟩
theorem F269:K269 (FO C c269):=by
 intro a0 r h0
 refine f0 (Bw 3 [(0,Av a0)] [] (Ag (Ac (st (An rfl tv (Lp rfl (o_ ?_)))))))
 obtain rfl:=sj h0
 exact Gs 4

/- slices.IndexFunc[[]loop.example/g00149/impl.Sector,loop.example/g00149/impl.Sector] -/
def JZ:=[i_ 4 0]
def KA:=[m_ 6 0,n_ 7 6,i_ 8 0]
def KB:=[b_ .lss 9 8 7]
def KC:=[m_ 10 8,m_ 5 10]
def KD:List Bg:=[m_ 11 1,m_ 12 0,m_ 13 5,x_ 14 12 13 2,L_ 15 14 2,⟨some 16,.callv (.t 11) [.t 15],none⟩]
def KE:=[m_ 17 5,m_ 4 17]
def KF:=[B_ .add 18 8 1,m_ 8 18]
def JY:IR:=(sr KB (.seq (.ite (.t 9) .skip (.exit 0)) (.seq (.block 1 (sr KC (sr KD (iz 16 (rr KE))))) (.reg KF))))
def KG:=[i_ 4 (-1)]
def c367:Dl:=⟨2,19,[.t 4],sr JZ (.seq (sr KA (Jt 0 JY)) (rr KG))⟩
def K367 (C:Az) (D:Az:=C):Prop:=∀(a0:List Ae) (f1:Nat) (k1:List V) (is1:Ae→Option Bool) (hs1:Vs k1) (hf1:∀(x0:Ae) r,is1 x0=some r→C f1 ⟨.agg (Ax x0)::k1,[]⟩ ⟨.bool r,[],[]⟩) (r:Int),g367 a0 is1=some r→D 367 ⟨[Av a0,.clo f1 k1],[]⟩ ⟨iV r,[],[]⟩
theorem F367:K367 C (FO C c367):=by
 intro a0 f1 k1 is1 hs1 hf1 r h0
 refine f0 (Bw 3 [(0,Av a0),(1,.clo f1 k1)] [] (Ch 3 (Ac (Lp rfl (o_ (Bw 2 [(0,Av a0),(1,.clo f1 k1),(7,iV (a0.length:Int)),(8,iV 0)] [] (Be (bb h0 fun r21 e22 h0=>Cs (R:=(fun S=>.inl ()=r21∧S=⟨[],[],[]⟩)) (iW a0 is1) (fun s S=>match s with | p7=>S=⟨[(0,Av a0),(1,.clo f1 k1),(7,iV (a0.length:Int)),(8,iV p7)],[],[]⟩) e22 _ (Ar (by kernel_rfl)) rfl 0 (fun _=>rfl) ?_ ?_))))))))
 ·rintro S _ hfg ⟨rfl,rfl⟩
  refine At _ hfg ?_
  obtain rfl:=sj h0
  exact Gs 4
 ·rintro p7 o1 _ K1 rfl h1 hx1 hK1 hE1 hR1
  refine Bw 3 [(0,Av a0),(1,.clo f1 k1),(7,iV (a0.length:Int)),(8,iV p7),(9,.bool (decide (p7<(a0.length:Int))))] [] (Ag (Gi h1 (fun c15 h1=>?_) (fun c15 h1=>?_)))
  ·refine Bw 8 [(0,Av a0),(1,.clo f1 k1),(5,iV p7),(7,iV (a0.length:Int)),(8,iV p7)] [] (Ch 4 (Ac (bb h1 fun y16 e17 h1=>gQ rfl rfl e17 (st (c_ (v:=.agg (Ax y16)) (Aq ⟨tv,tv⟩ rfl (nl rfl)) (bb h1 fun r18 e19 h1=>st (Ql (r:=.bool r18) rfl false (hf1 _ r18 e19) ⟨tv,tv⟩ (Cd rfl hs1.2.2.1) (Ig rfl (hs1.2.1 _ _ _ _ _)) (fun _=>rfl) (o_ (Bw 1 [(0,Av a0),(1,.clo f1 k1),(5,iV p7),(7,iV (a0.length:Int)),(8,iV p7),(16,.bool r18)] [] (Gi h1 (fun c20 h1=>?_) (fun c20 h1=>?_)))))))))))
   ·obtain rfl:=sj h1
    obtain rfl:=hx1 _ rfl
    obtain rfl:=sj h0
    exact uH 5 hR1
   ·refine Ch 6 ?_
    obtain rfl:=sj h1
    exact kn hK1 rfl rfl
  ·obtain rfl:=sj h1
   obtain rfl:=hx1 _ rfl
   refine In rfl ?_
   exact jn hE1 ⟨rfl,rfl⟩

/- slices.ContainsFunc[[]loop.example/g00149/impl.Sector,loop.example/g00149/impl.Sector] -/
def GH:=[k_ 4 (.bool false)]
def GI:=[m_ 5 0,m_ 6 1,q_ 7 367 [.t 5,.t 6],B_ .geq 8 7 0,m_ 4 8]
def c329:Dl:=⟨2,9,[.t 4],sr GH (rr GI)⟩
def K329 (C:Az) (D:Az:=C):Prop:=∀(a0:List Ae) (f1:Nat) (k1:List V) (is1:Ae→Option Bool) (hs1:Vs k1) (hf1:∀(x0:Ae) r,is1 x0=some r→C f1 ⟨.agg (Ax x0)::k1,[]⟩ ⟨.bool r,[],[]⟩) (r:Bool),XC a0 is1=some r→D 329 ⟨[Av a0,.clo f1 k1],[]⟩ ⟨.bool r,[],[]⟩
theorem F329 (H367:K367 C):K329 C (FO C c329):=by
 intro a0 f1 k1 is1 hs1 hf1 r h0
 refine f0 (Bw 3 [(0,Av a0),(1,.clo f1 k1)] [] (Ch 3 (Ac (bb h0 fun r1 e2 h0=>st (Bb (r:=iV r1) false (H367 a0 f1 k1 is1 hs1 hf1 r1 e2) ⟨tv,tv,tv⟩ rfl (Ig rfl (Ig (rP hs1) rfl)) (fun _=>rfl) (o_ ?_))))))
 obtain rfl:=sj h0
 exact Gs 4

/- loop.example/g00149/impl.areAll[loop.example/g00149/impl.Sector]$1 -/
def GJ:=[X_ 2 0,k_ 3 (.bool false)]
def GK:List Bg:=[l_ 4 1 1,L_ 5 2 2,⟨some 6,.callv (.t 4) [.t 5],none⟩,N_ 7 6,m_ 3 7]
def c330:Dl:=⟨2,8,[.t 3],sr GJ (rr GK)⟩
def K330 (C:Az) (D:Az:=C):Prop:=∀(a0:Ae) (f1:Nat) (k1:List V) (is1:Ae→Option Bool) (hs1:Vs k1) (hf1:∀(x0:Ae) r,is1 x0=some r→C f1 ⟨.agg (Ax x0)::k1,[]⟩ ⟨.bool r,[],[]⟩) (r:Bool),XE a0 is1=some r→D 330 ⟨[.agg (Ax a0),.iptr [.clo f1 k1]],[]⟩ ⟨.bool r,[],[]⟩
theorem F330:K330 C (FO C c330):=by
 intro a0 f1 k1 is1 hs1 hf1 r h0
 refine f0 (Bw 4 [(1,.iptr [.clo f1 k1]),(2,.ptr 128 0)] [(128,Ax a0)] (Ch 3 (Ac (bb h0 fun r1 e2 h0=>st (Ql (r:=.bool r1) rfl false (hf1 _ r1 e2) ⟨tv,tv⟩ (Cd rfl hs1.2.2.1) (Ig rfl (hs1.2.1 _ _ _ _ _)) (fun _=>rfl) (o_ ?_))))))
 obtain rfl:=sj h0
 exact Gs 4

/- loop.example/g00149/impl.areAll[loop.example/g00149/impl.Sector] -/
def zQ:=[X_ 3 1,k_ 4 (.bool false)]
def zR:=[m_ 5 0,iQ 6 (.fn 330 [.t 3]),q_ 7 329 [.t 5,.t 6],N_ 8 7,m_ 4 8]
def c270:Dl:=⟨2,9,[.t 4],sr zQ (rr zR)⟩
def K270 (C:Az) (D:Az:=C):Prop:=∀(a0:List Ae) (f1:Nat) (k1:List V) (is1:Ae→Option Bool) (hs1:Vs k1) (hf1:∀(x0:Ae) r,is1 x0=some r→C f1 ⟨.agg (Ax x0)::k1,[]⟩ ⟨.bool r,[],[]⟩) (r:Bool),WJ a0 is1=some r→D 270 ⟨[Av a0,.clo f1 k1],[]⟩ ⟨.bool r,[],[]⟩
theorem F270 (H329:K329 C) (H330:K330 C):K270 C (FO C c270):=by
 intro a0 f1 k1 is1 hs1 hf1 r h0
 refine f0 (Ag (Ac (st (Mk (Aaa hs1) tv rfl (o_ (Bw 2 [(0,Av a0),(3,.ptr 192 0)] [(192,[.clo f1 k1])] (Ch 3 (Ac (bb h0 fun r1 e2 h0=>st (Bb (r:=.bool r1) false (H329 a0 330 [.iptr [.clo f1 k1]] (fun z330_0=>XE z330_0 is1) (⟨fun _ _ _ _ _=>rfl,fun _ _ _ _ _=>rfl,rfl,fun _ _ _ n=>by cases n<;>rfl,fun _=>rfl⟩) (fun z330_0 r h=>H330 z330_0 f1 k1 is1 hs1 hf1 r h) r1 e2) ⟨tv,tv,tv⟩ rfl (Ig rfl (Ig (congrArg (fun z=>V.clo 330 [.iptr [.clo f1 z]]) (hs1.2.2.2.1 _ _ _ _)) rfl)) (fun _=>rfl) (o_ ?_)))))))))))
 obtain rfl:=sj h0
 exact Gs 4

/- loop.example/g00149/impl.within -/
def c63_r0:=[k_ 6 (.bool false)]
def c63_r1:=[m_ 7 1,m_ 8 0,b_ .leq 9 7 8,m_ 10 9,mT 10 11 0,mT 10 12 2,pT 10 13 (.bin .leq (.t 11) (.t 12)),pa 14 10 13,m_ 6 14]
def c63:Dl:=⟨3,15,[.t 6],sr c63_r0 (rr c63_r1)⟩
def K63 (D:Az):Prop:=∀a0 a1 a2 r,mZ a0 a1 a2=some r→D 63 ⟨[iV a0,iV a1,iV a2],[]⟩ ⟨.bool r,[],[]⟩
theorem F63:K63 (FO C c63):=by
 intro a0 a1 a2 r h0
 refine f0 (Bw 3 [(0,iV a0),(1,iV a1),(2,iV a2)] [] (gn_ 9 (Ac (o_ ?_))))
 obtain rfl:=sj h0
 exact Gs 3

/- loop.example/g00149/impl.DeviceOK$1 -/
def zS:=[X_ 1 0,k_ 2 (.bool false)]
def zU:=[f_ 3 1 0,l_ 4 3 1,q_ 5 63 [.t 4,.c (iV 0),.c (iV 127)],m_ 6 5,fT 6 7 1 1,lT 6 8 7 1 false,pT 6 9 (.len (.t 8)),pT 6 10 (.bin .eql (.t 9) (.c (iV 32))),pa 11 6 10,m_ 2 11]
def c271:Dl:=⟨1,12,[.t 2],sr zS (rr zU)⟩
def K271 (D:Az):Prop:=∀a0 r,lD a0=some r→D 271 ⟨[.agg (Ax a0)],[]⟩ ⟨.bool r,[],[]⟩
theorem F271 (H63:K63 C):K271 (FO C c271):=by
 intro a0 r h0
 refine f0 (Bw 4 [(1,.ptr 64 0)] [(64,Ax a0)] (Ch 3 (Ac (bb h0 fun r1 e2 h0=>Ze (H63 a0.at_ 0 127 r1 e2) (o_ (gn_ 3 (Ac (st (Cx (u:=iV (a0.data.length:Int)) rfl (fun hg=>(Dv (e:=By) (l0:=a0.data) rfl rfl (fun _=>hg))) (o_ (gn_ 2 (Ac (o_ ?_)))))))))))))
 obtain rfl:=sj h0
 exact Gs 3

/- loop.example/g00149/impl.DeviceOK -/
def wK:=[X_ 1 0,k_ 2 (.bool false)]
def wL:List Bg:=[f_ 3 1 0,l_ 4 3 1,n_ 5 4,B_ .rem 6 5 32,B_ .eql 7 6 0,m_ 8 7,fT 8 9 1 0,lT 8 10 9 1 false,pT 8 11 (.len (.t 10)),pT 8 12 (.bin .leq (.t 11) (.c (iV 4096))),pa 13 8 12,m_ 14 13,fT 14 15 1 1,lT 14 16 15 1 false,⟨some 17,.call 269 [.t 16],some (14,true)⟩,pa 18 14 17,m_ 19 18,fT 19 20 1 1,lT 19 21 20 1 false,⟨some 22,.call 270 [.t 21,.c (.clo 271 [])],some (19,true)⟩,pa 23 19 22,m_ 2 23]
def c216:Dl:=⟨1,24,[.t 2],sr wK (rr wL)⟩
def K216 (D:Az):Prop:=∀a0 r,WC a0=some r→D 216 ⟨[.agg (Ah a0)],[]⟩ ⟨.bool r,[],[]⟩
theorem F216 (H269:K269 C) (H270:K270 C) (H271:K271 C):K216 (FO C c216):=by
 intro a0 r h0
 refine f0 (Bw 4 [(1,.ptr 64 0)] [(64,Ah a0)] (Ch 3 (Ac (Lp rfl (st (c_ (Aq ⟨tv,tv,tv⟩ rfl (by decide)) (o_ (Ch 2 (Ac (st (Cx (u:=.ptr 64 0) rfl (fun hg=>(Aq ⟨tv,tv⟩ rfl tv)) (st (Cx (u:=Bl a0.held) rfl (fun hg=>(Aq ⟨(fun _=>hg),tv⟩ rfl (nl rfl))) (st (Cx (u:=iV (a0.held.length:Int)) rfl (fun hg=>(Dv (e:=By) (l0:=a0.held) rfl rfl (fun _=>hg))) (st (Cx (u:=.bool (decide ((a0.held.length:Int)≤4096))) rfl (fun hg=>(Aq ⟨(fun _=>hg),tv,tv⟩ rfl tv)) (st (Ea rfl rfl rfl (fun h=>mY h) tv rfl (st (An rfl tv (st (Cx (u:=.ptr 64 1) rfl (fun hg=>(Aq ⟨tv,tv⟩ rfl tv)) (st (Cx (u:=Av a0.Aj) rfl (fun hg=>(Aq ⟨(fun _=>hg),tv⟩ rfl (nl rfl))) (bb h0 fun r1 e2 h0=>st (Lb (r:=.bool r1) rfl false (fun hg=>H269 a0.Aj r1 (ip hg e2)) ⟨(fun hg=>hg),tv⟩ (fun _=>rfl) (fun _=>rfl) (fun _=>rfl) (fun h=>nomatch h) (st (Ea rfl rfl rfl (fun h=>mY h) tv rfl (st (An rfl tv (st (Cx (u:=.ptr 64 1) rfl (fun hg=>(Aq ⟨tv,tv⟩ rfl tv)) (st (Cx (u:=Av a0.Aj) rfl (fun hg=>(Aq ⟨(fun _=>hg),tv⟩ rfl (nl rfl))) (bb h0 fun r3 e4 h0=>st (Lb (r:=.bool r3) rfl false (fun hg=>H270 a0.Aj 271 [] (fun z271_0=>lD z271_0) (⟨fun _ _ _ _ _=>rfl,fun _ _ _ _ _=>rfl,rfl,fun _ _ _ n=>by cases n<;>rfl,fun _=>rfl⟩) (fun z271_0 r h=>H271 z271_0 r h) r3 (ip hg e4)) ⟨(fun hg=>hg),tv,tv⟩ (fun _=>rfl) (fun _=>rfl) (fun _=>rfl) (fun h=>nomatch h) (st (Ea rfl rfl rfl (fun h=>mY h) tv rfl (st (An rfl tv (Aw (bv h0 fun v5 e6 h0=>At ⟨[(2,.bool v5)],[],[]⟩ (Ar (by subst e6; kernel_rfl)) ?_)))))))))))))))))))))))))))))))))))))))))))
 obtain rfl:=sj h0
 exact Du (Bp rfl rfl rfl rfl rfl tv)

/- slices.Clone[[]byte,byte] -/
def FI:List Bg:=[⟨some 2,.nilS 1,none⟩]
def FJ:List Bg:=[m_ 3 0,⟨some 4,.isnil (.t 3) false,none⟩]
def FK:List Bg:=[⟨some 2,.nilS 1,none⟩]
def FL:List Bg:=[⟨some 5,.mkS 1 [.int .u8 0] 0 [],none⟩,m_ 6 0,⟨some 7,.app 1 1 (.t 5) (.t 6),none⟩,m_ 2 7]
def c325:Dl:=⟨1,8,[.t 2],sr FI (.seq (sr FJ (iz 4 (rr FK))) (rr FL))⟩
def kI (D:Az):Prop:=∀a0 r,cY a0=some r→D 325 ⟨[Bl a0],[]⟩ ⟨Ba 0 r,[],[]⟩
theorem F325:kI (FO C c325):=by
 intro a0 r h0
 refine f0 ?_
 obtain ⟨hc,h0⟩:=Qd h0
 obtain rfl:=sj h0
 refine Bw 3 [(0,Bl a0)] [] (Ch 3 (Ac (st (sZ (e:=By) (l0:=a0) rfl fun b hb=>(Aw (cF (Cj (cb:=b) rfl (fun h=>?_) (fun h=>?_))))))))
 ·obtain rfl:=hb h
  refine Ag (Ac (st (Ed (Aw (cF ?_)))))
  refine Du (Bp rfl rfl rfl rfl rfl tv)
 ·refine En ?_
  refine Bw 0 [(0,Bl a0)] [] (Ch 3 (Ac (st (Fx (e:=By) (l0:=([]:List UInt8)) (l1:=a0) rfl rfl tv rfl (by decide) ?_ ?_))))
  rotate_left
  refine st (An rfl tv (Aw (cF ?_)))
  refine Du (Bp rfl rfl rfl rfl rfl tv)
  have:=Nat.mul_le_mul_right 1 hc
  exact Nat.le_trans this (by decide)

/- loop.example/g00149/impl.put -/
def FM:List Bg:=[X_ 3 1,⟨some 4,.nilS 1,none⟩]
def FN:List Bg:=[f_ 6 3 0,l_ 7 6 1,B_ .add 8 7 1,⟨some 9,.p (.bin .mul (.c (iV 32)) (.t 8)),none⟩,m_ 5 9]
def FP:=[m_ 10 0,n_ 11 10,m_ 12 5,b_ .lss 13 11 12]
def FR:List Bg:=[m_ 14 0,m_ 15 5,m_ 16 0,n_ 17 16,b_ .sub 18 15 17,⟨some 19,.appz 1 1 [.int .u8 0] (.t 14) (.t 18),none⟩,m_ 0 19]
def FS:=tk [m_ 20 0,f_ 21 3 0,l_ 22 21 1,⟨some 23,.p (.bin .mul (.c (iV 32)) (.t 22)),none⟩,⟨some 24,.p (.slice (.t 20) (some (.t 23)) none 1),none⟩,f_ 25 3 1,l_ 26 25 1] (.alt [] ⟨some 27,.copy 1 (.t 24) (.t 26),none⟩ .fin .stop)
def FT:=[m_ 28 0,m_ 4 28]
def c326:Dl:=⟨2,29,[.t 4],sr FM (.seq (sr FN (sr FP (iz 13 (.reg FR)))) (sd FS (rr FT)))⟩
def K326 (D:Az):Prop:=∀a0 a1 r,WX a0 a1=some r→D 326 ⟨[Ba 1024000 a0,.agg (Ax a1)],[]⟩ ⟨Ba 0 r,[],[]⟩
theorem F326:K326 (FO C c326):=by
 intro a0 a1 r h0
 refine f0 (Bw 13 [(0,Ba 1024000 a0),(3,.ptr 192 0),(5,iV (wi (32*(wi (a1.at_+1)))))] [(192,Ax a1)] (Ag (Ac (st (An rfl tv (tO rfl (o_ (Ch 3 (bv h0 fun v1 e2 h0=>At ⟨[(0,Ba 1024000 a0),(3,.ptr 192 0),(5,iV (wi (32*(wi (a1.at_+1))))),(13,.bool v1)],[(192,Ax a1)],[]⟩ (Ar (by subst e2; kernel_rfl)) (dG (cb:=v1) (fun S=>∃p6:List UInt8,S=⟨[(0,Ba 1024000 p6),(3,.ptr 192 0)],[(192,Ax a1)],[]⟩∧Qy a1 p6=some r) rfl ?_ (fun c12 J11=>?_) (fun c12 J11=>?_)))))))))))
 ·rintro _ ⟨p6,rfl,h0⟩
  refine mA 2 (bb h0 fun s7 e8 h0=>Ch 4 (Dj (Ao tv (c_ (Dk (e:=By) (y:=s7) rfl rfl tv ⟨tv,tv⟩ rfl rfl e8) (⟨tv,d_ (Ch 2 (Dj (Do (copy_ (e:=By) (l1:=a1.data) rfl rfl tv rfl (d0 tv (Jo (At ⟨[(0,Ba 1024000 (ovl p6 ((wi (32*a1.at_)).toNat) (a1.data.take s7.length)))],[],[]⟩ (fg ⟨congrArg (fun z=>some ((.own 1024000 0 1 z:V))) Em,tv⟩ tv) (Ch 4 (bv h0 fun v9 e10 h0=>At ⟨[(4,Ba 1024000 v9)],[],[]⟩ (Ar (by subst e10; kernel_rfl)) ?_)))))) Ca)))⟩)))))
  obtain rfl:=sj h0
  exact Du (Bp rfl rfl rfl rfl rfl tv)
 ·replace h0:=ip c12 h0
  refine Ch 3 (Ac (tO rfl (st (c_ (Aq t3 rfl tv) (gg h0 fun c13 h0=>gg h0 fun c14 h0=>st (nJ (e:=By) (l0:=a0) (0:UInt8) rfl rfl rfl (by decide) c13 c14 (st (An rfl tv (Aw ?_)))))))))
  exact jn J11 ⟨_,rfl,h0⟩
 ·replace h0:=Fi c12 h0
  refine En ?_
  exact jn J11 ⟨_,rfl,h0⟩

/- (loop.example/g00149/impl.Device).read -/
def zE:List Bg:=[X_ 1 0,⟨some 2,.nilS 1,none⟩]
def zF:=[f_ 6 1 0,l_ 7 6 1,q_ 8 325 [.t 7],m_ 3 8]
def zG:=[f_ 9 1 1,l_ 10 9 1,n_ 11 10,i_ 12 0]
def zH:=[b_ .lss 13 12 11]
def zI:=[x_ 14 10 12 2,L_ 15 14 2,a_ 5 [iV 0,.own 322 0 1 []],s_ 5 15 2]
def zJ:=[m_ 16 3,L_ 17 5 2,q_ 18 326 [.t 16,.t 17],m_ 3 18]
def zK:=[B_ .add 19 12 1,m_ 12 19]
def zD:IR:=(sr zH (.seq (.ite (.t 13) .skip (.exit 0)) (.seq (.block 1 (sr zI (.reg zJ))) (.reg zK))))
def zL:=[m_ 20 3,m_ 2 20]
def c263:Dl:=⟨1,21,[.t 2],sr zE (sr zF (.seq (sr zG (Jt 0 zD)) (rr zL)))⟩
def kH (D:Az):Prop:=∀a0 r,aY a0=some r→D 263 ⟨[.agg (Ah a0)],[]⟩ ⟨Ba 0 r,[],[]⟩
theorem F263 (H325:kI C) (H326:K326 C):kH (FO C c263):=by
 intro a0 r h0
 refine f0 (Bw 4 [(1,.ptr 64 0)] [(64,Ah a0)] (Ch 3 (Ac (bb h0 fun r1 e2 h0=>Uw (H325 a0.held r1 e2) (af rfl) (o_ (Bw 2 [(1,.ptr 64 0),(3,Ba 512 r1)] [(64,Ah a0)] (Ch 4 (Ac (Lp rfl (o_ (Bw 2 [(3,Ba 512 r1),(10,Av a0.Aj),(11,iV (a0.Aj.length:Int)),(12,iV 0)] [] (Be (bb h0 fun r23 e24 h0=>Cs (R:=(fun S=>∃p17:List UInt8,p17=r23∧S=⟨[(3,Ba 512 p17)],[],[]⟩)) (Jz a0) (fun s S=>match s with | (p8,p9)=>S=⟨[(3,Ba 512 p8),(10,Av a0.Aj),(11,iV (a0.Aj.length:Int)),(12,iV p9)],[],[]⟩) e24 _ (Ar (by kernel_rfl)) rfl 0 (fun _=>rfl) ?_ ?_)))))))))))))
 ·rintro S _ hfg ⟨p17,rfl,rfl⟩
  refine At _ hfg ?_
  obtain rfl:=sj h0
  exact Gs 5
 ·rintro ⟨p8,p9⟩ o1 _ K1 rfl h1 hx1 hK1 hE1 hR1
  refine Bw 3 [(3,Ba 512 p8),(10,Av a0.Aj),(11,iV (a0.Aj.length:Int)),(12,iV p9),(13,.bool (decide (p9<(a0.Aj.length:Int))))] [] (Ag (Gi h1 (fun c18 h1=>?_) (fun c18 h1=>?_)))
  ·refine mA 5 (Ac (bb h1 fun y19 e20 h1=>gQ rfl rfl e20 (o_ (Bw 4 [(3,Ba 512 p8),(5,.ptr 320 0),(10,Av a0.Aj),(11,iV (a0.Aj.length:Int)),(12,iV p9)] [(320,Ax y19)] (Ch 2 (Ac (bb h1 fun r21 e22 h1=>c1_ [] [] [512] (H326 p8 y19 r21 e22) (Cd (af rfl) rfl) (o_ (Bw 3 [(3,Ba 1152 r21),(10,Av a0.Aj),(11,iV (a0.Aj.length:Int)),(12,iV p9)] [] (Ch 3 ?_))))))))))
   obtain rfl:=sj h1
   exact hK1 _ rfl _ _ (Jp [] [(1152,512)] rfl (by kernel_rfl)) rfl
  ·obtain rfl:=sj h1
   obtain rfl:=hx1 _ rfl
   refine In rfl ?_
   exact jn hE1 ⟨_,rfl,rfl⟩

/- (loop.example/g00149/impl.Device).flush -/
def zM:=[X_ 1 0,a_ 2 [.own 129 0 1 [],.own 130 0 2 []]]
def zN:List Bg:=[L_ 3 1 2,q_ 4 263 [.t 3],⟨some 5,.p (.build [.own 321 0 1 [],.own 322 0 2 []] [(0,1,.t 4)]),none⟩,s_ 2 5 2]
def c267:Dl:=⟨1,6,[.cell 2 2 true],sr zM (rr zN)⟩
def K267 (D:Az):Prop:=∀a0 r,g267 a0=some r→D 267 ⟨[.agg (Ah a0)],[]⟩ ⟨.agg (Ak r (Bk 0) (Bk 33)),[],[]⟩
theorem F267 (H263:kH C):K267 (FO C c267):=by
 intro a0 r h0
 refine f0 (rZ_ 4 [] [(130,162)] [(1,.ptr 64 0),(2,.ptr 128 0)] [(64,Ah a0),(128,[Ba 129 [],Ad 162 []])] (Ch 2 (Ac (bb h0 fun r1 e2 h0=>Uw (H263 a0 r1 e2) (af rfl) (st (c_ (v:=.agg [Ba 256 r1,Ad 322 []]) (Aq ⟨tv,tv⟩ rfl ⟨⟨rfl,rfl,nl rfl⟩,tv⟩) (sw ⟨[(2,.ptr 128 0),(5,.agg [Ba 256 r1,Ad 354 []])],[(128,[Ba 129 [],Ad 162 []])],[]⟩ (Jp [] [(322,354)] rfl (by kernel_rfl)) (Ej rfl rfl tv rfl rfl rfl (nl rfl) (o_ (Bw 1 [(2,.ptr 128 0)] [(128,[Ba 256 r1,Ad 354 []])] ?_))))))))))
 obtain rfl:=sj h0
 exact Du (Bp rfl rfl rfl rfl rfl tv)

/- loop.example/g00149/impl.big -/
def GM:List Bg:=[⟨some 4,.nilS 1,none⟩]
def GN:List Bg:=[m_ 7 1,⟨some 8,.make 1 1 [.int .u8 0] (.t 7) (.t 7),none⟩,m_ 5 8]
def GO:=[m_ 9 5,n_ 10 9,i_ 11 0]
def GP:=[b_ .lss 12 11 10]
def GQ:=[m_ 13 11,m_ 6 13]
def GR:List Bg:=[m_ 14 5,m_ 15 1,B_ .sub 16 15 1,m_ 17 6,b_ .sub 18 16 17,m_ 19 0,m_ 20 6,⟨some 21,.p (.bin .mul (.c (iV 8)) (.t 20)),none⟩,b_ .shr 22 19 21,iQ 23 (.conv .u8 (.t 22)),x_ 24 14 18 1,s_ 24 23 1]
def GS:=[B_ .add 25 11 1,m_ 11 25]
def GL:IR:=(sr GP (.seq (.ite (.t 12) .skip (.exit 0)) (.seq (.block 1 (sr GQ (.reg GR))) (.reg GS))))
def GT:=[m_ 26 5,m_ 4 26]
def c331:Dl:=⟨2,27,[.t 4],sr GM (sr GN (.seq (sr GO (Jt 0 GL)) (rr GT)))⟩
def wD (D:Az):Prop:=∀a0 a1 r,bA a0 a1=some r→D 331 ⟨[iV a0,iV a1],[]⟩ ⟨Ba 0 r,[],[]⟩
theorem F331:wD (FO C c331):=by
 intro a0 a1 r h0
 refine f0 (Bw 3 [(0,iV a0),(1,iV a1)] [] (Ag (Ac (st (An rfl tv (gg h0 fun c1 h0=>gg h0 fun c2 h0=>st (tE (e:=By) (0:UInt8) rfl rfl c1 rfl c2 rfl (o_ (Bw 2 [(0,iV a0),(1,iV a1),(5,Ba 512 (List.replicate a1.toNat (0:UInt8)))] [] (Ch 3 (Ac (tO rfl (o_ (Bw 2 [(0,iV a0),(1,iV a1),(5,Ba 512 (List.replicate a1.toNat (0:UInt8))),(10,iV ((List.replicate a1.toNat (0:UInt8)).length:Int)),(11,iV 0)] [] (Be (bb h0 fun r26 e27 h0=>Cs (R:=(fun S=>∃p19:List UInt8,p19=r26∧S=⟨[(5,Ba 512 p19)],[],[]⟩)) (Ob a0 a1) (fun s S=>match s with | (p9,p10)=>S=⟨[(0,iV a0),(1,iV a1),(5,Ba 512 p9),(10,iV ((List.replicate a1.toNat (0:UInt8)).length:Int)),(11,iV p10)],[],[]⟩) e27 _ (Ar (by kernel_rfl)) rfl 0 (fun _=>rfl) ?_ ?_))))))))))))))))
 ·rintro S _ hfg ⟨p19,rfl,rfl⟩
  refine At _ hfg ?_
  obtain rfl:=sj h0
  exact Gs 5
 ·rintro ⟨p9,p10⟩ o1 _ K1 rfl h1 hx1 hK1 hE1 hR1
  refine Bw 3 [(0,iV a0),(1,iV a1),(5,Ba 512 p9),(10,iV ((List.replicate a1.toNat (0:UInt8)).length:Int)),(11,iV p10),(12,.bool (decide (p10<((List.replicate a1.toNat (0:UInt8)).length:Int))))] [] (Ag (Gi h1 (fun c20 h1=>?_) (fun c20 h1=>?_)))
  ·refine Bw 8 [(0,iV a0),(1,iV a1),(5,Ba 512 p9),(6,iV p10),(10,iV ((List.replicate a1.toNat (0:UInt8)).length:Int)),(11,iV p10)] [] (Ch 8 (Ac (gg h1 fun c21 h1=>st (c_ (Aq ⟨tv,tv,tv⟩ rfl c21) (st (c_ (iG (Aq ⟨tv,tv⟩ rfl tv)) (bb h1 fun y22 e23 h1=>xo_ rfl rfl e23 (bb h1 fun y24 e25 h1=>so_ (b8 (Rp .i64 a0 (wi (8*p10)))) rfl rfl e25 (o_ (Bw 2 [(0,iV a0),(1,iV a1),(5,.own 512 0 1 ((p9.set ((wi ((wi (a1-1))-p10)).toNat) (b8 (Rp .i64 a0 (wi (8*p10))))).map By)),(10,iV ((List.replicate a1.toNat (0:UInt8)).length:Int)),(11,iV p10)] [] (Ch 3 ?_)))))))))))
   obtain rfl:=sj h1
   exact kn hK1 rfl rfl
  ·obtain rfl:=sj h1
   obtain rfl:=hx1 _ rfl
   refine In rfl ?_
   exact jn hE1 ⟨_,rfl,rfl⟩

/- loop.example/g00149/impl.crc -/
def GW:=[i_ 2 0]
def GX:=[k_ 3 (.int .u32 4294967295)]
def GY:=[m_ 7 0,n_ 8 7,i_ 9 0]
def GZ:=[b_ .lss 10 9 8]
def HA:=[x_ 11 7 9 1,l_ 12 11 1,m_ 5 12]
def HB:=[m_ 13 3,m_ 14 5,iQ 15 (.conv .u32 (.t 14)),b_ .xor 16 13 15,m_ 3 16]
def HC:=[i_ 17 0]
def HD:=[B_ .lss 18 17 8]
def HE:List Bg:=[m_ 19 3,⟨some 20,.p (.bin .and (.t 19) (.c (.int .u32 1))),none⟩,m_ 6 20]
def HF:List Bg:=[m_ 21 3,⟨some 22,.p (.bin .shr (.t 21) (.c (.int .u64 1))),none⟩,m_ 3 22]
def oA:List Bg:=[m_ 23 6,⟨some 24,.p (.bin .eql (.t 23) (.c (.int .u32 1))),none⟩]
def oB:List Bg:=[m_ 25 3,⟨some 26,.p (.bin .xor (.t 25) (.c (.int .u32 3988292384))),none⟩,m_ 3 26]
def oC:=[B_ .add 27 17 1,m_ 17 27]
def GU:IR:=(sr HD (.seq (.ite (.t 18) .skip (.exit 2)) (.seq (.block 3 (sr HE (sr HF (sr oA (iz 24 (.reg oB)))))) (.reg oC))))
def oD:=[B_ .add 28 9 1,m_ 9 28]
def GV:IR:=(sr GZ (.seq (.ite (.t 10) .skip (.exit 0)) (.seq (.block 1 (sr HA (sr HB (sr HC (Jt 2 GU))))) (.reg oD))))
def oE:=[m_ 29 3,iQ 30 (.un .xor (.t 29)),iQ 31 (.conv .i64 (.t 30)),m_ 2 31]
def c332:Dl:=⟨1,32,[.t 2],sr GW (sr GX (.seq (sr GY (Jt 0 GV)) (rr oE)))⟩
def wE (D:Az):Prop:=∀a0 r,sM a0=some r→D 332 ⟨[Bl a0],[]⟩ ⟨iV r,[],[]⟩
theorem F332:wE (FO C c332):=by
 intro a0 r h0
 refine f0 (Bw 7 [(0,Bl a0),(3,.int .u32 4294967295)] [] (Ch 3 (Ac (Lp rfl (o_ (Bw 2 [(3,.int .u32 4294967295),(7,Bl a0),(8,iV (a0.length:Int)),(9,iV 0)] [] (Be (bb h0 fun r63 e64 h0=>Cs (R:=(fun S=>∃p39:Int,p39=r63∧S=⟨[(3,.int .u32 p39)],[],[]⟩)) (Oc a0) (fun s S=>match s with | (p19,p20)=>S=⟨[(3,.int .u32 p19),(7,Bl a0),(8,iV (a0.length:Int)),(9,iV p20)],[],[]⟩) e64 _ (Ar (by kernel_rfl)) rfl 0 (fun _=>rfl) ?_ ?_))))))))
 ·rintro S _ hfg ⟨p39,rfl,rfl⟩
  refine At _ hfg ?_
  obtain rfl:=sj h0
  exact Gs 7
 ·rintro ⟨p19,p20⟩ o1 _ K1 rfl h1 hx1 hK1 hE1 hR1
  refine Bw 3 [(3,.int .u32 p19),(7,Bl a0),(8,iV (a0.length:Int)),(9,iV p20),(10,.bool (decide (p20<(a0.length:Int))))] [] (Ag (Gi h1 (fun c40 h1=>?_) (fun c40 h1=>?_)))
  ·refine mA 5 (Ac (bb h1 fun y41 e42 h1=>gQ rfl rfl e42 (o_ (Bw 15 [(3,.int .u32 (Um .u32 p19 (IntKind.u32.wrap ((y41).toNat:Int)))),(7,Bl a0),(8,iV (a0.length:Int)),(9,iV p20),(17,iV 0)] [] (Be (bb h1 fun r61 e62 h1=>Cs (R:=(fun S=>∃p55:Int,p55=r61∧S=⟨[(3,.int .u32 p55),(7,Bl a0),(8,iV (a0.length:Int)),(9,iV p20)],[],[]⟩)) (Od) (fun s S=>match s with | (p48,p49)=>S=⟨[(3,.int .u32 p48),(7,Bl a0),(8,iV (a0.length:Int)),(9,iV p20),(17,iV p49)],[],[]⟩) e62 _ (Ar (by kernel_rfl)) rfl 2 (fun _=>rfl) ?_ ?_))))))
   ·rintro S _ hfg ⟨p55,rfl,rfl⟩
    refine Qc (At _ hfg (Ch 3 ?_))
    obtain rfl:=sj h1
    exact kn hK1 rfl rfl
   ·rintro ⟨p48,p49⟩ o2 _ K2 rfl h2 hx2 hK2 hE2 hR2
    refine Bw 3 [(3,.int .u32 p48),(7,Bl a0),(8,iV (a0.length:Int)),(9,iV p20),(17,iV p49),(18,.bool (decide (p49<8)))] [] (Ag (Gi h2 (fun ZY h2=>?_) (fun ZY h2=>?_)))
    ·refine mA 3 (eR (fun S=>∃p58:Int,S=⟨[(3,.int .u32 p58),(7,Bl a0),(8,iV (a0.length:Int)),(9,iV p20),(17,iV p49)],[],[]⟩∧Vc p49 p58=some o2) ?_ (fun J59=>?_))
     ·rintro _ ⟨p58,rfl,h2⟩
      refine Ch 4 ?_
      obtain rfl:=sj h2
      exact kn hK2 rfl rfl
     ·refine Ag ?_
      refine Bw 4 [(3,.int .u32 p48),(6,.int .u32 (lP .u32 p48 1)),(7,Bl a0),(8,iV (a0.length:Int)),(9,iV p20),(17,iV p49)] [] (Ag (Ac (st (An rfl tv (st (c_ (Aq ⟨tv,tv,tv⟩ rfl (by decide)) (o_ (Bw 7 [(3,.int .u32 (Rp .u32 p48 1)),(7,Bl a0),(8,iV (a0.length:Int)),(9,iV p20),(17,iV p49),(24,.bool ((lP .u32 p48 1)==1))] [] (Gi h2 (fun c60 h2=>?_) (fun c60 h2=>?_))))))))))
      ·refine Ch 5 ?_
       exact jn J59 ⟨_,rfl,h2⟩
      ·refine En (Qc ?_)
       exact jn J59 ⟨_,rfl,h2⟩
    ·obtain rfl:=sj h2
     obtain rfl:=hx2 _ rfl
     refine In rfl ?_
     exact jn hE2 ⟨_,rfl,rfl⟩
  ·obtain rfl:=sj h1
   obtain rfl:=hx1 _ rfl
   refine In rfl ?_
   exact jn hE1 ⟨_,rfl,rfl⟩

/- loop.example/g00149/impl.frame -/
def AE:List Bg:=[⟨some 2,.nilS 1,none⟩]
def AF:List Bg:=[m_ 4 0,n_ 5 4,B_ .add 6 5 1,q_ 7 331 [.t 6,.c (iV 2)],m_ 8 0,⟨some 9,.app 1 1 (.t 7) (.t 8),none⟩,m_ 3 9]
def AG:List Bg:=[m_ 10 3,m_ 11 3,q_ 12 332 [.t 11],q_ 13 331 [.t 12,.c (iV 4)],⟨some 14,.app 1 1 (.t 10) (.t 13),none⟩,m_ 2 14]
def c274:Dl:=⟨1,15,[.t 2],sr AE (sr AF (rr AG))⟩
def K274 (D:Az):Prop:=∀a0 r,WM a0=some r→D 274 ⟨[Bl a0],[]⟩ ⟨Ba 0 r,[],[]⟩
theorem F274 (H331:wD C) (H332:wE C):K274 (FO C c274):=by
 intro a0 r h0
 refine f0 (Bw 3 [(0,Bl a0)] [] (Ag (Ac (st (An rfl tv (Lp rfl (st (c_ (Aq t3 rfl tv) (bb h0 fun r1 e2 h0=>Uw (H331 (wi ((a0.length:Int)+1)) 2 r1 e2) (af rfl) (st (An rfl tv (gg h0 fun c3 h0=>st (Fx (e:=By) (l0:=r1) (l1:=a0) rfl rfl tv rfl (by decide) c3 (o_ (Bw 2 [(3,Ba 448 (r1++a0))] [] (Ch 3 (Ac (bb h0 fun r4 e5 h0=>Ze (H332 (r1++a0) r4 e5) (bb h0 fun r6 e7 h0=>Uw (H331 r4 4 r6 e7) (af rfl) (gg h0 fun c8 h0=>st (Fx (e:=By) (l0:=r1++a0) (l1:=r6) rfl rfl tv rfl (by decide) c8 (o_ ?_))))))))))))))))))))))
 obtain rfl:=sj h0
 exact Gs 3

/- loop.example/g00149/impl.bigOf -/
def HH:=[i_ 2 0]
def HI:=[i_ 3 0]
def HJ:=[m_ 6 0,n_ 7 6,i_ 8 0]
def HK:=[b_ .lss 9 8 7]
def HL:=[x_ 10 6 8 1,l_ 11 10 1,m_ 5 11]
def HM:List Bg:=[m_ 12 3,⟨some 13,.p (.bin .shl (.t 12) (.c (.int .u64 8))),none⟩,m_ 14 5,iQ 15 (.conv .i64 (.t 14)),b_ .or 16 13 15,m_ 3 16]
def HN:=[B_ .add 17 8 1,m_ 8 17]
def HG:IR:=(sr HK (.seq (.ite (.t 9) .skip (.exit 0)) (.seq (.block 1 (sr HL (.reg HM))) (.reg HN))))
def HO:=[m_ 18 3,m_ 2 18]
def c333:Dl:=⟨1,19,[.t 2],sr HH (sr HI (.seq (sr HJ (Jt 0 HG)) (rr HO)))⟩
def wF (D:Az):Prop:=∀a0 r,fN a0=some r→D 333 ⟨[Bl a0],[]⟩ ⟨iV r,[],[]⟩
theorem F333:wF (FO C c333):=by
 intro a0 r h0
 refine f0 (Bw 7 [(0,Bl a0),(3,iV 0)] [] (Ch 3 (Ac (Lp rfl (o_ (Bw 2 [(3,iV 0),(6,Bl a0),(7,iV (a0.length:Int)),(8,iV 0)] [] (Be (bb h0 fun r15 e16 h0=>Cs (R:=(fun S=>∃p11:Int,p11=r15∧S=⟨[(3,iV p11)],[],[]⟩)) (Oe a0) (fun s S=>match s with | (p4,p5)=>S=⟨[(3,iV p4),(6,Bl a0),(7,iV (a0.length:Int)),(8,iV p5)],[],[]⟩) e16 _ (Ar (by kernel_rfl)) rfl 0 (fun _=>rfl) ?_ ?_))))))))
 ·rintro S _ hfg ⟨p11,rfl,rfl⟩
  refine At _ hfg ?_
  obtain rfl:=sj h0
  exact Gs 5
 ·rintro ⟨p4,p5⟩ o1 _ K1 rfl h1 hx1 hK1 hE1 hR1
  refine Bw 3 [(3,iV p4),(6,Bl a0),(7,iV (a0.length:Int)),(8,iV p5),(9,.bool (decide (p5<(a0.length:Int))))] [] (Ag (Gi h1 (fun c12 h1=>?_) (fun c12 h1=>?_)))
  ·refine mA 5 (Ac (bb h1 fun y13 e14 h1=>gQ rfl rfl e14 (o_ (Bw 3 [(3,iV p4),(5,.int .u8 ((y13).toNat:Int)),(6,Bl a0),(7,iV (a0.length:Int)),(8,iV p5)] [] (Ac (st (An rfl tv (st (c_ (Aq ⟨tv,tv,tv⟩ rfl (by decide)) (o_ (Bw 6 [(3,iV (ior .i64 (YR .i64 p4 8) (wi ((y13).toNat:Int)))),(6,Bl a0),(7,iV (a0.length:Int)),(8,iV p5)] [] (Ch 3 ?_))))))))))))
   obtain rfl:=sj h1
   exact kn hK1 rfl rfl
  ·obtain rfl:=sj h1
   obtain rfl:=hx1 _ rfl
   refine In rfl ?_
   exact jn hE1 ⟨_,rfl,rfl⟩

/- loop.example/g00149/impl.scan -/
def AI:List Bg:=[⟨some 2,.nilS 1,none⟩,i_ 3 0]
def AJ:List Bg:=[⟨some 4,.nilS 1,none⟩]
def AK:=[i_ 5 0]
def AL:=[m_ 8 5,B_ .add 9 8 2,m_ 10 0,n_ 11 10,b_ .leq 12 9 11]
def AM:List Bg:=[m_ 13 0,m_ 14 5,m_ 15 5,B_ .add 16 15 2,⟨some 17,.p (.slice (.t 13) (some (.t 14)) (some (.t 16)) 1),none⟩,q_ 18 333 [.t 17],B_ .sub 19 18 1,m_ 6 19]
def AN:=[m_ 20 5,B_ .add 21 20 2,m_ 22 6,b_ .add 23 21 22,m_ 7 23]
def AO:=tk [m_ 24 6] (.alt [] (q_ 25 63 [.t 24,.c (iV 0),.c (iV 2000)]) (tk [N_ 26 25,m_ 27 26,mF 27 28 7,pF 27 29 (.bin .add (.t 28) (.c (iV 4))),mF 27 30 0,pF 27 31 (.len (.t 30)),pF 27 32 (.bin .gtr (.t 29) (.t 31)),po 33 27 32,m_ 34 33,mF 34 35 0,mF 34 36 5,mF 34 37 7,pF 34 38 (.slice (.t 35) (some (.t 36)) (some (.t 37)) 1),mF 34 40 0,mF 34 41 7,mF 34 42 7,pF 34 43 (.bin .add (.t 42) (.c (iV 4))),pF 34 44 (.slice (.t 40) (some (.t 41)) (some (.t 43)) 1)] (.alt [pF 34 44 (.slice (.t 40) (some (.t 41)) (some (.t 43)) 1),pF 34 43 (.bin .add (.t 42) (.c (iV 4))),mF 34 42 7,mF 34 41 7,mF 34 40 0] ⟨some 39,.call 332 [.t 38],some (34,false)⟩ (.alt [] ⟨some 45,.call 333 [.t 44],some (34,false)⟩ (tk [pF 34 46 (.bin .neq (.t 39) (.t 45)),po 47 34 46] .fin) .stop) .stop)) .stop)
def AP:List Bg:=[m_ 48 4,m_ 49 0,m_ 50 5,B_ .add 51 50 2,m_ 52 7,⟨some 53,.p (.slice (.t 49) (some (.t 51)) (some (.t 52)) 1),none⟩,q_ 54 325 [.t 53],⟨some 55,.mkS 1 [.lst 1 []] 1 [(0,.t 54)],none⟩,⟨some 56,.app 1 24 (.t 48) (.t 55),none⟩,m_ 4 56]
def AQ:=[m_ 57 7,B_ .add 58 57 4,m_ 5 58]
def AH:IR:=(.seq (sr AL (.ite (.t 12) .skip (.exit 0))) (.block 1 (sr AM (sr AN (.seq (sd AO (iz 47 (.exit 0))) (sr AP (.reg AQ)))))))
def AR:=[m_ 59 4,m_ 60 5,m_ 2 59,m_ 3 60]
def c275:Dl:=⟨1,61,[.t 2,.t 3],sr AI (sr AJ (sr AK (.seq (Jt 0 AH) (rr AR))))⟩
def vY (D:Az):Prop:=∀a0 r,aZ a0=some r→D 275 ⟨[Bl a0],[]⟩ ⟨.tup [.own 0 0 1 (r.1.map (eL 1 By)),iV r.2],[],[]⟩
theorem F275 (H63:K63 C) (H325:kI C) (H332:wE C) (H333:wF C):vY (FO C c275):=by
 intro a0 r h0
 refine f0 (Bw 12 [(0,Bl a0),(4,.own 256 0 1 ([].map (eL 1 By))),(5,iV 0)] [] (Ag (Be (bb h0 fun r82 e83 h0=>Cs (R:=(fun S=>∃p55:List (List UInt8),∃p56:Int,(p55,p56)=r82∧S=⟨[(4,.own 256 0 1 (p55.map (eL 1 By))),(5,iV p56)],[],[]⟩)) (Ik a0) (fun s S=>match s with | (p26,p27)=>S=⟨[(0,Bl a0),(4,.own 256 0 1 (p26.map (eL 1 By))),(5,iV p27)],[],[]⟩) e83 _ (Ar (by kernel_rfl)) rfl 0 (fun _=>rfl) ?_ ?_))))
 ·rintro S _ hfg ⟨p55,p56,rfl,rfl⟩
  refine At _ hfg ?_
  obtain rfl:=sj h0
  exact Gs 7
 ·rintro ⟨p26,p27⟩ o1 _ K1 rfl h1 hx1 hK1 hE1 hR1
  refine Ch 5 (Ac (Lp rfl (o_ (Bw 2 [(0,Bl a0),(4,.own 256 0 1 (p26.map (eL 1 By))),(5,iV p27),(12,.bool (decide ((wi (p27+2))≤(a0.length:Int))))] [] (Gi h1 (fun c57 h1=>?_) (fun c57 h1=>?_))))))
  ·refine Ch 8 (Ac (bb h1 fun s58 e59 h1=>st (c_ (Ha (e:=By) (y:=s58) rfl rfl tv ⟨tv,tv,tv⟩ rfl rfl e59) (bb h1 fun r60 e61 h1=>Ze (H333 s58 r60 e61) (o_ (Bw 3 [(0,Bl a0),(4,.own 256 0 1 (p26.map (eL 1 By))),(5,iV p27),(6,iV (wi (r60-1)))] [] (Ch 7 (bv h1 fun v62 e63 h1=>At ⟨[(0,Bl a0),(4,.own 256 0 1 (p26.map (eL 1 By))),(5,iV p27),(6,iV (wi (r60-1))),(7,iV v62)],[],[]⟩ (Ar (by subst e63; kernel_rfl)) (Ag (Ag (bb h1 fun r64 e65 h1=>bb h1 fun s66 e67 h1=>bb h1 fun s68 e69 h1=>bb h1 fun r70 e71 h1=>bb h1 fun r72 e73 h1=>Dj (Ao tv (An rfl tv (⟨tv,dc_ (H63 (wi (r60-1)) 0 2000 r64 e65) rfl (dw [(0,Bl a0),(4,.own 256 0 1 (p26.map (eL 1 By))),(5,iV p27),(7,iV v62),(25,.bool r64)] [] tv (d_ (Ch 2 (Dj (Ao tv (Cx (u:=iV v62) rfl (fun hg=>(Ki (v:=iV v62) rfl tv)) (⟨tv,Ao tv (Cx (u:=iV (wi (v62+4))) rfl (fun hg=>(Aq ⟨(fun _=>hg),tv,tv⟩ rfl tv)) (⟨tv,Ao tv (Cx (u:=Bl a0) rfl (fun hg=>(Ki (v:=Bl a0) rfl tv)) (⟨tv,Ao tv (Cx (u:=iV (a0.length:Int)) rfl (fun hg=>(Dv (e:=By) (l0:=a0) rfl rfl (fun _=>hg))) (⟨tv,Ao tv (Cx (u:=.bool (decide ((wi (v62+4))>(a0.length:Int)))) rfl (fun hg=>(Aq ⟨(fun _=>hg),(fun _=>hg),tv⟩ rfl tv)) (⟨tv,Ao tv (Ea rfl rfl rfl tv (fun h=>aX h) rfl (⟨tv,Ao tv (An rfl tv (⟨tv,Ao tv (Cx (u:=Bl a0) rfl (fun hg=>(Ki (v:=Bl a0) rfl tv)) (⟨tv,Ao tv (Cx (u:=iV p27) rfl (fun hg=>(Ki (v:=iV p27) rfl tv)) (⟨tv,Ao tv (Cx (u:=iV v62) rfl (fun hg=>(Ki (v:=iV v62) rfl tv)) (⟨tv,Ao tv (Cx (u:=Bl s66) rfl (fun hg=>(Ha (e:=By) (y:=s66) rfl rfl (fun _=>hg) ⟨(fun _=>hg),(fun _=>hg),tv⟩ rfl rfl (ip hg e67))) (⟨tv,?_⟩))⟩))⟩))⟩))⟩))⟩))⟩))⟩))⟩))⟩))⟩))))))) Ca⟩))))))))))))))
   refine Ao tv (Cx (u:=Bl a0) rfl (fun hg=>(Ki (v:=Bl a0) rfl tv)) (⟨tv,Ao tv (Cx (u:=iV v62) rfl (fun hg=>(Ki (v:=iV v62) rfl tv)) (⟨tv,Ao tv (Cx (u:=iV v62) rfl (fun hg=>(Ki (v:=iV v62) rfl tv)) (⟨tv,Ao tv (Cx (u:=iV (wi (v62+4))) rfl (fun hg=>(Aq ⟨(fun _=>hg),tv,tv⟩ rfl tv)) (⟨tv,Ao tv (Cx (u:=Bl s68) rfl (fun hg=>(Ha (e:=By) (y:=s68) rfl rfl (fun _=>hg) ⟨(fun _=>hg),(fun _=>hg),tv⟩ rfl rfl (ip hg e69))) (⟨tv,Do (Lb (r:=iV r70) rfl false (fun hg=>H332 s66 r70 (ip hg e71)) ⟨(fun hg=>hg),tv⟩ (fun _=>rfl) (fun _=>rfl) (fun _=>rfl) (fun h=>nomatch h) (dw [(0,Bl a0),(4,.own 256 0 1 (p26.map (eL 1 By))),(5,iV p27),(7,iV v62),(34,.bool (bif (!r64) then true else (decide ((wi (v62+4))>(a0.length:Int))))),(39,.may ((bif (!r64) then true else (decide ((wi (v62+4))>(a0.length:Int))))==false) (iV r70)),(40,.may ((bif (!r64) then true else (decide ((wi (v62+4))>(a0.length:Int))))==false) (Bl a0)),(41,.may ((bif (!r64) then true else (decide ((wi (v62+4))>(a0.length:Int))))==false) (iV v62)),(42,.may ((bif (!r64) then true else (decide ((wi (v62+4))>(a0.length:Int))))==false) (iV v62)),(43,.may ((bif (!r64) then true else (decide ((wi (v62+4))>(a0.length:Int))))==false) (iV (wi (v62+4)))),(44,.may ((bif (!r64) then true else (decide ((wi (v62+4))>(a0.length:Int))))==false) (Bl s68))] [] ⟨⟨.inl tv,Gg (v:=Bl s68) rfl (fun hg=>(Ha (e:=By) (y:=s68) rfl rfl (fun _=>hg) ⟨(fun _=>hg),(fun _=>hg),tv⟩ rfl rfl (ip hg e69))) rfl⟩,⟨.inl tv,Gg (v:=iV (wi (v62+4))) rfl (fun hg=>(Aq ⟨(fun _=>hg),tv,tv⟩ rfl tv)) rfl⟩,⟨.inl tv,Gg (v:=iV v62) rfl (fun hg=>(Ki (v:=iV v62) rfl tv)) rfl⟩,⟨.inl tv,Gg (v:=iV v62) rfl (fun hg=>(Ki (v:=iV v62) rfl tv)) rfl⟩,⟨.inl tv,Gg (v:=Bl a0) rfl (fun hg=>(Ki (v:=Bl a0) rfl tv)) rfl⟩,tv⟩ (Do (Lb (r:=iV r72) rfl false (fun hg=>H333 s68 r72 (ip hg e73)) ⟨(fun hg=>hg),tv⟩ (fun _=>rfl) (fun _=>rfl) (fun _=>rfl) (fun h=>nomatch h) (dw [(0,Bl a0),(4,.own 256 0 1 (p26.map (eL 1 By))),(5,iV p27),(7,iV v62),(34,.bool (bif (!r64) then true else (decide ((wi (v62+4))>(a0.length:Int))))),(39,.may ((bif (!r64) then true else (decide ((wi (v62+4))>(a0.length:Int))))==false) (iV r70)),(45,.may ((bif (!r64) then true else (decide ((wi (v62+4))>(a0.length:Int))))==false) (iV r72))] [] tv (Ao tv (Cx (u:=.bool (r70 != r72)) rfl (fun hg=>(Aq ⟨(fun _=>hg),(fun _=>hg),tv⟩ rfl tv)) (⟨tv,Ao tv (Ea rfl rfl rfl tv (fun h=>aX h) rfl (⟨tv,Jo (bv h1 fun v74 e75 h1=>At ⟨[(0,Bl a0),(4,.own 256 0 1 (p26.map (eL 1 By))),(5,iV p27),(7,iV v62),(47,.bool v74)],[],[]⟩ (Ar (by subst e75; kernel_rfl)) (Gi h1 (fun c76 h1=>?_) (fun c76 h1=>?_)))⟩))⟩))))) Ca))) Ca⟩))⟩))⟩))⟩))⟩))
   ·obtain rfl:=sj h1
    obtain rfl:=hx1 _ rfl
    refine In rfl ?_
    exact jn hE1 ⟨_,_,rfl,rfl⟩
   ·refine Ch 8 (Ac (bb h1 fun s77 e78 h1=>st (c_ (Ha (e:=By) (y:=s77) rfl rfl tv ⟨tv,tv,tv⟩ rfl rfl e78) (bb h1 fun r79 e80 h1=>Uw (H325 s77 r79 e80) (af rfl) (st (Ia ⟨tv,tv⟩ ⟨⟨nl rfl,rfl,rfl⟩,tv⟩ (gg h1 fun c81 h1=>st (Fx (e:=(eL 1 By)) (l0:=p26) (l1:=([r79]:List (List UInt8))) rfl rfl tv rfl (by decide) c81 (o_ (Bw 2 [(0,Bl a0),(4,.own 256 0 1 ((p26++([r79]:List (List UInt8))).map (eL 1 By))),(7,iV v62)] [] (Ch 5 ?_)))))))))))
    obtain rfl:=sj h1
    exact kn hK1 rfl rfl
  ·obtain rfl:=sj h1
   obtain rfl:=hx1 _ rfl
   refine In rfl ?_
   exact jn hE1 ⟨_,_,rfl,rfl⟩

/- loop.example/g00149/impl.isRoom -/
def FU:=[k_ 4 (.bool false)]
def FV:=[m_ 5 0,q_ 6 63 [.t 5,.c (iV 0),.c (iV 4096)],m_ 7 6,mT 7 8 0,mT 7 9 1,pT 7 10 (.bin .add (.t 8) (.t 9)),pT 7 11 (.bin .leq (.t 10) (.c (iV 4096))),pa 12 7 11,m_ 4 12]
def c327:Dl:=⟨2,13,[.t 4],sr FU (rr FV)⟩
def K327 (D:Az):Prop:=∀a0 a1 r,WY a0 a1=some r→D 327 ⟨[iV a0,iV a1],[]⟩ ⟨.bool r,[],[]⟩
theorem F327 (H63:K63 C):K327 (FO C c327):=by
 intro a0 a1 r h0
 refine f0 (Bw 3 [(0,iV a0),(1,iV a1)] [] (Ag (Ac (st (An rfl tv (bb h0 fun r1 e2 h0=>Ze (H63 a0 0 4096 r1 e2) (o_ (gn_ 8 (bv h0 fun v3 e4 h0=>At ⟨[(4,.bool v3)],[],[]⟩ (Ar (by subst e4; kernel_rfl)) ?_)))))))))
 obtain rfl:=sj h0
 exact Du (Bp rfl rfl rfl rfl rfl tv)

/- (loop.example/g00149/impl.Device).own -/
def JQ:=[X_ 1 0,a_ 2 [.own 129 0 1 [],.own 130 0 2 []]]
def JR:List Bg:=[f_ 6 1 0,l_ 7 6 1,q_ 8 325 [.t 7],⟨some 9,.p (.build [.own 577 0 1 [],.own 578 0 2 []] [(0,1,.t 8)]),none⟩,a_ 3 [.own 193 0 1 [],.own 194 0 2 []],s_ 3 9 2]
def JS:=[f_ 10 1 1,l_ 11 10 1,n_ 12 11,i_ 13 0]
def JT:=[b_ .lss 14 13 12]
def JU:=[x_ 15 11 13 2,L_ 16 15 2,a_ 5 [iV 0,.own 322 0 1 []],s_ 5 16 2]
def JV:=tk [f_ 17 3 1,l_ 18 17 1,f_ 19 5 0,l_ 20 19 1,f_ 21 5 1,l_ 22 21 1] (.alt [l_ 20 19 1,f_ 19 5 0,l_ 18 17 1,f_ 17 3 1] (q_ 23 325 [.t 22]) (tk [⟨some 24,.p (.build [iV 0,.own 1538 0 1 []] [(0,1,.t 20),(1,1,.t 23)]),none⟩] (.alt [l_ 18 17 1,f_ 17 3 1] ⟨some 25,.mkS 2 [iV 0,.lst 1 []] 1 [(0,.t 24)],none⟩ (.alt [] ⟨some 26,.app 2 32 (.t 18) (.t 25),none⟩ (tk [f_ 27 3 1] (.alt [] (s_ 27 26 1) .fin .stop)) .stop) .stop)) .stop)
def JW:=[B_ .add 28 13 1,m_ 13 28]
def JP:IR:=(sr JT (.seq (.ite (.t 14) .skip (.exit 0)) (.seq (.block 1 (sr JU (.draw JV))) (.reg JW))))
def JX:=[L_ 29 3 2,s_ 2 29 2]
def c366:Dl:=⟨1,30,[.cell 2 2 true],sr JQ (sr JR (.seq (sr JS (Jt 0 JP)) (rr JX)))⟩
def K366 (D:Az):Prop:=∀a0 r,XL a0=some r→D 366 ⟨[.agg (Ah a0)],[]⟩ ⟨.agg (Ak r (Bk 0) (Bk 33)),[],[]⟩
abbrev Km:=fun (r:List (Nat×List V))=>(128,[Ba 129 [],Ad 162 []])::r
abbrev Nf:=fun (r:List (Nat×V))=>(2,.ptr 128 0)::(3,.ptr 192 0)::r
theorem F366 (H325:kI C):K366 (FO C c366):=by
 intro a0 r h0
 refine f0 (rZ_ 4 [] [(130,162)] [(1,.ptr 64 0),(2,.ptr 128 0)] (Km [(64,Ah a0)]) (Ch 3 (Ac (bb h0 fun r1 e2 h0=>Uw (H325 a0.held r1 e2) (af rfl) (st (c_ (v:=.agg [Ba 512 r1,Ad 578 []]) (Aq ⟨tv,tv⟩ rfl ⟨⟨rfl,rfl,nl rfl⟩,tv⟩) (sw ⟨[(1,.ptr 64 0),(2,.ptr 128 0),(9,.agg [Ba 512 r1,Ad 610 []])],Km [(64,Ah a0)],[]⟩ (Jp [] [(578,610)] rfl (by kernel_rfl)) (Eb (sw ⟨Nf [(1,.ptr 64 0),(9,.agg [Ba 512 r1,Ad 610 []])],Km [(64,Ah a0),(192,[Ba 193 [],Ad 226 []])],[]⟩ (Jp [] [(194,226)] rfl (by kernel_rfl)) (Ej rfl rfl tv rfl rfl rfl (nl rfl) (o_ (Bw 1 (Nf [(1,.ptr 64 0)]) (Km [(64,Ah a0),(192,[Ba 512 r1,Ad 610 []])]) (Ch 4 (Ac (Lp rfl (o_ (Bw 2 (Nf [(11,Av a0.Aj),(12,iV (a0.Aj.length:Int)),(13,iV 0)]) (Km [(192,[Ba 512 r1,Ad 610 []])]) (Be (bb h0 fun r26 e27 h0=>Cs (R:=(fun S=>∃p19:List Ae,p19=r26∧S=⟨Nf [],Km [(192,[Ba 512 r1,Ad 610 p19])],[]⟩)) (Oh a0) (fun s S=>match s with | (p9,p10)=>S=⟨Nf [(11,Av a0.Aj),(12,iV (a0.Aj.length:Int)),(13,iV p9)],Km [(192,[Ba 512 r1,Ad 610 p10])],[]⟩) e27 _ (Ar (by kernel_rfl)) rfl 0 (fun _=>rfl) ?_ ?_)))))))))))))))))))
 ·rintro S _ hfg ⟨p19,rfl,rfl⟩
  refine At _ hfg ?_
  obtain rfl:=sj h0
  exact Gs 5
 ·rintro ⟨p9,p10⟩ o1 _ K1 rfl h1 hx1 hK1 hE1 hR1
  refine Bw 3 (Nf [(11,Av a0.Aj),(12,iV (a0.Aj.length:Int)),(13,iV p9),(14,.bool (decide (p9<(a0.Aj.length:Int))))]) (Km [(192,[Ba 512 r1,Ad 610 p10])]) (Ag (Gi h1 (fun c20 h1=>?_) (fun c20 h1=>?_)))
  ·refine mA 5 (Ac (bb h1 fun y21 e22 h1=>gQ rfl rfl e22 (o_ (Bw 4 (Nf [(5,.ptr 320 0),(11,Av a0.Aj),(12,iV (a0.Aj.length:Int)),(13,iV p9)]) (Km [(192,[Ba 512 r1,Ad 610 p10]),(320,Ax y21)]) (bb h1 fun r23 e24 h1=>gg h1 fun c25 h1=>Ch 6 (Dj (dc_ (H325 y21.data r23 e24) (af rfl) (dw [(2,.ptr 128 0),(3,.ptr 192 0),(5,.ptr 320 0),(11,Av a0.Aj),(12,iV (a0.Aj.length:Int)),(13,iV p9),(17,.ptr 192 1),(18,Ad 610 p10),(19,.ptr 320 0),(20,iV y21.at_),(23,Ba 1472 r23)] [(128,[Ba 129 [],Ad 162 []]),(192,[Ba 512 r1,Ad 610 p10]),(320,Ax y21)] hB (Ao tv (c_ (v:=.agg [iV y21.at_,Ba 1472 r23]) (Aq ⟨tv,tv,tv⟩ rfl ⟨⟨rfl,rfl,nl rfl⟩,⟨rfl,rfl,nl rfl⟩,tv⟩) (⟨tv,Do (mkD_ rfl tv rfl rfl (Cd jS (Cd (jP (fun _=>rfl)) rfl)) rfl (dw [(2,.ptr 128 0),(3,.ptr 192 0),(11,Av a0.Aj),(12,iV (a0.Aj.length:Int)),(13,iV p9),(17,.ptr 192 1),(18,Ad 610 p10),(25,Ad 1632 ([Ae.mk y21.at_ r23]:List Ae))] [(128,[Ba 129 [],Ad 162 []]),(192,[Ba 512 r1,Ad 610 p10])] hB (Do (ZW (e:=Ax) (l0:=p10) (l1:=([Ae.mk y21.at_ r23]:List Ae)) rfl rfl (by decide) (by decide) (by decide) c25 (d0 tv (Ao tv (c_ (Aq ⟨tv,tv⟩ rfl tv) (⟨tv,Do (Ej rfl rfl tv rfl rfl rfl (nl rfl) (d0 tv (d_ (Bw 2 (Nf [(11,Av a0.Aj),(12,iV (a0.Aj.length:Int)),(13,iV p9)]) (Km [(192,[Ba 512 r1,Ad 610 (p10++([Ae.mk y21.at_ r23]:List Ae))])]) (Ch 2 (Ac ?_)))))) Ca⟩))))) Ca))) Ca⟩)))) Ca)))))))
   refine Aw ?_
   obtain rfl:=sj h1
   exact kn hK1 rfl rfl
  ·obtain rfl:=sj h1
   obtain rfl:=hx1 _ rfl
   refine In rfl ?_
   exact jn hE1 ⟨_,rfl,rfl⟩

/- (loop.example/g00149/impl.Device).write -/
def FX:=[X_ 3 0,a_ 6 [.own 385 0 1 [],.own 386 0 2 []]]
def FY:=[L_ 13 3 2,q_ 14 366 [.t 13],a_ 7 [.own 449 0 1 [],.own 450 0 2 []],s_ 7 14 2]
def FZ:=[m_ 15 2,n_ 16 15,B_ .eql 17 16 0]
def GA:=[L_ 18 7 2,s_ 6 18 2]
def GB:=[L_ 19 3 2,q_ 20 263 [.t 19],m_ 8 20]
def GC:=[m_ 21 1,m_ 22 2,n_ 23 22,b_ .add 24 21 23,m_ 9 24]
def GD:=[m_ 25 9,B_ .sub 26 25 1,B_ .quo 27 26 32,m_ 10 27]
def GE:List Bg:=[m_ 28 10,B_ .add 29 28 1,⟨some 30,.p (.bin .mul (.c (iV 32)) (.t 29)),none⟩,m_ 11 30]
def GF:=[m_ 31 8,n_ 32 31,m_ 33 11,b_ .lss 34 32 33]
def GG:List Bg:=[m_ 35 8,m_ 36 11,m_ 37 8,n_ 38 37,b_ .sub 39 36 38,⟨some 40,.appz 1 1 [.int .u8 0] (.t 35) (.t 39),none⟩,m_ 8 40]
def nU:List Bg:=[m_ 41 8,m_ 42 1,⟨some 43,.p (.slice (.t 41) (some (.t 42)) none 1),none⟩,m_ 44 2,⟨some 45,.copy 1 (.t 43) (.t 44),none⟩]
def nV:=[m_ 46 1,B_ .quo 47 46 32,m_ 12 47]
def nW:=[m_ 48 12,m_ 49 10,b_ .leq 50 48 49]
def nX:=tk [f_ 53 7 1,l_ 54 53 1,m_ 55 12,m_ 56 8,m_ 57 12,⟨some 58,.p (.bin .mul (.c (iV 32)) (.t 57)),none⟩,m_ 59 12,B_ .add 60 59 1,⟨some 61,.p (.bin .mul (.c (iV 32)) (.t 60)),none⟩,⟨some 62,.p (.slice (.t 56) (some (.t 58)) (some (.t 61)) 1),none⟩] (.alt [m_ 55 12,l_ 54 53 1,f_ 53 7 1] (q_ 63 325 [.t 62]) (tk [⟨some 64,.p (.build [iV 0,.own 4098 0 1 []] [(0,1,.t 55),(1,1,.t 63)]),none⟩] (.alt [l_ 54 53 1,f_ 53 7 1] ⟨some 65,.mkS 2 [iV 0,.lst 1 []] 1 [(0,.t 64)],none⟩ (.alt [] ⟨some 66,.app 2 32 (.t 54) (.t 65),none⟩ (tk [f_ 67 7 1] (.alt [] (s_ 67 66 1) .fin .stop)) .stop) .stop)) .stop)
def nY:=[m_ 51 12,B_ .add 52 51 1,m_ 12 52]
def FW:IR:=(.seq (sr nW (.ite (.t 50) .skip (.exit 0))) (.seq (.block 1 (.draw nX)) (.reg nY)))
def nZ:=[L_ 68 7 2,s_ 6 68 2]
def c328:Dl:=⟨3,69,[.cell 6 2 true],sr FX (sr FY (.seq (sr FZ (iz 17 (rr GA))) (sr GB (sr GC (sr GD (.seq (sr GE (sr GF (iz 34 (.reg GG)))) (sr nU (.seq (sr nV (Jt 0 FW)) (rr nZ)))))))))⟩
def K328 (D:Az):Prop:=∀a0 a1 a2 r,WZ a0 a1 a2=some r→D 328 ⟨[.agg (Ah a0),iV a1,Bl a2],[]⟩ ⟨.agg (Ak r (Bk 0) (Bk 33)),[],[]⟩
abbrev Ln:=fun x0 (r:List (Nat×List V))=>(384,[Ba 385 [],Ad 418 []])::(448,Ak x0 (Bk 896) (Bk 929))::r
abbrev Lo:=fun x0 x1 (r:List (Nat×V))=>(1,iV x0)::(2,Bl x1)::(6,.ptr 384 0)::(7,.ptr 448 0)::r
abbrev Td:=fun (r:List (Nat×List V))=>(384,[Ba 385 [],Ad 418 []])::r
abbrev bK:=fun x0 (r:List (Nat×V))=>(6,.ptr 384 0)::(7,.ptr 448 0)::(10,iV x0)::r
theorem F328 (H263:kH C) (H325:kI C) (H366:K366 C):K328 (FO C c328):=by
 intro a0 a1 a2 r h0
 refine f0 (rZ_ 4 [] [(386,418)] [(1,iV a1),(2,Bl a2),(3,.ptr 192 0),(6,.ptr 384 0)] (Td [(192,Ah a0)]) (Ch 2 (Ac (bb h0 fun r1 e2 h0=>Uw (H366 a0 r1 e2) (af (Cd (Wj rfl) rfl)) (st (Eb (sw ⟨Lo a1 a2 [(3,.ptr 192 0),(14,.agg (Ak r1 (Bk 896) (Bk 929)))],Td [(192,Ah a0),(448,[Ba 449 [],Ad 482 []])],[]⟩ (Jp [] [(450,482)] rfl (by kernel_rfl)) (Ej rfl rfl tv rfl rfl rfl (nl rfl) (o_ (Bw 1 (Lo a1 a2 [(3,.ptr 192 0)]) (Ln r1 [(192,Ah a0)]) (Ch 3 (Ac (Lp rfl (o_ (Bw 2 (Lo a1 a2 [(3,.ptr 192 0),(17,.bool ((a2.length:Int)==0))]) (Ln r1 [(192,Ah a0)]) (Gi h0 (fun c3 h0=>?_) (fun c3 h0=>?_)))))))))))))))))
 ·obtain rfl:=sj h0
  exact Gs 5
 ·refine Ch 4 (Ac (bb h0 fun r4 e5 h0=>Uw (H263 a0 r4 e5) (af rfl) (o_ (Bw 2 (Lo a1 a2 [(8,Ba 1280 r4)]) (Ln r1 []) (Ch 3 (Ac (Lp rfl (o_ (Bw 3 (Lo a1 a2 [(8,Ba 1280 r4),(9,iV (wi (a1+(a2.length:Int))))]) (Ln r1 []) (Ch 3 (Ac (st (c_ (Aq ⟨tv,tv,tv⟩ rfl (by decide)) (st (An rfl tv (Aw (bv h0 fun v6 e7 h0=>At ⟨Lo a1 a2 [(8,Ba 1280 r4),(10,iV v6)],Ln r1 [],[]⟩ (Ar (by subst e7; kernel_rfl)) (Bw 7 (Lo a1 a2 [(8,Ba 1280 r4),(10,iV v6),(11,iV (wi (32*(wi (v6+1)))))]) (Ln r1 []) (Ag (Ac (st (An rfl tv (tO rfl (o_ (Ch 3 (bv h0 fun v8 e9 h0=>At ⟨Lo a1 a2 [(8,Ba 1280 r4),(10,iV v6),(11,iV (wi (32*(wi (v6+1))))),(34,.bool v8)],Ln r1 [],[]⟩ (Ar (by subst e9; kernel_rfl)) (dG (cb:=v8) (fun S=>∃p13:List UInt8,S=⟨Lo a1 a2 [(8,Ba 1280 p13),(10,iV v6)],Ln r1 [],[]⟩∧Qz a1 a2 r1 v6 p13=some r) rfl ?_ (fun c44 J43=>?_) (fun c44 J43=>?_))))))))))))))))))))))))))))
  ·rintro _ ⟨p13,rfl,h0⟩
   refine Ch 4 (Ac (bb h0 fun s14 e15 h0=>st (c_ (Dk (e:=By) (y:=s14) rfl rfl tv ⟨tv,tv⟩ rfl rfl e15) (st (An rfl tv (st (copy_ (e:=By) (l1:=a2) rfl rfl tv rfl (Aw (At ⟨[(1,iV a1),(6,.ptr 384 0),(7,.ptr 448 0),(8,Ba 1280 (ovl p13 a1.toNat (a2.take s14.length))),(10,iV v6)],[(384,[Ba 385 [],Ad 418 []]),(448,Ak r1 (Bk 896) (Bk 929))],[]⟩ (fg ⟨rfl,rfl,rfl,congrArg (fun z=>some ((.own 1280 0 1 z:V))) Em,rfl,tv⟩ ⟨rfl,rfl,tv⟩) (Ch 3 (Ac (st (c_ (Aq ⟨tv,tv,tv⟩ rfl (by decide)) (o_ (Bw 2 (bK v6 [(8,Ba 1280 (ovl p13 a1.toNat (a2.take s14.length))),(12,iV (wi ((a1).tdiv 32)))]) (Ln r1 []) (Be (bb h0 fun r41 e42 h0=>Cs (R:=(fun S=>∃p34:List Ae,p34=r41∧S=⟨[(6,.ptr 384 0),(7,.ptr 448 0)],Td [(448,[Ba 896 r1.held,Ad 929 p34])],[]⟩)) (Ra a1 a2 v6 p13 s14) (fun s S=>match s with | (p24,p25)=>S=⟨bK v6 [(8,Ba 1280 (ovl p13 a1.toNat (a2.take s14.length))),(12,iV p24)],Td [(448,[Ba 896 r1.held,Ad 929 p25])],[]⟩) e42 _ (Ar (by kernel_rfl)) rfl 0 (fun _=>rfl) ?_ ?_)))))))))))))))))
   ·rintro S _ hfg ⟨p34,rfl,rfl⟩
    refine At _ hfg ?_
    obtain rfl:=sj h0
    exact Gs 5
   ·rintro ⟨p24,p25⟩ o1 _ K1 rfl h1 hx1 hK1 hE1 hR1
    refine Bw 6 (bK v6 [(8,Ba 1280 (ovl p13 a1.toNat (a2.take s14.length))),(12,iV p24),(50,.bool (decide (p24≤v6)))]) (Td [(448,[Ba 896 r1.held,Ad 929 p25])]) (Gi h1 (fun c35 h1=>?_) (fun c35 h1=>?_))
    ·refine mA 4 (bb h1 fun s36 e37 h1=>bb h1 fun r38 e39 h1=>gg h1 fun c40 h1=>Ch 9 (Dj (Ao tv (c_ (Dk (e:=By) (y:=s36) rfl rfl tv ⟨tv,tv,tv⟩ rfl rfl e37) (⟨tv,dc_ (H325 s36 r38 e39) (af rfl) (dw [(6,.ptr 384 0),(7,.ptr 448 0),(8,Ba 1280 (ovl p13 a1.toNat (a2.take s14.length))),(10,iV v6),(12,iV p24),(53,.ptr 448 1),(54,Ad 929 p25),(55,iV p24),(63,Ba 4032 r38)] [(384,[Ba 385 [],Ad 418 []]),(448,[Ba 896 r1.held,Ad 929 p25])] hB (Ao tv (c_ (v:=.agg [iV p24,Ba 4032 r38]) (Aq ⟨tv,tv,tv⟩ rfl ⟨⟨rfl,rfl,nl rfl⟩,⟨rfl,rfl,nl rfl⟩,tv⟩) (⟨tv,Do (mkD_ rfl tv rfl rfl (Cd jS (Cd (jP (fun _=>rfl)) rfl)) rfl (dw [(6,.ptr 384 0),(7,.ptr 448 0),(8,Ba 1280 (ovl p13 a1.toNat (a2.take s14.length))),(10,iV v6),(12,iV p24),(53,.ptr 448 1),(54,Ad 929 p25),(65,Ad 4192 ([Ae.mk p24 r38]:List Ae))] [(384,[Ba 385 [],Ad 418 []]),(448,[Ba 896 r1.held,Ad 929 p25])] hB (Do (ZW (e:=Ax) (l0:=p25) (l1:=([Ae.mk p24 r38]:List Ae)) rfl rfl (by decide) (by decide) (by decide) c40 (d0 tv (Ao tv (c_ (Aq ⟨tv,tv⟩ rfl tv) (⟨tv,?_⟩))))) Ca))) Ca⟩)))) Ca⟩)))))
     refine Do (Ej rfl rfl tv rfl rfl rfl (nl rfl) (d0 tv (d_ (Bw 2 (bK v6 [(8,Ba 1280 (ovl p13 a1.toNat (a2.take s14.length))),(12,iV p24)]) (Td [(448,[Ba 896 r1.held,Ad 929 (p25++([Ae.mk p24 r38]:List Ae))])]) (Ch 4 ?_))))) Ca
     obtain rfl:=sj h1
     exact kn hK1 rfl rfl
    ·obtain rfl:=sj h1
     obtain rfl:=hx1 _ rfl
     refine In rfl ?_
     exact jn hE1 ⟨_,rfl,rfl⟩
  ·replace h0:=ip c44 h0
   refine Ch 3 (Ac (tO rfl (st (c_ (Aq t3 rfl tv) (gg h0 fun c45 h0=>gg h0 fun c46 h0=>st (nJ (e:=By) (l0:=r4) (0:UInt8) rfl rfl rfl (by decide) c45 c46 (st (An rfl tv (Aw ?_)))))))))
   exact jn J43 ⟨_,rfl,h0⟩
  ·replace h0:=Fi c44 h0
   refine En ?_
   exact jn J43 ⟨_,rfl,h0⟩

/- (loop.example/g00149/impl.Device).appended -/
def zW:=[X_ 2 0,a_ 4 [.own 257 0 1 [],.own 258 0 2 []],i_ 5 0]
def zX:=[m_ 9 1,n_ 10 9,B_ .gtr 11 10 2000]
def zY:=[iQ 12 (.build [.own 769 0 1 [],.own 770 0 2 []] []),s_ 4 12 2,i_ 5 4]
def zZ:=[L_ 14 2 2,q_ 15 263 [.t 14],q_ 16 275 [.t 15],m_ 13 16,e_ 17 13 0,e_ 18 13 1,m_ 6 17,m_ 7 18]
def AA:=[m_ 19 1,q_ 20 274 [.t 19],m_ 8 20]
def AB:=[m_ 21 7,m_ 22 8,n_ 23 22,q_ 24 327 [.t 21,.t 23],N_ 25 24]
def AC:=[iQ 26 (.build [.own 1665 0 1 [],.own 1666 0 2 []] []),s_ 4 26 2,i_ 5 9]
def AD:=[L_ 27 2 2,m_ 28 7,m_ 29 8,q_ 30 328 [.t 27,.t 28,.t 29],q_ 31 267 [.t 30],s_ 4 31 2,i_ 5 0]
def c273:Dl:=⟨2,32,[.cell 4 2 true,.t 5],sr zW (.seq (sr zX (iz 11 (rr zY))) (sr zZ (sr AA (.seq (sr AB (iz 25 (rr AC))) (rr AD)))))⟩
def K273 (D:Az):Prop:=∀a0 a1 r,lE a0 a1=some r→D 273 ⟨[.agg (Ah a0),Bl a1],[]⟩ ⟨.tup [.agg (Ak r.1 (Bk 0) (Bk 33)),iV r.2],[],[]⟩
abbrev Tb:=fun x0 (r:List (Nat×List V))=>(128,Ah x0)::(256,[Ba 257 [],Ad 290 []])::r
abbrev Tc:=fun (r:List (Nat×V))=>(2,.ptr 128 0)::(4,.ptr 256 0)::r
theorem F273 (H263:kH C) (H267:K267 C) (H274:K274 C) (H275:vY C) (H327:K327 C) (H328:K328 C):K273 (FO C c273):=by
 intro a0 a1 r h0
 refine f0 (Ch 3 (Ac (sw ⟨Tc [(1,Bl a1)],Tb a0 [],[]⟩ (Jp [] [(258,290)] rfl (by kernel_rfl)) (Bn tv (o_ (Bw 1 (Tc [(1,Bl a1)]) (Tb a0 []) (Ch 3 (Ac (Lp rfl (o_ (Bw 2 (Tc [(1,Bl a1),(11,.bool (decide ((a1.length:Int)>2000)))]) (Tb a0 []) (Gi h0 (fun c1 h0=>?_) (fun c1 h0=>?_)))))))))))))
 ·refine Ch 2 (Ac (sw ⟨[(4,.ptr 256 0),(12,.agg [Ba 769 [],Ad 802 []])],[(256,[Ba 257 [],Ad 290 []])],[]⟩ (Jp [] [(770,802)] rfl (by kernel_rfl)) (Ej rfl rfl tv rfl rfl rfl (nl rfl) (o_ (Bw 2 [(4,.ptr 256 0),(5,iV 4)] [(256,[Ba 769 [],Ad 802 []])] ?_)))))
  obtain rfl:=sj h0
  exact Du (Bp rfl rfl rfl rfl rfl tv)
 ·refine Ch 4 (Ac (bb h0 fun r2 e3 h0=>Uw (H263 a0 r2 e3) (af rfl) (bb h0 fun r4 e5 h0=>st (Bb (r:=.tup [.own 0 0 1 (r4.1.map (eL 1 By)),iV r4.2]) true (H275 r2 r4 e5) ⟨tv,tv⟩ rfl rfl (fun h=>nomatch h) (o_ (Bw 6 (Tc [(1,Bl a1),(7,iV r4.2)]) (Tb a0 []) (Ag (Ac (st (An rfl tv (bb h0 fun r6 e7 h0=>Uw (H274 a1 r6 e7) (af rfl) (o_ (Bw 2 (Tc [(7,iV r4.2),(8,Ba 1280 r6)]) (Tb a0 []) (Ch 4 (Ac (tO rfl (bb h0 fun r8 e9 h0=>Ze (H327 r4.2 (r6.length:Int) r8 e9) (o_ (Bw 2 (Tc [(7,iV r4.2),(8,Ba 1280 r6),(25,.bool (!r8))]) (Tb a0 []) (Gi h0 (fun c10 h0=>?_) (fun c10 h0=>?_)))))))))))))))))))))
  ·refine Ch 2 (Ac (sw ⟨[(4,.ptr 256 0),(26,.agg [Ba 1665 [],Ad 1698 []])],[(256,[Ba 257 [],Ad 290 []])],[]⟩ (Jp [] [(1666,1698)] rfl (by kernel_rfl)) (Ej rfl rfl tv rfl rfl rfl (nl rfl) (o_ (Bw 2 [(4,.ptr 256 0),(5,iV 9)] [(256,[Ba 1665 [],Ad 1698 []])] ?_)))))
   obtain rfl:=sj h0
   exact Du (Bp rfl rfl rfl rfl rfl tv)
  ·refine Ch 6 (Ac (bb h0 fun r11 e12 h0=>Uw (H328 a0 r4.2 r6 r11 e12) (af (Cd (Wj rfl) rfl)) (bb h0 fun r13 e14 h0=>Uw (H267 r11 r13 e14) (af (Cd (Wj rfl) rfl)) (o_ ?_))))
   obtain rfl:=sj h0
   exact Gs 4

/- loop.example/g00149/impl.isList[loop.example/g00149/impl.Change] -/
def NI:=[k_ 2 (.bool false)]
def NJ:=[m_ 3 0,n_ 4 3,B_ .leq 5 4 4096,m_ 2 5]
def c393:Dl:=⟨1,6,[.t 2],sr NI (rr NJ)⟩
def K393 (D:Az):Prop:=∀a0 r,g393 a0=some r→D 393 ⟨[Aa a0],[]⟩ ⟨.bool r,[],[]⟩
theorem F393:K393 (FO C c393):=by
 intro a0 r h0
 refine f0 (Ag (Ac (st (Bn tv (Aw (At ⟨[(0,Aa a0)],[],[]⟩ (Ar (by kernel_rfl)) (Ag (Ac (st (An rfl tv (st (c_ (Dv (e:=Af) (l0:=a0) rfl rfl tv) (st (c_ (Aq t3 rfl tv) (st (An rfl tv (Aw (At ⟨[(2,.bool (decide ((a0.length:Int)≤4096)))],[],[]⟩ (Ar (by kernel_rfl)) ?_))))))))))))))))))
 obtain rfl:=sj h0
 exact Du (Bp rfl rfl rfl rfl rfl tv)

/- slices.IndexFunc[[]loop.example/g00149/impl.Change,loop.example/g00149/impl.Change] -/
def VF:=[i_ 4 0]
def VG:=[m_ 6 0,n_ 7 6,i_ 8 0]
def VH:=[b_ .lss 9 8 7]
def VI:=[m_ 10 8,m_ 5 10]
def VJ:List Bg:=[m_ 11 1,m_ 12 0,m_ 13 5,x_ 14 12 13 3,L_ 15 14 3,⟨some 16,.callv (.t 11) [.t 15],none⟩]
def VK:=[m_ 17 5,m_ 4 17]
def VL:=[B_ .add 18 8 1,m_ 8 18]
def VE:IR:=(sr VH (.seq (.ite (.t 9) .skip (.exit 0)) (.seq (.block 1 (sr VI (sr VJ (iz 16 (rr VK))))) (.reg VL))))
def VM:=[i_ 4 (-1)]
def c429:Dl:=⟨2,19,[.t 4],sr VF (.seq (sr VG (Jt 0 VE)) (rr VM))⟩
def K429 (C:Az) (D:Az:=C):Prop:=∀(a0:List Ab) (f1:Nat) (k1:List V) (is1:Ab→Option Bool) (hs1:Vs k1) (hf1:∀(x0:Ab) r,is1 x0=some r→C f1 ⟨.agg (Af x0)::k1,[]⟩ ⟨.bool r,[],[]⟩) (r:Int),g429 a0 is1=some r→D 429 ⟨[Aa a0,.clo f1 k1],[]⟩ ⟨iV r,[],[]⟩
theorem F429:K429 C (FO C c429):=by
 intro a0 f1 k1 is1 hs1 hf1 r h0
 refine f0 (Ag (Ac (st (Bn tv (Aw (At ⟨[(0,Aa a0),(1,.clo f1 k1)],[],[]⟩ (fg ⟨rfl,rfl,tv⟩ tv) (Ag (Ag (Ac (st (An rfl tv (st (c_ (Dv (e:=Af) (l0:=a0) rfl rfl tv) (st (Bn tv (Aw (At ⟨[(0,Aa a0),(1,.clo f1 k1),(7,iV (a0.length:Int)),(8,iV 0)],[],[]⟩ (fg ⟨rfl,rfl,rfl,rfl,tv⟩ tv) (Be ?_))))))))))))))))))
 obtain ⟨r21,e22,h0⟩:=bnd h0
 refine Cs (R:=(fun S=>.inl ()=r21∧S=⟨[],[],[]⟩)) (jA a0 is1) (fun s S=>match s with | p7=>S=⟨[(0,Aa a0),(1,.clo f1 k1),(7,iV (a0.length:Int)),(8,iV p7)],[],[]⟩) e22 ⟨[(0,Aa a0),(1,.clo f1 k1),(7,iV (a0.length:Int)),(8,iV 0)],[],[]⟩ (fg ⟨rfl,rfl,rfl,rfl,tv⟩ tv) rfl 0 (fun _=>rfl) ?_ ?_
 ·rintro S _ hfg ⟨rfl,rfl⟩
  refine At ⟨[],[],[]⟩ (Oz hfg (by kernel_rfl)) (Ag (Ac (st (Bn tv (Aw (At ⟨[(4,iV (-1))],[],[]⟩ (Ar (by kernel_rfl)) ?_))))))
  obtain rfl:=sj h0
  exact Du (Bp rfl rfl rfl rfl rfl tv)
 ·rintro p7 o1 _ K1 rfl h1 hx1 hK1 hE1 hR1
  refine Ag (Ac (st (c_ (Aq t3 rfl tv) (Aw (At ⟨[(0,Aa a0),(1,.clo f1 k1),(7,iV (a0.length:Int)),(8,iV p7),(9,.bool (decide (p7<(a0.length:Int))))],[],[]⟩ (fg ⟨rfl,rfl,rfl,rfl,rfl,tv⟩ tv) (Ag (Cj (cb:=(decide (p7<(a0.length:Int)))) rfl (fun c15=>?_) (fun c15=>?_))))))))
  ·replace h1:=ip c15 h1
   refine En (At ⟨[(0,Aa a0),(1,.clo f1 k1),(7,iV (a0.length:Int)),(8,iV p7)],[],[]⟩ (fg ⟨rfl,rfl,rfl,rfl,tv⟩ tv) (Ag (Be (Ag (Ac (st (An rfl tv (st (An rfl tv (Aw (At ⟨[(0,Aa a0),(1,.clo f1 k1),(5,iV p7),(7,iV (a0.length:Int)),(8,iV p7)],[],[]⟩ (fg ⟨rfl,rfl,rfl,rfl,rfl,tv⟩ tv) (Ag (Ac (st (An rfl tv (st (An rfl tv (st (An rfl tv ?_)))))))))))))))))))
   obtain ⟨y16,e17,h1⟩:=bnd h1
   refine st (c_ (Hi (e:=Af) (y:=y16) rfl rfl tv rfl rfl tv e17) (st (c_ (v:=.agg (Af y16)) (Aq ⟨tv,tv⟩ rfl (nl rfl)) ?_)))
   obtain ⟨r18,e19,h1⟩:=bnd h1
   refine st (Ql (r:=.bool r18) rfl false (hf1 _ r18 e19) ⟨tv,tv⟩ (Cd rfl hs1.2.2.1) (Ig rfl (hs1.2.1 _ _ _ _ _)) (fun _=>rfl) (Aw (At ⟨[(0,Aa a0),(1,.clo f1 k1),(5,iV p7),(7,iV (a0.length:Int)),(8,iV p7),(16,.bool r18)],[],[]⟩ (fg ⟨rfl,rfl,rfl,rfl,rfl,rfl,tv⟩ tv) (Cj (cb:=r18) rfl (fun c20=>?_) (fun c20=>?_)))))
   ·replace h1:=ip c20 h1
    refine Ag (Ac (st (An rfl tv (st (An rfl tv (Aw (At ⟨[(4,iV p7)],[],[]⟩ (Ar (by kernel_rfl)) ?_)))))))
    obtain rfl:=sj h1
    obtain rfl:=hx1 _ rfl
    obtain rfl:=sj h0
    exact Du (hR1 _ (Bp rfl rfl rfl rfl rfl tv))
   ·replace h1:=Fi c20 h1
    refine En (Qc (At ⟨[(0,Aa a0),(1,.clo f1 k1),(7,iV (a0.length:Int)),(8,iV p7)],[],[]⟩ (fg ⟨rfl,rfl,rfl,rfl,tv⟩ tv) (Ac (st (c_ (Aq t3 rfl tv) (st (An rfl tv (Aw ?_))))))))
    obtain rfl:=sj h1
    exact hK1 _ rfl _ ⟨[(0,Aa a0),(1,.clo f1 k1),(7,iV (a0.length:Int)),(8,iV (wi (p7+1)))],[],[]⟩ (fg ⟨rfl,rfl,rfl,rfl,tv⟩ tv) rfl
  ·replace h1:=Fi c15 h1
   obtain rfl:=sj h1
   obtain rfl:=hx1 _ rfl
   refine In rfl ?_
   exact hE1 _ ⟨[],[],[]⟩ (Ar (by kernel_rfl)) ⟨rfl,rfl⟩

/- slices.ContainsFunc[[]loop.example/g00149/impl.Change,loop.example/g00149/impl.Change] -/
def UU:=[k_ 4 (.bool false)]
def UV:=[m_ 5 0,m_ 6 1,q_ 7 429 [.t 5,.t 6],B_ .geq 8 7 0,m_ 4 8]
def c424:Dl:=⟨2,9,[.t 4],sr UU (rr UV)⟩
def K424 (C:Az) (D:Az:=C):Prop:=∀(a0:List Ab) (f1:Nat) (k1:List V) (is1:Ab→Option Bool) (hs1:Vs k1) (hf1:∀(x0:Ab) r,is1 x0=some r→C f1 ⟨.agg (Af x0)::k1,[]⟩ ⟨.bool r,[],[]⟩) (r:Bool),YK a0 is1=some r→D 424 ⟨[Aa a0,.clo f1 k1],[]⟩ ⟨.bool r,[],[]⟩
theorem F424 (H429:K429 C):K424 C (FO C c424):=by
 intro a0 f1 k1 is1 hs1 hf1 r h0
 refine f0 (Ag (Ac (st (Bn tv (Aw (At ⟨[(0,Aa a0),(1,.clo f1 k1)],[],[]⟩ (fg ⟨rfl,rfl,tv⟩ tv) (Ag (Ac (st (An rfl tv (st (An rfl tv ?_))))))))))))
 obtain ⟨r1,e2,h0⟩:=bnd h0
 refine st (Bb (r:=iV r1) false (H429 a0 f1 k1 is1 hs1 hf1 r1 e2) ⟨tv,tv,tv⟩ rfl (Ig rfl (Ig (rP hs1) rfl)) (fun _=>rfl) (st (c_ (Aq t3 rfl tv) (st (An rfl tv (Aw (At ⟨[(4,.bool (decide (r1≥0)))],[],[]⟩ (Ar (by kernel_rfl)) ?_)))))))
 obtain rfl:=sj h0
 exact Du (Bp rfl rfl rfl rfl rfl tv)

/- loop.example/g00149/impl.areAll[loop.example/g00149/impl.Change]$1 -/
def UW:=[X_ 2 0,k_ 3 (.bool false)]
def UX:List Bg:=[l_ 4 1 1,L_ 5 2 3,⟨some 6,.callv (.t 4) [.t 5],none⟩,N_ 7 6,m_ 3 7]
def c425:Dl:=⟨2,8,[.t 3],sr UW (rr UX)⟩
def K425 (C:Az) (D:Az:=C):Prop:=∀(a0:Ab) (f1:Nat) (k1:List V) (is1:Ab→Option Bool) (hs1:Vs k1) (hf1:∀(x0:Ab) r,is1 x0=some r→C f1 ⟨.agg (Af x0)::k1,[]⟩ ⟨.bool r,[],[]⟩) (r:Bool),YM a0 is1=some r→D 425 ⟨[.agg (Af a0),.iptr [.clo f1 k1]],[]⟩ ⟨.bool r,[],[]⟩
theorem F425:K425 C (FO C c425):=by
 intro a0 f1 k1 is1 hs1 hf1 r h0
 refine f0 (Ag (Ac (st (Mk rfl tv rfl (sw ⟨[(1,.iptr [.clo f1 k1]),(2,.ptr 128 0)],[(128,Af a0)],[]⟩ (fg ⟨rfl,rfl,tv⟩ ⟨rfl,tv⟩) (Bn tv (Aw (At ⟨[(1,.iptr [.clo f1 k1]),(2,.ptr 128 0)],[(128,Af a0)],[]⟩ (fg ⟨rfl,rfl,tv⟩ ⟨rfl,tv⟩) (Ag (Ac (st (c_ (Aq ⟨tv,tv⟩ rfl (nl rfl)) (st (c_ (v:=.agg (Af a0)) (Aq ⟨tv,tv⟩ rfl (nl rfl)) ?_))))))))))))))
 obtain ⟨r1,e2,h0⟩:=bnd h0
 refine st (Ql (r:=.bool r1) rfl false (hf1 _ r1 e2) ⟨tv,tv⟩ (Cd rfl hs1.2.2.1) (Ig rfl (hs1.2.1 _ _ _ _ _)) (fun _=>rfl) (st (c_ (Aq ⟨tv,tv⟩ rfl tv) (st (An rfl tv (Aw (At ⟨[(3,.bool (!r1))],[],[]⟩ (Ar (by kernel_rfl)) ?_)))))))
 obtain rfl:=sj h0
 exact Du (Bp rfl rfl rfl rfl rfl tv)

/- loop.example/g00149/impl.areAll[loop.example/g00149/impl.Change] -/
def SO:=[X_ 3 1,k_ 4 (.bool false)]
def SP:=[m_ 5 0,iQ 6 (.fn 425 [.t 3]),q_ 7 424 [.t 5,.t 6],N_ 8 7,m_ 4 8]
def c413:Dl:=⟨2,9,[.t 4],sr SO (rr SP)⟩
def K413 (C:Az) (D:Az:=C):Prop:=∀(a0:List Ab) (f1:Nat) (k1:List V) (is1:Ab→Option Bool) (hs1:Vs k1) (hf1:∀(x0:Ab) r,is1 x0=some r→C f1 ⟨.agg (Af x0)::k1,[]⟩ ⟨.bool r,[],[]⟩) (r:Bool),YE a0 is1=some r→D 413 ⟨[Aa a0,.clo f1 k1],[]⟩ ⟨.bool r,[],[]⟩
theorem F413 (H424:K424 C) (H425:K425 C):K413 C (FO C c413):=by
 intro a0 f1 k1 is1 hs1 hf1 r h0
 refine f0 (Ag (Ac (st (Mk (Aaa hs1) tv rfl (sw ⟨[(0,Aa a0),(3,.ptr 192 0)],[(192,[.clo f1 k1])],[]⟩ (fg ⟨rfl,rfl,tv⟩ ⟨rfl,tv⟩) (Bn tv (Aw (At ⟨[(0,Aa a0),(3,.ptr 192 0)],[(192,[.clo f1 k1])],[]⟩ (fg ⟨rfl,rfl,tv⟩ ⟨rfl,tv⟩) (Ag (Ac (st (An rfl tv (st (c_ (Aq ⟨tv,tv⟩ rfl rfl) ?_))))))))))))))
 obtain ⟨r1,e2,h0⟩:=bnd h0
 refine st (Bb (r:=.bool r1) false (H424 a0 425 [.iptr [.clo f1 k1]] (fun z425_0=>YM z425_0 is1) (⟨fun _ _ _ _ _=>rfl,fun _ _ _ _ _=>rfl,rfl,fun _ _ _ n=>by cases n<;>rfl,fun _=>rfl⟩) (fun z425_0 r h=>H425 z425_0 f1 k1 is1 hs1 hf1 r h) r1 e2) ⟨tv,tv,tv⟩ rfl (Ig rfl (Ig (congrArg (fun z=>V.clo 425 [.iptr [.clo f1 z]]) (hs1.2.2.2.1 _ _ _ _)) rfl)) (fun _=>rfl) (st (c_ (Aq ⟨tv,tv⟩ rfl tv) (st (An rfl tv (Aw (At ⟨[(4,.bool (!r1))],[],[]⟩ (Ar (by kernel_rfl)) ?_)))))))
 obtain rfl:=sj h0
 exact Du (Bp rfl rfl rfl rfl rfl tv)

/- loop.example/g00149/impl.isKey -/
def JN:=[k_ 2 (.bool false)]
def JO:=[m_ 3 0,iQ 4 (.lenS (.t 3)),q_ 5 63 [.t 4,.c (iV 1),.c (iV 60)],m_ 2 5]
def c362:Dl:=⟨1,6,[.t 2],sr JN (rr JO)⟩
def K362 (D:Az):Prop:=∀a0 r,g362 a0=some r→D 362 ⟨[.str a0],[]⟩ ⟨.bool r,[],[]⟩
theorem F362 (H63:K63 C):K362 (FO C c362):=by
 intro a0 r h0
 refine f0 (Bw 3 [(0,.str a0)] [] (Ch 3 (Ac (bb h0 fun r1 e2 h0=>Ze (H63 (a0.length:Int) 1 60 r1 e2) (o_ ?_)))))
 obtain rfl:=sj h0
 exact Gs 3

/- loop.example/g00149/impl.isChange -/
def SQ:=[X_ 1 0,k_ 2 (.bool false)]
def SR:List Bg:=[f_ 3 1 0,l_ 4 3 1,q_ 5 362 [.t 4],m_ 6 5,fT 6 7 1 1,lT 6 8 7 1 false,pT 6 9 (.lenS (.t 8)),pT 6 10 (.bin .leq (.t 9) (.c (iV 400))),pa 11 6 10,m_ 12 11,fT 12 13 1 2,lT 12 14 13 1 false,pT 12 15 (.un .not (.t 14)),mT 12 16 15,fF 16 17 1 1,lF 16 18 17 1 false,pF 16 19 (.bin .eql (.t 18) (.c (.str []))),⟨some 20,.pick (.t 16) (.c (.bool true)) (.t 19),some (12,true)⟩,pa 21 12 20,m_ 2 21]
def c414:Dl:=⟨1,22,[.t 2],sr SQ (rr SR)⟩
def wJ (D:Az):Prop:=∀a0 r,fR a0=some r→D 414 ⟨[.agg (Af a0)],[]⟩ ⟨.bool r,[],[]⟩
theorem F414 (H362:K362 C):wJ (FO C c414):=by
 intro a0 r h0
 refine f0 (Ag (Ac (st (Mk rfl tv rfl (st (Bn tv (Aw (At ⟨[(1,.ptr 64 0)],[(64,Af a0)],[]⟩ (Ar (by kernel_rfl)) (Ag (Ac (st (c_ (Aq ⟨tv,tv⟩ rfl tv) (st (c_ (Aq ⟨tv,tv⟩ rfl (nl rfl)) ?_))))))))))))))
 obtain ⟨r1,e2,h0⟩:=bnd h0
 refine st (Bb (r:=.bool r1) false (H362 a0.key r1 e2) ⟨tv,tv⟩ rfl rfl (fun _=>rfl) (st (An rfl tv (st (Cx (u:=.ptr 64 1) rfl (fun hg=>(Aq ⟨tv,tv⟩ rfl tv)) (st (Cx (u:=.str a0.value) rfl (fun hg=>(Aq ⟨(fun _=>hg),tv⟩ rfl (nl rfl))) (st (Cx (u:=iV (a0.value.length:Int)) rfl (fun hg=>(Aq ⟨(fun _=>hg),tv⟩ rfl tv)) (st (Cx (u:=.bool (decide ((a0.value.length:Int)≤400))) rfl (fun hg=>(Aq ⟨(fun _=>hg),tv,tv⟩ rfl tv)) (st (Ea rfl rfl rfl (fun h=>mY h) tv rfl (st (An rfl tv (st (Cx (u:=.ptr 64 2) rfl (fun hg=>(Aq ⟨tv,tv⟩ rfl tv)) (st (Cx (u:=.bool a0.Dm) rfl (fun hg=>(Aq ⟨(fun _=>hg),tv⟩ rfl (nl rfl))) (sw ⟨[(1,.ptr 64 0),(12,.bool (bif r1 then (decide ((a0.value.length:Int)≤400)) else false)),(14,.may ((bif r1 then (decide ((a0.value.length:Int)≤400)) else false)==true) (.bool a0.Dm))],[(64,Af a0)],[]⟩ (Ar (by kernel_rfl)) (Cx (u:=.bool (!a0.Dm)) rfl (fun hg=>(Aq ⟨(fun _=>hg),tv⟩ rfl tv)) (st (Cx (u:=.bool (!a0.Dm)) rfl (fun hg=>(Ki (v:=.may ((bif r1 then (decide ((a0.value.length:Int)≤400)) else false)==true) (.bool (!a0.Dm))) rfl (fun _=>hg))) (st (Cx (u:=.ptr 64 1) rfl (fun hg=>(Aq ⟨tv,tv⟩ rfl tv)) (st (Cx (u:=.str a0.value) rfl (fun hg=>(Aq ⟨(fun _=>hg),tv⟩ rfl (nl rfl))) (st (Cx (u:=.bool (a0.value==([]:List UInt8))) rfl (fun hg=>(Aq ⟨(fun _=>hg),tv,tv⟩ rfl tv)) (st (tY (u:=.bool (bif (!a0.Dm) then true else (a0.value==([]:List UInt8)))) rfl (fun hg=>ZZ rfl rfl (fun _=>hg) rfl rfl tv (fun h=>Cd hg (aX h)) rfl) (st (Ea rfl rfl rfl (fun h=>mY h) tv rfl (st (An rfl tv (Aw ?_))))))))))))))))))))))))))))))))))))
 obtain ⟨v3,e4,h0⟩:=bl h0
 refine At ⟨[(2,.bool v3)],[],[]⟩ (Ar (by subst e4; kernel_rfl)) ?_
 obtain rfl:=sj h0
 exact Du (Bp rfl rfl rfl rfl rfl tv)

/- loop.example/g00149/impl.isBatch -/
def NK:=[k_ 2 (.bool false)]
def NL:List Bg:=[m_ 3 0,n_ 4 3,B_ .leq 5 4 30,m_ 6 5,mT 6 7 0,⟨some 8,.call 413 [.t 7,.c (.clo 414 [])],some (6,true)⟩,pa 9 6 8,m_ 2 9]
def c394:Dl:=⟨1,10,[.t 2],sr NK (rr NL)⟩
def K394 (D:Az):Prop:=∀a0 r,XT a0=some r→D 394 ⟨[Aa a0],[]⟩ ⟨.bool r,[],[]⟩
theorem F394 (H413:K413 C) (H414:wJ C):K394 (FO C c394):=by
 intro a0 r h0
 refine f0 (Ag (Ac (st (Bn tv (Aw (At ⟨[(0,Aa a0)],[],[]⟩ (Ar (by kernel_rfl)) (Ag (Ac (st (An rfl tv (st (c_ (Dv (e:=Af) (l0:=a0) rfl rfl tv) (st (c_ (Aq t3 rfl tv) (st (An rfl tv (st (Cx (u:=Aa a0) rfl (fun hg=>(Ki (v:=Aa a0) rfl tv)) ?_))))))))))))))))))
 obtain ⟨r1,e2,h0⟩:=bnd h0
 refine st (Lb (r:=.bool r1) rfl false (fun hg=>H413 a0 414 [] (fun z414_0=>fR z414_0) (⟨fun _ _ _ _ _=>rfl,fun _ _ _ _ _=>rfl,rfl,fun _ _ _ n=>by cases n<;>rfl,fun _=>rfl⟩) (fun z414_0 r h=>H414 z414_0 r h) r1 (ip hg e2)) ⟨(fun hg=>hg),tv,tv⟩ (fun _=>rfl) (fun _=>rfl) (fun _=>rfl) (fun h=>nomatch h) (st (Ea rfl rfl rfl (fun h=>mY h) tv rfl (st (An rfl tv (Aw (At ⟨[(2,.bool (bif (decide ((a0.length:Int)≤30)) then r1 else false))],[],[]⟩ (Ar (by kernel_rfl)) ?_)))))))
 obtain rfl:=sj h0
 exact Du (Bp rfl rfl rfl rfl rfl tv)

/- loop.example/g00149/impl.batchBytes -/
def NN:List Bg:=[⟨some 2,.nilS 1,none⟩]
def NO:List Bg:=[⟨some 3,.nilS 1,none⟩]
def NP:=[m_ 7 0,n_ 8 7,i_ 9 0]
def NQ:=[b_ .lss 10 9 8]
def NS:=[x_ 11 7 9 3,L_ 12 11 3,a_ 5 [.str [],.str [],.bool false],s_ 5 12 3]
def NT:List Bg:=[m_ 13 3,f_ 14 5 0,l_ 15 14 1,iQ 16 (.lenS (.t 15)),iQ 17 (.conv .u8 (.t 16)),⟨some 18,.mkS 1 [.int .u8 0] 1 [(0,.t 17)],none⟩,⟨some 19,.app 1 1 (.t 13) (.t 18),none⟩,m_ 3 19]
def NU:List Bg:=[m_ 20 3,f_ 21 5 0,l_ 22 21 1,⟨some 23,.app 1 1 (.t 20) (.t 22),none⟩,m_ 3 23]
def NV:=[f_ 24 5 1,l_ 25 24 1,iQ 26 (.lenS (.t 25)),B_ .add 27 26 1,m_ 6 27]
def NW:=[f_ 28 5 2,l_ 29 28 1]
def NX:=[i_ 6 0]
def pX:=tk [m_ 30 3,m_ 31 6,f_ 34 5 1,l_ 35 34 1] (.alt [l_ 35 34 1,f_ 34 5 1,m_ 30 3] (q_ 32 331 [.t 31,.c (iV 2)]) (.alt [l_ 35 34 1,f_ 34 5 1] ⟨some 33,.app 1 1 (.t 30) (.t 32),none⟩ (.alt [] ⟨some 36,.app 1 1 (.t 33) (.t 35),none⟩ (.alt [] (m_ 3 36) .fin .stop) .stop) .stop) .stop)
def pY:=[B_ .add 37 9 1,m_ 9 37]
def NM:IR:=(sr NQ (.seq (.ite (.t 10) .skip (.exit 0)) (.seq (.block 1 (sr NS (sr NT (sr NU (sr NV (.seq (sr NW (iz 29 (.reg NX))) (.draw pX))))))) (.reg pY))))
def pZ:=[m_ 38 3,m_ 2 38]
def c395:Dl:=⟨1,39,[.t 2],sr NN (sr NO (.seq (sr NP (Jt 0 NM)) (rr pZ)))⟩
def K395 (D:Az):Prop:=∀a0 r,XU a0=some r→D 395 ⟨[Aa a0],[]⟩ ⟨Ba 0 r,[],[]⟩
theorem F395 (H331:wD C):K395 (FO C c395):=by
 intro a0 r h0
 refine f0 (Ag (Ac (st (Ed (Aw (At ⟨[(0,Aa a0)],[],[]⟩ (Ar (by kernel_rfl)) (Ag (Ac (st (Ed (Aw (At ⟨[(0,Aa a0),(3,.own 192 0 1 ([].map By))],[],[]⟩ (Ar (by kernel_rfl)) (Ag (Ag (Ac (st (An rfl tv (st (c_ (Dv (e:=Af) (l0:=a0) rfl rfl tv) (st (Bn tv (Aw (At ⟨[(3,.own 192 0 1 ([].map By)),(7,Aa a0),(8,iV (a0.length:Int)),(9,iV 0)],[],[]⟩ (Ar (by kernel_rfl)) (Be ?_))))))))))))))))))))))))
 obtain ⟨r47,e48,h0⟩:=bnd h0
 refine Cs (R:=(fun S=>∃p31:List UInt8,p31=r47∧S=⟨[(3,Ba 192 p31)],[],[]⟩)) (Ve a0) (fun s S=>match s with | (p14,p15)=>S=⟨[(3,Ba 192 p14),(7,Aa a0),(8,iV (a0.length:Int)),(9,iV p15)],[],[]⟩) e48 ⟨[(3,.own 192 0 1 ([].map By)),(7,Aa a0),(8,iV (a0.length:Int)),(9,iV 0)],[],[]⟩ (Ar (by kernel_rfl)) rfl 0 (fun _=>rfl) ?_ ?_
 ·rintro S _ hfg ⟨p31,rfl,rfl⟩
  refine At ⟨[(3,Ba 192 p31)],[],[]⟩ (Oz hfg (by kernel_rfl)) (Ag (Ac (st (An rfl tv (st (An rfl tv (Aw (At ⟨[(2,Ba 192 p31)],[],[]⟩ (Ar (by kernel_rfl)) ?_))))))))
  obtain rfl:=sj h0
  exact Du (Bp rfl rfl rfl rfl rfl tv)
 ·rintro ⟨p14,p15⟩ o1 _ K1 rfl h1 hx1 hK1 hE1 hR1
  refine Ag (Ac (st (c_ (Aq t3 rfl tv) (Aw (At ⟨[(3,Ba 192 p14),(7,Aa a0),(8,iV (a0.length:Int)),(9,iV p15),(10,.bool (decide (p15<(a0.length:Int))))],[],[]⟩ (Ar (by kernel_rfl)) (Ag (Cj (cb:=(decide (p15<(a0.length:Int)))) rfl (fun c32=>?_) (fun c32=>?_))))))))
  ·replace h1:=ip c32 h1
   refine En (At ⟨[(3,Ba 192 p14),(7,Aa a0),(8,iV (a0.length:Int)),(9,iV p15)],[],[]⟩ (Ar (by kernel_rfl)) (Ag (Be (Ag (Ac ?_)))))
   obtain ⟨y33,e34,h1⟩:=bnd h1
   refine st (c_ (Hi (e:=Af) (y:=y33) rfl rfl tv rfl rfl tv e34) (st (c_ (v:=.agg (Af y33)) (Aq ⟨tv,tv⟩ rfl (nl rfl)) (st (Eb (st (Ej rfl rfl tv rfl rfl rfl (nl rfl) (Aw (At ⟨[(3,Ba 192 p14),(5,.ptr 320 0),(7,Aa a0),(8,iV (a0.length:Int)),(9,iV p15)],[(320,Af y33)],[]⟩ (Ar (by kernel_rfl)) (Ag (Ac (st (An rfl tv (st (c_ (Aq ⟨tv,tv⟩ rfl tv) (st (c_ (Aq ⟨tv,tv⟩ rfl (nl rfl)) (st (c_ (Aq ⟨tv,tv⟩ rfl tv) (st (c_ (iG (Aq ⟨tv,tv⟩ rfl tv)) (st (Ia ⟨tv,tv⟩ ⟨⟨nl rfl,rfl,rfl⟩,tv⟩ ?_)))))))))))))))))))))))
   obtain ⟨c35,h1⟩:=Qd h1
   refine st (Fx (e:=By) (l0:=p14) (l1:=([b8 (y33.key.length:Int)]:List UInt8)) rfl rfl tv rfl (by decide) c35 (st (An rfl tv (Aw (At ⟨[(3,Ba 192 (p14++([b8 (y33.key.length:Int)]:List UInt8))),(5,.ptr 320 0),(7,Aa a0),(8,iV (a0.length:Int)),(9,iV p15)],[(320,Af y33)],[]⟩ (Ar (by kernel_rfl)) (Ag (Ac (st (An rfl tv (st (c_ (Aq ⟨tv,tv⟩ rfl tv) (st (c_ (Aq ⟨tv,tv⟩ rfl (nl rfl)) ?_)))))))))))))
   obtain ⟨c36,h1⟩:=Qd h1
   refine st (Fx (e:=By) (l0:=p14++([b8 (y33.key.length:Int)]:List UInt8)) (l1:=y33.key) rfl rfl tv rfl (by decide) c36 (st (An rfl tv (Aw (At ⟨[(3,Ba 192 ((p14++([b8 (y33.key.length:Int)]:List UInt8))++y33.key)),(5,.ptr 320 0),(7,Aa a0),(8,iV (a0.length:Int)),(9,iV p15)],[(320,Af y33)],[]⟩ (Ar (by kernel_rfl)) (Ag (Ac (st (c_ (Aq ⟨tv,tv⟩ rfl tv) (st (c_ (Aq ⟨tv,tv⟩ rfl (nl rfl)) (st (c_ (Aq ⟨tv,tv⟩ rfl tv) (st (c_ (Aq t3 rfl tv) (st (An rfl tv (Aw (At ⟨[(3,Ba 192 ((p14++([b8 (y33.key.length:Int)]:List UInt8))++y33.key)),(5,.ptr 320 0),(6,iV (wi ((y33.value.length:Int)+1))),(7,Aa a0),(8,iV (a0.length:Int)),(9,iV p15)],[(320,Af y33)],[]⟩ (Ar (by kernel_rfl)) (Ag (Ag (Ac (st (c_ (Aq ⟨tv,tv⟩ rfl tv) (st (c_ (Aq ⟨tv,tv⟩ rfl (nl rfl)) (Aw (At ⟨[(3,Ba 192 ((p14++([b8 (y33.key.length:Int)]:List UInt8))++y33.key)),(5,.ptr 320 0),(6,iV (wi ((y33.value.length:Int)+1))),(7,Aa a0),(8,iV (a0.length:Int)),(9,iV p15),(29,.bool y33.Dm)],[(320,Af y33)],[]⟩ (Ar (by kernel_rfl)) (dG (cb:=y33.Dm) (fun S=>∃p38:Int,S=⟨[(3,Ba 192 ((p14++([b8 (y33.key.length:Int)]:List UInt8))++y33.key)),(5,.ptr 320 0),(6,iV p38),(7,Aa a0),(8,iV (a0.length:Int)),(9,iV p15)],[(320,Af y33)],[]⟩∧Rg p14 p15 y33 p38=some o1) rfl ?_ (fun c46 J45=>?_) (fun c46 J45=>?_))))))))))))))))))))))))))))))
   ·rintro _ ⟨p38,rfl,h1⟩
    refine At ⟨[(3,Ba 192 ((p14++([b8 (y33.key.length:Int)]:List UInt8))++y33.key)),(5,.ptr 320 0),(6,iV p38),(7,Aa a0),(8,iV (a0.length:Int)),(9,iV p15)],[(320,Af y33)],[]⟩ (Ar (by kernel_rfl)) ?_
    obtain ⟨r39,e40,h1⟩:=bnd h1
    obtain ⟨c41,h1⟩:=Qd h1
    obtain ⟨c42,h1⟩:=Qd h1
    refine Dj (Ao tv (An rfl tv (⟨tv,Ao tv (An rfl tv (⟨tv,Ao tv (c_ (Aq ⟨tv,tv⟩ rfl tv) (⟨tv,Ao tv (c_ (Aq ⟨tv,tv⟩ rfl (nl rfl)) (⟨tv,Do (Bb (r:=Ba 0 r39) false (H331 p38 2 r39 e40) ⟨tv,tv,tv⟩ rfl rfl (fun _=>(Cd (Qo (fun _=>rfl)) rfl)) (VW ⟨[(3,Ba 192 ((p14++([b8 (y33.key.length:Int)]:List UInt8))++y33.key)),(5,.ptr 320 0),(7,Aa a0),(8,iV (a0.length:Int)),(9,iV p15),(30,Ba 192 ((p14++([b8 (y33.key.length:Int)]:List UInt8))++y33.key)),(32,Ba 2048 r39),(34,.ptr 320 1),(35,.str y33.value)],[(320,Af y33)],[]⟩ (Ar (by kernel_rfl)) ⟨[],⟨⟨.inl tv,Cq (Aq ⟨tv,tv⟩ rfl (nl rfl)) rfl⟩,⟨.inl tv,Cq (Aq ⟨tv,tv⟩ rfl tv) rfl⟩,⟨.inl tv,Cq (Ki (v:=Ba 192 ((p14++([b8 (y33.key.length:Int)]:List UInt8))++y33.key)) rfl tv) rfl⟩,tv⟩,tv,Do (Fx (e:=By) (l0:=(p14++([b8 (y33.key.length:Int)]:List UInt8))++y33.key) (l1:=r39) rfl rfl tv rfl (by decide) c41 (iK ⟨[],⟨⟨.inl tv,Cq (Aq ⟨tv,tv⟩ rfl (nl rfl)) rfl⟩,⟨.inl tv,Cq (Aq ⟨tv,tv⟩ rfl tv) rfl⟩,tv⟩,tv,Do (Fx (e:=By) (l0:=((p14++([b8 (y33.key.length:Int)]:List UInt8))++y33.key)++r39) (l1:=y33.value) rfl rfl tv rfl (by decide) c42 (iK ⟨[],tv,tv,Do (An rfl tv (iK ⟨[],tv,tv,Jo (Qc ?_)⟩)) Ca⟩)) Ca⟩)) Ca⟩)) Ca⟩))⟩))⟩))⟩)))
    obtain ⟨v43,e44,h1⟩:=bl h1
    refine At ⟨[(3,Ba 192 v43),(7,Aa a0),(8,iV (a0.length:Int)),(9,iV p15)],[],[]⟩ (Ar (by subst e44; kernel_rfl)) (Ac (st (c_ (Aq t3 rfl tv) (st (An rfl tv (Aw ?_))))))
    obtain rfl:=sj h1
    exact hK1 _ rfl _ ⟨[(3,Ba 192 v43),(7,Aa a0),(8,iV (a0.length:Int)),(9,iV (wi (p15+1)))],[],[]⟩ (Ar (by kernel_rfl)) rfl
   ·replace h1:=ip c46 h1
    refine Ac (st (Bn tv (Aw ?_)))
    exact J45 _ ⟨[(3,Ba 192 ((p14++([b8 (y33.key.length:Int)]:List UInt8))++y33.key)),(5,.ptr 320 0),(6,iV 0),(7,Aa a0),(8,iV (a0.length:Int)),(9,iV p15)],[(320,Af y33)],[]⟩ (Ar (by kernel_rfl)) ⟨_,rfl,h1⟩
   ·replace h1:=Fi c46 h1
    refine En ?_
    exact J45 _ ⟨[(3,Ba 192 ((p14++([b8 (y33.key.length:Int)]:List UInt8))++y33.key)),(5,.ptr 320 0),(6,iV (wi ((y33.value.length:Int)+1))),(7,Aa a0),(8,iV (a0.length:Int)),(9,iV p15)],[(320,Af y33)],[]⟩ (Ar (by kernel_rfl)) ⟨_,rfl,h1⟩
  ·replace h1:=Fi c32 h1
   obtain rfl:=sj h1
   obtain rfl:=hx1 _ rfl
   refine In rfl ?_
   exact hE1 _ ⟨[(3,Ba 192 p14)],[],[]⟩ (Ar (by kernel_rfl)) ⟨_,rfl,rfl⟩

/- slices.Clone[[]loop.example/g00149/impl.Pair,loop.example/g00149/impl.Pair] -/
def PW:List Bg:=[⟨some 2,.nilS 2,none⟩]
def PX:List Bg:=[m_ 3 0,⟨some 4,.isnil (.t 3) false,none⟩]
def PY:List Bg:=[⟨some 2,.nilS 2,none⟩]
def PZ:List Bg:=[⟨some 5,.mkS 2 [.str [],.str []] 0 [],none⟩,m_ 6 0,⟨some 7,.app 2 32 (.t 5) (.t 6),none⟩,m_ 2 7]
def c403:Dl:=⟨1,8,[.t 2],sr PW (.seq (sr PX (iz 4 (rr PY))) (rr PZ))⟩
def K403 (D:Az):Prop:=∀a0 r,XY a0=some r→D 403 ⟨[Cn a0],[]⟩ ⟨Al 0 r,[],[]⟩
theorem F403:K403 (FO C c403):=by
 intro a0 r h0
 refine f0 ?_
 obtain ⟨hc,h0⟩:=Qd h0
 obtain rfl:=sj h0
 refine Ag (Ac (st (Ed (Aw (At ⟨[(0,Cn a0)],[],[]⟩ (fg ⟨rfl,tv⟩ tv) (Ag (Ag (Ac (st (An rfl tv (st (sZ (e:=Ay) (l0:=a0) rfl fun b hb=>(Aw (cF (Cj (cb:=b) rfl (fun h=>?_) (fun h=>?_))))))))))))))))
 ·obtain rfl:=hb h
  refine Ag (Ac (st (Ed (Aw (cF ?_)))))
  refine Du (Bp rfl rfl rfl rfl rfl tv)
 ·refine En ?_
  refine At ⟨[(0,Cn a0)],[],[]⟩ (fg ⟨rfl,tv⟩ tv) (Ag (Ac (st (Ia tv tv (st (An rfl tv (st (Fx (e:=Ay) (l0:=([]:List Au)) (l1:=a0) rfl rfl tv rfl (by decide) ?_ ?_))))))))
  rotate_left
  refine st (An rfl tv (Aw (cF ?_)))
  refine Du (Bp rfl rfl rfl rfl rfl tv)
  have:=Nat.mul_le_mul_right 32 hc
  exact Nat.le_trans this (by decide)

/- slices.BinarySearchFunc[[]loop.example/g00149/impl.Pair,loop.example/g00149/impl.Pair,string] -/
def TD:=[i_ 6 0,k_ 7 (.bool false)]
def TE:=[m_ 12 0,n_ 13 12,m_ 8 13]
def TF:=[m_ 14 8,i_ 9 0,m_ 10 14]
def TG:=[m_ 15 9,m_ 16 10,b_ .lss 17 15 16]
def TH:List Bg:=[m_ 18 9,m_ 19 10,b_ .add 20 18 19,iQ 21 (.conv .u64 (.t 20)),⟨some 22,.p (.bin .shr (.t 21) (.c (.int .u64 1))),none⟩,iQ 23 (.conv .i64 (.t 22)),m_ 11 23]
def TI:List Bg:=[m_ 24 2,m_ 25 0,m_ 26 11,x_ 27 25 26 2,L_ 28 27 2,m_ 29 1,⟨some 30,.callv (.t 24) [.t 28,.t 29],none⟩,B_ .lss 31 30 0]
def TJ:=[m_ 32 11,B_ .add 33 32 1,m_ 9 33]
def TK:=[m_ 34 11,m_ 10 34]
def TC:IR:=(.seq (sr TG (.ite (.t 17) .skip (.exit 0))) (.block 1 (sr TH (sr TI (.ite (.t 31) (.reg TJ) (.reg TK))))))
def TL:List Bg:=[m_ 35 9,m_ 36 9,m_ 37 8,b_ .lss 38 36 37,m_ 39 38,mT 39 40 2,mT 39 41 0,mT 39 42 9,xT 39 43 41 42 2,lT 39 44 43 2 true,mT 39 45 1,⟨some 46,.callv (.t 40) [.t 44,.t 45],some (39,true)⟩,pT 39 47 (.bin .eql (.t 46) (.c (iV 0))),pa 48 39 47,m_ 6 35,m_ 7 48]
def c416:Dl:=⟨3,49,[.t 6,.t 7],sr TD (sr TE (sr TF (.seq (Jt 0 TC) (rr TL))))⟩
def K416 (C:Az) (D:Az:=C):Prop:=∀(a0:List Au) (a1:List UInt8) (f2:Nat) (k2:List V) (is2:Au→(List UInt8)→Option Int) (hs2:Vs k2) (hf2:∀(x0:Au) (x1:List UInt8) r,is2 x0 x1=some r→C f2 ⟨.agg (Ay x0) :: .str x1::k2,[]⟩ ⟨iV r,[],[]⟩) (r:Int×Bool),YG a0 a1 is2=some r→D 416 ⟨[Cn a0,.str a1,.clo f2 k2],[]⟩ ⟨.tup [iV r.1,.bool r.2],[],[]⟩
theorem F416:K416 C (FO C c416):=by
 intro a0 a1 f2 k2 is2 hs2 hf2 r h0
 refine f0 (Ag (Ac (st (Bn tv (st (Bn tv (Aw (At ⟨[(0,Cn a0),(1,.str a1),(2,.clo f2 k2)],[],[]⟩ (fg ⟨rfl,rfl,rfl,tv⟩ tv) (Ag (Ac (st (An rfl tv (st (c_ (Dv (e:=Ay) (l0:=a0) rfl rfl tv) (st (An rfl tv (Aw (At ⟨[(0,Cn a0),(1,.str a1),(2,.clo f2 k2),(8,iV (a0.length:Int))],[],[]⟩ (fg ⟨rfl,rfl,rfl,rfl,tv⟩ tv) (Ag (Ac (st (An rfl tv (st (Bn tv (st (An rfl tv (Aw (At ⟨[(0,Cn a0),(1,.str a1),(2,.clo f2 k2),(8,iV (a0.length:Int)),(9,iV 0),(10,iV (a0.length:Int))],[],[]⟩ (fg ⟨rfl,rfl,rfl,rfl,rfl,rfl,tv⟩ tv) (Ag (Be ?_))))))))))))))))))))))))))))))
 obtain ⟨r30,e31,h0⟩:=bnd h0
 refine Cs (R:=(fun S=>∃p21:Int,p21=r30∧S=⟨[(0,Cn a0),(1,.str a1),(2,.clo f2 k2),(8,iV (a0.length:Int)),(9,iV p21)],[],[]⟩)) (Vi a0 a1 is2) (fun s S=>match s with | (p9,p10)=>S=⟨[(0,Cn a0),(1,.str a1),(2,.clo f2 k2),(8,iV (a0.length:Int)),(9,iV p9),(10,iV p10)],[],[]⟩) e31 ⟨[(0,Cn a0),(1,.str a1),(2,.clo f2 k2),(8,iV (a0.length:Int)),(9,iV 0),(10,iV (a0.length:Int))],[],[]⟩ (fg ⟨rfl,rfl,rfl,rfl,rfl,rfl,tv⟩ tv) rfl 0 (fun _=>rfl) ?_ ?_
 ·rintro S _ hfg ⟨p21,rfl,rfl⟩
  refine At ⟨[(0,Cn a0),(1,.str a1),(2,.clo f2 k2),(8,iV (a0.length:Int)),(9,iV p21)],[],[]⟩ (fgl hfg ⟨rfl,rfl,rfl,rfl,rfl,tv⟩ tv) (Ag (Ac (st (An rfl tv (st (An rfl tv (st (An rfl tv (st (c_ (Aq t3 rfl tv) (st (An rfl tv (st (Cx (u:=.clo f2 k2) rfl (fun hg=>(Ki (v:=.clo f2 k2) rfl tv)) (st (Cx (u:=Cn a0) rfl (fun hg=>(Ki (v:=Cn a0) rfl tv)) (st (Cx (u:=iV p21) rfl (fun hg=>(Ki (v:=iV p21) rfl tv)) ?_))))))))))))))))))
  obtain ⟨y32,e33,h0⟩:=bnd h0
  refine st (Cx (u:=.iptr (Ay y32)) rfl (fun hg=>(Hi (e:=Ay) (y:=y32) rfl rfl (fun _=>hg) rfl rfl (fun _=>hg) (ip hg e33))) (st (Cx (u:=.agg (Ay y32)) rfl (fun hg=>(Aq ⟨(fun _=>hg),tv⟩ rfl (nl rfl))) (st (Cx (u:=.str a1) rfl (fun hg=>(Ki (v:=.str a1) rfl tv)) ?_)))))
  obtain ⟨r34,e35,h0⟩:=bnd h0
  refine sw ⟨[(35,iV p21),(39,.bool (decide (p21<(a0.length:Int)))),(40,.may ((decide (p21<(a0.length:Int)))==true) (.clo f2 k2)),(44,.may ((decide (p21<(a0.length:Int)))==true) (.agg (Ay y32))),(45,.may ((decide (p21<(a0.length:Int)))==true) (.str a1))],[],[]⟩ (fg ⟨rfl,rfl,rfl,rfl,rfl,tv⟩ tv) (VO (r:=iV r34) rfl rfl rfl (fun hg=>hg) false (fun hg=>hf2 _ _ r34 (ip hg e35)) ⟨(fun hg=>hg),(fun hg=>hg),tv⟩ (fun _=>(Cd rfl (Cd rfl hs2.2.2.1))) (fun _=>(Ig rfl (Ig rfl (hs2.2.1 _ _ _ _ _)))) (fun _=>rfl) (fun h=>nomatch h) (st (Cx (u:=.bool (r34==0)) rfl (fun hg=>(Aq ⟨(fun _=>hg),tv,tv⟩ rfl tv)) (st (Ea rfl rfl rfl (fun h=>mY h) tv rfl (st (An rfl tv (st (An rfl tv (Aw (At ⟨[(6,iV p21),(7,.bool (bif (decide (p21<(a0.length:Int))) then (r34==0) else false))],[],[]⟩ (Ar (by kernel_rfl)) ?_)))))))))))
  obtain rfl:=sj h0
  exact Du (Bp rfl rfl rfl rfl rfl tv)
 ·rintro ⟨p9,p10⟩ o1 _ K1 rfl h1 hx1 hK1 hE1 hR1
  refine Ag (Ag (Ac (st (An rfl tv (st (An rfl tv (st (c_ (Aq t3 rfl tv) (Aw (At ⟨[(0,Cn a0),(1,.str a1),(2,.clo f2 k2),(8,iV (a0.length:Int)),(9,iV p9),(10,iV p10),(17,.bool (decide (p9<p10)))],[],[]⟩ (fg ⟨rfl,rfl,rfl,rfl,rfl,rfl,rfl,tv⟩ tv) (Cj (cb:=(decide (p9<p10))) rfl (fun c22=>?_) (fun c22=>?_))))))))))))
  ·replace h1:=ip c22 h1
   refine En (At ⟨[(0,Cn a0),(1,.str a1),(2,.clo f2 k2),(8,iV (a0.length:Int)),(9,iV p9),(10,iV p10)],[],[]⟩ (fg ⟨rfl,rfl,rfl,rfl,rfl,rfl,tv⟩ tv) (Be (Ag (Ac (st (An rfl tv (st (An rfl tv (st (c_ (Aq t3 rfl tv) (st (c_ (Aq ⟨tv,tv⟩ rfl tv) (st (c_ (Aq ⟨tv,tv,tv⟩ rfl (by decide)) (st (c_ (Aq ⟨tv,tv⟩ rfl tv) (st (An rfl tv (Aw ?_)))))))))))))))))))
   obtain ⟨v23,e24,h1⟩:=bl h1
   refine At ⟨[(0,Cn a0),(1,.str a1),(2,.clo f2 k2),(8,iV (a0.length:Int)),(9,iV p9),(10,iV p10),(11,iV v23)],[],[]⟩ (fg ⟨(by subst e24; rfl),(by subst e24; rfl),(by subst e24; rfl),(by subst e24; rfl),(by subst e24; rfl),(by subst e24; rfl),(by subst e24; rfl),tv⟩ tv) (Ag (Ac (st (An rfl tv (st (An rfl tv (st (An rfl tv ?_))))))))
   obtain ⟨y25,e26,h1⟩:=bnd h1
   refine st (c_ (Hi (e:=Ay) (y:=y25) rfl rfl tv rfl rfl tv e26) (st (c_ (v:=.agg (Ay y25)) (Aq ⟨tv,tv⟩ rfl (nl rfl)) (st (An rfl tv ?_)))))
   obtain ⟨r27,e28,h1⟩:=bnd h1
   refine st (Ql (r:=iV r27) rfl false (hf2 _ _ r27 e28) ⟨tv,tv,tv⟩ (Cd rfl (Cd rfl hs2.2.2.1)) (Ig rfl (Ig rfl (hs2.2.1 _ _ _ _ _))) (fun _=>rfl) (st (c_ (Aq t3 rfl tv) (Aw (At ⟨[(0,Cn a0),(1,.str a1),(2,.clo f2 k2),(8,iV (a0.length:Int)),(9,iV p9),(10,iV p10),(11,iV v23),(31,.bool (decide (r27<0)))],[],[]⟩ (fg ⟨rfl,rfl,rfl,rfl,rfl,rfl,rfl,rfl,tv⟩ tv) (Cj (cb:=(decide (r27<0))) rfl (fun c29=>?_) (fun c29=>?_)))))))
   ·replace h1:=ip c29 h1
    refine Ac (st (An rfl tv (st (c_ (Aq t3 rfl tv) (st (An rfl tv (Aw (Qc ?_))))))))
    obtain rfl:=sj h1
    exact hK1 _ rfl _ ⟨[(0,Cn a0),(1,.str a1),(2,.clo f2 k2),(8,iV (a0.length:Int)),(9,iV (wi (v23+1))),(10,iV p10)],[],[]⟩ (fg ⟨rfl,rfl,rfl,rfl,rfl,rfl,tv⟩ tv) rfl
   ·replace h1:=Fi c29 h1
    refine Ac (st (An rfl tv (st (An rfl tv (Aw (Qc ?_))))))
    obtain rfl:=sj h1
    exact hK1 _ rfl _ ⟨[(0,Cn a0),(1,.str a1),(2,.clo f2 k2),(8,iV (a0.length:Int)),(9,iV p9),(10,iV v23)],[],[]⟩ (fg ⟨rfl,rfl,rfl,rfl,rfl,rfl,tv⟩ tv) rfl
  ·replace h1:=Fi c22 h1
   obtain rfl:=sj h1
   obtain rfl:=hx1 _ rfl
   refine In rfl ?_
   exact hE1 _ ⟨[(0,Cn a0),(1,.str a1),(2,.clo f2 k2),(8,iV (a0.length:Int)),(9,iV p9)],[],[]⟩ (fg ⟨rfl,rfl,rfl,rfl,rfl,tv⟩ tv) ⟨_,rfl,rfl⟩

/- internal/bytealg.CompareString -/
def VC:=[i_ 4 0]
def VD:=[m_ 5 0,m_ 6 1,iQ 7 (.scmp (.t 5) (.t 6)),m_ 4 7]
def c427:Dl:=⟨2,8,[.t 4],sr VC (rr VD)⟩
def K427 (D:Az):Prop:=∀a0 a1 r,g427 a0 a1=some r→D 427 ⟨[.str a0,.str a1],[]⟩ ⟨iV r,[],[]⟩
theorem F427:K427 (FO C c427):=by
 intro a0 a1 r h0
 refine f0 (Ag (Ac (st (Bn tv (Aw (At ⟨[(0,.str a0),(1,.str a1)],[],[]⟩ (Ar (by kernel_rfl)) (Ag (Ac (st (An rfl tv (st (An rfl tv (st (c_ (cscmp rfl rfl tv rfl rfl tv) (st (An rfl tv (Aw (At ⟨[(4,iV (Yj a0 a1))],[],[]⟩ (Ar (by kernel_rfl)) ?_))))))))))))))))))
 obtain rfl:=sj h0
 exact Du (Bp rfl rfl rfl rfl rfl tv)

/- strings.Compare -/
def TO:=[i_ 4 0]
def TP:=[m_ 5 0,m_ 6 1,q_ 7 427 [.t 5,.t 6],m_ 4 7]
def c418:Dl:=⟨2,8,[.t 4],sr TO (rr TP)⟩
def K418 (D:Az):Prop:=∀a0 a1 r,g418 a0 a1=some r→D 418 ⟨[.str a0,.str a1],[]⟩ ⟨iV r,[],[]⟩
theorem F418 (H427:K427 C):K418 (FO C c418):=by
 intro a0 a1 r h0
 refine f0 (Ag (Ac (st (Bn tv (Aw (At ⟨[(0,.str a0),(1,.str a1)],[],[]⟩ (Ar (by kernel_rfl)) (Ag (Ac (st (An rfl tv (st (An rfl tv ?_))))))))))))
 obtain ⟨r1,e2,h0⟩:=bnd h0
 refine st (Bb (r:=iV r1) false (H427 a0 a1 r1 e2) ⟨tv,tv,tv⟩ rfl rfl (fun _=>rfl) (st (An rfl tv (Aw (At ⟨[(4,iV r1)],[],[]⟩ (Ar (by kernel_rfl)) ?_)))))
 obtain rfl:=sj h0
 exact Du (Bp rfl rfl rfl rfl rfl tv)

/- loop.example/g00149/impl.apply$1 -/
def TM:=[X_ 2 0,i_ 4 0]
def TN:=[f_ 5 2 0,l_ 6 5 1,m_ 7 1,q_ 8 418 [.t 6,.t 7],m_ 4 8]
def c417:Dl:=⟨2,9,[.t 4],sr TM (rr TN)⟩
def K417 (D:Az):Prop:=∀a0 a1 r,fW a0 a1=some r→D 417 ⟨[.agg (Ay a0),.str a1],[]⟩ ⟨iV r,[],[]⟩
theorem F417 (H418:K418 C):K417 (FO C c417):=by
 intro a0 a1 r h0
 refine f0 (Ag (Ac (st (Mk rfl tv rfl (st (Bn tv (Aw (At ⟨[(1,.str a1),(2,.ptr 128 0)],[(128,Ay a0)],[]⟩ (Ar (by kernel_rfl)) (Ag (Ac (st (c_ (Aq ⟨tv,tv⟩ rfl tv) (st (c_ (Aq ⟨tv,tv⟩ rfl (nl rfl)) (st (An rfl tv ?_))))))))))))))))
 obtain ⟨r1,e2,h0⟩:=bnd h0
 refine st (Bb (r:=iV r1) false (H418 a0.key a1 r1 e2) ⟨tv,tv,tv⟩ rfl rfl (fun _=>rfl) (st (An rfl tv (Aw (At ⟨[(4,iV r1)],[],[]⟩ (Ar (by kernel_rfl)) ?_)))))
 obtain rfl:=sj h0
 exact Du (Bp rfl rfl rfl rfl rfl tv)

/- slices.Delete[[]loop.example/g00149/impl.Pair,loop.example/g00149/impl.Pair] -/
def TQ:List Bg:=[⟨some 6,.nilS 2,none⟩]
def TR:List Bg:=[m_ 8 0,m_ 9 1,m_ 10 2,m_ 11 0,n_ 12 11,⟨some 13,.chk3 (.t 8) (.t 9) (.t 10) (.t 12),none⟩]
def TT:=[m_ 14 1,m_ 15 2,b_ .eql 16 14 15]
def TU:=[m_ 17 0,m_ 6 17]
def TV:=[m_ 18 0,n_ 19 18,m_ 7 19]
def TW:=tk [m_ 20 0,m_ 21 1,⟨some 22,.p (.slice (.t 20) none (some (.t 21)) 2),none⟩,m_ 23 0,m_ 24 2,⟨some 25,.p (.slice (.t 23) (some (.t 24)) none 2),none⟩] (.alt [] ⟨some 26,.app 2 32 (.t 22) (.t 25),none⟩ (.alt [] (m_ 0 26) .fin .stop) .stop)
def TX:List Bg:=[m_ 27 0,m_ 28 0,n_ 29 28,m_ 30 7,⟨some 31,.p (.slice (.t 27) (some (.t 29)) (some (.t 30)) 2),none⟩,⟨none,.clear 2 [.str [],.str []] (.t 31),none⟩]
def TY:=[m_ 32 0,m_ 6 32]
def c419:Dl:=⟨3,33,[.t 6],sr TQ (sr TR (.seq (sr TT (iz 16 (rr TU))) (sr TV (sd TW (sr TX (rr TY))))))⟩
def K419 (D:Az):Prop:=∀a0 a1 a2 r,YI a0 a1 a2=some r→D 419 ⟨[Al 1024000 a0,iV a1,iV a2],[]⟩ ⟨Al 0 r,[],[]⟩
theorem F419:K419 (FO C c419):=by
 intro a0 a1 a2 r h0
 refine f0 ?_
 obtain ⟨⟨hb,hl⟩,h0⟩:=Qd h0
 obtain rfl:=sj h0
 obtain ⟨i,rfl⟩:=Int.eq_ofNat_of_zero_le hb.1
 obtain ⟨j,rfl⟩:=Int.eq_ofNat_of_zero_le (Int.le_trans hb.1 hb.2.1)
 have hij:i≤j:=by omega
 have hx63:(a0.length:Int)<Ei:=by have:=hl; simp only [Ei]; omega
 have hj:j≤a0.length:=by omega
 rw [show ((i:Nat):Int).toNat=i from rfl,show ((j:Nat):Int).toNat=j from rfl]
 refine Ag (Ac (st (Ed (Aw (At ⟨[(0,Al 1024000 a0),(1,iV i),(2,iV j)],[],[]⟩ (fg ⟨rfl,rfl,rfl,tv⟩ tv) (Ag (Ac (st (An rfl tv (st (An rfl tv (st (An rfl tv (st (An rfl tv (st (c_ (Jb (e:=Ay) (l0:=a0) rfl rfl tv) (st (chk3O (e:=Ay) (l0:=a0) rfl rfl rfl rfl ⟨by omega,by omega,by omega,Int.le_refl _⟩ (Aw (At ⟨[(0,Al 1024000 a0),(1,iV i),(2,iV j)],[],[]⟩ (fg ⟨rfl,rfl,rfl,tv⟩ tv) (Ag (Ag (Ac (st (An rfl tv (st (An rfl tv (st (c_ (Aq t3 rfl tv) (Aw (cF (Cj (cb:=(i:Int)==(j:Int)) rfl (fun h=>?_) (fun h=>?_))))))))))))))))))))))))))))))))))
 ·have e1:i=j:=by have:=eq_of_beq h; omega
  subst e1
  rw [List.take_append_drop]
  refine Ag (Ac (st (An rfl tv (st (An rfl tv (Aw (cF ?_)))))))
  exact Du (Bp rfl rfl rfl rfl rfl tv)
 ·have hne:i≠j:=fun e1=>by subst e1; simp at h
  have hemp:a0.map Ay≠[]:=fun e1=>by
   have:=congrArg List.length e1
   simp at this
   subst this
   simp at hj
   omega
  refine En (At ⟨[(0,Al 1024000 a0),(1,iV i),(2,iV j)],[],[]⟩ (fg ⟨rfl,rfl,rfl,tv⟩ tv) (Ag (Ac (st (An rfl tv (st (c_ (Jb (e:=Ay) (l0:=a0) rfl rfl tv) (st (An rfl tv (Aw (At ⟨[(0,Al 1024000 a0),(1,iV i),(2,iV j),(7,iV (a0.length:Int))],[],[(0,(a0.length:Int))]⟩ (fgc ⟨rfl,rfl,rfl,rfl,tv⟩ tv ⟨.inr (.inl ⟨_,_,_,_,rfl,hemp,by simp,hx63,by decide⟩),tv⟩) (Ag (Dj (Ao tv (An rfl tv (⟨tv,Ao tv (An rfl tv (⟨tv,Ao tv (c_ (Dk (e:=Ay) (y:=a0.take i) rfl rfl tv ⟨tv,tv⟩ rfl rfl (by rw [show (none:Option Int).getD 0=((0:Nat):Int) from rfl]; exact slcN a0 0 i (by omega) (by omega))) (⟨tv,Ao tv (An rfl tv (⟨tv,Ao tv (An rfl tv (⟨tv,Ao tv (c_ (Dk (e:=Ay) (y:=a0.drop j) rfl rfl tv ⟨tv,tv⟩ rfl rfl (bS a0 j hj)) (⟨tv,Do (appc_ (e:=Ay) (l0:=a0.take i) (l1:=a0.drop j) (t:=1024000) (sz:=2) (vy:=.own 1024000 (0+j) 2 ((a0.drop j).map Ay)) (c:=(a0.length:Int)-0) rfl rfl tv rfl (show (1024000:Nat)<1048576 by decide) ?_ rfl ?_ ?_) Ca⟩))⟩))⟩))⟩))⟩))⟩))))))))))))))))
  ·have:(a0.take i).length+(a0.drop j).length≤a0.length:=by simp; omega
   exact Nat.le_trans (Nat.mul_le_mul_right 32 this) (Nat.le_trans (Nat.mul_le_mul_right 32 hl) (by decide))
  ·rw [On (show (a0.length:Int)-0<Ei by omega)]; simp; omega
  refine iK ⟨[],tv,tv,Do (An rfl tv (iK ⟨[],tv,tv,Jo ?_⟩)) Ca⟩
  generalize hR:a0.take i++a0.drop j=R
  have hRl:R.length≤a0.length:=by rw [←hR]; simp; omega
  refine At ⟨[(0,Al 1024000 R),(7,iV (a0.length:Int))],[],[(0,(a0.length:Int)-0)]⟩ (fgc ⟨rfl,rfl,tv⟩ tv ⟨.inl ⟨_,rfl,.inl rfl⟩,tv⟩) (Ag (Ac (st (An rfl tv (st (An rfl tv (st (c_ (Jb (e:=Ay) (l0:=R) rfl rfl tv) (st (An rfl tv (st (c_ (mH (e:=Ay) (R:=R) (t:=1024000) (sz:=2) (L:=R.length) (H:=a0.length) (c:=(a0.length:Int)-0) rfl rfl rfl rfl hRl (show (0:Nat)<2 by decide) rfl (by rw [On (show (a0.length:Int)-0<Ei by omega)]; omega)) (st (rO rfl (Aw (At ⟨[(0,Al 1024000 R)],[],[]⟩ (fg ⟨past1 (Nat.le_refl _),tv⟩ tv) (Ag (Ac (st (An rfl tv (st (An rfl tv (Aw (cF ?_))))))))))))))))))))))))
  exact Du (Bp rfl rfl rfl rfl rfl tv)

/- slices.Insert[[]loop.example/g00149/impl.Pair,loop.example/g00149/impl.Pair] -/
def TZ:List Bg:=[⟨some 6,.nilS 2,none⟩]
def UA:List Bg:=[m_ 10 0,m_ 11 1,⟨some 12,.p (.slice (.t 10) (some (.t 11)) none 2),none⟩]
def UB:=[m_ 13 2,n_ 14 13,m_ 7 14]
def UC:=[m_ 15 7,B_ .eql 16 15 0]
def UD:=[m_ 17 0,m_ 6 17]
def UE:=[m_ 18 0,n_ 19 18,m_ 8 19]
def UF:=[m_ 20 1,m_ 21 8,b_ .eql 22 20 21]
def UG:List Bg:=[m_ 23 0,m_ 24 2,⟨some 25,.app 2 32 (.t 23) (.t 24),none⟩,m_ 6 25]
def UH:List Bg:=[m_ 26 8,m_ 27 7,b_ .add 28 26 27,m_ 29 0,⟨some 30,.cap (.t 29),none⟩,b_ .gtr 31 28 30]
def UI:List Bg:=[m_ 32 0,m_ 33 1,⟨some 34,.p (.slice (.t 32) none (some (.t 33)) 2),none⟩,m_ 35 8,m_ 36 7,b_ .add 37 35 36,m_ 38 1,b_ .sub 39 37 38,⟨some 40,.appz 2 32 [.str [],.str []] (.t 34) (.t 39),none⟩,m_ 9 40]
def qP:List Bg:=[m_ 41 9,m_ 42 1,⟨some 43,.p (.slice (.t 41) (some (.t 42)) none 2),none⟩,m_ 44 2,⟨some 45,.copy 2 (.t 43) (.t 44),none⟩]
def qQ:=tk [m_ 46 9,m_ 47 1,m_ 48 7,b_ .add 49 47 48,⟨some 50,.p (.slice (.t 46) (some (.t 49)) none 2),none⟩,m_ 51 0,m_ 52 1,⟨some 53,.p (.slice (.t 51) (some (.t 52)) none 2),none⟩] (.alt [] ⟨some 54,.copy 2 (.t 50) (.t 53),none⟩ .fin .stop)
def qR:=[m_ 55 9,m_ 6 55]
def qS:List Bg:=[m_ 56 0,m_ 57 8,m_ 58 7,b_ .add 59 57 58,⟨some 60,.p (.slice (.t 56) none (some (.t 59)) 2),none⟩,m_ 0 60]
def qT:List Bg:=[m_ 61 2,m_ 62 0,m_ 63 1,m_ 64 7,b_ .add 65 63 64,⟨some 66,.p (.slice (.t 62) (some (.t 65)) none 2),none⟩,iQ 67 (.ovl (.t 61) (.t 66)),N_ 68 67]
def qU:=tk [m_ 69 0,m_ 70 1,m_ 71 7,b_ .add 72 70 71,⟨some 73,.p (.slice (.t 69) (some (.t 72)) none 2),none⟩,m_ 74 0,m_ 75 1,⟨some 76,.p (.slice (.t 74) (some (.t 75)) none 2),none⟩] (.alt [] ⟨some 77,.copy 2 (.t 73) (.t 76),none⟩ .fin .stop)
def qV:List Bg:=[m_ 78 0,m_ 79 1,⟨some 80,.p (.slice (.t 78) (some (.t 79)) none 2),none⟩,m_ 81 2,⟨some 82,.copy 2 (.t 80) (.t 81),none⟩]
def qW:=[m_ 83 0,m_ 6 83]
def qX:List Bg:=[m_ 84 0,m_ 85 8,⟨some 86,.p (.slice (.t 84) (some (.t 85)) none 2),none⟩,m_ 87 2,⟨some 88,.copy 2 (.t 86) (.t 87),none⟩]
def qY:List Bg:=[m_ 89 0,m_ 90 1,⟨some 91,.p (.slice (.t 89) (some (.t 90)) none 2),none⟩,m_ 92 7,q_ 93 428 [.t 91,.t 92]]
def qZ:=[m_ 94 0,m_ 6 94]
def c420:Dl:=⟨3,95,[.t 6],sr TZ (sr UA (sr UB (.seq (sr UC (iz 16 (rr UD))) (sr UE (.seq (sr UF (iz 22 (rr UG))) (.seq (sr UH (iz 31 (sr UI (sr qP (sd qQ (rr qR)))))) (sr qS (.seq (sr qT (iz 68 (sd qU (sr qV (rr qW))))) (sr qX (sr qY (rr qZ)))))))))))⟩
def K420 (D:Az):Prop:=∀a0 a1 a2 r,YJ a0 a1 a2=some r→D 420 ⟨[Al 1024000 a0,iV a1,Al 2097152 a2],[]⟩ ⟨Al 0 r.1,[],[(0,2,r.2.map Ay)]⟩
theorem F420:K420 (FO C c420):=by
 intro a0 a1 a2 r h0
 refine f0 ?_
 obtain ⟨⟨hb,hpos,hl⟩,h0⟩:=Qd h0
 obtain rfl:=sj h0
 obtain ⟨i,rfl⟩:=Int.eq_ofNat_of_zero_le hb.1
 have hi:i≤a0.length:=by omega
 rw [show ((i:Nat):Int).toNat=i from rfl]
 have hbyte:(a0.length+a2.length)*32≤140737488355328:=Nat.le_trans (Nat.mul_le_mul_right 32 hl) (by decide)
 have hsm:a0.length+a2.length≤140737488355328:=by omega
 have w1:wi ((a0.length:Int)+(a2.length:Int))=((a0.length+a2.length:Nat):Int):=vH _ (by omega) (by omega)
 have w2:wi ((i:Int)+(a2.length:Int))=((i+a2.length:Nat):Int):=vH _ (by omega) (by omega)
 have w3:wi (((a0.length+a2.length:Nat):Int)-(i:Int))=((a0.length+a2.length-i:Nat):Int):=vH _ (by omega) (by omega)
 refine Ag (Ac (st (Ed (Aw (At ⟨[(0,Al 1024000 a0),(1,iV i),(2,Al 2097152 a2)],[],[]⟩ (fg ⟨rfl,rfl,rfl,tv⟩ tv) (Ag (Ac (st (An rfl tv (st (An rfl tv (st (c_ (Dk (e:=Ay) (y:=a0.drop i) rfl rfl tv ⟨tv,tv⟩ rfl rfl (bS a0 i hi)) (Aw (At ⟨[(0,Al 1024000 a0),(1,iV i),(2,Al 2097152 a2)],[],[]⟩ (fg ⟨rfl,rfl,rfl,tv⟩ tv) (Ag (Ac (st (An rfl tv (st (c_ (Jb (e:=Ay) (l0:=a2) rfl rfl tv) (st (An rfl tv (Aw (At ⟨[(0,Al 1024000 a0),(1,iV i),(2,Al 2097152 a2),(7,iV (a2.length:Int))],[],[]⟩ (fg ⟨rfl,rfl,rfl,rfl,tv⟩ tv) (Ag (Ag (Ac (st (An rfl tv (st (c_ (Aq t3 rfl tv) (Aw (cF (Cj (cb:=(a2.length:Int)==0) rfl (fun h=>absurd (eq_of_beq h) (by omega)) (fun _=>(En (At ⟨[(0,Al 1024000 a0),(1,iV i),(2,Al 2097152 a2),(7,iV (a2.length:Int))],[],[]⟩ (fg ⟨rfl,rfl,rfl,rfl,tv⟩ tv) (Ag (Ac ?_))))))))))))))))))))))))))))))))))))))))
 refine st (An rfl tv (st (c_ (Jb (e:=Ay) (l0:=a0) rfl rfl tv) (st (An rfl tv (Aw (At ⟨[(0,Al 1024000 a0),(1,iV i),(2,Al 2097152 a2),(7,iV (a2.length:Int)),(8,iV (a0.length:Int))],[],[]⟩ (fg ⟨rfl,rfl,rfl,rfl,rfl,tv⟩ tv) (Ag (Ag (Ac (st (An rfl tv (st (An rfl tv (st (c_ (Aq t3 rfl tv) (Aw (cF (Cj (cb:=(i:Int)==(a0.length:Int)) rfl (fun h=>?_) (fun h=>?_))))))))))))))))))))
 ·have e1:i=a0.length:=by have:=eq_of_beq h; omega
  subst e1
  rw [List.take_length,List.drop_length,List.append_nil]
  refine Ag (Ac (st (An rfl tv (st (An rfl tv (st (Fx (e:=Ay) (l0:=a0) (l1:=a2) rfl rfl tv rfl (show (1024000:Nat)<1048576 by decide) hbyte (st (An rfl tv (Aw (At ⟨[(6,Al 1024000 (a0++a2)),(2,Al 2097152 a2)],[],[]⟩ (fg ⟨rfl,rfl,tv⟩ tv) ?_)))))))))))
  exact Du (Bp rfl rfl rfl rfl rfl ⟨⟨rfl,dN (fun _=>rfl)⟩,tv⟩)
 have hlt:i<a0.length:=by
  have:(i:Int)≠(a0.length:Int):=fun h1=>by rw [h1] at h; simp at h
  omega
 have hemp:a0.map Ay≠[]:=fun e1=>by
  have:=congrArg List.length e1
  simp at this
  subst this
  simp at hlt
 have hemp2:a2.map Ay≠[]:=fun e1=>by
  have:=congrArg List.length e1
  simp at this
  subst this
  simp at hpos
 refine En (At ⟨[(0,Al 1024000 a0),(1,iV i),(2,Al 2097152 a2),(7,iV (a2.length:Int)),(8,iV (a0.length:Int))],[],[]⟩ (fg ⟨rfl,rfl,rfl,rfl,rfl,tv⟩ tv) (Ag (Ag (Ac (st (An rfl tv (st (An rfl tv (st (c_ (Aq (v:=iV ((a0.length+a2.length:Nat):Int)) ⟨tv,tv,tv⟩ (congrArg (fun z=>some (True,V.int .i64 z)) w1) tv) (st (An rfl tv (st (cap_ (e:=Ay) (l0:=a0) rfl fun c hc _ _=>(st (c_ (Aq t3 rfl tv) (Aw ?_)))))))))))))))))
 refine At ⟨[(31,.bool (decide (((a0.length+a2.length:Nat):Int)>(c:Int)))),(0,Al 1024000 a0),(1,iV i),(2,Al 2097152 a2),(7,iV (a2.length:Int)),(8,iV (a0.length:Int))],[],[(0,Ei+(c:Int))]⟩
  (fgc ⟨rfl,rfl,rfl,rfl,rfl,rfl,tv⟩ tv ⟨.inr (.inr ⟨29,Ei+(c:Int),_,_,0,_,0,_,rfl,rfl,hemp,rfl,hemp,by decide,.inr ⟨rfl,rfl⟩⟩),tv⟩) ?_
 refine Cj (cb:=decide (((a0.length+a2.length:Nat):Int)>(c:Int))) rfl (fun hgt=>?_) (fun hle=>?_)
 ·have hgt':c<a0.length+a2.length:=by have:=of_decide_eq_true hgt; omega
  refine Ag (Ac (st (An rfl tv (st (An rfl tv (st (c_ (Dk (e:=Ay) (y:=a0.take i) rfl rfl tv ⟨tv,tv⟩ rfl rfl (by rw [show (none:Option Int).getD 0=((0:Nat):Int) from rfl]; exact slcN a0 0 i (by omega) (by omega))) (st (An rfl tv (st (An rfl tv (st (c_ (Aq (v:=iV ((a0.length+a2.length:Nat):Int)) ⟨tv,tv,tv⟩ (congrArg (fun z=>some (True,V.int .i64 z)) w1) tv) (st (An rfl tv (st (c_ (Aq (v:=iV ((a0.length+a2.length-i:Nat):Int)) ⟨tv,tv,tv⟩ (congrArg (fun z=>some (True,V.int .i64 z)) w3) tv) (st (appzx_ (e:=Ay) (l0:=a0.take i) (c:=Ei+(c:Int)-0) (t:=1024000) (default:Au) rfl rfl rfl (by decide) (Int.natCast_nonneg _) ?_ rfl (by omega) ?_ ?_)))))))))))))))))))
  ·have e1:(a0.take i).length+(a0.length+a2.length-i)=a0.length+a2.length:=by simp; omega
   have:=Int.ofNat_le.2 hbyte
   rw [Int.natCast_mul] at this
   rw [←Int.natCast_add,e1]
   exact this
  ·have e1:(a0.take i).length=i:=by simp; omega
   rw [e1]; omega
  rw [show ((a0.length+a2.length-i:Nat):Int).toNat=a0.length+a2.length-i from rfl]
  refine st (An rfl tv (Aw (At ⟨[(9,Al 2560 (a0.take i++List.replicate (a0.length+a2.length-i) (default:Au))),(0,Al 1024000 a0),(1,iV i),(2,Al 2097152 a2),(7,iV (a2.length:Int))],[],[]⟩ (fg ⟨rfl,rfl,rfl,rfl,rfl,tv⟩ tv) ?_)))
  generalize hR:a0.take i++List.replicate (a0.length+a2.length-i) (default:Au)=R
  have hRl:R.length=a0.length+a2.length:=by rw [←hR]; simp; omega
  have hRt:R.take i=a0.take i:=by rw [←hR,List.take_append_of_le_length (by simp; omega),List.take_take,Nat.min_self]
  refine Ag (Ac (st (An rfl tv (st (An rfl tv (st (c_ (Dk (e:=Ay) (y:=R.drop i) rfl rfl tv ⟨tv,tv⟩ rfl rfl (bS R i (by omega))) (st (An rfl tv (st (copy_ (e:=Ay) (l0:=R.drop i) (l1:=a2) (t:=2560) rfl rfl tv rfl (Aw (At ⟨[(9,Al 2560 (ovl R i (a2.take (R.drop i).length))),(0,Al 1024000 a0),(1,iV i),(2,Al 2097152 a2),(7,iV (a2.length:Int))],[],[]⟩ (fg ⟨congrArg (fun z=>some (V.own 2560 0 2 z)) (Em (off:=0)),rfl,rfl,rfl,rfl,tv⟩ tv) ?_)))))))))))))
  have hR2l:(ovl R i (a2.take (R.drop i).length)).length=a0.length+a2.length:=by rw [Vk,hRl]
  generalize hR2:ovl R i (a2.take (R.drop i).length)=R2 at hR2l
  refine Ag (Dj (Ao tv (An rfl tv (⟨tv,Ao tv (An rfl tv (⟨tv,Ao tv (An rfl tv (⟨tv,Ao tv (c_ (Aq (v:=iV ((i+a2.length:Nat):Int)) ⟨tv,tv,tv⟩ (congrArg (fun z=>some (True,V.int .i64 z)) w2) tv) (⟨tv,Ao tv (c_ (Dk (e:=Ay) (y:=R2.drop (i+a2.length)) rfl rfl tv ⟨tv,tv⟩ rfl rfl (bS R2 (i+a2.length) (by omega))) (⟨tv,Ao tv (An rfl tv (⟨tv,Ao tv (An rfl tv (⟨tv,Ao tv (c_ (Dk (e:=Ay) (y:=a0.drop i) rfl rfl tv ⟨tv,tv⟩ rfl rfl (bS a0 i hi)) (⟨tv,Do (copy_ (e:=Ay) (l0:=R2.drop (i+a2.length)) (l1:=a0.drop i) (t:=2560) rfl rfl tv rfl (iK ⟨[],tv,tv,Jo ?_⟩)) Ca⟩))⟩))⟩))⟩))⟩))⟩))⟩))⟩))))
  have hfin:ovl R2 (i+a2.length) ((a0.drop i).take (R2.drop (i+a2.length)).length)=a0.take i++a2++a0.drop i:=by
   rw [←hR2]
   exact YV hRl hRt hi
  refine At ⟨[(9,Al 2560 (a0.take i++a2++a0.drop i)),(2,Al 2097152 a2)],[],[]⟩ (fg ⟨(congrArg (fun z=>some (V.own 2560 0 2 z)) (Em (off:=0))).trans (congrArg (fun z=>some (V.own 2560 0 2 (z.map Ay))) hfin),rfl,tv⟩ tv) (Ag (Ac (st (An rfl tv (st (An rfl tv (Aw (cF ?_))))))))
  exact Du (Bp rfl rfl rfl rfl rfl ⟨⟨rfl,dN (fun _=>rfl)⟩,tv⟩)
 ·have hle':a0.length+a2.length≤c:=by have:=of_decide_eq_false hle; omega
  refine En ?_
  refine At ⟨[(0,Al 1024000 a0),(1,iV i),(2,Al 2097152 a2),(7,iV (a2.length:Int)),(8,iV (a0.length:Int))],[],[(0,Ei+(c:Int))]⟩
   (fgc ⟨rfl,rfl,rfl,rfl,rfl,tv⟩ tv ⟨.inl ⟨_,rfl,.inl rfl⟩,tv⟩) ?_
  refine Ag (Ac (st (An rfl tv (st (An rfl tv (st (An rfl tv (st (c_ (Aq (v:=iV ((a0.length+a2.length:Nat):Int)) ⟨tv,tv,tv⟩ (congrArg (fun z=>some (True,V.int .i64 z)) w1) tv) (st (c_ (ZC (e:=Ay) (l0:=a0) (t:=1024000) (sz:=2) (H:=a0.length+a2.length) (c:=Ei+(c:Int)) rfl rfl (Nat.le_add_right _ _) (show (0:Nat)<2 by decide) rfl (by rw [bH]; omega)) (st (An rfl tv (Aw ?_))))))))))))))
  rw [Nat.add_sub_cancel_left]
  have hA0:(a0.map some++List.replicate a2.length none).length=a0.length+a2.length:=by simp
  have hA1:(a0.map some++List.replicate a2.length none).take i=(a0.take i).map some:=by rw [List.take_append_of_le_length (by simpa using hi),List.map_take]
  have hA2:((a0.map some++List.replicate a2.length none).drop i).take (a0.length-i)=(a0.drop i).map some:=by
   rw [List.drop_append_of_le_length (by simpa using hi),←List.map_drop,List.take_append_of_le_length (by simp),List.take_of_length_le (by simp)]
  generalize (a0.map some++List.replicate a2.length none:List (Option (Au)))=A at hA0 hA1 hA2
  refine At ⟨[(0,.own 1024000 0 2 (A.map (eo Ay 2))),(1,iV i),(2,Al 2097152 a2),(7,iV (a2.length:Int)),(8,iV (a0.length:Int))],[],[]⟩ (fg ⟨rfl,rfl,rfl,rfl,rfl,tv⟩ tv) (Ag (Ag (Ac (st (An rfl tv (st (An rfl tv (st (An rfl tv (st (An rfl tv (st (c_ (Aq (v:=iV ((i+a2.length:Nat):Int)) ⟨tv,tv,tv⟩ (congrArg (fun z=>some (True,V.int .i64 z)) w2) tv) (st (c_ (Dk (e:=eo Ay 2) (y:=A.drop (i+a2.length)) rfl rfl tv ⟨tv,tv⟩ rfl rfl (bS A (i+a2.length) (by omega))) (st (c_ (covl rfl rfl (by decide) hemp2 (fun e1=>?_)) ?_)))))))))))))))))
  ·have:=congrArg List.length e1
   simp at this
   omega
  refine st (c_ (Aq ⟨tv,tv⟩ rfl tv) (Aw (At ⟨[(68,.bool true),(0,.own 1024000 0 2 (A.map (eo Ay 2))),(1,iV i),(2,Al 2097152 a2),(7,iV (a2.length:Int)),(8,iV (a0.length:Int))],[],[]⟩ (fg ⟨rfl,rfl,rfl,rfl,rfl,rfl,tv⟩ tv) (Cj (cb:=true) rfl (fun _=>(Ag (Dj (Ao tv (An rfl tv (⟨tv,Ao tv (An rfl tv (⟨tv,Ao tv (An rfl tv (⟨tv,Ao tv (c_ (Aq (v:=iV ((i+a2.length:Nat):Int)) ⟨tv,tv,tv⟩ (congrArg (fun z=>some (True,V.int .i64 z)) w2) tv) (⟨tv,Ao tv (c_ (Dk (e:=eo Ay 2) (y:=A.drop (i+a2.length)) rfl rfl tv ⟨tv,tv⟩ rfl rfl (bS A (i+a2.length) (by omega))) (⟨tv,Ao tv (An rfl tv (⟨tv,Ao tv (An rfl tv (⟨tv,Ao tv (c_ (Dk (e:=eo Ay 2) (y:=A.drop i) rfl rfl tv ⟨tv,tv⟩ rfl rfl (bS A i (by omega))) (⟨tv,Do (copy_ (e:=eo Ay 2) (l0:=A.drop (i+a2.length)) (l1:=A.drop i) (t:=1024000) rfl rfl tv rfl (iK ⟨[],tv,tv,Jo ?_⟩)) Ca⟩))⟩))⟩))⟩))⟩))⟩))⟩))⟩)))))) (fun h=>by cases h)))))
  have hB:(A.drop i).take (A.drop (i+a2.length)).length=(a0.drop i).map some:=by
   rw [←hA2]; congr 1; simp; omega
  rw [hB]
  refine At ⟨[(0,.own 1024000 0 2 ((ovl A (i+a2.length) ((a0.drop i).map some)).map (eo Ay 2))),(1,iV i),(2,Al 2097152 a2)],[],[]⟩ (fg ⟨congrArg (fun z=>some (V.own 1024000 0 2 z)) (Em (off:=0)),rfl,rfl,tv⟩ tv) ?_
  have hR2l:(ovl A (i+a2.length) ((a0.drop i).map some)).length=a0.length+a2.length:=by rw [Vk,hA0]
  have hfin:ovl (ovl A (i+a2.length) ((a0.drop i).map some)) i (a2.map some)=(a0.take i++a2++a0.drop i).map some:=tS hA0 hA1 hi
  generalize ovl A (i+a2.length) ((a0.drop i).map some)=R2 at hR2l hfin
  refine Ag (Ac (st (An rfl tv (st (An rfl tv (st (c_ (Dk (e:=eo Ay 2) (y:=R2.drop i) rfl rfl tv ⟨tv,tv⟩ rfl rfl (bS R2 i (by omega))) (st (An rfl tv (st (copy_ (e:=eo Ay 2) (l0:=R2.drop i) (l1:=a2.map some) (t:=1024000) rfl rfl tv (congrArg (fun z=>some (2,z)) (aW a2)) (Aw ?_))))))))))))
  have hT:(a2.map some).take (R2.drop i).length=a2.map some:=List.take_of_length_le (by simp; omega)
  rw [hT]
  refine At ⟨[(0,Al 1024000 (a0.take i++a2++a0.drop i)),(2,Al 2097152 a2)],[],[]⟩
   (fg ⟨(congrArg (fun z=>some (V.own 1024000 0 2 z)) (Em (off:=0))).trans (congrArg (fun z=>some (V.own 1024000 0 2 z)) ((congrArg (List.map (eo Ay 2)) hfin).trans (aW _).symm)),rfl,tv⟩ tv) ?_
  refine Ag (Ac (st (An rfl tv (st (An rfl tv (Aw (cF ?_)))))))
  exact Du (Bp rfl rfl rfl rfl rfl ⟨⟨rfl,dN (fun _=>rfl)⟩,tv⟩)

end Go.Ev
