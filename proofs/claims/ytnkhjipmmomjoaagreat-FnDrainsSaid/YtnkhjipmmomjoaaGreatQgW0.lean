/- The walks of functions: the code comes to the answers that QgD tells. Written by a program of ours. -/
import Derived.Test.YtnkhjipmmomjoaaGreatQgD
set_option linter.all false
set_option maxHeartbeats 4000000
set_option linter.unusedVariables false
set_option maxRecDepth 100000
namespace Go.Ev
variable {C:Bh}
theorem sj {α:Type} {a b:α} (h:some a=some b):a=b:=Option.some.inj h
abbrev wi:Int→Int:=IntKind.i64.wrap
theorem tv:True:=True.intro
abbrev iQ (n:Nat) (o:PU):Bt:=⟨some n,.p o,none⟩
abbrev iV (n:Int):V:=.int .i64 n
theorem nl {a b:Nat} (h:Nat.ble a b=true):a≤b:=Nat.le_of_ble_eq_true h
theorem t3:True∧True∧True:=⟨trivial,trivial,trivial⟩
abbrev m_ (d s:Nat):Bt:=⟨some d,.p (.mv (.t s)),none⟩
abbrev k_ (d:Nat) (v:V):Bt:=⟨some d,.p (.mv (.c v)),none⟩
abbrev i_ (d:Nat) (n:Int):Bt:=⟨some d,.p (.mv (.c (.int .i64 n))),none⟩
abbrev f_ (d x o:Nat):Bt:=⟨some d,.p (.fieldA (.t x) o),none⟩
abbrev l_ (d x n:Nat):Bt:=⟨some d,.p (.load (.t x) n false),none⟩
abbrev L_ (d x n:Nat):Bt:=⟨some d,.p (.load (.t x) n true),none⟩
abbrev x_ (d x y n:Nat):Bt:=⟨some d,.p (.idxA (.t x) (.t y) n),none⟩
abbrev e_ (d x n:Nat):Bt:=⟨some d,.p (.ext (.t x) n),none⟩
abbrev b_ (o:BinOp) (d x y:Nat):Bt:=⟨some d,.p (.bin o (.t x) (.t y)),none⟩
abbrev B_ (o:BinOp) (d x:Nat) (n:Int):Bt:=⟨some d,.p (.bin o (.t x) (.c (.int .i64 n))),none⟩
abbrev n_ (d x:Nat):Bt:=⟨some d,.p (.len (.t x)),none⟩
abbrev N_ (d x:Nat):Bt:=⟨some d,.p (.un .not (.t x)),none⟩
abbrev s_ (x y n:Nat):Bt:=⟨none,.store (.t x) (.t y) n,none⟩
abbrev a_ (d:Nat) (z:List V):Bt:=⟨some d,.alloc z,none⟩
abbrev X_ (d x:Nat):Bt:=⟨some d,.box (.t x),none⟩
abbrev q_ (d f:Nat) (l:List Ci):Bt:=⟨some d,.call f l,none⟩
abbrev pk (d:Nat) (a b c:Ci):Bt:=⟨some d,.pick a b c,none⟩
abbrev pT (g d:Nat) (o:PU):Bt:=⟨some d,.p o,some (g,true)⟩
abbrev pF (g d:Nat) (o:PU):Bt:=⟨some d,.p o,some (g,false)⟩
abbrev zV (a b c:Nat):List V:=[.int .i64 0,.int .i64 0,.own a 0 4 [],.own b 0 2 [],.own c 0 1 [],.bool false]
abbrev zT (a:Nat):List V:=[.int .i64 0,.int .i64 0,.own a 0 4 []]
abbrev mT (g d s:Nat):Bt:=⟨some d,.p (.mv (.t s)),some (g,true)⟩
abbrev mF (g d s:Nat):Bt:=⟨some d,.p (.mv (.t s)),some (g,false)⟩
abbrev lT (g d x n:Nat) (a:Bool):Bt:=⟨some d,.p (.load (.t x) n a),some (g,true)⟩
abbrev lF (g d x n:Nat) (a:Bool):Bt:=⟨some d,.p (.load (.t x) n a),some (g,false)⟩
abbrev fT (g d x n:Nat):Bt:=⟨some d,.p (.fieldA (.t x) n),some (g,true)⟩
abbrev fF (g d x n:Nat):Bt:=⟨some d,.p (.fieldA (.t x) n),some (g,false)⟩
abbrev xT (g d x y n:Nat):Bt:=⟨some d,.p (.idxA (.t x) (.t y) n),some (g,true)⟩
abbrev xF (g d x y n:Nat):Bt:=⟨some d,.p (.idxA (.t x) (.t y) n),some (g,false)⟩
abbrev pa (d a b:Nat):Bt:=⟨some d,.pick (.t a) (.t b) (.c (.bool false)),none⟩
abbrev po (d a b:Nat):Bt:=⟨some d,.pick (.t a) (.c (.bool true)) (.t b),none⟩
abbrev sr (l:List Bt) (b:IR):IR:=.seq (.reg l) b
abbrev sd (p:DP) (b:IR):IR:=.seq (.draw p) b
abbrev rr (l:List Bt):IR:=.seq (.reg l) .ret
abbrev iz (n:Nat) (a:IR):IR:=.ite (.t n) a .skip
abbrev Ju (n:Nat) (a:IR):IR:=.block n (.loop a)
def tk:List Bt→DP→DP
  | [],p=>p
  | i::l,p=>.take i (tk l p)
abbrev FO (C:Bh) (c:Dp):Bh:=fun _=>gN C c
theorem f0 {C:Bh} {fn:Dp} {args:List V} {bx:List (List V)} {t:Fq} (h:WL C [.c fn.body] (FQ fn.res bx.length t) .normal ⟨Ow args 0,Ox bx Cq,[]⟩) (h0:Nat.ble args.length fn.nt=true:=by kernel_rfl):gN C fn ⟨args,bx⟩ t:=fn_ (Nat.le_of_ble_eq_true h0) h
abbrev Ap (t k:Nat) (l:List (List V)):V:=.own t 0 k l
abbrev u_ (k:Nat) (l:List (List V)):V:=.lst k l
abbrev Cp (l:List Ah):V:=.lst 2 (l.map Bx)
abbrev Ck (l:List Aa):V:=.lst 4 (l.map Ac)
abbrev Dv (l:List Am):V:=.lst 7 (l.map Ar)
abbrev lI (l:List Int):V:=.lst 1 (l.map eI)
abbrev lU8 (l:List UInt8):V:=.lst 1 (l.map eU8)
abbrev Br (t:Nat) (l:List Ah):V:=.own t 0 2 (l.map Bx)
abbrev Af (t:Nat) (l:List Aa):V:=.own t 0 4 (l.map Ac)
abbrev Ey (t:Nat) (l:List Am):V:=.own t 0 7 (l.map Ar)
abbrev Cw (t:Nat) (l:List Ao):V:=.own t 0 2 (l.map Bg)
abbrev oI (t:Nat) (l:List Int):V:=.own t 0 1 (l.map eI)
abbrev nP (x0:Int) (x1:Int) (x2:Int) (x3:Bool):List V:=[iV x0,iV x1,iV x2,.bool x3]
abbrev Bo (x0:Int) (x1:Int) (w2:Nat→List (List V)→V) (x2:List Aa):List V:=[iV x0,iV x1,w2 4 (x2.map Ac)]
abbrev Cm (x:Ak) (w2:Nat→List (List V)→V):List V:=[iV x.clock,iV x.next,w2 4 (x.Ae.map Ac)]
abbrev At (x0:Int) (x1:Int) (w2:Nat→List (List V)→V) (x2:List Aa) (w3:Nat→List (List V)→V) (x3:List Ah) (w4:Nat→List (List V)→V) (x4:List Int) (x5:Bool):List V:=[iV x0,iV x1,w2 4 (x2.map Ac),w3 2 (x3.map Bx),w4 1 (x4.map eI),.bool x5]
abbrev Bk (x:Aj) (w2:Nat→List (List V)→V) (w3:Nat→List (List V)→V) (w4:Nat→List (List V)→V):List V:=[iV x.Ad.clock,iV x.Ad.next,w2 4 (x.Ad.Ae.map Ac),w3 2 (x.Ab.map Bx),w4 1 (x.Ai.map eI),.bool x.Al]
abbrev Bv (x0:Int) (x1:Int) (x2:Int) (x3:Int) (x4:Int) (w5:Nat→List (List V)→V) (x5:List Int) (x6:Int):List V:=[iV x0,iV x1,iV x2,iV x3,iV x4,w5 1 (x5.map eI),iV x6]
abbrev aI (x:Am) (w5:Nat→List (List V)→V):List V:=[iV x.kind,iV x.id,iV x.ttl,iV x.Ef,iV x.clock,w5 1 (x.Cb.map eI),iV x.stop]
abbrev Eu (w0:Nat→List (List V)→V) (x0:List UInt8) (x1:Int) (x2:Int):List V:=[w0 1 (x0.map eU8),iV x1,iV x2]
abbrev Cr (x0:Int) (x1:Int) (w2:Nat→List (List V)→V) (x2:List Aa) (w3:Nat→List (List V)→V) (x3:List Ah) (w4:Nat→List (List V)→V) (x4:List Int) (x5:Bool) (x6:Int) (x7:Int) (x8:Int) (x9:Int) (x10:Int) (w11:Nat→List (List V)→V) (x11:List Int) (x12:Int) (x13:Int):List V:=[iV x0,iV x1,w2 4 (x2.map Ac),w3 2 (x3.map Bx),w4 1 (x4.map eI),.bool x5,iV x6,iV x7,iV x8,iV x9,iV x10,w11 1 (x11.map eI),iV x12,iV x13]
abbrev Ft (x:Cu) (w2:Nat→List (List V)→V) (w3:Nat→List (List V)→V) (w4:Nat→List (List V)→V) (w11:Nat→List (List V)→V):List V:=[iV x.v.Ad.clock,iV x.v.Ad.next,w2 4 (x.v.Ad.Ae.map Ac),w3 2 (x.v.Ab.map Bx),w4 1 (x.v.Ai.map eI),.bool x.v.Al,iV x.a.kind,iV x.a.id,iV x.a.ttl,iV x.a.Ef,iV x.a.clock,w11 1 (x.a.Cb.map eI),iV x.a.stop,iV x.Gs]

/- loop.example/g00149/spec.l01In -/
def c56_r0:=[k_ 6 (.bool false)]
def c56_r1:=[m_ 7 0,m_ 8 1,b_ .geq 9 7 8,m_ 10 9,mT 10 11 0,mT 10 12 2,pT 10 13 (.bin .leq (.t 11) (.t 12)),pa 14 10 13,m_ 6 14]
def c56:Dp:=⟨3,15,[.t 6],sr c56_r0 (rr c56_r1)⟩
def K56 (D:Bh):Prop:=∀a0 a1 a2 r,oF a0 a1 a2=some r→D 56 ⟨[iV a0,iV a1,iV a2],[]⟩ ⟨.bool r,[],[]⟩
theorem F56:K56 (FO C c56):=by
 intro a0 a1 a2 r h0
 refine f0 (Ay 3 [(0,iV a0),(1,iV a1),(2,iV a2)] [] (cX 9 (An (o_ ?_))))
 obtain rfl:=sj h0
 exact Dd 3

/- loop.example/g00149/spec.l09Act -/
def EV:=[X_ 1 0,k_ 2 (.bool false)]
def EW:List Bt:=[f_ 4 1 5,l_ 5 4 1,n_ 6 5,B_ .gtr 7 6 4096,m_ 8 7,fF 8 9 1 6,lF 8 10 9 1 false,⟨some 11,.call 56 [.t 10,.c (iV 0),.c (iV 2)],some (8,false)⟩,pF 8 12 (.un .not (.t 11)),po 13 8 12]
def EX:=[k_ 2 (.bool false)]
def EY:=[i_ 3 0]
def EZ:=[m_ 14 3,f_ 15 1 5,l_ 16 15 1,n_ 17 16,b_ .lss 18 14 17]
def FA:=[f_ 21 1 5,l_ 22 21 1,m_ 23 3,x_ 24 22 23 1,l_ 25 24 1,q_ 26 56 [.t 25,.c (iV 0),.c (iV 2)],N_ 27 26]
def FB:=[k_ 2 (.bool false)]
def FC:=[m_ 19 3,B_ .add 20 19 1,m_ 3 20]
def EU:IR:=(.seq (sr EZ (.ite (.t 18) .skip (.exit 0))) (.seq (.block 1 (sr FA (iz 27 (rr FB)))) (.reg FC)))
def FD:=[k_ 2 (.bool true)]
def c100:Dp:=⟨1,28,[.t 2],sr EV (.seq (sr EW (iz 13 (rr EX))) (.seq (sr EY (Ju 0 EU)) (rr FD)))⟩
def K100 (D:Bh):Prop:=∀a0 r,g100 a0=some r→D 100 ⟨[.agg (Ar a0)],[]⟩ ⟨.bool r,[],[]⟩
theorem F100 (H56:K56 C):K100 (FO C c100):=by
 intro a0 r h0
 refine f0 (Ay 4 [(1,.ptr 64 0)] [(64,Ar a0)] (Bc 4 (An (Sn rfl (o_ (cX 4 (An (bb h0 fun r1 e2 h0=>st (Gr (r:=.bool r1) rfl false (fun hg=>H56 a0.stop 0 2 r1 (ip hg e2)) ⟨(fun hg=>hg),tv,tv,tv⟩ (fun _=>rfl) (fun _=>rfl) (fun _=>rfl) (fun h=>nomatch h) (o_ (AU 3 [(1,.ptr 64 0),(13,.bool (bif (decide ((a0.Cb.length:Int)>4096)) then true else (!r1)))] [(64,Ar a0)] (Ct h0 (fun c3 h0=>?_) (fun c3 h0=>?_)))))))))))))
 ·obtain rfl:=sj h0
  exact Dd 4
 ·refine Ay 6 [(1,.ptr 64 0),(3,iV 0)] [(64,Ar a0)] (Cg (bb h0 fun r24 e25 h0=>Cz (R:=(fun S=>.inl ()=r24∧S=⟨[],[],[]⟩)) (Qi a0) (fun s S=>match s with | p10=>S=⟨[(1,.ptr 64 0),(3,iV p10)],[(64,Ar a0)],[]⟩) e25 _ (Ez (by kernel_rfl)) rfl 0 (fun _=>rfl) ?_ ?_))
  ·rintro S _ hfg ⟨rfl,rfl⟩
   refine Dn _ hfg ?_
   obtain rfl:=sj h0
   exact Dd 4
  ·rintro p10 o1 _ K1 rfl h1 hx1 hK1 hE1 hR1
   refine Bc 5 (An (Sn rfl (o_ (Ay 2 [(1,.ptr 64 0),(3,iV p10),(18,.bool (decide (p10<(a0.Cb.length:Int))))] [(64,Ar a0)] (Ct h1 (fun c18 h1=>?_) (fun c18 h1=>?_))))))
   ·refine Bc 8 (An (bb h1 fun y19 e20 h1=>Vv rfl rfl e20 (st (c_ (Bb ⟨tv,tv⟩ rfl (nl rfl)) (bb h1 fun r21 e22 h1=>Vf (H56 y19 0 2 r21 e22) (o_ (Ay 2 [(1,.ptr 64 0),(3,iV p10),(27,.bool (!r21))] [(64,Ar a0)] (Ct h1 (fun c23 h1=>?_) (fun c23 h1=>?_)))))))))
    ·obtain rfl:=sj h1
     obtain rfl:=hx1 _ rfl
     obtain rfl:=sj h0
     exact rX 4 hR1
    ·refine Bc 7 ?_
     obtain rfl:=sj h1
     exact kn hK1 rfl rfl
   ·obtain rfl:=sj h1
    obtain rfl:=hx1 _ rfl
    refine Jv rfl ?_
    exact jn hE1 ⟨rfl,rfl⟩

/- loop.example/g00149/spec.l08Find -/
def c92_r0:=[X_ 2 0,i_ 4 0]
def c92_r1:=[i_ 5 0]
def c92_r2:=[m_ 6 5,f_ 7 2 2,l_ 8 7 1,n_ 9 8,b_ .lss 10 6 9]
def c92_r3:=[f_ 13 2 2,l_ 14 13 1,m_ 15 5,x_ 16 14 15 4,f_ 17 16 0,l_ 18 17 1,m_ 19 1,b_ .eql 20 18 19]
def c92_r4:=[m_ 21 5,m_ 4 21]
def c92_r5:=[m_ 11 5,B_ .add 12 11 1,m_ 5 12]
def c92_l0:IR:=(.seq (sr c92_r2 (.ite (.t 10) .skip (.exit 0))) (.seq (.block 1 (sr c92_r3 (iz 20 (rr c92_r4)))) (.reg c92_r5)))
def c92_r6:=[i_ 4 (-1)]
def c92:Dp:=⟨2,22,[.t 4],sr c92_r0 (.seq (sr c92_r1 (Ju 0 c92_l0)) (rr c92_r6))⟩
def K92 (D:Bh):Prop:=∀a0 a1 r,EE a0 a1=some r→D 92 ⟨[.agg (Bd a0),iV a1],[]⟩ ⟨iV r,[],[]⟩
theorem F92:K92 (FO C c92):=by
 intro a0 a1 r h0
 refine f0 (Ay 9 [(1,iV a1),(2,.ptr 128 0),(5,iV 0)] [(128,Bd a0)] (Cg (bb h0 fun r15 e16 h0=>Cz (R:=(fun S=>.inl ()=r15∧S=⟨[],[],[]⟩)) (fG a0 a1) (fun s S=>match s with | p5=>S=⟨[(1,iV a1),(2,.ptr 128 0),(5,iV p5)],[(128,Bd a0)],[]⟩) e16 _ (Ez (by kernel_rfl)) rfl 0 (fun _=>rfl) ?_ ?_)))
 ·rintro S _ hfg ⟨rfl,rfl⟩
  refine Dn _ hfg ?_
  obtain rfl:=sj h0
  exact Dd 4
 ·rintro p5 o1 _ K1 rfl h1 hx1 hK1 hE1 hR1
  refine Bc 5 (An (Sn rfl (o_ (Ay 2 [(1,iV a1),(2,.ptr 128 0),(5,iV p5),(10,.bool (decide (p5<(a0.Ae.length:Int))))] [(128,Bd a0)] (Ct h1 (fun c11 h1=>?_) (fun c11 h1=>?_))))))
  ·refine Bc 8 (An (bb h1 fun y12 e13 h1=>Vv rfl rfl e13 (o_ (Ay 5 [(1,iV a1),(2,.ptr 128 0),(5,iV p5),(20,.bool (y12.id==a1))] [(128,Bd a0)] (Ct h1 (fun c14 h1=>?_) (fun c14 h1=>?_))))))
   ·obtain rfl:=sj h1
    obtain rfl:=hx1 _ rfl
    obtain rfl:=sj h0
    exact rX 5 hR1
   ·refine Bc 7 ?_
    obtain rfl:=sj h1
    exact kn hK1 rfl rfl
  ·obtain rfl:=sj h1
   obtain rfl:=hx1 _ rfl
   refine Jv rfl ?_
   exact jn hE1 ⟨rfl,rfl⟩

/- loop.example/g00149/spec.l08Copy -/
def HO:=[X_ 1 0,a_ 2 (zT 131)]
def HP:List Bt:=[⟨some 3,.mkS 4 [iV 0,iV 0,iV 0,.bool false] 0 [],none⟩,f_ 4 1 2,l_ 5 4 1,⟨some 6,.app 4 32 (.t 3) (.t 5),none⟩,f_ 7 1 2,s_ 7 6 1]
def HQ:=[L_ 8 1 3,s_ 2 8 3]
def c111:Dp:=⟨1,9,[.cell 2 3 true],sr HO (sr HP (rr HQ))⟩
def kF (D:Bh):Prop:=∀a0 r,iH a0=some r→D 111 ⟨[.agg (Bd a0)],[]⟩ ⟨.agg (Cm r (Ap 0)),[],[]⟩
theorem F111:kF (FO C c111):=by
 intro a0 r h0
 refine f0 (Ay 4 [(1,.ptr 64 0),(2,.ptr 128 0)] [(64,Bd a0),(128,Bo 0 0 (Ap 131) [])] (Bc 4 (An (gg h0 fun c1 h0=>st (Ja (e:=Ac) (l0:=([]:List Aa)) (l1:=a0.Ae) rfl rfl tv rfl (by decide) c1 (o_ ?_))))))
 obtain rfl:=sj h0
 exact Dd 9

/- loop.example/g00149/spec.l08Revoke -/
def c74_r0:=[X_ 2 0,a_ 4 (zT 259),i_ 5 0]
def c74_r1:=[L_ 8 2 3,m_ 9 1,q_ 10 92 [.t 8,.t 9],m_ 6 10]
def c74_r2:=[m_ 11 6,B_ .lss 12 11 0]
def c74_r3:=[L_ 13 2 3,s_ 4 13 3,i_ 5 5]
def c74_r4:=[L_ 14 2 3,q_ 15 111 [.t 14],a_ 7 (zT 451),s_ 7 15 3]
def c74_r5:List Bt:=[f_ 16 7 2,l_ 17 16 1,m_ 18 6,x_ 19 17 18 4,f_ 20 19 3,⟨none,.store (.t 20) (.c (.bool true)) 1,none⟩]
def c74_r6:=[L_ 21 7 3,s_ 4 21 3,i_ 5 0]
def c74:Dp:=⟨2,22,[.cell 4 3 true,.t 5],sr c74_r0 (sr c74_r1 (.seq (sr c74_r2 (iz 12 (rr c74_r3))) (sr c74_r4 (sr c74_r5 (rr c74_r6)))))⟩
def K74 (D:Bh):Prop:=∀a0 a1 r,g74 a0 a1=some r→D 74 ⟨[.agg (Bd a0),iV a1],[]⟩ ⟨.tup [.agg (Bd r.1),iV r.2],[],[]⟩
theorem F74 (H92:K92 C) (H111:kF C):K74 (FO C c74):=by
 intro a0 a1 r h0
 refine f0 (Ay 5 [(1,iV a1),(2,.ptr 128 0),(4,.ptr 256 0)] [(128,Bd a0),(256,Bo 0 0 (Ap 259) [])] (Bc 3 (An (bb h0 fun r1 e2 h0=>Vf (H92 a0 a1 r1 e2) (o_ (Ay 8 [(2,.ptr 128 0),(4,.ptr 256 0),(6,iV r1),(12,.bool (decide (r1<0)))] [(128,Bd a0),(256,Bo 0 0 (Ap 259) [])] (Ct h0 (fun c3 h0=>?_) (fun c3 h0=>?_))))))))
 ·obtain rfl:=sj h0
  exact Dd 6
 ·refine Bc 4 (An (bb h0 fun r4 e5 h0=>Sy (H111 a0 r4 e5) (ar (Bi rfl (af rfl))) (o_ (Ay 3 [(4,.ptr 256 0),(6,iV r1),(7,.ptr 448 0)] [(256,Bo 0 0 (Ap 259) []),(448,Cm r4 (Ap 960))] (Bc 4 (An (bb h0 fun y6 e7 h0=>kA rfl rfl e7 (st (c_ (Bb ⟨tv,tv⟩ rfl tv) (bb h0 fun y8 e9 h0=>so_ (Aa.mk y8.id y8.Bm y8.cap true) rfl rfl e9 (o_ ?_)))))))))))
  obtain rfl:=sj h0
  exact Dd 8 [960]

/- loop.example/g00149/spec.l08Later -/
def c53_r0:=[i_ 4 0]
def c53_r1:List Bt:=[m_ 5 0,m_ 6 1,⟨some 7,.p (.bin .sub (.c (iV 9223372036854775807)) (.t 6)),none⟩,b_ .gtr 8 5 7]
def c53_r2:=[i_ 4 9223372036854775807]
def c53_r3:=[m_ 9 0,m_ 10 1,b_ .add 11 9 10,m_ 4 11]
def c53:Dp:=⟨2,12,[.t 4],sr c53_r0 (.seq (sr c53_r1 (iz 8 (rr c53_r2))) (rr c53_r3))⟩
def K53 (D:Bh):Prop:=∀a0 a1 r,g53 a0 a1=some r→D 53 ⟨[iV a0,iV a1],[]⟩ ⟨iV r,[],[]⟩
theorem F53:K53 (FO C c53):=by
 intro a0 a1 r h0
 refine f0 (Ay 11 [(0,iV a0),(1,iV a1),(8,.bool (decide (a0>(wi (9223372036854775807-a1)))))] [] (Ct h0 (fun c1 h0=>?_) (fun c1 h0=>?_)))
 ·obtain rfl:=sj h0
  exact Dd 4
 ·obtain rfl:=sj h0
  exact Dd 9

/- loop.example/g00149/spec.l08Renew -/
def c79_r0:=[X_ 3 0,a_ 6 (zT 387),i_ 7 0]
def c79_r1:=[L_ 10 3 3,m_ 11 1,q_ 12 92 [.t 10,.t 11],m_ 8 12]
def c79_r2:=[m_ 14 2,B_ .lss 15 14 1,m_ 13 15]
def c79_r3:=[L_ 16 3 3,s_ 6 16 3,i_ 7 4]
def c79_r4:=[m_ 18 8,B_ .lss 19 18 0,m_ 17 19]
def c79_r5:=[L_ 20 3 3,s_ 6 20 3,i_ 7 5]
def c79_r6:=[f_ 22 3 2,l_ 23 22 1,m_ 24 8,x_ 25 23 24 4,f_ 26 25 3,l_ 27 26 1,m_ 21 27]
def c79_r7:=[L_ 28 3 3,s_ 6 28 3,i_ 7 13]
def c79_r8:=[L_ 29 3 3,q_ 30 111 [.t 29],a_ 9 (zT 579),s_ 9 30 3]
def c79_r9:=tk [f_ 31 9 2,l_ 32 31 1,m_ 33 8,f_ 34 9 2,l_ 35 34 1,m_ 36 8,x_ 37 35 36 4,f_ 38 37 2,l_ 39 38 1,f_ 40 3 0,l_ 41 40 1,m_ 42 2] (.alt [l_ 39 38 1,f_ 38 37 2,x_ 37 35 36 4,m_ 36 8,l_ 35 34 1,f_ 34 9 2,m_ 33 8,l_ 32 31 1,f_ 31 9 2] (q_ 43 53 [.t 41,.t 42]) (tk [iQ 44 (.mn (.t 39) (.t 43)),x_ 45 32 33 4,f_ 46 45 1] (.alt [] (s_ 46 44 1) .fin .stop)) .stop)
def Aaf:=[L_ 47 9 3,s_ 6 47 3,i_ 7 0]
def c79:Dp:=⟨3,48,[.cell 6 3 true,.t 7],sr c79_r0 (sr c79_r1 (.seq (.block 0 (sr c79_r2 (.ite (.t 13) (rr c79_r3) (sr c79_r4 (.ite (.t 17) (rr c79_r5) (sr c79_r6 (iz 21 (rr c79_r7)))))))) (sr c79_r8 (sd c79_r9 (rr Aaf)))))⟩
def K79 (D:Bh):Prop:=∀a0 a1 a2 r,g79 a0 a1 a2=some r→D 79 ⟨[.agg (Bd a0),iV a1,iV a2],[]⟩ ⟨.tup [.agg (Bd r.1),iV r.2],[],[]⟩
abbrev iZ:=fun x0 (r:List (Nat×List V))=>(192,Bd x0)::(384,Bo 0 0 (Ap 387) [])::r
abbrev jA:=fun x0 (r:List (Nat×V))=>(2,iV x0)::(3,.ptr 192 0)::(6,.ptr 384 0)::r
theorem F79 (H53:K53 C) (H92:K92 C) (H111:kF C):K79 (FO C c79):=by
 intro a0 a1 a2 r h0
 refine f0 (Ay 5 (jA a2 [(1,iV a1)]) (iZ a0 []) (Bc 3 (An (bb h0 fun r1 e2 h0=>Vf (H92 a0 a1 r1 e2) (o_ (Ay 10 (jA a2 [(8,iV r1),(13,.bool (decide (a2<1)))]) (iZ a0 []) (Ct h0 (fun c3 h0=>?_) (fun c3 h0=>?_))))))))
 ·obtain rfl:=sj h0
  exact Dd 6
 ·refine Ay 5 (jA a2 [(8,iV r1),(17,.bool (decide (r1<0)))]) (iZ a0 []) (Ct h0 (fun c4 h0=>?_) (fun c4 h0=>?_))
  ·obtain rfl:=sj h0
   exact Dd 6
  ·refine Bc 4 (An (bb h0 fun y5 e6 h0=>Vv rfl rfl e6 (o_ (Ay 4 (jA a2 [(8,iV r1),(21,.bool y5.Cj)]) (iZ a0 []) (Ct h0 (fun c7 h0=>?_) (fun c7 h0=>?_))))))
   ·obtain rfl:=sj h0
    exact Dd 6
   ·refine Bc 5 (An (bb h0 fun r8 e9 h0=>Sy (H111 a0 r8 e9) (ar (Bi rfl (af rfl))) (o_ (Ay 3 (jA a2 [(8,iV r1),(9,.ptr 576 0)]) (iZ a0 [(576,Cm r8 (Ap 1920))]) (Bj (bb h0 fun y10 e11 h0=>bb h0 fun y12 e13 h0=>bb h0 fun r14 e15 h0=>Bc 6 (Bl (d_ (Yp rfl rfl rfl e11 (Bl (Ag tv (c_ (Bb ⟨tv,tv⟩ rfl tv) (⟨tv,Ca (c_ (Oa rfl rfl e13) (⟨⟨Cv rfl rfl e13 rfl,tv⟩,Ag tv (c_ (Bb ⟨tv,tv⟩ rfl tv) (⟨⟨Cv rfl rfl e13 rfl,tv⟩,Ag tv (c_ (Bb ⟨tv,tv⟩ rfl (nl rfl)) (⟨⟨Cv rfl rfl e13 rfl,tv⟩,Ag tv (Bw rfl tv (⟨⟨Cv rfl rfl e13 rfl,tv⟩,Bu (Dj (r:=iV r14) false (H53 a0.clock a2 r14 e15) ⟨tv,tv,tv⟩ rfl rfl (fun _=>rfl) (iC ⟨[(6,.ptr 384 0),(8,iV r1),(9,.ptr 576 0),(31,.ptr 576 2),(32,Af 1920 r8.Ae),(33,iV r1),(34,.ptr 576 2),(35,Af 1920 r8.Ae),(36,iV r1),(37,.optr 1920 4 (0+r1.toNat) 0),(38,.optr 1920 4 (0+r1.toNat) 2),(39,iV y12.cap),(43,iV r14)],[(384,Bo 0 0 (Ap 387) []),(576,Cm r8 (Ap 1920))],[]⟩ (Ez (by kernel_rfl)) ⟨[iQ 39 (.load (.t 38) 1 false)],⟨⟨.inr (.head _),Cv rfl rfl e13 rfl⟩,⟨.inl tv,Ba (Bb ⟨tv,tv⟩ rfl tv) rfl⟩,⟨.inl tv,Ba (Ka rfl rfl e11) rfl⟩,⟨.inl tv,Ba (Dt (v:=iV r1) rfl tv) rfl⟩,⟨.inl tv,Ba (Bb ⟨tv,tv⟩ rfl (nl rfl)) rfl⟩,⟨.inl tv,Ba (Bb ⟨tv,tv⟩ rfl tv) rfl⟩,⟨.inl tv,Ba (Dt (v:=iV r1) rfl tv) rfl⟩,⟨.inl tv,Ba (Bb ⟨tv,tv⟩ rfl (nl rfl)) rfl⟩,⟨.inl tv,Ba (Bb ⟨tv,tv⟩ rfl tv) rfl⟩,tv⟩,⟨Cv rfl rfl e13 rfl,tv⟩,Ag tv (c_ (Bb ⟨tv,tv,tv⟩ rfl rfl) (⟨⟨Cv rfl rfl e13 rfl,tv⟩,Ag tv (c_ (Ka rfl rfl e11) (⟨⟨Cv rfl rfl e13 rfl,tv⟩,?_⟩))⟩))⟩)) Au⟩))⟩))⟩))⟩))⟩)))))))))))))
    refine Ag tv (c_ (Bb ⟨tv,tv⟩ rfl tv) (⟨⟨Cv rfl rfl e13 rfl,tv⟩,Bu (Hh (y':=(Aa.mk y12.id (if r14<y12.cap then r14 else y12.cap) y12.cap y12.Cj)) rfl rfl tv rfl rfl rfl rfl e13 (nl rfl) rfl rfl rfl rfl (d0 tv (Gf (Dn ⟨[(6,.ptr 384 0),(9,.ptr 576 0)],[(384,Bo 0 0 (Ap 387) []),(576,Bo r8.clock r8.next (Ap 1920) (r8.Ae.set r1.toNat (Aa.mk y12.id (if r14<y12.cap then r14 else y12.cap) y12.cap y12.Cj)))],[]⟩ (fg ⟨rfl,rfl,tv⟩ ⟨rfl,congrArg (fun z=>some (([iV r8.clock,iV r8.next,.own 1920 0 4 z]:List V))) Aw,tv⟩) (rZ_ 5 [1920] [] [(6,.ptr 384 0),(7,iV 0)] [(384,Bo r8.clock r8.next u_ (r8.Ae.set r1.toNat (Aa.mk y12.id (if r14<y12.cap then r14 else y12.cap) y12.cap y12.Cj)))] ?_))))) Au⟩))
    obtain rfl:=sj h0
    exact Lf (Eg rfl rfl rfl rfl rfl tv)

/- loop.example/g00149/spec.l08Tick -/
def c81_r0:List Bt:=[X_ 2 0,a_ 4 (zT 259),⟨some 5,.nilS 1,none⟩]
def c81_r1:=[L_ 11 2 3,q_ 12 111 [.t 11],a_ 6 (zT 387),s_ 6 12 3]
def c81_r2:=[f_ 13 2 0,l_ 14 13 1,m_ 15 1,iQ 16 (.mx (.t 14) (.t 15)),f_ 17 6 0,s_ 17 16 1]
def c81_r3:List Bt:=[⟨some 18,.mkS 1 [iV 0] 0 [],none⟩,m_ 7 18]
def c81_r4:=[i_ 8 (-1)]
def c81_r5:=[i_ 9 0]
def c81_r6:=[m_ 19 9,f_ 20 6 2,l_ 21 20 1,n_ 22 21,b_ .lss 23 19 22]
def c81_r7:=[f_ 26 6 2,l_ 27 26 1,m_ 28 9,x_ 29 27 28 4,L_ 30 29 4,a_ 10 [iV 0,iV 0,iV 0,.bool false],s_ 10 30 4]
def c81_r8:=tk [f_ 31 10 3,l_ 32 31 1,N_ 33 32,m_ 34 33,fT 34 35 10 1,lT 34 36 35 1 false,fT 34 37 6 0,lT 34 38 37 1 false,pT 34 39 (.bin .leq (.t 36) (.t 38)),pa 40 34 39,m_ 41 40,mT 41 42 8,pT 41 43 (.bin .lss (.t 42) (.c (iV 0))),mT 41 44 43,fF 44 45 10 1,lF 44 46 45 1 false,fF 44 47 6 2,lF 44 48 47 1 false,mF 44 49 8,xF 44 50 48 49 4,fF 44 51 50 1,lF 44 52 51 1 false,pF 44 53 (.bin .lss (.t 46) (.t 52)),⟨some 54,.pick (.t 44) (.c (.bool true)) (.t 53),some (41,true)⟩,pa 55 41 54] .fin
def c81_r9:=[m_ 56 9,m_ 8 56]
def Aah:=[m_ 24 9,B_ .add 25 24 1,m_ 9 25]
def c81_l0:IR:=(.seq (sr c81_r6 (.ite (.t 23) .skip (.exit 2))) (.seq (.block 3 (sr c81_r7 (sd c81_r8 (iz 55 (.reg c81_r9))))) (.reg Aah)))
def Aai:=[m_ 57 8,B_ .lss 58 57 0]
def Aaj:=[L_ 59 6 3,m_ 60 7,s_ 4 59 3,m_ 5 60]
def Aak:List Bt:=[f_ 61 6 2,l_ 62 61 1,m_ 63 8,x_ 64 62 63 4,f_ 65 64 3,⟨none,.store (.t 65) (.c (.bool true)) 1,none⟩]
def Aal:List Bt:=[m_ 66 7,f_ 67 6 2,l_ 68 67 1,m_ 69 8,x_ 70 68 69 4,f_ 71 70 0,l_ 72 71 1,⟨some 73,.mkS 1 [iV 0] 1 [(0,.t 72)],none⟩,⟨some 74,.app 1 8 (.t 66) (.t 73),none⟩,m_ 7 74]
def c81_l1:IR:=(.block 1 (sr c81_r4 (.seq (sr c81_r5 (Ju 2 c81_l0)) (.seq (sr Aai (iz 58 (rr Aaj))) (sr Aak (.reg Aal))))))
def c81:Dp:=⟨2,75,[.cell 4 3 true,.t 5],sr c81_r0 (sr c81_r1 (sr c81_r2 (sr c81_r3 (Ju 0 c81_l1))))⟩
def K81 (D:Bh):Prop:=∀a0 a1 r,g81 a0 a1=some r→D 81 ⟨[.agg (Bd a0),iV a1],[]⟩ ⟨.tup [.agg (Cm r.1 (Ap 0)),oI 1 r.2],[],[]⟩
abbrev Rn:=fun x0 (r:List (Nat×V))=>(4,.ptr 256 0)::(6,.ptr 384 0)::(7,oI 1152 x0)::r
abbrev Od:=fun (r:List (Nat×List V))=>(256,Bo 0 0 (Ap 259) [])::r
theorem F81 (H111:kF C):K81 (FO C c81):=by
 intro a0 a1 r h0
 refine f0 (Ay 5 [(1,iV a1),(2,.ptr 128 0),(4,.ptr 256 0)] (Od [(128,Bd a0)]) (Bc 2 (An (bb h0 fun r1 e2 h0=>Sy (H111 a0 r1 e2) (ar (Bi rfl (af rfl))) (o_ (Ay 17 [(4,.ptr 256 0),(6,.ptr 384 0),(7,oI 1152 [])] (Od [(384,Bo (if a1>a0.clock then a1 else a0.clock) r1.next (Ap 768) r1.Ae)]) (Cg (bb h0 fun r157 e158 h0=>Cz (R:=(fun _=>False)) (fD a0 a1 r1) (fun s S=>match s with | (p44,p45)=>S=⟨Rn p44 [],Od [(384,Bo (if a1>a0.clock then a1 else a0.clock) r1.next (Ap 768) p45)],[]⟩) e158 _ (Ez (by kernel_rfl)) rfl 0 (fun h=>h.elim fun _ h=>h.elim) ?_ ?_))))))))
 ·exact fun _ _ _ h=>h.elim
 ·rintro ⟨p44,p45⟩ o1 _ K1 rfl h1 hx1 hK1 hE1 hR1
  refine Ay 9 (Rn p44 [(8,iV (-1)),(9,iV 0)]) (Od [(384,Bo (if a1>a0.clock then a1 else a0.clock) r1.next (Ap 768) p45)]) (Cg (bb h1 fun r145 e146 h1=>Cz (R:=(fun S=>∃p119:Int,p119=r145∧S=⟨Rn p44 [(8,iV p119)],Od [(384,Bo (if a1>a0.clock then a1 else a0.clock) r1.next (Ap 768) p45)],[]⟩)) (Zq a0 a1 p45) (fun s S=>match s with | (p102,p103)=>S=⟨Rn p44 [(8,iV p102),(9,iV p103)],Od [(384,Bo (if a1>a0.clock then a1 else a0.clock) r1.next (Ap 768) p45)],[]⟩) e146 _ (Ez (by kernel_rfl)) rfl 2 (fun _=>rfl) ?_ ?_))
  ·rintro S _ hfg ⟨p119,rfl,rfl⟩
   refine Dn _ hfg (Ay 5 (Rn p44 [(8,iV p119),(58,.bool (decide (p119<0)))]) (Od [(384,Bo (if a1>a0.clock then a1 else a0.clock) r1.next (Ap 768) p45)]) (Ct h1 (fun PK h1=>?_) (fun PK h1=>?_)))
   ·obtain rfl:=sj h1
    obtain rfl:=hx1 _ rfl
    obtain rfl:=sj h0
    exact rX 7 hR1
   ·refine Bc 6 (An (bb h1 fun y148 e149 h1=>kA rfl rfl e149 (st (c_ (Bb ⟨tv,tv⟩ rfl tv) (bb h1 fun y150 e151 h1=>so_ (Aa.mk y150.id y150.Bm y150.cap true) rfl rfl e151 (o_ (Ay 1 (Rn p44 [(8,iV p119)]) (Od [(384,Bo (if a1>a0.clock then a1 else a0.clock) r1.next (Ap 768) (p45.set p119.toNat (Aa.mk y150.id y150.Bm y150.cap true)))]) (Bc 4 (An (bb h1 fun y152 e153 h1=>kA rfl rfl e153 (st (c_ (Bb ⟨tv,tv⟩ rfl tv) (bb h1 fun y154 e155 h1=>lo_ rfl rfl e155 (st (Wy ⟨tv,tv⟩ ⟨⟨nl rfl,rfl,rfl⟩,tv⟩ (gg h1 fun TQ h1=>st (Ja (e:=eI) (l0:=p44) (l1:=([y154.id]:List Int)) rfl rfl tv rfl (by decide) TQ (st (Bw rfl tv (Hj (Rd ?_)))))))))))))))))))))
    obtain rfl:=sj h1
    exact kn hK1 rfl rfl
  ·rintro ⟨p102,p103⟩ o2 _ K2 rfl h2 hx2 hK2 hE2 hR2
   refine Bc 5 (An (aS rfl (o_ (Ay 2 (Rn p44 [(8,iV p102),(9,iV p103),(23,.bool (decide (p103<(p45.length:Int))))]) (Od [(384,Bo (if a1>a0.clock then a1 else a0.clock) r1.next (Ap 768) p45)]) (Ct h2 (fun JF h2=>?_) (fun JF h2=>?_))))))
   ·refine Mx 3 (Hs (fun S=>∃p132:Int,S=⟨Rn p44 [(8,iV p132),(9,iV p103)],Od [(384,Bo (if a1>a0.clock then a1 else a0.clock) r1.next (Ap 768) p45)],[]⟩∧Vk p103 p132=some o2) ?_ (fun J133=>?_))
    ·rintro _ ⟨p132,rfl,h2⟩
     refine Bc 5 ?_
     obtain rfl:=sj h2
     exact kn hK2 rfl rfl
    ·refine Bj ?_
     refine Bc 3 (An (bb h2 fun y134 e135 h2=>kA rfl rfl e135 (bb h2 fun y136 e137 h2=>lo_ rfl rfl e137 (o_ (Ay 3 (Rn p44 [(8,iV p102),(9,iV p103),(10,.ptr 640 0)]) (Od [(384,Bo (if a1>a0.clock then a1 else a0.clock) r1.next (Ap 768) p45),(640,Ac y136)]) (Bj (bb h2 fun y138 e139 h2=>bb h2 fun y140 e141 h2=>Bc 4 (Bl (Ag tv (Ce (u:=.ptr 640 1) rfl (fun hg=>(Bb ⟨tv,tv⟩ rfl tv)) (⟨tv,Ag tv (Ce (u:=iV y136.Bm) rfl (fun hg=>(Bb ⟨(fun _=>hg),tv⟩ rfl (nl rfl))) (⟨tv,Ag tv (Ce (u:=.ptr 384 0) rfl (fun hg=>(Bb ⟨tv,tv⟩ rfl tv)) (⟨tv,Ag tv (Ce (u:=iV (if a1>a0.clock then a1 else a0.clock)) rfl (fun hg=>(Bb ⟨(fun _=>hg),tv⟩ rfl (nl rfl))) (⟨tv,Ag tv (Ce (u:=.bool (decide (y136.Bm≤(if a1>a0.clock then a1 else a0.clock)))) rfl (fun hg=>(Bb ⟨(fun _=>hg),(fun _=>hg),tv⟩ rfl tv)) (⟨tv,Ag tv (Eh rfl rfl rfl (fun h=>Sr h) tv rfl (⟨tv,Ag tv (Bw rfl tv (⟨tv,Ag tv (Ce (u:=iV p102) rfl (fun hg=>(Dt (v:=iV p102) rfl tv)) (⟨tv,Ag tv (Ce (u:=.bool (decide (p102<0))) rfl (fun hg=>(Bb ⟨(fun _=>hg),tv,tv⟩ rfl tv)) (⟨tv,Ag tv (Ce (u:=.bool (decide (p102<0))) rfl (fun hg=>(Dt (v:=.may ((bif (!y136.Cj) then (decide (y136.Bm≤(if a1>a0.clock then a1 else a0.clock))) else false)==true) (.bool (decide (p102<0)))) rfl (fun _=>hg))) (⟨tv,Ag tv (Ce (u:=.ptr 640 1) rfl (fun hg=>(Bb ⟨tv,tv⟩ rfl tv)) (⟨tv,?_⟩))⟩))⟩))⟩))⟩))⟩))⟩))⟩))⟩))⟩))⟩)))))))))))
     refine Ag tv (Ce (u:=iV y136.Bm) rfl (fun hg=>(Bb ⟨(fun _=>hg),tv⟩ rfl (nl rfl))) (⟨tv,Ag tv (Ce (u:=.ptr 384 2) rfl (fun hg=>(Bb ⟨tv,tv⟩ rfl tv)) (⟨tv,Ag tv (Ce (u:=Af 768 p45) rfl (fun hg=>(Bb ⟨(fun _=>hg),tv⟩ rfl (nl rfl))) (⟨tv,Ag tv (Ce (u:=iV p102) rfl (fun hg=>(Dt (v:=iV p102) rfl tv)) (⟨tv,Ag tv (Ce (u:=.optr 768 4 (0+p102.toNat) 0) rfl (fun hg=>(Hd (e:=Ac) (y:=y138) rfl rfl (fun _=>hg) rfl rfl (fun _=>hg) (ip hg e139))) (⟨tv,Ag tv (Ce (u:=.optr 768 4 (0+p102.toNat) 1) rfl (fun hg=>(Bb ⟨(fun _=>hg),tv⟩ rfl tv)) (⟨tv,Ca (Ce (u:=iV y140.Bm) rfl (fun hg=>(Bf (e:=Ac) (y:=y140) (v:=iV y140.Bm) rfl rfl (fun _=>hg) rfl rfl (ip hg e141) rfl (nl rfl) rfl)) (⟨⟨Bn (v:=iV y140.Bm) rfl (fun hg=>(Bf (e:=Ac) (y:=y140) (v:=iV y140.Bm) rfl rfl (fun _=>hg) rfl rfl (ip hg e141) rfl (nl rfl) rfl)) rfl,tv⟩,Ag tv (Ce (u:=.bool (decide (y136.Bm<y140.Bm))) rfl (fun hg=>(Bb ⟨(fun _=>hg),(fun _=>hg),tv⟩ rfl tv)) (⟨⟨Bn (v:=iV y140.Bm) rfl (fun hg=>(Bf (e:=Ac) (y:=y140) (v:=iV y140.Bm) rfl rfl (fun _=>hg) rfl rfl (ip hg e141) rfl (nl rfl) rfl)) rfl,tv⟩,Ag tv (aV (u:=.bool (bif (decide (p102<0)) then true else (decide (y136.Bm<y140.Bm)))) rfl (fun hg=>iA rfl rfl (fun _=>hg) rfl rfl tv (fun h=>Bi hg (eqf h)) rfl) (⟨⟨Bn (v:=iV y140.Bm) rfl (fun hg=>(Bf (e:=Ac) (y:=y140) (v:=iV y140.Bm) rfl rfl (fun _=>hg) rfl rfl (ip hg e141) rfl (nl rfl) rfl)) rfl,tv⟩,Ag tv (Eh rfl rfl rfl (fun h=>Sr h) tv rfl (⟨⟨Bn (v:=iV y140.Bm) rfl (fun hg=>(Bf (e:=Ac) (y:=y140) (v:=iV y140.Bm) rfl rfl (fun _=>hg) rfl rfl (ip hg e141) rfl (nl rfl) rfl)) rfl,tv⟩,Gf (bv h2 fun v142 e143 h2=>Dn ⟨Rn p44 [(8,iV p102),(9,iV p103),(55,.bool v142)],Od [(384,Bo (if a1>a0.clock then a1 else a0.clock) r1.next (Ap 768) p45)],[]⟩ (Ez (by subst e143; kernel_rfl)) (Ct h2 (fun OP h2=>?_) (fun OP h2=>?_)))⟩))⟩))⟩))⟩))⟩))⟩))⟩))⟩))⟩))⟩))
     ·refine Bc 4 ?_
      exact jn J133 ⟨_,rfl,h2⟩
     ·refine Jf (Rd ?_)
      exact jn J133 ⟨_,rfl,h2⟩
   ·obtain rfl:=sj h2
    obtain rfl:=hx2 _ rfl
    refine Jv rfl ?_
    exact jn hE2 ⟨_,rfl,rfl⟩

/- loop.example/g00149/spec.l09Copy -/
def FP:=[X_ 1 0,a_ 2 (zV 131 132 133)]
def FR:=[f_ 3 1 0,L_ 4 3 3,q_ 5 111 [.t 4],f_ 6 1 0,s_ 6 5 3]
def FS:List Bt:=[⟨some 7,.mkS 2 [iV 0,.bool false] 0 [],none⟩,f_ 8 1 3,l_ 9 8 1,⟨some 10,.app 2 16 (.t 7) (.t 9),none⟩,f_ 11 1 3,s_ 11 10 1]
def FT:List Bt:=[⟨some 12,.mkS 1 [iV 0] 0 [],none⟩,f_ 13 1 4,l_ 14 13 1,⟨some 15,.app 1 8 (.t 12) (.t 14),none⟩,f_ 16 1 4,s_ 16 15 1]
def FU:=[L_ 17 1 6,s_ 2 17 6]
def c102:Dp:=⟨1,18,[.cell 2 6 true],sr FP (sr FR (sr FS (sr FT (rr FU))))⟩
def kE (D:Bh):Prop:=∀a0 r,Zl a0=some r→D 102 ⟨[.agg (Be a0)],[]⟩ ⟨.agg (Bk r (Ap 0) (Ap 1) (Ap 2)),[],[]⟩
abbrev mG:=fun (r:List (Nat×List V))=>(128,At 0 0 (Ap 131) [] (Ap 132) [] (Ap 133) [] false)::r
theorem F102 (H111:kF C):kE (FO C c102):=by
 intro a0 r h0
 refine f0 (Ay 4 [(1,.ptr 64 0),(2,.ptr 128 0)] (mG [(64,Be a0)]) (Bc 3 (An (bb h0 fun r1 e2 h0=>Sy (H111 a0.Ad r1 e2) (ar (Bi rfl (af rfl))) (o_ (Ay 3 [(1,.ptr 64 0),(2,.ptr 128 0)] (mG [(64,At r1.clock r1.next (Ap 320) r1.Ae u_ a0.Ab u_ a0.Ai a0.Al)]) (Bc 4 (An (gg h0 fun c3 h0=>st (Ja (e:=Bx) (l0:=([]:List Ah)) (l1:=a0.Ab) rfl rfl tv rfl (by decide) c3 (o_ (Ay 3 [(1,.ptr 64 0),(2,.ptr 128 0)] (mG [(64,At r1.clock r1.next (Ap 320) r1.Ae (Ap 448) (([]:List Ah)++a0.Ab) u_ a0.Ai a0.Al)]) (Bc 4 (An (gg h0 fun c4 h0=>st (Ja (e:=eI) (l0:=([]:List Int)) (l1:=a0.Ai) rfl rfl tv rfl (by decide) c4 (o_ ?_)))))))))))))))))
 obtain rfl:=sj h0
 exact Dd 9

/- loop.example/g00149/spec.l08Grant -/
def c70_r0:=[X_ 3 0,a_ 6 (zT 387),i_ 7 0,i_ 8 0]
def c70_r1:=[m_ 11 1,B_ .lss 12 11 1,m_ 13 12,mF 13 14 2,mF 13 15 1,pF 13 16 (.bin .lss (.t 14) (.t 15)),po 17 13 16,m_ 10 17]
def c70_r2:=[L_ 18 3 3,s_ 6 18 3,i_ 7 0,i_ 8 4]
def c70_r3:=[f_ 20 3 0,l_ 21 20 1,B_ .eql 22 21 9223372036854775807,m_ 19 22]
def c70_r4:=[L_ 23 3 3,s_ 6 23 3,i_ 7 0,i_ 8 11]
def c70_r5:=[f_ 25 3 2,l_ 26 25 1,n_ 27 26,B_ .eql 28 27 40,m_ 29 28,fF 29 30 3 1,lF 29 31 30 1 false,pF 29 32 (.bin .eql (.t 31) (.c (iV 1000000))),po 33 29 32,m_ 24 33]
def c70_r6:=[L_ 34 3 3,s_ 6 34 3,i_ 7 0,i_ 8 9]
def c70_r7:=[L_ 35 3 3,q_ 36 111 [.t 35],a_ 9 (zT 579),s_ 9 36 3]
def c70_r8:=tk [f_ 37 9 2,l_ 38 37 1,f_ 39 3 1,l_ 40 39 1,f_ 41 3 0,l_ 42 41 1,m_ 43 1,f_ 45 3 0,l_ 46 45 1,m_ 47 2] (.alt [m_ 47 2,l_ 46 45 1,f_ 45 3 0,l_ 40 39 1,f_ 39 3 1,l_ 38 37 1,f_ 37 9 2] (q_ 44 53 [.t 42,.t 43]) (.alt [l_ 40 39 1,f_ 39 3 1,l_ 38 37 1,f_ 37 9 2] (q_ 48 53 [.t 46,.t 47]) (tk [⟨some 49,.p (.build [iV 0,iV 0,iV 0,.bool false] [(0,1,.t 40),(1,1,.t 44),(2,1,.t 48)]),none⟩] (.alt [l_ 38 37 1,f_ 37 9 2] ⟨some 50,.mkS 4 [iV 0,iV 0,iV 0,.bool false] 1 [(0,.t 49)],none⟩ (.alt [] ⟨some 51,.app 4 32 (.t 38) (.t 50),none⟩ (tk [f_ 52 9 2] (.alt [] (s_ 52 51 1) .fin .stop)) .stop) .stop)) .stop) .stop)
def c70_r9:=[f_ 53 9 1,l_ 54 53 1,B_ .add 55 54 1,f_ 56 9 1,s_ 56 55 1]
def Aad:=tk [L_ 57 9 3,f_ 58 3 1,l_ 59 58 1] (.alt [l_ 59 58 1,f_ 58 3 1] (s_ 6 57 3) (tk [m_ 7 59,i_ 8 0] .fin) .stop)
def c70:Dp:=⟨3,60,[.cell 6 3 true,.t 7,.t 8],sr c70_r0 (.seq (.block 0 (sr c70_r1 (.ite (.t 10) (rr c70_r2) (sr c70_r3 (.ite (.t 19) (rr c70_r4) (sr c70_r5 (iz 24 (rr c70_r6)))))))) (sr c70_r7 (sd c70_r8 (sr c70_r9 (sd Aad .ret)))))⟩
def K70 (D:Bh):Prop:=∀a0 a1 a2 r,g70 a0 a1 a2=some r→D 70 ⟨[.agg (Bd a0),iV a1,iV a2],[]⟩ ⟨.tup [.agg (Bd r.1),iV r.2.1,iV r.2.2],[],[]⟩
abbrev iX:=fun x0 (r:List (Nat×List V))=>(192,Bd x0)::(384,Bo 0 0 (Ap 387) [])::r
abbrev oP:=fun x0 x1 (r:List (Nat×V))=>(1,iV x0)::(2,iV x1)::(3,.ptr 192 0)::(6,.ptr 384 0)::r
theorem F70 (H53:K53 C) (H111:kF C):K70 (FO C c70):=by
 intro a0 a1 a2 r h0
 refine f0 (AU 19 (oP a1 a2 [(10,.bool (bif (decide (a1<1)) then true else (decide (a2<a1))))]) (iX a0 []) (Ct h0 (fun c1 h0=>?_) (fun c1 h0=>?_)))
 ·obtain rfl:=sj h0
  exact Dd 7
 ·refine Ay 6 (oP a1 a2 [(19,.bool (a0.clock==9223372036854775807))]) (iX a0 []) (Ct h0 (fun c2 h0=>?_) (fun c2 h0=>?_))
  ·obtain rfl:=sj h0
   exact Dd 7
  ·refine Bc 3 (An (Sn rfl (o_ (cX 8 (bv h0 fun v3 e4 h0=>Dn ⟨oP a1 a2 [(24,.bool v3)],iX a0 [],[]⟩ (Ez (by subst e4; kernel_rfl)) (Ct h0 (fun c5 h0=>?_) (fun c5 h0=>?_)))))))
   ·obtain rfl:=sj h0
    exact Dd 7
   ·refine Bc 5 (An (bb h0 fun r6 e7 h0=>Sy (H111 a0 r6 e7) (ar (Bi rfl (af rfl))) (o_ (Ay 3 (oP a1 a2 [(9,.ptr 576 0)]) (iX a0 [(576,Cm r6 (Ap 2304))]) (Bj (bb h0 fun r8 e9 h0=>bb h0 fun r10 e11 h0=>gg h0 fun c12 h0=>Bc 10 (Bl (Xg (H53 a0.clock a1 r8 e9) rfl (dw [(2,iV a2),(3,.ptr 192 0),(6,.ptr 384 0),(9,.ptr 576 0),(37,.ptr 576 2),(38,Af 2304 r6.Ae),(39,.ptr 192 1),(40,iV a0.next),(44,iV r8),(45,.ptr 192 0),(46,iV a0.clock),(47,iV a2)] [(192,Bd a0),(384,Bo 0 0 (Ap 387) []),(576,Cm r6 (Ap 2304))] hB (Xg (H53 a0.clock a2 r10 e11) rfl (dw [(3,.ptr 192 0),(6,.ptr 384 0),(9,.ptr 576 0),(37,.ptr 576 2),(38,Af 2304 r6.Ae),(39,.ptr 192 1),(40,iV a0.next),(44,iV r8),(48,iV r10)] [(192,Bd a0),(384,Bo 0 0 (Ap 387) []),(576,Cm r6 (Ap 2304))] hB (Ag tv (c_ (v:=.agg (nP a0.next r8 r10 false)) (Bb ⟨tv,tv,tv,tv⟩ rfl ⟨⟨rfl,rfl,nl rfl⟩,⟨rfl,rfl,nl rfl⟩,⟨rfl,rfl,nl rfl⟩,tv⟩) (⟨tv,Bu (Wy ⟨tv,tv⟩ ⟨⟨nl rfl,rfl,rfl⟩,tv⟩ (d0 hB (Bu (Ja (e:=Ac) (l0:=r6.Ae) (l1:=([Aa.mk a0.next r8 r10 false]:List Aa)) rfl rfl tv rfl (by decide) c12 (d0 tv ?_)) Au))) Au⟩)))) Au)) Au))))))))
    refine Ag tv (c_ (Bb ⟨tv,tv⟩ rfl tv) (⟨tv,Bu (Gd rfl rfl tv rfl rfl rfl (nl rfl) (d0 tv (d_ (Ay 9 [(3,.ptr 192 0),(6,.ptr 384 0),(9,.ptr 576 0)] (iX a0 [(576,[iV r6.clock,iV (wi (r6.next+1)),Af 2304 (r6.Ae++([Aa.mk a0.next r8 r10 false]:List Aa))])]) (Bc 4 (Bl (Bu (Gd rfl rfl tv rfl rfl rfl (nl rfl) (d0 hB (d_ (rZ_ 3 [2304] [] [(6,.ptr 384 0),(7,iV a0.next),(8,iV 0)] [(384,[iV r6.clock,iV (wi (r6.next+1)),Ck (r6.Ae++([Aa.mk a0.next r8 r10 false]:List Aa))])] ?_)))) Au))))))) Au⟩))
    obtain rfl:=sj h0
    exact Lf (Eg rfl rfl rfl rfl rfl tv)

/- loop.example/g00149/spec.l09Call -/
def c86_r0:List Bt:=[⟨some 8,.nilS 1,none⟩,i_ 9 0]
def c86_r1:=[m_ 13 3,B_ .eql 14 13 1]
def c86_r2:=[m_ 15 0,m_ 8 15,i_ 9 13]
def c86_r3:List Bt:=[⟨some 16,.mkS 1 [iV 0] 0 [],none⟩,m_ 10 16]
def c86_r4:=[i_ 11 0]
def c86_r5:=[m_ 17 11,m_ 18 0,n_ 19 18,b_ .lss 20 17 19,m_ 21 20,mT 21 22 0,mT 21 23 11,xT 21 24 22 23 1,lT 21 25 24 1 false,mT 21 26 1,pT 21 27 (.bin .lss (.t 25) (.t 26)),pa 28 21 27]
def c86_r6:List Bt:=[m_ 31 10,m_ 32 0,m_ 33 11,x_ 34 32 33 1,l_ 35 34 1,⟨some 36,.mkS 1 [iV 0] 1 [(0,.t 35)],none⟩,⟨some 37,.app 1 8 (.t 31) (.t 36),none⟩,m_ 10 37]
def c86_r7:=[m_ 29 11,B_ .add 30 29 1,m_ 11 30]
def c86_l0:IR:=(.seq (sr c86_r5 (.ite (.t 28) .skip (.exit 0))) (.seq (.block 1 (.reg c86_r6)) (.reg c86_r7)))
def c86_r8:=[m_ 38 10,n_ 39 38,m_ 12 39]
def c86_r9:=[m_ 40 2]
def Aap:List Bt:=[m_ 41 10,m_ 42 1,⟨some 43,.mkS 1 [iV 0] 1 [(0,.t 42)],none⟩,⟨some 44,.app 1 8 (.t 41) (.t 43),none⟩,m_ 10 44]
def Aaq:=[m_ 45 12,m_ 46 0,n_ 47 46,b_ .lss 48 45 47,m_ 49 48,mT 49 50 0,mT 49 51 12,xT 49 52 50 51 1,lT 49 53 52 1 false,mT 49 54 1,pT 49 55 (.bin .eql (.t 53) (.t 54)),pa 56 49 55]
def Aar:=[m_ 57 12,B_ .add 58 57 1,m_ 12 58]
def Aas:List Bt:=[m_ 59 10,m_ 60 0,m_ 61 12,⟨some 62,.p (.slice (.t 60) (some (.t 61)) none 1),none⟩,⟨some 63,.app 1 8 (.t 59) (.t 62),none⟩,m_ 10 63]
def Aat:=[m_ 64 3,B_ .eql 65 64 2]
def Aau:=[m_ 66 10,m_ 8 66,i_ 9 15]
def Aav:=[m_ 67 10,m_ 8 67,i_ 9 0]
def c86:Dp:=⟨4,68,[.t 8,.t 9],sr c86_r0 (.seq (sr c86_r1 (iz 14 (rr c86_r2))) (sr c86_r3 (.seq (sr c86_r4 (Ju 0 c86_l0)) (sr c86_r8 (.seq (sr c86_r9 (iz 40 (.reg Aap))) (.seq (sr Aaq (iz 56 (.reg Aar))) (sr Aas (.seq (sr Aat (iz 65 (rr Aau))) (rr Aav)))))))))⟩
def K86 (D:Bh):Prop:=∀a0 a1 a2 a3 r,g86 a0 a1 a2 a3=some r→D 86 ⟨[lI a0,iV a1,.bool a2,iV a3],[]⟩ ⟨.tup [lI r.1,iV r.2],[],[]⟩
abbrev dG:=fun x0 x1 x2 x3 (r:List (Nat×V))=>(0,lI x0)::(1,iV x1)::(2,.bool x2)::(3,iV x3)::r
theorem F86:K86 (FO C c86):=by
 intro a0 a1 a2 a3 r h0
 refine f0 (Ay 10 (dG a0 a1 a2 a3 [(14,.bool (a3==1))]) [] (Ct h0 (fun c1 h0=>?_) (fun c1 h0=>?_)))
 ·obtain rfl:=sj h0
  exact Dd 6
 ·refine Ay 11 (dG a0 a1 a2 a3 [(10,oI 1024 []),(11,iV 0)]) [] (Cg (bb h0 fun r31 e32 h0=>Cz (R:=(fun S=>∃p22:List Int,p22=r31∧S=⟨dG a0 a1 a2 a3 [(10,oI 1024 p22)],[],[]⟩)) (Vl a0 a1) (fun s S=>match s with | (p10,p11)=>S=⟨dG a0 a1 a2 a3 [(10,oI 1024 p10),(11,iV p11)],[],[]⟩) e32 _ (Ez (by kernel_rfl)) rfl 0 (fun _=>rfl) ?_ ?_))
  ·rintro S _ hfg ⟨p22,rfl,rfl⟩
   refine Dn _ hfg (Bj (An (st (Bw rfl tv (aS rfl (o_ (Ay 7 [(0,lI a0),(1,iV a1),(3,iV a3),(10,oI 1024 p22),(12,iV (p22.length:Int)),(40,.bool a2)] [] (Kg (cb:=a2) (fun S=>∃p35:List Int,S=⟨[(0,lI a0),(1,iV a1),(3,iV a3),(10,oI 1024 p35),(12,iV (p22.length:Int))],[],[]⟩∧Zs a0 a1 a3 p22 p35=some r) rfl ?_ (fun c49 J48=>?_) (fun c49 J48=>?_)))))))))
   ·rintro _ ⟨p35,rfl,h0⟩
    refine Bc 5 (An (Sn rfl (o_ (cX 4 (An (bb h0 fun y36 e37 h0=>st (Ce (u:=.iptr [iV y36]) rfl (fun hg=>(Zd (e:=eI) (y:=y36) rfl rfl (fun _=>hg) rfl rfl (fun _=>hg) (ip hg e37))) (o_ (cX 5 (bv h0 fun v38 e39 h0=>Dn ⟨[(0,lI a0),(3,iV a3),(10,oI 1024 p35),(12,iV (p22.length:Int)),(56,.bool v38)],[],[]⟩ (Ez (by subst e39; kernel_rfl)) (Kg (cb:=v38) (fun S=>∃p41:Int,S=⟨[(0,lI a0),(3,iV a3),(10,oI 1024 p35),(12,iV p41)],[],[]⟩∧Zt a0 a3 p35 p41=some r) rfl ?_ (fun c47 J46=>?_) (fun c47 J46=>?_))))))))))))
    ·rintro _ ⟨p41,rfl,h0⟩
     refine Bc 5 (An (bb h0 fun s42 e43 h0=>st (c_ (Qf (e:=eI) (y:=s42) rfl rfl tv ⟨tv,tv⟩ rfl rfl e43) (gg h0 fun c44 h0=>st (Ja (e:=eI) (l0:=p35) (l1:=s42) rfl rfl tv rfl (by decide) c44 (o_ (Ay 8 [(10,oI 1024 (p35++s42)),(65,.bool (a3==2))] [] (Ct h0 (fun c45 h0=>?_) (fun c45 h0=>?_)))))))))
     ·obtain rfl:=sj h0
      exact Dd 6 [1024]
     ·obtain rfl:=sj h0
      exact Dd 8 [1024]
    ·replace h0:=ip c47 h0
     refine Bc 4 ?_
     exact jn J46 ⟨_,rfl,h0⟩
    ·replace h0:=Wx c47 h0
     refine Jf ?_
     exact jn J46 ⟨_,rfl,h0⟩
   ·replace h0:=ip c49 h0
    refine Bc 3 (An (gg h0 fun c50 h0=>st (Ja (e:=eI) (l0:=p22) (l1:=([a1]:List Int)) rfl rfl tv rfl (by decide) c50 (st (Bw rfl tv (Hj ?_))))))
    exact jn J48 ⟨_,rfl,h0⟩
   ·replace h0:=Wx c49 h0
    refine Jf ?_
    exact jn J48 ⟨_,rfl,h0⟩
  ·rintro ⟨p10,p11⟩ o1 _ K1 rfl h1 hx1 hK1 hE1 hR1
   refine Bc 4 (An (Sn rfl (o_ (cX 4 (An (bb h1 fun y23 e24 h1=>st (Ce (u:=.iptr [iV y23]) rfl (fun hg=>(Zd (e:=eI) (y:=y23) rfl rfl (fun _=>hg) rfl rfl (fun _=>hg) (ip hg e24))) (o_ (cX 5 (bv h1 fun v25 e26 h1=>Dn ⟨dG a0 a1 a2 a3 [(10,oI 1024 p10),(11,iV p11),(28,.bool v25)],[],[]⟩ (Ez (by subst e26; kernel_rfl)) (Ct h1 (fun c27 h1=>?_) (fun c27 h1=>?_))))))))))))
   ·refine Bc 7 (An (bb h1 fun y28 e29 h1=>Vv rfl rfl e29 (o_ (Bc 2 (An (gg h1 fun c30 h1=>st (Ja (e:=eI) (l0:=p10) (l1:=([y28]:List Int)) rfl rfl tv rfl (by decide) c30 (o_ (Ay 3 (dG a0 a1 a2 a3 [(10,oI 1024 (p10++([y28]:List Int))),(11,iV p11)]) [] (Bc 4 ?_))))))))))
    obtain rfl:=sj h1
    exact kn hK1 rfl rfl
   ·obtain rfl:=sj h1
    obtain rfl:=hx1 _ rfl
    refine Jv rfl ?_
    exact jn hE1 ⟨_,rfl,rfl⟩

/- loop.example/g00149/spec.l09Recover -/
def MC:=[X_ 1 0,a_ 2 (zV 131 132 133)]
def MD:=[L_ 5 1 6,q_ 6 102 [.t 5],a_ 3 (zV 195 196 197),s_ 3 6 6]
def ME:=[i_ 4 0]
def MF:=[m_ 7 4,f_ 8 3 3,l_ 9 8 1,n_ 10 9,b_ .lss 11 7 10]
def MG:List Bt:=[f_ 14 3 3,l_ 15 14 1,m_ 16 4,x_ 17 15 16 2,f_ 18 17 1,⟨none,.store (.t 18) (.c (.bool true)) 1,none⟩]
def MH:=[m_ 12 4,B_ .add 13 12 1,m_ 4 13]
def MB:IR:=(.seq (sr MF (.ite (.t 11) .skip (.exit 0))) (.seq (.block 1 (.reg MG)) (.reg MH)))
def MI:List Bt:=[f_ 19 3 5,⟨none,.store (.t 19) (.c (.bool true)) 1,none⟩]
def MJ:=[L_ 20 3 6,s_ 2 20 6]
def c133:Dp:=⟨1,21,[.cell 2 6 true],sr MC (sr MD (.seq (sr ME (Ju 0 MB)) (sr MI (rr MJ))))⟩
def sA (D:Bh):Prop:=∀a0 r,eH a0=some r→D 133 ⟨[.agg (Be a0)],[]⟩ ⟨.agg (Bk r (Ap 0) (Ap 1) (Ap 2)),[],[]⟩
abbrev Vq:=fun (r:List (Nat×List V))=>(128,At 0 0 (Ap 131) [] (Ap 132) [] (Ap 133) [] false)::r
abbrev aP:=fun (r:List (Nat×V))=>(2,.ptr 128 0)::(3,.ptr 192 0)::r
theorem F133 (H102:kE C):sA (FO C c133):=by
 intro a0 r h0
 refine f0 (Ay 4 [(1,.ptr 64 0),(2,.ptr 128 0)] (Vq [(64,Be a0)]) (Bc 2 (An (bb h0 fun r1 e2 h0=>Sy (H102 a0 r1 e2) (ar (Bi rfl (af (af (af (Bi rfl rfl)))))) (o_ (Ay 8 (aP [(4,iV 0)]) (Vq [(192,Bk r1 (Ap 384) (Ap 385) (Ap 386))]) (Cg (bb h0 fun r23 e24 h0=>Cz (R:=(fun S=>∃p17:List Ah,p17=r23∧S=⟨aP [],Vq [(192,At r1.Ad.clock r1.Ad.next (Ap 384) r1.Ad.Ae (Ap 385) p17 (Ap 386) r1.Ai r1.Al)],[]⟩)) (Ql) (fun s S=>match s with | (p8,p9)=>S=⟨aP [(4,iV p8)],Vq [(192,At r1.Ad.clock r1.Ad.next (Ap 384) r1.Ad.Ae (Ap 385) p9 (Ap 386) r1.Ai r1.Al)],[]⟩) e24 _ (Ez (by kernel_rfl)) rfl 0 (fun _=>rfl) ?_ ?_))))))))
 ·rintro S _ hfg ⟨p17,rfl,rfl⟩
  refine Dn _ hfg ?_
  obtain rfl:=sj h0
  exact Dd 10
 ·rintro ⟨p8,p9⟩ o1 _ K1 rfl h1 hx1 hK1 hE1 hR1
  refine Bc 5 (An (aS rfl (o_ (Ay 2 (aP [(4,iV p8),(11,.bool (decide (p8<(p9.length:Int))))]) (Vq [(192,At r1.Ad.clock r1.Ad.next (Ap 384) r1.Ad.Ae (Ap 385) p9 (Ap 386) r1.Ai r1.Al)]) (Ct h1 (fun c18 h1=>?_) (fun c18 h1=>?_))))))
  ·refine Bc 7 (An (bb h1 fun y19 e20 h1=>kA rfl rfl e20 (st (c_ (Bb ⟨tv,tv⟩ rfl tv) (bb h1 fun y21 e22 h1=>so_ (Ah.mk y21.As true) rfl rfl e22 (o_ (Ay 2 (aP [(4,iV p8)]) (Vq [(192,At r1.Ad.clock r1.Ad.next (Ap 384) r1.Ad.Ae (Ap 385) (p9.set p8.toNat (Ah.mk y21.As true)) (Ap 386) r1.Ai r1.Al)]) (Bc 4 ?_))))))))
   obtain rfl:=sj h1
   exact kn hK1 rfl rfl
  ·obtain rfl:=sj h1
   obtain rfl:=hx1 _ rfl
   refine Jv rfl ?_
   exact jn hE1 ⟨_,rfl,rfl⟩

/- loop.example/g00149/spec.l09Fate -/
def OX:=[X_ 2 0,i_ 4 0]
def OY:=[m_ 5 1,f_ 6 2 5,l_ 7 6 1,n_ 8 7,b_ .lss 9 5 8]
def OZ:=[f_ 10 2 5,l_ 11 10 1,m_ 12 1,x_ 13 11 12 1,l_ 14 13 1,m_ 4 14]
def PA:=[i_ 4 0]
def c145:Dp:=⟨2,15,[.t 4],sr OX (.seq (sr OY (iz 9 (rr OZ))) (rr PA))⟩
def EM (D:Bh):Prop:=∀a0 a1 r,lA a0 a1=some r→D 145 ⟨[.agg (Ar a0),iV a1],[]⟩ ⟨iV r,[],[]⟩
theorem F145:EM (FO C c145):=by
 intro a0 a1 r h0
 refine f0 (Ay 4 [(1,iV a1),(2,.ptr 128 0)] [(128,Ar a0)] (Bc 5 (An (Sn rfl (o_ (Ay 2 [(1,iV a1),(2,.ptr 128 0),(9,.bool (decide (a1<(a0.Cb.length:Int))))] [(128,Ar a0)] (Ct h0 (fun c1 h0=>?_) (fun c1 h0=>?_))))))))
 ·refine Bc 4 (An (bb h0 fun y2 e3 h0=>Vv rfl rfl e3 (o_ ?_)))
  obtain rfl:=sj h0
  exact Dd 4
 ·obtain rfl:=sj h0
  exact Dd 6

/- loop.example/g00149/spec.l09Issue -/
def LQ:=[X_ 2 0,X_ 3 1,a_ 4 (zV 259 260 261),a_ 5 [iV 0,iV 0]]
def LS:=[f_ 11 2 0,L_ 12 11 3,f_ 13 3 2,l_ 14 13 1,f_ 15 3 3,l_ 16 15 1,q_ 17 70 [.t 12,.t 14,.t 16],m_ 10 17,e_ 18 10 0,e_ 19 10 1,e_ 20 10 2,a_ 6 (zT 387),s_ 6 18 3,m_ 7 19,m_ 8 20]
def LT:=[m_ 21 8,B_ .eql 22 21 0,m_ 23 22,fT 23 24 2 3,lT 23 25 24 1 false,pT 23 26 (.len (.t 25)),pT 23 27 (.bin .eql (.t 26) (.c (iV 40))),pa 28 23 27]
def LU:=[i_ 8 9]
def LV:=[m_ 29 8,B_ .neq 30 29 0]
def LW:List Bt:=[L_ 31 2 6,m_ 32 8,⟨some 33,.p (.build [iV 0,iV 0] [(0,1,.t 32)]),none⟩,s_ 4 31 6,s_ 5 33 2]
def LX:=[L_ 34 2 6,q_ 35 102 [.t 34],a_ 9 (zV 579 580 581),s_ 9 35 6]
def LY:=[f_ 36 6 1,l_ 37 36 1,f_ 38 9 0,f_ 39 38 1,s_ 39 37 1]
def LZ:List Bt:=[f_ 40 9 3,l_ 41 40 1,m_ 42 7,⟨some 43,.p (.build [iV 0,.bool false] [(0,1,.t 42)]),none⟩,⟨some 44,.mkS 2 [iV 0,.bool false] 1 [(0,.t 43)],none⟩,⟨some 45,.app 2 16 (.t 41) (.t 44),none⟩,f_ 46 9 3,s_ 46 45 1]
def MA:=[f_ 47 3 6,l_ 48 47 1,B_ .eql 49 48 1]
def uC:List Bt:=[L_ 50 9 6,q_ 51 133 [.t 50],⟨some 52,.p (.build [iV 0,iV 0] [(0,1,.c (iV 15))]),none⟩,s_ 4 51 6,s_ 5 52 2]
def uD:=tk [f_ 54 9 4,l_ 55 54 1,m_ 56 7,L_ 57 3 7] (.alt [m_ 56 7,l_ 55 54 1,f_ 54 9 4] (q_ 58 145 [.t 57,.c (iV 0)]) (.alt [] (q_ 59 86 [.t 55,.t 56,.c (.bool true),.t 58]) (tk [m_ 53 59,e_ 60 53 0,e_ 61 53 1,f_ 62 9 4] (.alt [e_ 61 53 1] (s_ 62 60 1) (tk [m_ 8 61] .fin) .stop)) .stop) .stop)
def uE:=[f_ 63 3 6,l_ 64 63 1,B_ .eql 65 64 2]
def uF:List Bt:=[L_ 66 9 6,q_ 67 133 [.t 66],⟨some 68,.p (.build [iV 0,iV 0] [(0,1,.c (iV 15))]),none⟩,s_ 4 67 6,s_ 5 68 2]
def uG:=[m_ 69 8,B_ .neq 70 69 0]
def uH:List Bt:=[f_ 71 9 3,l_ 72 71 1,f_ 73 9 3,l_ 74 73 1,n_ 75 74,B_ .sub 76 75 1,x_ 77 72 76 2,f_ 78 77 1,⟨none,.store (.t 78) (.c (.bool true)) 1,none⟩]
def uI:List Bt:=[L_ 79 9 6,m_ 80 8,⟨some 81,.p (.build [iV 0,iV 0] [(0,1,.t 80)]),none⟩,s_ 4 79 6,s_ 5 81 2]
def uJ:List Bt:=[f_ 82 9 3,l_ 83 82 1,f_ 84 9 3,l_ 85 84 1,n_ 86 85,B_ .sub 87 86 1,⟨some 88,.p (.slice (.t 83) none (some (.t 87)) 2),none⟩,f_ 89 9 3,s_ 89 88 1]
def uK:=[L_ 90 6 3,f_ 91 9 0,s_ 91 90 3]
def uL:List Bt:=[L_ 92 9 6,m_ 93 7,⟨some 94,.p (.build [iV 0,iV 0] [(1,1,.t 93)]),none⟩,s_ 4 92 6,s_ 5 94 2]
def c132:Dp:=⟨2,95,[.cell 4 6 true,.cell 5 2 true],sr LQ (sr LS (.seq (sr LT (iz 28 (.reg LU))) (.seq (sr LV (iz 30 (rr LW))) (sr LX (sr LY (sr LZ (.seq (sr MA (iz 49 (rr uC))) (sd uD (.seq (sr uE (iz 65 (rr uF))) (.seq (sr uG (iz 70 (sr uH (rr uI)))) (sr uJ (sr uK (rr uL)))))))))))))⟩
def K132 (D:Bh):Prop:=∀a0 a1 r,g132 a0 a1=some r→D 132 ⟨[.agg (Be a0),.agg (Ar a1)],[]⟩ ⟨.tup [.agg (Be r.1),.agg (Bg r.2)],[],[]⟩
abbrev Jq:=fun (r:List (Nat×List V))=>(256,At 0 0 (Ap 259) [] (Ap 260) [] (Ap 261) [] false)::(320,[iV 0,iV 0])::r
abbrev No:=fun x0 (r:List (Nat×V))=>(4,.ptr 256 0)::(5,.ptr 320 0)::(6,.ptr 384 0)::(7,iV x0)::r
theorem F132 (H70:K70 C) (H86:K86 C) (H102:kE C) (H133:sA C) (H145:EM C):K132 (FO C c132):=by
 intro a0 a1 r h0
 refine f0 (Ay 6 [(2,.ptr 128 0),(3,.ptr 192 0),(4,.ptr 256 0),(5,.ptr 320 0)] (Jq [(128,Be a0),(192,Ar a1)]) (Bc 7 (An (bb h0 fun r1 e2 h0=>st (Dj (r:=.tup [.agg (Bd r1.1),iV r1.2.1,iV r1.2.2]) true (H70 a0.Ad a1.ttl a1.Ef r1 e2) ⟨tv,tv,tv,tv⟩ rfl rfl (fun h=>nomatch h) (o_ (Ay 9 (No r1.2.1 [(2,.ptr 128 0),(3,.ptr 192 0),(8,iV r1.2.2)]) (Jq [(128,Be a0),(192,Ar a1),(384,Bd r1.1)]) (cX 7 (An (st (Ce (u:=iV (a0.Ab.length:Int)) rfl (fun hg=>(cO (e:=Bx) (l0:=a0.Ab) rfl rfl (fun _=>hg))) (o_ (AU 3 (No r1.2.1 [(2,.ptr 128 0),(3,.ptr 192 0),(8,iV r1.2.2),(28,.bool (bif (r1.2.2==0) then ((a0.Ab.length:Int)==40) else false))]) (Jq [(128,Be a0),(192,Ar a1),(384,Bd r1.1)]) (Kg (cb:=(bif (r1.2.2==0) then ((a0.Ab.length:Int)==40) else false)) (fun S=>∃p4:Int,S=⟨No r1.2.1 [(2,.ptr 128 0),(3,.ptr 192 0),(8,iV p4)],Jq [(128,Be a0),(192,Ar a1),(384,Bd r1.1)],[]⟩∧Kc a0 a1 r1 p4=some r) rfl ?_ (fun c27 J26=>?_) (fun c27 J26=>?_)))))))))))))))
 ·rintro _ ⟨p4,rfl,h0⟩
  refine Ay 6 (No r1.2.1 [(2,.ptr 128 0),(3,.ptr 192 0),(8,iV p4),(30,.bool (p4 != 0))]) (Jq [(128,Be a0),(192,Ar a1),(384,Bd r1.1)]) (Ct h0 (fun c5 h0=>?_) (fun c5 h0=>?_))
  ·refine Bc 3 (An (st (c_ (v:=.agg [iV p4,iV 0]) (Bb ⟨tv,tv⟩ rfl ⟨⟨rfl,rfl,nl rfl⟩,tv⟩) (o_ ?_))))
   obtain rfl:=sj h0
   exact Dd 4
  ·refine Bc 4 (An (bb h0 fun r6 e7 h0=>Sy (H102 a0 r6 e7) (ar (Bi rfl (af (af (af (Bi rfl rfl)))))) (o_ (Ay 11 (No r1.2.1 [(3,.ptr 192 0),(9,.ptr 576 0)]) (Jq [(192,Ar a1),(384,Bd r1.1),(576,At r6.Ad.clock r1.1.next (Ap 2240) r6.Ad.Ae (Ap 2241) r6.Ab (Ap 2242) r6.Ai r6.Al)]) (Bc 4 (An (st (c_ (v:=.agg [iV r1.2.1,.bool false]) (Bb ⟨tv,tv⟩ rfl ⟨⟨rfl,rfl,nl rfl⟩,tv⟩) (st (Wy ⟨tv,tv⟩ ⟨⟨nl rfl,rfl,rfl⟩,tv⟩ (gg h0 fun c8 h0=>st (Ja (e:=Bx) (l0:=r6.Ab) (l1:=([Ah.mk r1.2.1 false]:List Ah)) rfl rfl tv rfl (by decide) c8 (o_ (Ay 10 (No r1.2.1 [(3,.ptr 192 0),(9,.ptr 576 0),(49,.bool (a1.stop==1))]) (Jq [(192,Ar a1),(384,Bd r1.1),(576,[iV r6.Ad.clock,iV r1.1.next,Af 2240 r6.Ad.Ae,Br 2241 (r6.Ab++([Ah.mk r1.2.1 false]:List Ah)),oI 2242 r6.Ai,.bool r6.Al])]) (Ct h0 (fun c9 h0=>?_) (fun c9 h0=>?_))))))))))))))))
   ·refine Bc 2 (An (bb h0 fun r10 e11 h0=>Sy (H133 (Aj.mk (Ak.mk r6.Ad.clock r1.1.next r6.Ad.Ae) (r6.Ab++([Ah.mk r1.2.1 false]:List Ah)) r6.Ai r6.Al) r10 e11) (ar (Bi rfl (af (af (af (Bi rfl rfl)))))) (st (c_ (v:=.agg [iV 15,iV 0]) (Bb ⟨tv,tv⟩ rfl ⟨⟨rfl,rfl,nl rfl⟩,tv⟩) (o_ ?_)))))
    obtain rfl:=sj h0
    exact Dd 4 [3264,3265,3266]
   ·refine Mx 3 (bb h0 fun r12 e13 h0=>bb h0 fun r14 e15 h0=>Bc 4 (Bl (Xg (H145 a1 0 r12 e13) rfl (dw [(3,.ptr 192 0),(4,.ptr 256 0),(5,.ptr 320 0),(6,.ptr 384 0),(7,iV r1.2.1),(9,.ptr 576 0),(54,.ptr 576 4),(55,oI 2242 r6.Ai),(56,iV r1.2.1),(58,iV r12)] [(192,Ar a1),(256,At 0 0 (Ap 259) [] (Ap 260) [] (Ap 261) [] false),(320,[iV 0,iV 0]),(384,Bd r1.1),(576,[iV r6.Ad.clock,iV r1.1.next,Af 2240 r6.Ad.Ae,Br 2241 (r6.Ab++([Ah.mk r1.2.1 false]:List Ah)),oI 2242 r6.Ai,.bool r6.Al])] hB (Bu (Dj (r:=.tup [lI r14.1,iV r14.2]) true (H86 r6.Ai r1.2.1 true r12 r14 e15) ⟨tv,tv,tv,tv,tv⟩ rfl rfl (fun h=>nomatch h) (dw [(3,.ptr 192 0),(4,.ptr 256 0),(5,.ptr 320 0),(6,.ptr 384 0),(7,iV r1.2.1),(9,.ptr 576 0),(59,.tup [lI r14.1,iV r14.2])] [(192,Ar a1),(256,At 0 0 (Ap 259) [] (Ap 260) [] (Ap 261) [] false),(320,[iV 0,iV 0]),(384,Bd r1.1),(576,[iV r6.Ad.clock,iV r1.1.next,Af 2240 r6.Ad.Ae,Br 2241 (r6.Ab++([Ah.mk r1.2.1 false]:List Ah)),lI r6.Ai,.bool r6.Al])] tv (d_ (Bc 4 (Bl (Bu (Gd rfl rfl tv rfl rfl rfl (nl rfl) (d0 hB (d_ (Ay 2 (No r1.2.1 [(3,.ptr 192 0),(8,iV r14.2),(9,.ptr 576 0)]) (Jq [(192,Ar a1),(384,Bd r1.1),(576,[iV r6.Ad.clock,iV r1.1.next,Af 2240 r6.Ad.Ae,Br 2241 (r6.Ab++([Ah.mk r1.2.1 false]:List Ah)),lI r14.1,.bool r6.Al])]) (Bc 3 (An ?_)))))) Au)))))) Au)) Au)))
    refine o_ (Ay 3 (No r1.2.1 [(8,iV r14.2),(9,.ptr 576 0),(65,.bool (a1.stop==2))]) (Jq [(384,Bd r1.1),(576,[iV r6.Ad.clock,iV r1.1.next,Af 2240 r6.Ad.Ae,Br 2241 (r6.Ab++([Ah.mk r1.2.1 false]:List Ah)),lI r14.1,.bool r6.Al])]) (Ct h0 (fun c16 h0=>?_) (fun c16 h0=>?_)))
    ·refine Bc 2 (An (bb h0 fun r17 e18 h0=>Sy (H133 (Aj.mk (Ak.mk r6.Ad.clock r1.1.next r6.Ad.Ae) (r6.Ab++([Ah.mk r1.2.1 false]:List Ah)) r14.1 r6.Al) r17 e18) (ar (Bi rfl (af (af (af (Bi rfl rfl)))))) (st (c_ (v:=.agg [iV 15,iV 0]) (Bb ⟨tv,tv⟩ rfl ⟨⟨rfl,rfl,nl rfl⟩,tv⟩) (o_ ?_)))))
     obtain rfl:=sj h0
     exact Dd 4 [4288,4289,4290]
    ·refine Ay 7 (No r1.2.1 [(8,iV r14.2),(9,.ptr 576 0),(70,.bool (r14.2 != 0))]) (Jq [(384,Bd r1.1),(576,[iV r6.Ad.clock,iV r1.1.next,Af 2240 r6.Ad.Ae,Br 2241 (r6.Ab++([Ah.mk r1.2.1 false]:List Ah)),lI r14.1,.bool r6.Al])]) (Ct h0 (fun c19 h0=>?_) (fun c19 h0=>?_))
     ·refine Bc 5 (An (aS rfl (st (c_ (Bb t3 rfl tv) (bb h0 fun y20 e21 h0=>kA rfl rfl e21 (st (c_ (Bb ⟨tv,tv⟩ rfl tv) (bb h0 fun y22 e23 h0=>so_ (Ah.mk y22.As true) rfl rfl e23 (o_ (Ay 1 [(4,.ptr 256 0),(5,.ptr 320 0),(8,iV r14.2),(9,.ptr 576 0)] (Jq [(576,[iV r6.Ad.clock,iV r1.1.next,Af 2240 r6.Ad.Ae,.own 2241 0 2 (((r6.Ab++([Ah.mk r1.2.1 false]:List Ah)).set ((wi (((r6.Ab++([Ah.mk r1.2.1 false]:List Ah)).length:Int)-1)).toNat) (Ah.mk y22.As true)).map Bx),lI r14.1,.bool r6.Al])]) (Bc 3 (An (st (c_ (v:=.agg [iV r14.2,iV 0]) (Bb ⟨tv,tv⟩ rfl ⟨⟨rfl,rfl,nl rfl⟩,tv⟩) (o_ ?_)))))))))))))))
      obtain rfl:=sj h0
      exact Dd 4 [2240,2241]
     ·refine Bc 7 (An (aS rfl (st (c_ (Bb t3 rfl tv) (bb h0 fun s24 e25 h0=>st (c_ (Ep (e:=Bx) (y:=s24) rfl rfl tv ⟨tv,tv⟩ rfl rfl e25) (o_ (Ay 9 [(4,.ptr 256 0),(5,.ptr 320 0),(7,iV r1.2.1),(9,.ptr 576 0)] (Jq [(576,At r1.1.clock r1.1.next u_ r1.1.Ae (Ap 2241) s24 u_ r14.1 r6.Al)]) (Bc 3 (An (st (c_ (v:=.agg [iV 0,iV r1.2.1]) (Bb ⟨tv,tv⟩ rfl ⟨⟨rfl,rfl,nl rfl⟩,tv⟩) (o_ ?_)))))))))))))
      obtain rfl:=sj h0
      exact Dd 4 [2241]
 ·replace h0:=ip c27 h0
  refine An (st (BS tv (Hj ?_)))
  exact jn J26 ⟨_,rfl,h0⟩
 ·replace h0:=Wx c27 h0
  refine Jf ?_
  exact jn J26 ⟨_,rfl,h0⟩

/- loop.example/g00149/spec.l08Done -/
def c76_r0:=[X_ 2 0,a_ 4 (zT 259),i_ 5 0]
def c76_r1:=[L_ 8 2 3,m_ 9 1,q_ 10 92 [.t 8,.t 9],m_ 6 10]
def c76_r2:=[m_ 11 6,B_ .lss 12 11 0]
def c76_r3:=[L_ 13 2 3,s_ 4 13 3,i_ 5 5]
def c76_r4:=[f_ 14 2 2,l_ 15 14 1,m_ 16 6,x_ 17 15 16 4,f_ 18 17 3,l_ 19 18 1,N_ 20 19]
def c76_r5:=[L_ 21 2 3,s_ 4 21 3,i_ 5 13]
def c76_r6:=[L_ 22 2 3,a_ 7 (zT 451),s_ 7 22 3]
def c76_r7:=tk [f_ 24 2 2,l_ 25 24 1,m_ 26 6,⟨some 27,.p (.slice (.t 25) none (some (.t 26)) 4),none⟩,f_ 29 2 2,l_ 30 29 1,m_ 31 6,B_ .add 32 31 1,⟨some 33,.p (.slice (.t 30) (some (.t 32)) none 4),none⟩] (.alt [⟨some 33,.p (.slice (.t 30) (some (.t 32)) none 4),none⟩,B_ .add 32 31 1,m_ 31 6,l_ 30 29 1,f_ 29 2 2,⟨some 27,.p (.slice (.t 25) none (some (.t 26)) 4),none⟩,m_ 26 6,l_ 25 24 1,f_ 24 2 2] ⟨some 23,.mkS 4 [iV 0,iV 0,iV 0,.bool false] 0 [],none⟩ (.alt [⟨some 33,.p (.slice (.t 30) (some (.t 32)) none 4),none⟩,B_ .add 32 31 1,m_ 31 6,l_ 30 29 1,f_ 29 2 2] ⟨some 28,.app 4 32 (.t 23) (.t 27),none⟩ (.alt [] ⟨some 34,.app 4 32 (.t 28) (.t 33),none⟩ (tk [f_ 35 7 2] (.alt [] (s_ 35 34 1) .fin .stop)) .stop) .stop) .stop)
def c76_r8:=[L_ 36 7 3,s_ 4 36 3,i_ 5 0]
def c76:Dp:=⟨2,37,[.cell 4 3 true,.t 5],sr c76_r0 (sr c76_r1 (.seq (sr c76_r2 (iz 12 (rr c76_r3))) (.seq (sr c76_r4 (iz 20 (rr c76_r5))) (sr c76_r6 (sd c76_r7 (rr c76_r8))))))⟩
def K76 (D:Bh):Prop:=∀a0 a1 r,g76 a0 a1=some r→D 76 ⟨[.agg (Bd a0),iV a1],[]⟩ ⟨.tup [.agg (Bd r.1),iV r.2],[],[]⟩
abbrev oR:=fun x0 (r:List (Nat×List V))=>(128,Bd x0)::(256,Bo 0 0 (Ap 259) [])::r
theorem F76 (H92:K92 C):K76 (FO C c76):=by
 intro a0 a1 r h0
 refine f0 (Ay 5 [(1,iV a1),(2,.ptr 128 0),(4,.ptr 256 0)] (oR a0 []) (Bj (An (st (c_ (v:=.agg (Bd a0)) (Bb ⟨tv,tv⟩ rfl (nl rfl)) (st (Bw rfl tv (bb h0 fun r1 e2 h0=>st (Dj (r:=iV r1) false (H92 a0 a1 r1 e2) ⟨tv,tv,tv⟩ rfl rfl (fun _=>rfl) (o_ (Ay 8 [(2,.ptr 128 0),(4,.ptr 256 0),(6,iV r1),(12,.bool (decide (r1<0)))] (oR a0 []) (Ct h0 (fun c3 h0=>?_) (fun c3 h0=>?_)))))))))))))
 ·obtain rfl:=sj h0
  exact Dd 6
 ·refine Jf (bM (Bj (Bj (An (st (c_ (Bb ⟨tv,tv⟩ rfl tv) (st (c_ (Bb ⟨tv,tv⟩ rfl (nl rfl)) (st (Bw rfl tv (bb h0 fun y4 e5 h0=>Vv rfl rfl e5 (o_ (Ay 4 [(2,.ptr 128 0),(4,.ptr 256 0),(6,iV r1),(20,.bool (!y4.Cj))] (oR a0 []) (Ct h0 (fun c6 h0=>?_) (fun c6 h0=>?_)))))))))))))))
  ·obtain rfl:=sj h0
   exact Dd 6
  ·refine Ay 7 [(2,.ptr 128 0),(4,.ptr 256 0),(6,iV r1),(7,.ptr 448 0)] (oR a0 [(448,Bd a0)]) (Bj (bb h0 fun s7 e8 h0=>bb h0 fun s9 e10 h0=>gg h0 fun c11 h0=>gg h0 fun c12 h0=>Bl (Ag tv (c_ (Bb ⟨tv,tv⟩ rfl tv) (⟨tv,Ag tv (c_ (Bb ⟨tv,tv⟩ rfl (nl rfl)) (⟨tv,Ag tv (Bw rfl tv (⟨tv,Ag tv (c_ (Qf (e:=Ac) (y:=s7) rfl rfl tv ⟨tv,tv⟩ rfl rfl e8) (⟨tv,Ag tv (c_ (Bb ⟨tv,tv⟩ rfl tv) (⟨tv,Ag tv (c_ (Bb ⟨tv,tv⟩ rfl (nl rfl)) (⟨tv,Ag tv (Bw rfl tv (⟨tv,Ag tv (c_ (Bb t3 rfl tv) (⟨tv,Ag tv (c_ (Qf (e:=Ac) (y:=s9) rfl rfl tv ⟨tv,tv⟩ rfl rfl e10) (⟨tv,Bu (Wy tv tv (d0 ⟨⟨.inl tv,Ba (Qf (e:=Ac) (y:=s9) rfl rfl tv ⟨tv,tv⟩ rfl rfl e10) rfl⟩,⟨.inl tv,Ba (Bb t3 rfl tv) rfl⟩,⟨.inl tv,Ba (Dt (v:=iV r1) rfl tv) rfl⟩,⟨.inl tv,Ba (Bb ⟨tv,tv⟩ rfl (nl rfl)) rfl⟩,⟨.inl tv,Ba (Bb ⟨tv,tv⟩ rfl tv) rfl⟩,⟨.inl tv,Ba (Qf (e:=Ac) (y:=s7) rfl rfl tv ⟨tv,tv⟩ rfl rfl e8) rfl⟩,⟨.inl tv,Ba (Dt (v:=iV r1) rfl tv) rfl⟩,⟨.inl tv,Ba (Bb ⟨tv,tv⟩ rfl (nl rfl)) rfl⟩,⟨.inl tv,Ba (Bb ⟨tv,tv⟩ rfl tv) rfl⟩,tv⟩ (Bu (Ja (e:=Ac) (l0:=([]:List Aa)) (l1:=s7) rfl rfl tv rfl (by decide) c11 (dw [(2,.ptr 128 0),(4,.ptr 256 0),(6,iV r1),(7,.ptr 448 0),(28,Af 1472 (([]:List Aa)++s7)),(29,.ptr 128 2),(30,Ck a0.Ae),(31,iV r1),(32,iV (wi (r1+1))),(33,Ck s9)] [(128,Bd a0),(256,Bo 0 0 (Ap 259) []),(448,Bd a0)] ⟨⟨.inl tv,Ba (Qf (e:=Ac) (y:=s9) rfl rfl tv ⟨tv,tv⟩ rfl rfl e10) rfl⟩,⟨.inl tv,Ba (Bb t3 rfl tv) rfl⟩,⟨.inl tv,Ba (Dt (v:=iV r1) rfl tv) rfl⟩,⟨.inl tv,Ba (Bb ⟨tv,tv⟩ rfl (nl rfl)) rfl⟩,⟨.inl tv,Ba (Bb ⟨tv,tv⟩ rfl tv) rfl⟩,tv⟩ (Bu (Ja (e:=Ac) (l0:=([]:List Aa)++s7) (l1:=s9) rfl rfl tv rfl (by decide) c12 (d0 tv (Ag tv (c_ (Bb ⟨tv,tv⟩ rfl tv) (⟨tv,Bu (Gd rfl rfl tv rfl rfl rfl (nl rfl) (d0 tv (d_ (Ay 1 [(4,.ptr 256 0),(7,.ptr 448 0)] [(256,Bo 0 0 (Ap 259) []),(448,Bo a0.clock a0.next (Ap 1472) ((([]:List Aa)++s7)++s9))] ?_)))) Au⟩))))) Au))) Au))) Au⟩))⟩))⟩))⟩))⟩))⟩))⟩))⟩))⟩)))))
   obtain rfl:=sj h0
   exact Dd 6 [1472]

/- loop.example/g00149/spec.l09Without -/
def PC:List Bt:=[⟨some 4,.nilS 2,none⟩]
def PD:List Bt:=[⟨some 7,.mkS 2 [iV 0,.bool false] 0 [],none⟩,m_ 5 7]
def PE:=[i_ 6 0]
def PF:=[m_ 8 6,m_ 9 0,n_ 10 9,b_ .lss 11 8 10]
def PG:=[m_ 14 0,m_ 15 6,x_ 16 14 15 2,f_ 17 16 0,l_ 18 17 1,m_ 19 1,b_ .neq 20 18 19]
def PH:List Bt:=[m_ 21 5,m_ 22 0,m_ 23 6,x_ 24 22 23 2,L_ 25 24 2,⟨some 26,.mkS 2 [iV 0,.bool false] 1 [(0,.t 25)],none⟩,⟨some 27,.app 2 16 (.t 21) (.t 26),none⟩,m_ 5 27]
def PI:=[m_ 12 6,B_ .add 13 12 1,m_ 6 13]
def PB:IR:=(.seq (sr PF (.ite (.t 11) .skip (.exit 0))) (.seq (.block 1 (sr PG (iz 20 (.reg PH)))) (.reg PI)))
def PJ:=[m_ 28 5,m_ 4 28]
def c146:Dp:=⟨2,29,[.t 4],sr PC (sr PD (.seq (sr PE (Ju 0 PB)) (rr PJ)))⟩
def K146 (D:Bh):Prop:=∀a0 a1 r,g146 a0 a1=some r→D 146 ⟨[Cp a0,iV a1],[]⟩ ⟨Br 0 r,[],[]⟩
theorem F146:K146 (FO C c146):=by
 intro a0 a1 r h0
 refine f0 (Ay 13 [(0,Cp a0),(1,iV a1),(5,Br 448 []),(6,iV 0)] [] (Cg (bb h0 fun r37 e38 h0=>Cz (R:=(fun S=>∃p21:List Ah,p21=r37∧S=⟨[(5,Br 448 p21)],[],[]⟩)) (Qq a0 a1) (fun s S=>match s with | (p9,p10)=>S=⟨[(0,Cp a0),(1,iV a1),(5,Br 448 p9),(6,iV p10)],[],[]⟩) e38 _ (Ez (by kernel_rfl)) rfl 0 (fun _=>rfl) ?_ ?_)))
 ·rintro S _ hfg ⟨p21,rfl,rfl⟩
  refine Dn _ hfg ?_
  obtain rfl:=sj h0
  exact Dd 5
 ·rintro ⟨p9,p10⟩ o1 _ K1 rfl h1 hx1 hK1 hE1 hR1
  refine Bc 4 (An (Sn rfl (o_ (Ay 2 [(0,Cp a0),(1,iV a1),(5,Br 448 p9),(6,iV p10),(11,.bool (decide (p10<(a0.length:Int))))] [] (Ct h1 (fun c22 h1=>?_) (fun c22 h1=>?_))))))
  ·refine Mx 3 (Hs (fun S=>∃p29:List Ah,S=⟨[(0,Cp a0),(1,iV a1),(5,Br 448 p29),(6,iV p10)],[],[]⟩∧Xq p10 p29=some o1) ?_ (fun J30=>?_))
   ·rintro _ ⟨p29,rfl,h1⟩
    refine Bc 5 ?_
    obtain rfl:=sj h1
    exact kn hK1 rfl rfl
   ·refine Bj ?_
    refine Bc 2 (An (bb h1 fun y31 e32 h1=>Vv rfl rfl e32 (o_ (Ay 5 [(0,Cp a0),(1,iV a1),(5,Br 448 p9),(6,iV p10),(20,.bool (y31.As != a1))] [] (Ct h1 (fun c33 h1=>?_) (fun c33 h1=>?_))))))
    ·refine Bc 3 (An (bb h1 fun y34 e35 h1=>Vv rfl rfl e35 (o_ (Bc 2 (An (gg h1 fun c36 h1=>st (Ja (e:=Bx) (l0:=p9) (l1:=([y34]:List Ah)) rfl rfl tv rfl (by decide) c36 (st (Bw rfl tv (Hj (Rd ?_)))))))))))
     exact jn J30 ⟨_,rfl,h1⟩
    ·refine Jf (Rd ?_)
     exact jn J30 ⟨_,rfl,h1⟩
  ·obtain rfl:=sj h1
   obtain rfl:=hx1 _ rfl
   refine Jv rfl ?_
   exact jn hE1 ⟨_,rfl,rfl⟩

/- loop.example/g00149/spec.l09Sweep -/
def MM:=[X_ 2 0,X_ 3 1,a_ 4 (zV 259 260 261)]
def MN:=[L_ 14 2 6,q_ 15 102 [.t 14],a_ 5 (zV 323 324 325),s_ 5 15 6]
def MO:=[i_ 6 0]
def MP:=[i_ 7 0]
def MQ:=[m_ 16 7,f_ 17 2 0,f_ 18 17 2,l_ 19 18 1,n_ 20 19,b_ .lss 21 16 20]
def MR:=[f_ 24 2 0,f_ 25 24 2,l_ 26 25 1,m_ 27 7,x_ 28 26 27 4,f_ 29 28 0,l_ 30 29 1,m_ 8 30]
def MS:=[f_ 31 2 0,f_ 32 31 2,l_ 33 32 1,m_ 34 7,x_ 35 33 34 4,f_ 36 35 3,l_ 37 36 1,N_ 38 37]
def MT:=tk [f_ 40 5 4,l_ 41 40 1,m_ 42 8,L_ 43 3 7,m_ 44 6] (.alt [m_ 42 8,l_ 41 40 1,f_ 40 5 4] (q_ 45 145 [.t 43,.t 44]) (.alt [] (q_ 46 86 [.t 41,.t 42,.c (.bool false),.t 45]) (tk [m_ 39 46,e_ 47 39 0,e_ 48 39 1,m_ 9 47,m_ 10 48] .fin) .stop) .stop)
def MU:=[m_ 49 6,B_ .add 50 49 1,m_ 6 50]
def MV:=[m_ 51 9,f_ 52 5 4,s_ 52 51 1]
def uM:=[m_ 53 10,B_ .eql 54 53 0]
def uN:=[f_ 56 5 0,L_ 57 56 3,m_ 58 8,q_ 59 76 [.t 57,.t 58],m_ 55 59,e_ 60 55 0,e_ 61 55 1,f_ 62 5 0,s_ 62 60 3]
def uO:=[f_ 63 3 6,l_ 64 63 1,B_ .eql 65 64 2]
def uP:=[L_ 66 5 6,q_ 67 133 [.t 66],s_ 4 67 6]
def uQ:=[m_ 22 7,B_ .add 23 22 1,m_ 7 23]
def MK:IR:=(.seq (sr MQ (.ite (.t 21) .skip (.exit 0))) (.seq (.block 1 (sr MR (.seq (sr MS (iz 38 (.exit 1))) (sd MT (sr MU (sr MV (.seq (sr uM (iz 54 (.reg uN))) (sr uO (iz 65 (rr uP)))))))))) (.reg uQ)))
def uR:=[i_ 11 0]
def uS:=[m_ 68 11,f_ 69 2 3,l_ 70 69 1,n_ 71 70,b_ .lss 72 68 71]
def uT:=[f_ 75 2 3,l_ 76 75 1,m_ 77 11,x_ 78 76 77 2,f_ 79 78 1,l_ 80 79 1,N_ 81 80]
def uU:=tk [f_ 83 5 4,l_ 84 83 1,f_ 85 2 3,l_ 86 85 1,m_ 87 11,x_ 88 86 87 2,f_ 89 88 0,l_ 90 89 1,L_ 91 3 7,m_ 92 6] (.alt [l_ 90 89 1,f_ 89 88 0,x_ 88 86 87 2,m_ 87 11,l_ 86 85 1,f_ 85 2 3,l_ 84 83 1,f_ 83 5 4] (q_ 93 145 [.t 91,.t 92]) (.alt [] (q_ 94 86 [.t 84,.t 90,.c (.bool false),.t 93]) (tk [m_ 82 94,e_ 95 82 0,e_ 96 82 1,m_ 12 95,m_ 13 96] .fin) .stop) .stop)
def uV:=[m_ 97 6,B_ .add 98 97 1,m_ 6 98]
def uW:=[m_ 99 12,f_ 100 5 4,s_ 100 99 1]
def uX:=[m_ 101 13,B_ .eql 102 101 0]
def uY:=tk [f_ 103 5 3,l_ 104 103 1,f_ 105 2 3,l_ 106 105 1,m_ 107 11,x_ 108 106 107 2,f_ 109 108 0,l_ 110 109 1] (.alt [] (q_ 111 146 [.t 104,.t 110]) (tk [f_ 112 5 3] (.alt [] (s_ 112 111 1) .fin .stop)) .stop)
def uZ:=[f_ 113 3 6,l_ 114 113 1,B_ .eql 115 114 2]
def vA:=[L_ 116 5 6,q_ 117 133 [.t 116],s_ 4 117 6]
def vB:=[m_ 73 11,B_ .add 74 73 1,m_ 11 74]
def ML:IR:=(.seq (sr uS (.ite (.t 72) .skip (.exit 2))) (.seq (.block 3 (.seq (sr uT (iz 81 (.exit 3))) (sd uU (sr uV (sr uW (.seq (sr uX (iz 102 (.draw uY))) (sr uZ (iz 115 (rr vA))))))))) (.reg vB)))
def vC:=[L_ 118 5 6,s_ 4 118 6]
def c134:Dp:=⟨2,119,[.cell 4 6 true],sr MM (sr MN (sr MO (.seq (sr MP (Ju 0 MK)) (.seq (sr uR (Ju 2 ML)) (rr vC)))))⟩
def K134 (D:Bh):Prop:=∀a0 a1 r,kW a0 a1=some r→D 134 ⟨[.agg (Be a0),.agg (Ar a1)],[]⟩ ⟨.agg (Bk r u_ (Ap 0) u_),[],[]⟩
abbrev Fk:=fun x0 x1 (r:List (Nat×List V))=>(128,Be x0)::(192,Ar x1)::(256,At 0 0 (Ap 259) [] (Ap 260) [] (Ap 261) [] false)::r
abbrev Fu:=fun (r:List (Nat×V))=>(2,.ptr 128 0)::(3,.ptr 192 0)::(4,.ptr 256 0)::(5,.ptr 320 0)::r
theorem F134 (H76:K76 C) (H86:K86 C) (H102:kE C) (H133:sA C) (H145:EM C) (H146:K146 C):K134 (FO C c134):=by
 intro a0 a1 r h0
 refine f0 (Ay 5 [(2,.ptr 128 0),(3,.ptr 192 0),(4,.ptr 256 0)] (Fk a0 a1 []) (Bj (An (st (c_ (v:=.agg (Be a0)) (Bb ⟨tv,tv⟩ rfl (nl rfl)) (bb h0 fun r1 e2 h0=>st (Dj (r:=.agg (Bk r1 (Ap 0) (Ap 1) (Ap 2))) false (H102 a0 r1 e2) ⟨tv,tv⟩ rfl rfl (fun _=>(ar (Bi rfl (af (af (af (Bi rfl rfl))))))) (o_ (Ay 12 (Fu [(6,iV 0),(7,iV 0)]) (Fk a0 a1 [(320,Bk r1 (Ap 960) (Ap 961) (Ap 962))]) (Cg (bb h0 fun r115 e116 h0=>Cz (R:=(fun S=>∃p63:Int,∃p64:Int,∃p65:Int,∃p66:List Aa,∃p67:List Int,.inl (p63,p64,p65,p66,p67)=r115∧S=⟨Fu [(6,iV p63)],Fk a0 a1 [(320,At p64 p65 u_ p66 (Ap 961) r1.Ab u_ p67 r1.Al)],[]⟩)) (Ln a0 a1 r1) (fun s S=>match s with | (p27,p28,p29,p30,p31,p32)=>S=⟨Fu [(6,iV p27),(7,iV p28)],Fk a0 a1 [(320,At p29 p30 u_ p31 (Ap 961) r1.Ab u_ p32 r1.Al)],[]⟩) e116 ⟨Fu [(6,iV 0),(7,iV 0)],Fk a0 a1 [(320,Bk r1 u_ (Ap 961) u_)],[]⟩ (kS [960,962] (by kernel_rfl)) rfl 0 (fun _=>rfl) ?_ ?_)))))))))))
 ·rintro S _ hfg ⟨p63,p64,p65,p66,p67,rfl,rfl⟩
  refine Dn _ hfg (Ay 4 (Fu [(6,iV p63),(11,iV 0)]) (Fk a0 a1 [(320,At p64 p65 u_ p66 (Ap 961) r1.Ab u_ p67 r1.Al)]) (Cg (bb h0 fun r218 e219 h0=>Cz (R:=(fun S=>∃p169:List Ah,∃p170:List Int,.inl (p169,p170)=r218∧S=⟨[(4,.ptr 256 0),(5,.ptr 320 0)],[(256,At 0 0 (Ap 259) [] (Ap 260) [] (Ap 261) [] false),(320,At p64 p65 u_ p66 (Ap 961) p169 u_ p170 r1.Al)],[]⟩)) (Jj a0 a1 r1 p64 p65 p66) (fun s S=>match s with | (p139,p140,p141,p142)=>S=⟨Fu [(6,iV p139),(11,iV p140)],Fk a0 a1 [(320,At p64 p65 u_ p66 (Ap 961) p141 u_ p142 r1.Al)],[]⟩) e219 _ (Ez (by kernel_rfl)) rfl 2 (fun _=>rfl) ?_ ?_)))
  ·rintro S _ hfg ⟨p169,p170,rfl,rfl⟩
   refine Dn _ hfg ?_
   obtain rfl:=sj h0
   exact Dd 5
  ·rintro ⟨p139,p140,p141,p142⟩ o1 _ K1 rfl h1 hx1 hK1 hE1 hR1
   refine Bj (Bj (An (st (Bw rfl tv (st (c_ (Bb ⟨tv,tv⟩ rfl tv) (st (c_ (Bb ⟨tv,tv⟩ rfl (nl rfl)) (Sn rfl (o_ (Ay 2 (Fu [(6,iV p139),(11,iV p140),(72,.bool (decide (p140<(a0.Ab.length:Int))))]) (Fk a0 a1 [(320,At p64 p65 u_ p66 (Ap 961) p141 u_ p142 r1.Al)]) (Ct h1 (fun c171 h1=>?_) (fun c171 h1=>?_)))))))))))))
   ·refine Mx 3 (Hs (fun S=>∃p190:Int,∃p191:List Ah,∃p192:List Int,S=⟨Fu [(6,iV p190),(11,iV p140)],Fk a0 a1 [(320,At p64 p65 u_ p66 (Ap 961) p191 u_ p192 r1.Al)],[]⟩∧Td p140 p190 p191 p192=some o1) ?_ (fun J193=>?_))
    ·rintro _ ⟨p190,p191,p192,rfl,h1⟩
     refine bM (An (st (Bw rfl tv (st (c_ (Bb t3 rfl tv) (st (Bw rfl tv (Hj ?_))))))))
     obtain rfl:=sj h1
     exact kn hK1 rfl rfl
    ·refine Bj ?_
     refine Bj (An (st (c_ (Bb ⟨tv,tv⟩ rfl tv) (st (c_ (Bb ⟨tv,tv⟩ rfl (nl rfl)) (st (Bw rfl tv (bb h1 fun y194 e195 h1=>Vv rfl rfl e195 (o_ (Ay 4 (Fu [(6,iV p139),(11,iV p140),(81,.bool (!y194.Md))]) (Fk a0 a1 [(320,At p64 p65 u_ p66 (Ap 961) p141 u_ p142 r1.Al)]) (Ct h1 (fun c196 h1=>?_) (fun c196 h1=>?_))))))))))))
     ·refine ex_ rfl ?_
      exact jn J193 ⟨_,_,_,rfl,h1⟩
     ·refine Mx 3 (bb h1 fun y197 e198 h1=>bb h1 fun r199 e200 h1=>bb h1 fun r201 e202 h1=>Bl (Ag tv (c_ (Bb ⟨tv,tv⟩ rfl tv) (⟨tv,Ag tv (c_ (Bb ⟨tv,tv⟩ rfl (nl rfl)) (⟨tv,Ag tv (c_ (Bb ⟨tv,tv⟩ rfl tv) (⟨tv,Ag tv (c_ (Bb ⟨tv,tv⟩ rfl (nl rfl)) (⟨tv,Ag tv (Bw rfl tv (⟨tv,d_ (xv_ rfl rfl rfl e198 (Bl (Ag tv (c_ (Bb ⟨tv,tv⟩ rfl (nl rfl)) (⟨tv,Ag tv (c_ (Bb ⟨tv,tv⟩ rfl (nl rfl)) (⟨tv,Ag tv (c_ (v:=.agg (Ar a1)) (Bb ⟨tv,tv⟩ rfl (nl rfl)) (⟨tv,Ag tv (Bw rfl tv (⟨tv,Xg (H145 a1 p139 r199 e200) rfl (dw [(2,.ptr 128 0),(3,.ptr 192 0),(4,.ptr 256 0),(5,.ptr 320 0),(6,iV p139),(11,iV p140),(83,.ptr 320 4),(84,lI p142),(85,.ptr 128 3),(86,Cp a0.Ab),(87,iV p140),(88,.iptr (Bx y197)),(89,.iptr (Bx y197)),(90,iV y197.As),(93,iV r199)] [(128,Be a0),(192,Ar a1),(256,At 0 0 (Ap 259) [] (Ap 260) [] (Ap 261) [] false),(320,At p64 p65 u_ p66 (Ap 961) p141 u_ p142 r1.Al)] ⟨⟨.inl tv,Ba (Bb ⟨tv,tv⟩ rfl (nl rfl)) rfl⟩,⟨.inl tv,Ba (Bb ⟨tv,tv⟩ rfl (nl rfl)) rfl⟩,⟨.inl tv,Ba (cj_ rfl rfl e198) rfl⟩,⟨.inl tv,Ba (Dt (v:=iV p140) rfl tv) rfl⟩,⟨.inl tv,Ba (Bb ⟨tv,tv⟩ rfl (nl rfl)) rfl⟩,⟨.inl tv,Ba (Bb ⟨tv,tv⟩ rfl tv) rfl⟩,⟨.inl tv,Ba (Bb ⟨tv,tv⟩ rfl (nl rfl)) rfl⟩,⟨.inl tv,Ba (Bb ⟨tv,tv⟩ rfl tv) rfl⟩,tv⟩ (Bu (Dj (r:=.tup [lI r201.1,iV r201.2]) true (H86 p142 y197.As false r199 r201 e202) ⟨tv,tv,tv,tv,tv⟩ rfl rfl (fun h=>nomatch h) (dw [(2,.ptr 128 0),(3,.ptr 192 0),(4,.ptr 256 0),(5,.ptr 320 0),(6,iV p139),(11,iV p140),(94,.tup [lI r201.1,iV r201.2])] [(128,Be a0),(192,Ar a1),(256,At 0 0 (Ap 259) [] (Ap 260) [] (Ap 261) [] false),(320,At p64 p65 u_ p66 (Ap 961) p141 u_ p142 r1.Al)] tv (Ag tv (Bw rfl tv (⟨tv,Ag tv (c_ (Bb ⟨tv,tv⟩ rfl tv) (⟨tv,Ag tv (c_ (Bb ⟨tv,tv⟩ rfl tv) (⟨tv,?_⟩))⟩))⟩))))) Au)) Au⟩))⟩))⟩))⟩)))))⟩))⟩))⟩))⟩))⟩))))
      refine d_ (Ay 21 (Fu [(6,iV (wi (p139+1))),(11,iV p140),(102,.bool (r201.2==0))]) (Fk a0 a1 [(320,At p64 p65 u_ p66 (Ap 961) p141 u_ r201.1 r1.Al)]) (Kg (cb:=(r201.2==0)) (fun S=>∃p208:List Ah,S=⟨Fu [(6,iV (wi (p139+1))),(11,iV p140)],Fk a0 a1 [(320,At p64 p65 u_ p66 (Ap 7104) p208 u_ r201.1 r1.Al)],[]⟩∧Qn a1 r1 p64 p65 p66 p139 p140 r201 p208=some o1) rfl ?_ (fun c213 J212=>?_) (fun c213 J212=>?_)))
      ·rintro _ ⟨p208,rfl,h1⟩
       refine Ay 6 (Fu [(6,iV (wi (p139+1))),(11,iV p140),(115,.bool (a1.stop==2))]) (Fk a0 a1 [(320,At p64 p65 u_ p66 (Ap 7104) p208 u_ r201.1 r1.Al)]) (Ct h1 (fun c209 h1=>?_) (fun c209 h1=>?_))
       ·refine Bj (An (st (c_ (v:=.agg (At p64 p65 u_ p66 (Ap 7104) p208 u_ r201.1 r1.Al)) (Bb ⟨tv,tv⟩ rfl (nl rfl)) (bb h1 fun r210 e211 h1=>st (Dj (r:=.agg (Bk r210 (Ap 0) (Ap 1) (Ap 2))) false (H133 (Aj.mk (Ak.mk p64 p65 p66) p208 r201.1 r1.Al) r210 e211) ⟨tv,tv⟩ rfl rfl (fun _=>(ar (Bi rfl (af (af (af (Bi rfl rfl))))))) (o_ ?_))))))
        obtain rfl:=sj h1
        obtain rfl:=hx1 _ rfl
        obtain rfl:=sj h0
        exact rX 3 hR1 [7488,7490]
       ·refine Jf (Rd ?_)
        exact J193 _ _ (Vh [] [(7104,961)] rfl (by kernel_rfl)) ⟨_,_,_,rfl,h1⟩
      ·replace h1:=ip c213 h1
       refine bb h1 fun y214 e215 h1=>bb h1 fun r216 e217 h1=>Bl (Ag tv (c_ (Bb ⟨tv,tv⟩ rfl tv) (⟨tv,Ag tv (c_ (Bb ⟨tv,tv⟩ rfl (nl rfl)) (⟨tv,Ag tv (c_ (Bb ⟨tv,tv⟩ rfl tv) (⟨tv,Ag tv (c_ (Bb ⟨tv,tv⟩ rfl (nl rfl)) (⟨tv,Ag tv (Bw rfl tv (⟨tv,d_ (xv_ rfl rfl rfl e215 (Bl (Ag tv (c_ (Bb ⟨tv,tv⟩ rfl (nl rfl)) (⟨tv,Ag tv (c_ (Bb ⟨tv,tv⟩ rfl (nl rfl)) (⟨tv,Xg (H146 p141 y214.As r216 e217) (af rfl) (dw [(2,.ptr 128 0),(3,.ptr 192 0),(4,.ptr 256 0),(5,.ptr 320 0),(6,iV (wi (p139+1))),(11,iV p140),(111,Br 7104 r216)] [(128,Be a0),(192,Ar a1),(256,At 0 0 (Ap 259) [] (Ap 260) [] (Ap 261) [] false),(320,At p64 p65 u_ p66 (Ap 961) p141 u_ r201.1 r1.Al)] tv (Ag tv (c_ (Bb ⟨tv,tv⟩ rfl tv) (⟨tv,Bu (Gd rfl rfl tv rfl rfl rfl (nl rfl) (d0 tv (Gf ?_))) Au⟩)))) Au⟩))⟩)))))⟩))⟩))⟩))⟩))⟩)))
       exact jn J212 ⟨_,rfl,h1⟩
      ·replace h1:=Wx c213 h1
       refine Jf ?_
       exact J212 _ _ (Vh [] [(961,7104)] rfl (by kernel_rfl)) ⟨_,rfl,h1⟩
   ·obtain rfl:=sj h1
    obtain rfl:=hx1 _ rfl
    refine Jv rfl ?_
    exact jn hE1 ⟨_,_,rfl,rfl⟩
 ·rintro ⟨p27,p28,p29,p30,p31,p32⟩ o1 _ K1 rfl h1 hx1 hK1 hE1 hR1
  refine Bj (Bj (An (st (Bw rfl tv (st (c_ (Bb ⟨tv,tv⟩ rfl tv) (st (c_ (Bb ⟨tv,tv⟩ rfl tv) (st (c_ (Bb ⟨tv,tv⟩ rfl (nl rfl)) (Sn rfl (o_ (Ay 2 (Fu [(6,iV p27),(7,iV p28),(21,.bool (decide (p28<(a0.Ad.Ae.length:Int))))]) (Fk a0 a1 [(320,At p29 p30 u_ p31 (Ap 961) r1.Ab u_ p32 r1.Al)]) (Ct h1 (fun c68 h1=>?_) (fun c68 h1=>?_)))))))))))))))
  ·refine Mx 3 (Hs (fun S=>∃p87:Int,∃p88:Int,∃p89:Int,∃p90:List Aa,∃p91:List Int,S=⟨Fu [(6,iV p87),(7,iV p28)],Fk a0 a1 [(320,At p88 p89 u_ p90 (Ap 961) r1.Ab u_ p91 r1.Al)],[]⟩∧Tc p28 p87 p88 p89 p90 p91=some o1) ?_ (fun J92=>?_))
   ·rintro _ ⟨p87,p88,p89,p90,p91,rfl,h1⟩
    refine bM (An (st (Bw rfl tv (st (c_ (Bb t3 rfl tv) (st (Bw rfl tv (Hj ?_))))))))
    obtain rfl:=sj h1
    exact kn hK1 rfl rfl
   ·refine Bj ?_
    refine An (st (c_ (Bb ⟨tv,tv⟩ rfl tv) (st (c_ (Bb ⟨tv,tv⟩ rfl tv) (st (c_ (Bb ⟨tv,tv⟩ rfl (nl rfl)) (st (Bw rfl tv (bb h1 fun y93 e94 h1=>Vv rfl rfl e94 (o_ (Ay 4 (Fu [(6,iV p27),(7,iV p28),(8,iV y93.id)]) (Fk a0 a1 [(320,At p29 p30 u_ p31 (Ap 961) r1.Ab u_ p32 r1.Al)]) (Bj (Bj (An (st (c_ (Bb ⟨tv,tv⟩ rfl tv) (st (c_ (Bb ⟨tv,tv⟩ rfl tv) (st (c_ (Bb ⟨tv,tv⟩ rfl (nl rfl)) (st (Bw rfl tv (bb h1 fun y95 e96 h1=>Vv rfl rfl e96 (o_ (Ay 4 (Fu [(6,iV p27),(7,iV p28),(8,iV y93.id),(38,.bool (!y95.Cj))]) (Fk a0 a1 [(320,At p29 p30 u_ p31 (Ap 961) r1.Ab u_ p32 r1.Al)]) (Ct h1 (fun c97 h1=>?_) (fun c97 h1=>?_)))))))))))))))))))))))))))
    ·refine ex_ rfl ?_
     exact jn J92 ⟨_,_,_,_,_,rfl,h1⟩
    ·refine Mx 3 (bb h1 fun r98 e99 h1=>bb h1 fun r100 e101 h1=>Bl (Ag tv (c_ (Bb ⟨tv,tv⟩ rfl tv) (⟨tv,Ag tv (c_ (Bb ⟨tv,tv⟩ rfl (nl rfl)) (⟨tv,Ag tv (Bw rfl tv (⟨tv,Ag tv (c_ (v:=.agg (Ar a1)) (Bb ⟨tv,tv⟩ rfl (nl rfl)) (⟨tv,Ag tv (Bw rfl tv (⟨tv,Xg (H145 a1 p27 r98 e99) rfl (dw [(2,.ptr 128 0),(3,.ptr 192 0),(4,.ptr 256 0),(5,.ptr 320 0),(6,iV p27),(7,iV p28),(8,iV y93.id),(40,.ptr 320 4),(41,lI p32),(42,iV y93.id),(45,iV r98)] [(128,Be a0),(192,Ar a1),(256,At 0 0 (Ap 259) [] (Ap 260) [] (Ap 261) [] false),(320,At p29 p30 u_ p31 (Ap 961) r1.Ab u_ p32 r1.Al)] hB (Bu (Dj (r:=.tup [lI r100.1,iV r100.2]) true (H86 p32 y93.id false r98 r100 e101) ⟨tv,tv,tv,tv,tv⟩ rfl rfl (fun h=>nomatch h) (dw [(2,.ptr 128 0),(3,.ptr 192 0),(4,.ptr 256 0),(5,.ptr 320 0),(6,iV p27),(7,iV p28),(8,iV y93.id),(46,.tup [lI r100.1,iV r100.2])] [(128,Be a0),(192,Ar a1),(256,At 0 0 (Ap 259) [] (Ap 260) [] (Ap 261) [] false),(320,At p29 p30 u_ p31 (Ap 961) r1.Ab u_ p32 r1.Al)] tv (d_ (Ay 6 (Fu [(6,iV p27),(7,iV p28),(8,iV y93.id),(9,lI r100.1),(10,iV r100.2)]) (Fk a0 a1 [(320,At p29 p30 u_ p31 (Ap 961) r1.Ab u_ p32 r1.Al)]) (Bj (An (st (Bw rfl tv (st (c_ (Bb t3 rfl tv) ?_)))))))))) Au)) Au⟩))⟩))⟩))⟩))⟩))))
     refine o_ (Ay 14 (Fu [(6,iV (wi (p27+1))),(7,iV p28),(8,iV y93.id),(54,.bool (r100.2==0))]) (Fk a0 a1 [(320,At p29 p30 u_ p31 (Ap 961) r1.Ab u_ r100.1 r1.Al)]) (Kg (cb:=(r100.2==0)) (fun S=>∃p105:Int,∃p106:Int,∃p107:List Aa,S=⟨Fu [(6,iV (wi (p27+1))),(7,iV p28)],Fk a0 a1 [(320,At p105 p106 u_ p107 (Ap 961) r1.Ab u_ r100.1 r1.Al)],[]⟩∧Qm a1 r1 p27 p28 r100 p105 p106 p107=some o1) rfl ?_ (fun gV J111=>?_) (fun gV J111=>?_)))
     ·rintro _ ⟨p105,p106,p107,rfl,h1⟩
      refine Ay 6 (Fu [(6,iV (wi (p27+1))),(7,iV p28),(65,.bool (a1.stop==2))]) (Fk a0 a1 [(320,At p105 p106 u_ p107 (Ap 961) r1.Ab u_ r100.1 r1.Al)]) (Ct h1 (fun GK h1=>?_) (fun GK h1=>?_))
      ·refine Bj (An (st (c_ (v:=.agg (At p105 p106 u_ p107 (Ap 961) r1.Ab u_ r100.1 r1.Al)) (Bb ⟨tv,tv⟩ rfl (nl rfl)) (bb h1 fun r109 e110 h1=>st (Dj (r:=.agg (Bk r109 (Ap 0) (Ap 1) (Ap 2))) false (H133 (Aj.mk (Ak.mk p105 p106 p107) r1.Ab r100.1 r1.Al) r109 e110) ⟨tv,tv⟩ rfl rfl (fun _=>(ar (Bi rfl (af (af (af (Bi rfl rfl))))))) (o_ ?_))))))
       obtain rfl:=sj h1
       obtain rfl:=hx1 _ rfl
       obtain rfl:=sj h0
       exact rX 3 hR1 [4288,4290]
      ·refine Jf (Rd ?_)
       exact jn J92 ⟨_,_,_,_,_,rfl,h1⟩
     ·replace h1:=ip gV h1
      refine An (st (c_ (Bb ⟨tv,tv⟩ rfl tv) (st (c_ (v:=.agg (Bo p29 p30 u_ p31)) (Bb ⟨tv,tv⟩ rfl (nl rfl)) (st (Bw rfl tv (bb h1 fun r113 e114 h1=>st (Dj (r:=.tup [.agg (Bd r113.1),iV r113.2]) true (H76 (Ak.mk p29 p30 p31) y93.id r113 e114) ⟨tv,tv,tv⟩ rfl rfl (fun h=>nomatch h) (st (Bw rfl tv (st (c_ (Bb ⟨tv,tv⟩ rfl tv) (st (c_ (Bb ⟨tv,tv⟩ rfl tv) (st (c_ (Bb ⟨tv,tv⟩ rfl tv) (st (Gd rfl rfl tv rfl rfl rfl (nl rfl) (Hj ?_)))))))))))))))))))
      exact jn J111 ⟨_,_,_,rfl,h1⟩
     ·replace h1:=Wx gV h1
      refine Jf ?_
      exact jn J111 ⟨_,_,_,rfl,h1⟩
  ·obtain rfl:=sj h1
   obtain rfl:=hx1 _ rfl
   refine Jv rfl ?_
   exact jn hE1 ⟨_,_,_,_,_,rfl,rfl⟩

/- loop.example/g00149/spec.l09Step -/
def FE:=[X_ 2 0,X_ 3 1,a_ 4 (zV 259 260 261),a_ 5 [iV 0,iV 0]]
def FF:=[f_ 11 3 0,l_ 12 11 1,q_ 13 56 [.t 12,.c (iV 1),.c (iV 6)],N_ 14 13,m_ 10 14]
def FG:List Bt:=[L_ 15 2 6,⟨some 16,.p (.build [iV 0,iV 0] [(0,1,.c (iV 16))]),none⟩,s_ 4 15 6,s_ 5 16 2]
def FH:=[f_ 18 2 5,l_ 19 18 1,m_ 20 19,fT 20 21 3 0,lT 20 22 21 1 false,pT 20 23 (.bin .neq (.t 22) (.c (iV 6))),pa 24 20 23,m_ 17 24]
def FI:List Bt:=[L_ 25 2 6,⟨some 26,.p (.build [iV 0,iV 0] [(0,1,.c (iV 14))]),none⟩,s_ 4 25 6,s_ 5 26 2]
def FJ:=[f_ 27 2 0,L_ 28 27 3,a_ 6 (zT 387),s_ 6 28 3]
def FK:=[i_ 7 0]
def FL:=[L_ 29 2 6,q_ 30 102 [.t 29],a_ 8 (zV 515 516 517),s_ 8 30 6]
def FM:=[f_ 31 3 0,l_ 32 31 1]
def FN:=[B_ .eql 34 32 1,m_ 33 34]
def sL:=[L_ 35 2 6,L_ 36 3 7,q_ 37 132 [.t 35,.t 36],e_ 38 37 0,e_ 39 37 1,s_ 4 38 6,s_ 5 39 2]
def sM:=[B_ .eql 41 32 2,m_ 40 41]
def sN:=[f_ 43 2 0,L_ 44 43 3,f_ 45 3 1,l_ 46 45 1,f_ 47 3 2,l_ 48 47 1,q_ 49 79 [.t 44,.t 46,.t 48],m_ 42 49,e_ 50 42 0,e_ 51 42 1,s_ 6 50 3,m_ 7 51]
def sO:=[L_ 52 6 3,f_ 53 8 0,s_ 53 52 3]
def sP:=[B_ .eql 55 32 3,m_ 54 55]
def sQ:=[f_ 57 2 0,L_ 58 57 3,f_ 59 3 1,l_ 60 59 1,q_ 61 74 [.t 58,.t 60],m_ 56 61,e_ 62 56 0,e_ 63 56 1,s_ 6 62 3,m_ 7 63]
def sR:=[L_ 64 6 3,f_ 65 8 0,s_ 65 64 3]
def sS:=[B_ .eql 67 32 4,m_ 66 67]
def sT:=[f_ 69 2 0,L_ 70 69 3,f_ 71 3 4,l_ 72 71 1,q_ 73 81 [.t 70,.t 72],m_ 68 73,e_ 74 68 0,e_ 75 68 1,f_ 76 8 0,s_ 76 74 3]
def sU:=[f_ 77 3 6,l_ 78 77 1,B_ .eql 79 78 1]
def sV:List Bt:=[L_ 80 8 6,q_ 81 133 [.t 80],⟨some 82,.p (.build [iV 0,iV 0] [(0,1,.c (iV 15))]),none⟩,s_ 4 81 6,s_ 5 82 2]
def sW:=[L_ 83 8 6,a_ 9 (zV 579 580 581),s_ 9 83 6]
def sX:=[L_ 84 8 6,L_ 85 3 7,q_ 86 134 [.t 84,.t 85],s_ 8 86 6]
def sY:=[f_ 87 8 5,l_ 88 87 1,m_ 89 88,fT 89 90 9 5,lT 89 91 90 1 false,pT 89 92 (.un .not (.t 91)),pa 93 89 92]
def sZ:List Bt:=[L_ 94 8 6,⟨some 95,.p (.build [iV 0,iV 0] [(0,1,.c (iV 15))]),none⟩,s_ 4 94 6,s_ 5 95 2]
def tA:=[B_ .eql 97 32 5,m_ 96 97]
def tB:List Bt:=[f_ 98 8 5,⟨none,.store (.t 98) (.c (.bool true)) 1,none⟩]
def tC:=[B_ .eql 100 32 6,m_ 99 100]
def tD:List Bt:=[f_ 101 8 5,⟨none,.store (.t 101) (.c (.bool false)) 1,none⟩]
def tE:=[m_ 102 7,B_ .neq 103 102 0]
def tF:List Bt:=[L_ 104 2 6,m_ 105 7,⟨some 106,.p (.build [iV 0,iV 0] [(0,1,.t 105)]),none⟩,s_ 4 104 6,s_ 5 106 2]
def tG:=[L_ 107 8 6,iQ 108 (.build [iV 0,iV 0] []),s_ 4 107 6,s_ 5 108 2]
def c101:Dp:=⟨2,109,[.cell 4 6 true,.cell 5 2 true],sr FE (.seq (.block 0 (sr FF (.ite (.t 10) (rr FG) (sr FH (iz 17 (rr FI)))))) (sr FJ (sr FK (sr FL (.seq (sr FM (.block 1 (sr FN (.ite (.t 33) (rr sL) (sr sM (.ite (.t 40) (sr sN (.reg sO)) (sr sP (.ite (.t 54) (sr sQ (.reg sR)) (sr sS (.ite (.t 66) (sr sT (.seq (sr sU (iz 79 (rr sV))) (sr sW (sr sX (sr sY (iz 93 (rr sZ))))))) (sr tA (.ite (.t 96) (.reg tB) (sr tC (iz 99 (.reg tD))))))))))))))) (.seq (sr tE (iz 103 (rr tF))) (rr tG)))))))⟩
def K101 (D:Bh):Prop:=∀a0 a1 r,zY a0 a1=some r→D 101 ⟨[.agg (Be a0),.agg (Ar a1)],[]⟩ ⟨.tup [.agg (Be r.1),.agg (Bg r.2)],[],[]⟩
abbrev Gl:=fun x0 (r:List (Nat×List V))=>(128,Be x0)::(256,At 0 0 (Ap 259) [] (Ap 260) [] (Ap 261) [] false)::(320,[iV 0,iV 0])::r
abbrev Iq:=fun (r:List (Nat×V))=>(2,.ptr 128 0)::(4,.ptr 256 0)::(5,.ptr 320 0)::(8,.ptr 512 0)::r
abbrev fQ:=fun (r:List (Nat×V))=>(2,.ptr 128 0)::(3,.ptr 192 0)::(4,.ptr 256 0)::(5,.ptr 320 0)::r
theorem F101 (H56:K56 C) (H74:K74 C) (H79:K79 C) (H81:K81 C) (H102:kE C) (H132:K132 C) (H133:sA C) (H134:K134 C):K101 (FO C c101):=by
 intro a0 a1 r h0
 refine f0 (Ay 6 (fQ []) (Gl a0 [(192,Ar a1)]) (Bc 5 (An (bb h0 fun r1 e2 h0=>Vf (H56 a1.kind 1 6 r1 e2) (o_ (Ay 3 (fQ [(10,.bool (!r1))]) (Gl a0 [(192,Ar a1)]) (Ct h0 (fun c3 h0=>?_) (fun c3 h0=>?_))))))))
 ·refine Bc 2 (An (st (c_ (v:=.agg [iV 16,iV 0]) (Bb ⟨tv,tv⟩ rfl ⟨⟨rfl,rfl,nl rfl⟩,tv⟩) (o_ ?_))))
  obtain rfl:=sj h0
  exact Dd 4
 ·refine AU 10 (fQ [(17,.bool (bif a0.Al then (a1.kind != 6) else false))]) (Gl a0 [(192,Ar a1)]) (Ct h0 (fun c4 h0=>?_) (fun c4 h0=>?_))
  ·refine Bc 2 (An (st (c_ (v:=.agg [iV 14,iV 0]) (Bb ⟨tv,tv⟩ rfl ⟨⟨rfl,rfl,nl rfl⟩,tv⟩) (o_ ?_))))
   obtain rfl:=sj h0
   exact Dd 4
  ·refine Ay 13 (fQ [(6,.ptr 384 0),(7,iV 0)]) (Gl a0 [(192,Ar a1),(384,Bd a0.Ad)]) (Bc 2 (An (bb h0 fun r5 e6 h0=>Sy (H102 a0 r5 e6) (ar (Bi rfl (af (af (af (Bi rfl rfl)))))) (o_ (Ay 9 (Iq [(3,.ptr 192 0),(6,.ptr 384 0),(7,iV 0),(32,iV a1.kind)]) (Gl a0 [(192,Ar a1),(384,Bd a0.Ad),(512,Bk r5 (Ap 1920) (Ap 1921) (Ap 1922))]) (Hs (fun S=>∃p27:Int,∃p28:Int,∃p29:Int,∃p30:List Aa,∃p31:List Ah,∃p32:List Int,∃p33:Bool,S=⟨Iq [(7,iV p27)],Gl a0 [(512,At p28 p29 u_ p30 (Ap 1921) p31 u_ p32 p33)],[]⟩∧Hr a0 p27 p28 p29 p30 p31 p32 p33=some r) ?_ (fun J35=>?_)))))))
   ·rintro _ ⟨p27,p28,p29,p30,p31,p32,p33,rfl,h0⟩
    refine Ay 6 (Iq [(7,iV p27),(103,.bool (p27 != 0))]) (Gl a0 [(512,At p28 p29 u_ p30 (Ap 1921) p31 u_ p32 p33)]) (Ct h0 (fun c34 h0=>?_) (fun c34 h0=>?_))
    ·refine Bc 3 (An (st (c_ (v:=.agg [iV p27,iV 0]) (Bb ⟨tv,tv⟩ rfl ⟨⟨rfl,rfl,nl rfl⟩,tv⟩) (o_ ?_))))
     obtain rfl:=sj h0
     exact Dd 4
    ·obtain rfl:=sj h0
     exact Dd 9 [1921]
   ·refine Bj ?_
    refine Ay 3 (Iq [(3,.ptr 192 0),(6,.ptr 384 0),(7,iV 0),(32,iV a1.kind),(33,.bool (a1.kind==1))]) (Gl a0 [(192,Ar a1),(384,Bd a0.Ad),(512,Bk r5 (Ap 1920) (Ap 1921) (Ap 1922))]) (Ct h0 (fun c36 h0=>?_) (fun c36 h0=>?_))
    ·refine Bc 3 (An (bb h0 fun r37 e38 h0=>st (Dj (r:=.tup [.agg (Be r37.1),.agg (Bg r37.2)]) true (H132 a0 a1 r37 e38) ⟨tv,tv,tv⟩ rfl rfl (fun h=>nomatch h) (o_ ?_))))
     obtain rfl:=sj h0
     exact Dd 6
    ·refine Ay 4 (Iq [(3,.ptr 192 0),(6,.ptr 384 0),(7,iV 0),(32,iV a1.kind),(40,.bool (a1.kind==2))]) (Gl a0 [(192,Ar a1),(384,Bd a0.Ad),(512,Bk r5 (Ap 1920) (Ap 1921) (Ap 1922))]) (Ct h0 (fun c39 h0=>?_) (fun c39 h0=>?_))
     ·refine Bc 7 (An (bb h0 fun r40 e41 h0=>st (Dj (r:=.tup [.agg (Bd r40.1),iV r40.2]) true (H79 a0.Ad a1.id a1.ttl r40 e41) ⟨tv,tv,tv,tv⟩ rfl rfl (fun h=>nomatch h) (o_ (Ay 6 (Iq [(6,.ptr 384 0),(7,iV r40.2)]) (Gl a0 [(384,Bd r40.1),(512,Bk r5 (Ap 1920) (Ap 1921) (Ap 1922))]) (Bc 5 ?_))))))
      exact J35 _ _ (kS [1922] (by kernel_rfl)) ⟨_,_,_,_,_,_,_,rfl,h0⟩
     ·refine Ay 4 (Iq [(3,.ptr 192 0),(6,.ptr 384 0),(7,iV 0),(32,iV a1.kind),(54,.bool (a1.kind==3))]) (Gl a0 [(192,Ar a1),(384,Bd a0.Ad),(512,Bk r5 (Ap 1920) (Ap 1921) (Ap 1922))]) (Ct h0 (fun c42 h0=>?_) (fun c42 h0=>?_))
      ·refine Bc 5 (An (bb h0 fun r43 e44 h0=>st (Dj (r:=.tup [.agg (Bd r43.1),iV r43.2]) true (H74 a0.Ad a1.id r43 e44) ⟨tv,tv,tv⟩ rfl rfl (fun h=>nomatch h) (o_ (Ay 6 (Iq [(6,.ptr 384 0),(7,iV r43.2)]) (Gl a0 [(384,Bd r43.1),(512,Bk r5 (Ap 1920) (Ap 1921) (Ap 1922))]) (Bc 5 ?_))))))
       exact J35 _ _ (kS [1922] (by kernel_rfl)) ⟨_,_,_,_,_,_,_,rfl,h0⟩
      ·refine Ay 4 (Iq [(3,.ptr 192 0),(7,iV 0),(32,iV a1.kind),(66,.bool (a1.kind==4))]) (Gl a0 [(192,Ar a1),(512,Bk r5 (Ap 1920) (Ap 1921) (Ap 1922))]) (Ct h0 (fun c45 h0=>?_) (fun c45 h0=>?_))
       ·refine Bc 5 (An (bb h0 fun r46 e47 h0=>Sy (H81 a0.Ad a1.clock r46 e47) (ar (Bi rfl (af (af rfl)))) (o_ (Ay 13 (Iq [(3,.ptr 192 0),(7,iV 0),(79,.bool (a1.stop==1))]) (Gl a0 [(192,Ar a1),(512,At r46.1.clock r46.1.next (Ap 4672) r46.1.Ae (Ap 1921) r5.Ab (Ap 1922) r5.Ai r5.Al)]) (Ct h0 (fun c48 h0=>?_) (fun c48 h0=>?_))))))
        ·refine Bc 2 (An (bb h0 fun r49 e50 h0=>Sy (H133 (Aj.mk r46.1 r5.Ab r5.Ai r5.Al) r49 e50) (ar (Bi rfl (af (af (af (Bi rfl rfl)))))) (st (c_ (v:=.agg [iV 15,iV 0]) (Bb ⟨tv,tv⟩ rfl ⟨⟨rfl,rfl,nl rfl⟩,tv⟩) (o_ ?_)))))
         obtain rfl:=sj h0
         exact Dd 4 [5184,5185,5186]
        ·refine Ay 7 (Iq [(3,.ptr 192 0),(7,iV 0),(9,.ptr 576 0)]) (Gl a0 [(192,Ar a1),(512,At r46.1.clock r46.1.next (Ap 4672) r46.1.Ae (Ap 1921) r5.Ab (Ap 1922) r5.Ai r5.Al),(576,At r46.1.clock r46.1.next (Ap 4672) r46.1.Ae (Ap 1921) r5.Ab (Ap 1922) r5.Ai r5.Al)]) (Bc 3 (An (bb h0 fun r51 e52 h0=>st (Dj (r:=.agg (Bk r51 u_ (Ap 0) u_)) true (H134 (Aj.mk r46.1 r5.Ab r5.Ai r5.Al) a1 r51 e52) ⟨tv,tv,tv⟩ rfl rfl (fun h=>nomatch h) (o_ (AU 12 (Iq [(7,iV 0),(93,.bool (bif r51.Al then (!r5.Al) else false))]) (Gl a0 [(512,Bk r51 u_ (Ap 5504) u_)]) (Ct h0 (fun c53 h0=>?_) (fun c53 h0=>?_))))))))
         ·refine Bc 2 (An (st (c_ (v:=.agg [iV 15,iV 0]) (Bb ⟨tv,tv⟩ rfl ⟨⟨rfl,rfl,nl rfl⟩,tv⟩) (o_ ?_))))
          obtain rfl:=sj h0
          exact Dd 4 [5504]
         ·refine Jf (Rd ?_)
          exact J35 _ _ (Vh [] [(5504,1921)] rfl (by kernel_rfl)) ⟨_,_,_,_,_,_,_,rfl,h0⟩
       ·refine Ay 4 (Iq [(7,iV 0),(32,iV a1.kind),(96,.bool (a1.kind==5))]) (Gl a0 [(512,Bk r5 (Ap 1920) (Ap 1921) (Ap 1922))]) (Ct h0 (fun c54 h0=>?_) (fun c54 h0=>?_))
        ·refine Bc 4 ?_
         exact J35 _ _ (kS [1920,1922] (by kernel_rfl)) ⟨_,_,_,_,_,_,_,rfl,h0⟩
        ·refine Ay 4 (Iq [(7,iV 0),(99,.bool (a1.kind==6))]) (Gl a0 [(512,Bk r5 (Ap 1920) (Ap 1921) (Ap 1922))]) (Ct h0 (fun c55 h0=>?_) (fun c55 h0=>?_))
         ·refine Bc 4 ?_
          exact J35 _ _ (kS [1920,1922] (by kernel_rfl)) ⟨_,_,_,_,_,_,_,rfl,h0⟩
         ·refine Jf (Rd ?_)
          exact J35 _ _ (kS [1920,1922] (by kernel_rfl)) ⟨_,_,_,_,_,_,_,rfl,h0⟩

/- loop.example/g00149/spec.RunVault -/
def c50_r0:List Bt:=[a_ 2 (zV 131 132 133),⟨some 3,.nilS 2,none⟩,i_ 4 0]
def c50_r1:=[m_ 10 0,n_ 11 10,B_ .gtr 12 11 4096]
def c50_r2:List Bt:=[iQ 13 (.build (zV 835 836 837) []),⟨some 14,.mkS 2 [iV 0,iV 0] 0 [],none⟩,s_ 2 13 6,m_ 3 14,i_ 4 2]
def c50_r3:=[m_ 15 0,n_ 16 15,B_ .gtr 17 16 120]
def c50_r4:List Bt:=[iQ 18 (.build (zV 1155 1156 1157) []),⟨some 19,.mkS 2 [iV 0,iV 0] 0 [],none⟩,s_ 2 18 6,m_ 3 19,i_ 4 6]
def c50_r5:List Bt:=[⟨some 20,.p (.build (zT 1283) [(1,1,.c (iV 1))]),none⟩,⟨some 21,.p (.build (zV 1347 1348 1349) [(0,3,.t 20)]),none⟩,a_ 5 (zV 323 324 325),s_ 5 21 6]
def c50_r6:List Bt:=[⟨some 22,.mkS 2 [iV 0,iV 0] 0 [],none⟩,m_ 6 22]
def c50_r7:=[i_ 7 0]
def c50_r8:=[m_ 23 7,m_ 24 0,n_ 25 24,b_ .lss 26 23 25]
def c50_r9:=[m_ 29 0,m_ 30 7,x_ 31 29 30 7,L_ 32 31 7,q_ 33 100 [.t 32],N_ 34 33]
def ZX:List Bt:=[iQ 35 (.build (zV 2243 2244 2245) []),⟨some 36,.mkS 2 [iV 0,iV 0] 0 [],none⟩,s_ 2 35 6,m_ 3 36,i_ 4 1]
def Yz:DP:=.alt [e_ 45 37 1] (s_ 8 44 6) (.alt [] (s_ 9 45 2) .fin .stop) .stop
def gX:DP:=.alt [] (q_ 43 101 [.t 38,.t 42]) (tk [m_ 37 43,e_ 44 37 0,e_ 45 37 1] Yz) .stop
def gY:DP:=.alt [e_ 45 37 1,e_ 44 37 0,m_ 37 43] (a_ 9 [iV 0,iV 0]) Yz .stop
def gZ:DP:=.alt [e_ 45 37 1,e_ 44 37 0,m_ 37 43] (a_ 8 (zV 515 516 517)) Yz .stop
def ZY:=tk [L_ 38 5 6,m_ 39 0,m_ 40 7,x_ 41 39 40 7,L_ 42 41 7] (.alt [] (q_ 43 101 [.t 38,.t 42]) (tk [m_ 37 43,e_ 44 37 0,e_ 45 37 1] (.alt [e_ 45 37 1,e_ 44 37 0,m_ 37 43] (a_ 8 (zV 515 516 517)) gY (.alt [e_ 45 37 1,e_ 44 37 0,m_ 37 43] (a_ 9 [iV 0,iV 0]) gZ .stop))) (.alt [L_ 42 41 7,x_ 41 39 40 7,m_ 40 7,m_ 39 0,L_ 38 5 6] (a_ 8 (zV 515 516 517)) (.alt [] (q_ 43 101 [.t 38,.t 42]) (tk [m_ 37 43,e_ 44 37 0,e_ 45 37 1] gY) (.alt [L_ 42 41 7,x_ 41 39 40 7,m_ 40 7,m_ 39 0,L_ 38 5 6] (a_ 9 [iV 0,iV 0]) gX .stop)) (.alt [L_ 42 41 7,x_ 41 39 40 7,m_ 40 7,m_ 39 0,L_ 38 5 6] (a_ 9 [iV 0,iV 0]) (.alt [] (q_ 43 101 [.t 38,.t 42]) (tk [m_ 37 43,e_ 44 37 0,e_ 45 37 1] gZ) (.alt [L_ 42 41 7,x_ 41 39 40 7,m_ 40 7,m_ 39 0,L_ 38 5 6] (a_ 8 (zV 515 516 517)) gX .stop)) .stop)))
def ZZ:=[L_ 46 8 6,s_ 5 46 6]
def Aaa:List Bt:=[m_ 47 6,L_ 48 9 2,⟨some 49,.mkS 2 [iV 0,iV 0] 1 [(0,.t 48)],none⟩,⟨some 50,.app 2 16 (.t 47) (.t 49),none⟩,m_ 6 50]
def Aab:=[m_ 27 7,B_ .add 28 27 1,m_ 7 28]
def c50_l0:IR:=(.seq (sr c50_r8 (.ite (.t 26) .skip (.exit 0))) (.seq (.block 1 (.seq (sr c50_r9 (iz 34 (rr ZX))) (sd ZY (sr ZZ (.reg Aaa))))) (.reg Aab)))
def Aac:=[L_ 51 5 6,q_ 52 102 [.t 51],m_ 53 6,s_ 2 52 6,m_ 3 53,i_ 4 0]
def c50:Dp:=⟨1,54,[.cell 2 6 true,.t 3,.t 4],sr c50_r0 (.seq (sr c50_r1 (iz 12 (rr c50_r2))) (.seq (sr c50_r3 (iz 17 (rr c50_r4))) (sr c50_r5 (sr c50_r6 (.seq (sr c50_r7 (Ju 0 c50_l0)) (rr Aac))))))⟩
def K50 (D:Bh):Prop:=∀a0 r,g50 a0=some r→D 50 ⟨[Dv a0],[]⟩ ⟨.tup [.agg (Bk r.1 (Ap 0) (Ap 1) (Ap 2)),Cw 3 r.2.1,iV r.2.2],[],[]⟩
abbrev Oc:=fun (r:List (Nat×List V))=>(128,At 0 0 (Ap 131) [] (Ap 132) [] (Ap 133) [] false)::r
abbrev Wm:=fun x0 (r:List (Nat×V))=>(0,Dv x0)::(2,.ptr 128 0)::(5,.ptr 320 0)::r
theorem F50 (H100:K100 C) (H101:K101 C) (H102:kE C):K50 (FO C c50):=by
 intro a0 r h0
 refine f0 (Ay 5 [(0,Dv a0),(2,.ptr 128 0)] (Oc []) (Bj (Bj (An (st (Bw rfl tv (Sn rfl (o_ (Ay 2 [(0,Dv a0),(2,.ptr 128 0),(12,.bool (decide ((a0.length:Int)>4096)))] (Oc []) (Ct h0 (fun c1 h0=>?_) (fun c1 h0=>?_)))))))))))
 ·obtain rfl:=sj h0
  exact Dd 8
 ·refine Jf (bM (Bj (Bj (An (st (Bw rfl tv (Sn rfl (o_ (Ay 2 [(0,Dv a0),(2,.ptr 128 0),(17,.bool (decide ((a0.length:Int)>120)))] (Oc []) (Ct h0 (fun c2 h0=>?_) (fun c2 h0=>?_)))))))))))
  ·obtain rfl:=sj h0
   exact Dd 8
  ·refine Mx 3 (An (st (c_ (v:=.agg (Bo 0 1 (Ap 1283) [])) (Bb ⟨tv,tv⟩ rfl ⟨⟨rfl,rfl,nl rfl⟩,tv⟩) (st (c_ (v:=.agg (At 0 1 (Ap 1283) [] (Ap 1348) [] (Ap 1349) [] false)) (Bb ⟨tv,tv⟩ rfl ⟨⟨rfl,rfl,nl rfl⟩,tv⟩) (o_ (Ay 13 (Wm a0 [(6,Cw 1408 []),(7,iV 0)]) (Oc [(320,At 0 1 (Ap 1283) [] (Ap 1348) [] (Ap 1349) [] false)]) (Cg (bb h0 fun r62 e63 h0=>Cz (R:=(fun S=>∃p43:List Ao,∃p44:Int,∃p45:Int,∃p46:List Aa,∃p47:List Ah,∃p48:List Int,∃p49:Bool,.inl (p43,p44,p45,p46,p47,p48,p49)=r62∧S=⟨[(2,.ptr 128 0),(5,.ptr 320 0),(6,Cw 1408 p43)],Oc [(320,At p44 p45 u_ p46 u_ p47 u_ p48 p49)],[]⟩)) (eY a0) (fun s S=>match s with | (p15,p16,p17,p18,p19,p20,p21,p22)=>S=⟨Wm a0 [(6,Cw 1408 p15),(7,iV p16)],Oc [(320,At p17 p18 u_ p19 u_ p20 u_ p21 p22)],[]⟩) e63 ⟨Wm a0 [(6,Cw 1408 []),(7,iV 0)],Oc [(320,At 0 1 u_ [] u_ [] u_ [] false)],[]⟩ (kS [1283,1348,1349] (by kernel_rfl)) rfl 0 (fun _=>rfl) ?_ ?_)))))))))
   ·rintro S _ hfg ⟨p43,p44,p45,p46,p47,p48,p49,rfl,rfl⟩
    refine Dn _ hfg (Bj (An (st (c_ (v:=.agg (At p44 p45 u_ p46 u_ p47 u_ p48 p49)) (Bb ⟨tv,tv⟩ rfl (nl rfl)) (bb h0 fun r64 e65 h0=>st (Dj (r:=.agg (Bk r64 (Ap 0) (Ap 1) (Ap 2))) false (H102 (Aj.mk (Ak.mk p44 p45 p46) p47 p48 p49) r64 e65) ⟨tv,tv⟩ rfl rfl (fun _=>(ar (Bi rfl (af (af (af (Bi rfl rfl))))))) (o_ ?_)))))))
    obtain rfl:=sj h0
    exact Dd 6
   ·rintro ⟨p15,p16,p17,p18,p19,p20,p21,p22⟩ o1 _ K1 rfl h1 hx1 hK1 hE1 hR1
    refine Bj (Bj (An (st (Bw rfl tv (st (Bw rfl tv (Sn rfl (o_ (Ay 2 (Wm a0 [(6,Cw 1408 p15),(7,iV p16),(26,.bool (decide (p16<(a0.length:Int))))]) (Oc [(320,At p17 p18 u_ p19 u_ p20 u_ p21 p22)]) (Ct h1 (fun c50 h1=>?_) (fun c50 h1=>?_)))))))))))
    ·refine Jf (bM (Bj (Cg (Bj (Bj (An (st (Bw rfl tv (st (Bw rfl tv (bb h1 fun y51 e52 h1=>Vv rfl rfl e52 (st (c_ (v:=.agg (Ar y51)) (Bb ⟨tv,tv⟩ rfl (nl rfl)) (bb h1 fun r53 e54 h1=>st (Dj (r:=.bool r53) false (H100 y51 r53 e54) ⟨tv,tv⟩ rfl rfl (fun _=>rfl) (o_ (Ay 2 (Wm a0 [(6,Cw 1408 p15),(7,iV p16),(34,.bool (!r53))]) (Oc [(320,At p17 p18 u_ p19 u_ p20 u_ p21 p22)]) (Ct h1 (fun c55 h1=>?_) (fun c55 h1=>?_)))))))))))))))))))
     ·obtain rfl:=sj h1
      obtain rfl:=hx1 _ rfl
      obtain rfl:=sj h0
      exact rX 8 hR1
     ·refine Mx 3 (bb h1 fun y56 e57 h1=>bb h1 fun r58 e59 h1=>drawJ (fun S=>S=⟨Wm a0 [(6,Cw 1408 p15),(7,iV p16),(8,.ptr 512 0),(9,.ptr 576 0)],Oc [(320,At p17 p18 u_ p19 u_ p20 u_ p21 p22),(512,Be r58.1),(576,Bg r58.2)],[]⟩) ?_ (fun J60=>?_))
      ·rintro _ rfl
       refine Ay 4 (Wm a0 [(6,Cw 1408 p15),(7,iV p16),(9,.ptr 576 0)]) (Oc [(320,Be r58.1),(576,Bg r58.2)]) (An (st (Bw rfl tv (st (c_ (v:=.agg (Bg r58.2)) (Bb ⟨tv,tv⟩ rfl (nl rfl)) (st (Wy ⟨tv,tv⟩ ⟨⟨nl rfl,rfl,rfl⟩,tv⟩ (gg h1 fun c61 h1=>st (Ja (e:=Bg) (l0:=p15) (l1:=([r58.2]:List Ao)) rfl rfl tv rfl (by decide) c61 (o_ (Ay 3 (Wm a0 [(6,Cw 1408 (p15++([r58.2]:List Ao))),(7,iV p16)]) (Oc [(320,Be r58.1)]) (An (st (Bw rfl tv (st (c_ (Bb t3 rfl tv) (st (Bw rfl tv (Hj ?_)))))))))))))))))))
       obtain rfl:=sj h1
       exact kn hK1 rfl rfl
      ·refine Ag tv (c_ (v:=.agg (At p17 p18 u_ p19 u_ p20 u_ p21 p22)) (Bb ⟨tv,tv⟩ rfl (nl rfl)) ?_)
       refine ⟨tv,Ag tv (Bw rfl tv (⟨tv,Ag tv (Bw rfl tv (⟨tv,d_ (xv_ rfl rfl rfl e57 (Bl (Ag tv (c_ (v:=.agg (Ar y56)) (Bb ⟨tv,tv⟩ rfl (nl rfl)) (⟨tv,Bu (Dj (r:=.tup [.agg (Be r58.1),.agg (Bg r58.2)]) true (H101 (Aj.mk (Ak.mk p17 p18 p19) p20 p21 p22) y56 r58 e59) ⟨tv,tv,tv⟩ rfl rfl (fun h=>nomatch h) ?_) ?_⟩)))))⟩))⟩))⟩
       ·refine dw [(0,Dv a0),(2,.ptr 128 0),(5,.ptr 320 0),(6,Cw 1408 p15),(7,iV p16),(43,.tup [.agg (Be r58.1),.agg (Bg r58.2)])] [(128,At 0 0 (Ap 131) [] (Ap 132) [] (Ap 133) [] false),(320,At p17 p18 u_ p19 u_ p20 u_ p21 p22)] tv ?_
        refine Ag tv (Bw rfl tv (⟨tv,Ag tv (c_ (Bb ⟨tv,tv⟩ rfl tv) (⟨tv,Ag tv (c_ (Bb ⟨tv,tv⟩ rfl tv) (⟨tv,Bu (Iz ?_) ?_⟩))⟩))⟩))
        ·refine d0 hB ?_
         refine Bu (Iz (d0 hB (Bu (Gd rfl rfl tv rfl rfl rfl (nl rfl) (d0 hB (Bu (Gd rfl rfl tv rfl rfl rfl (nl rfl) (d0 tv (Gf ?_))) Au))) Au))) Au
         exact jn J60 rfl
        ·refine Bu (Iz ?_) Au
         refine d0 hB (Bu (Iz (d0 hB (Bu (Gd rfl rfl tv rfl rfl rfl (nl rfl) (d0 hB (Bu (Gd rfl rfl tv rfl rfl rfl (nl rfl) (d0 tv (Gf ?_))) Au))) Au))) Au)
         exact jn J60 rfl
       ·refine Bu (Iz ?_) ?_
        ·refine d0 ⟨⟨.inl tv,Ba (Bb ⟨tv,tv⟩ rfl (nl rfl)) rfl⟩,⟨.inl tv,Ba (cj_ rfl rfl e57) rfl⟩,⟨.inl tv,Ba (Dt (v:=iV p16) rfl tv) rfl⟩,⟨.inl tv,Ba (Dt (v:=Dv a0) rfl tv) rfl⟩,⟨.inl tv,Ba (Bb ⟨tv,tv⟩ rfl (nl rfl)) rfl⟩,tv⟩ ?_
         refine Bu (Dj (r:=.tup [.agg (Be r58.1),.agg (Bg r58.2)]) true (H101 (Aj.mk (Ak.mk p17 p18 p19) p20 p21 p22) y56 r58 e59) ⟨tv,tv,tv⟩ rfl rfl (fun h=>nomatch h) ?_) ?_
         ·refine dw [(0,Dv a0),(2,.ptr 128 0),(5,.ptr 320 0),(6,Cw 1408 p15),(7,iV p16),(8,.ptr 512 0),(43,.tup [.agg (Be r58.1),.agg (Bg r58.2)])] [(128,At 0 0 (Ap 131) [] (Ap 132) [] (Ap 133) [] false),(320,At p17 p18 u_ p19 u_ p20 u_ p21 p22),(512,At 0 0 (Ap 515) [] (Ap 516) [] (Ap 517) [] false)] tv ?_
          refine Ag tv (Bw rfl tv (⟨tv,Ag tv (c_ (Bb ⟨tv,tv⟩ rfl tv) (⟨tv,Ag tv (c_ (Bb ⟨tv,tv⟩ rfl tv) (⟨tv,Bu (Iz (d0 hB (Bu (Gd rfl rfl tv rfl rfl rfl (nl rfl) (d0 hB (Bu (Gd rfl rfl tv rfl rfl rfl (nl rfl) (d0 tv (Gf ?_))) Au))) Au))) Au⟩))⟩))⟩))
          exact jn J60 rfl
         ·refine Bu (Iz ?_) Au
          refine d0 ⟨⟨.inl tv,Ba (Bb ⟨tv,tv⟩ rfl (nl rfl)) rfl⟩,⟨.inl tv,Ba (cj_ rfl rfl e57) rfl⟩,⟨.inl tv,Ba (Dt (v:=iV p16) rfl tv) rfl⟩,⟨.inl tv,Ba (Dt (v:=Dv a0) rfl tv) rfl⟩,⟨.inl tv,Ba (Bb ⟨tv,tv⟩ rfl (nl rfl)) rfl⟩,tv⟩ (Bu (Dj (r:=.tup [.agg (Be r58.1),.agg (Bg r58.2)]) true (H101 (Aj.mk (Ak.mk p17 p18 p19) p20 p21 p22) y56 r58 e59) ⟨tv,tv,tv⟩ rfl rfl (fun h=>nomatch h) (dw [(0,Dv a0),(2,.ptr 128 0),(5,.ptr 320 0),(6,Cw 1408 p15),(7,iV p16),(8,.ptr 512 0),(9,.ptr 576 0),(43,.tup [.agg (Be r58.1),.agg (Bg r58.2)])] [(128,At 0 0 (Ap 131) [] (Ap 132) [] (Ap 133) [] false),(320,At p17 p18 u_ p19 u_ p20 u_ p21 p22),(512,At 0 0 (Ap 515) [] (Ap 516) [] (Ap 517) [] false),(576,[iV 0,iV 0])] tv (Ag tv (Bw rfl tv (⟨tv,Ag tv (c_ (Bb ⟨tv,tv⟩ rfl tv) (⟨tv,Ag tv (c_ (Bb ⟨tv,tv⟩ rfl tv) (⟨tv,Bu (Gd rfl rfl tv rfl rfl rfl (nl rfl) (d0 hB (Bu (Gd rfl rfl tv rfl rfl rfl (nl rfl) (d0 tv (Gf ?_))) Au))) Au⟩))⟩))⟩))))) Au)
          exact jn J60 rfl
        ·refine Bu (Iz ?_) Au
         refine d0 ⟨⟨.inl tv,Ba (Bb ⟨tv,tv⟩ rfl (nl rfl)) rfl⟩,⟨.inl tv,Ba (cj_ rfl rfl e57) rfl⟩,⟨.inl tv,Ba (Dt (v:=iV p16) rfl tv) rfl⟩,⟨.inl tv,Ba (Dt (v:=Dv a0) rfl tv) rfl⟩,⟨.inl tv,Ba (Bb ⟨tv,tv⟩ rfl (nl rfl)) rfl⟩,tv⟩ (Bu (Dj (r:=.tup [.agg (Be r58.1),.agg (Bg r58.2)]) true (H101 (Aj.mk (Ak.mk p17 p18 p19) p20 p21 p22) y56 r58 e59) ⟨tv,tv,tv⟩ rfl rfl (fun h=>nomatch h) ?_) ?_)
         ·refine dw [(0,Dv a0),(2,.ptr 128 0),(5,.ptr 320 0),(6,Cw 1408 p15),(7,iV p16),(9,.ptr 576 0),(43,.tup [.agg (Be r58.1),.agg (Bg r58.2)])] [(128,At 0 0 (Ap 131) [] (Ap 132) [] (Ap 133) [] false),(320,At p17 p18 u_ p19 u_ p20 u_ p21 p22),(576,[iV 0,iV 0])] tv ?_
          refine Ag tv (Bw rfl tv (⟨tv,Ag tv (c_ (Bb ⟨tv,tv⟩ rfl tv) (⟨tv,Ag tv (c_ (Bb ⟨tv,tv⟩ rfl tv) (⟨tv,Bu (Iz (d0 hB (Bu (Gd rfl rfl tv rfl rfl rfl (nl rfl) (d0 hB (Bu (Gd rfl rfl tv rfl rfl rfl (nl rfl) (d0 tv (Gf ?_))) Au))) Au))) Au⟩))⟩))⟩))
          exact jn J60 rfl
         ·refine Bu (Iz ?_) Au
          refine d0 ⟨⟨.inl tv,Ba (Bb ⟨tv,tv⟩ rfl (nl rfl)) rfl⟩,⟨.inl tv,Ba (cj_ rfl rfl e57) rfl⟩,⟨.inl tv,Ba (Dt (v:=iV p16) rfl tv) rfl⟩,⟨.inl tv,Ba (Dt (v:=Dv a0) rfl tv) rfl⟩,⟨.inl tv,Ba (Bb ⟨tv,tv⟩ rfl (nl rfl)) rfl⟩,tv⟩ (Bu (Dj (r:=.tup [.agg (Be r58.1),.agg (Bg r58.2)]) true (H101 (Aj.mk (Ak.mk p17 p18 p19) p20 p21 p22) y56 r58 e59) ⟨tv,tv,tv⟩ rfl rfl (fun h=>nomatch h) (dw [(0,Dv a0),(2,.ptr 128 0),(5,.ptr 320 0),(6,Cw 1408 p15),(7,iV p16),(8,.ptr 512 0),(9,.ptr 576 0),(43,.tup [.agg (Be r58.1),.agg (Bg r58.2)])] [(128,At 0 0 (Ap 131) [] (Ap 132) [] (Ap 133) [] false),(320,At p17 p18 u_ p19 u_ p20 u_ p21 p22),(512,At 0 0 (Ap 515) [] (Ap 516) [] (Ap 517) [] false),(576,[iV 0,iV 0])] tv (Ag tv (Bw rfl tv (⟨tv,Ag tv (c_ (Bb ⟨tv,tv⟩ rfl tv) (⟨tv,Ag tv (c_ (Bb ⟨tv,tv⟩ rfl tv) (⟨tv,Bu (Gd rfl rfl tv rfl rfl rfl (nl rfl) (d0 hB (Bu (Gd rfl rfl tv rfl rfl rfl (nl rfl) (d0 tv (Gf ?_))) Au))) Au⟩))⟩))⟩))))) Au)
          exact jn J60 rfl
    ·obtain rfl:=sj h1
     obtain rfl:=hx1 _ rfl
     refine Jv rfl ?_
     exact jn hE1 ⟨_,_,_,_,_,_,_,rfl,rfl⟩

/- loop.example/g00149/spec.l00Source -/
def c83_r0:=[iQ 2 (.mv (.c .undef))]
def c83_r1:List Bt:=[m_ 3 0,m_ 4 0,n_ 5 4,B_ .rem 6 5 1000,⟨some 7,.p (.build [.own 449 0 1 [],iV 0,iV 0] [(0,1,.t 3),(2,1,.t 6)]),none⟩,X_ 8 7,m_ 2 8]
def c83:Dp:=⟨1,9,[.t 2],sr c83_r0 (rr c83_r1)⟩
def K83 (D:Bh):Prop:=∀a0 r,g83 a0=some r→D 83 ⟨[lU8 a0],[]⟩ ⟨.ptr 0 0,[Bp r],[]⟩
theorem F83:K83 (FO C c83):=by
 intro a0 r h0
 refine f0 (Ay 3 [(0,lU8 a0)] [] (Bc 3 (An (Sn rfl (st (c_ (Bb ⟨tv,tv,tv⟩ rfl (by decide)) (st (c_ (v:=.agg (Eu u_ a0 0 (((a0.length:Int)).tmod 1000))) (Bb ⟨tv,tv,tv⟩ rfl ⟨⟨rfl,rfl,nl rfl⟩,⟨rfl,rfl,nl rfl⟩,tv⟩) (o_ ?_)))))))))
 obtain rfl:=sj h0
 exact Dd 4

/- (*loop.example/g00149/spec.l00Src).byte -/
def OB:=[i_ 2 0]
def OC:=[m_ 3 0,iQ 4 (.nilc (.t 3)),f_ 5 4 1,l_ 6 5 1,B_ .add 7 6 1,iQ 8 (.nilc (.t 3)),f_ 9 8 1,s_ 9 7 1]
def OD:=tk [m_ 10 0,iQ 11 (.nilc (.t 10)),f_ 12 11 1,l_ 13 12 1,m_ 14 0,iQ 15 (.nilc (.t 14)),f_ 16 15 0,l_ 17 16 1,n_ 18 17,b_ .leq 19 13 18] .fin
def OE:=tk [m_ 20 0,m_ 21 0,iQ 22 (.nilc (.t 21)),f_ 23 22 2,l_ 24 23 1,B_ .mul 25 24 31,m_ 26 0,iQ 27 (.nilc (.t 26)),f_ 28 27 0,l_ 29 28 1,m_ 30 0,iQ 31 (.nilc (.t 30)),f_ 32 31 1,l_ 33 32 1,B_ .sub 34 33 1,x_ 35 29 34 1,l_ 36 35 1,iQ 37 (.conv .i64 (.t 36)),b_ .add 38 25 37,B_ .add 39 38 7,B_ .rem 40 39 2147483648,iQ 41 (.nilc (.t 20)),f_ 42 41 2] (.alt [] (s_ 42 40 1) .fin .stop)
def OF:=tk [m_ 43 0,iQ 44 (.nilc (.t 43)),f_ 45 44 0,l_ 46 45 1,m_ 47 0,iQ 48 (.nilc (.t 47)),f_ 49 48 1,l_ 50 49 1,B_ .sub 51 50 1,x_ 52 46 51 1,l_ 53 52 1,iQ 54 (.conv .i64 (.t 53)),m_ 2 54] .fin
def OG:=[m_ 55 0,iQ 56 (.nilc (.t 55)),f_ 57 56 1,l_ 58 57 1,B_ .gtr 59 58 3000]
def OH:=[i_ 2 0]
def OI:=[m_ 60 0,m_ 61 0,iQ 62 (.nilc (.t 61)),f_ 63 62 2,l_ 64 63 1,B_ .mul 65 64 1103515245,B_ .add 66 65 12345,B_ .rem 67 66 2147483648,iQ 68 (.nilc (.t 60)),f_ 69 68 2,s_ 69 67 1]
def OJ:=[m_ 70 0,iQ 71 (.nilc (.t 70)),f_ 72 71 2,l_ 73 72 1,B_ .quo 74 73 65536,B_ .rem 75 74 256,m_ 2 75]
def OA:Dp:=⟨1,76,[.t 2],sr OB (sr OC (.seq (sd OD (iz 19 (sd OE (sd OF .ret)))) (.seq (sr OG (iz 59 (rr OH))) (sr OI (rr OJ)))))⟩
def K139 (D:Bh):Prop:=∀a0 r,kZ a0=some r→D 139 ⟨[.ptr 1048576 0],[Bp a0]⟩ ⟨iV r.1,[Bp r.2],[]⟩
theorem F139:K139 (FO C OA):=by
 intro a0 r h0
 refine f0 (Ay 14 [(0,.ptr 1048576 0)] [(1048576,Eu u_ a0.code_ (wi (a0.at_+1)) a0.Fl)] (Bj (Bj (Bl (Ag tv (Bw rfl tv (⟨tv,Ag tv (c_ (Bb ⟨tv,tv⟩ rfl tv) (⟨tv,Ag tv (c_ (Bb ⟨tv,tv⟩ rfl tv) (⟨tv,Ag tv (c_ (Bb ⟨tv,tv⟩ rfl (nl rfl)) (⟨tv,Ag tv (Bw rfl tv (⟨tv,?_⟩))⟩))⟩))⟩))⟩)))))))
 refine Ag tv (c_ (Bb ⟨tv,tv⟩ rfl tv) (⟨tv,Ag tv (c_ (Bb ⟨tv,tv⟩ rfl tv) (⟨tv,Ag tv (c_ (Bb ⟨tv,tv⟩ rfl (nl rfl)) (⟨tv,Ag tv (c_ (cO (e:=eU8) (l0:=a0.code_) rfl rfl tv) (⟨tv,d_ (Ay 2 [(0,.ptr 1048576 0),(19,.bool (decide ((wi (a0.at_+1))≤(a0.code_.length:Int))))] [(1048576,Eu u_ a0.code_ (wi (a0.at_+1)) a0.Fl)] (Ct h0 (fun c1 h0=>?_) (fun c1 h0=>?_)))⟩))⟩))⟩))⟩))
 ·refine Bj (bb h0 fun y2 e3 h0=>Bl (Ag tv (Bw rfl tv (⟨tv,Ag tv (Bw rfl tv (⟨tv,Ag tv (c_ (Bb ⟨tv,tv⟩ rfl tv) (⟨tv,Ag tv (c_ (Bb ⟨tv,tv⟩ rfl tv) (⟨tv,Ag tv (c_ (Bb ⟨tv,tv⟩ rfl (nl rfl)) (⟨tv,Ag tv (c_ (Bb t3 rfl tv) (⟨tv,Ag tv (Bw rfl tv (⟨tv,Ag tv (c_ (Bb ⟨tv,tv⟩ rfl tv) (⟨tv,Ag tv (c_ (Bb ⟨tv,tv⟩ rfl tv) (⟨tv,Ag tv (c_ (Bb ⟨tv,tv⟩ rfl (nl rfl)) (⟨tv,Ag tv (Bw rfl tv (⟨tv,Ag tv (c_ (Bb ⟨tv,tv⟩ rfl tv) (⟨tv,Ag tv (c_ (Bb ⟨tv,tv⟩ rfl tv) (⟨tv,Ag tv (c_ (Bb ⟨tv,tv⟩ rfl (nl rfl)) (⟨tv,Ag tv (c_ (Bb t3 rfl tv) (⟨tv,?_⟩))⟩))⟩))⟩))⟩))⟩))⟩))⟩))⟩))⟩))⟩))⟩))⟩))⟩))⟩))))
  refine d_ (xv_ rfl rfl rfl e3 (Bl (Ag tv (c_ (Bb ⟨tv,tv⟩ rfl (nl rfl)) (⟨tv,Ag tv (c_ (Bb ⟨tv,tv⟩ rfl tv) (⟨tv,Ag tv (c_ (Bb t3 rfl tv) (⟨tv,Ag tv (c_ (Bb t3 rfl tv) (⟨tv,Ag tv (c_ (Bb ⟨tv,tv,tv⟩ rfl (by decide)) (⟨tv,Ag tv (c_ (Bb ⟨tv,tv⟩ rfl tv) (⟨tv,Ag tv (c_ (Bb ⟨tv,tv⟩ rfl tv) (⟨tv,Bu (Gd rfl rfl tv rfl rfl rfl (nl rfl) (d0 tv (Gf (bv h0 fun v4 e5 h0=>Dn ⟨[(0,.ptr 1048576 0)],[(1048576,Eu u_ a0.code_ (wi (a0.at_+1)) v4)],[]⟩ (Ez (by subst e5; kernel_rfl)) (Bj (bb h0 fun y6 e7 h0=>Bl (Ag tv (Bw rfl tv (⟨tv,Ag tv (c_ (Bb ⟨tv,tv⟩ rfl tv) (⟨tv,Ag tv (c_ (Bb ⟨tv,tv⟩ rfl tv) (⟨tv,Ag tv (c_ (Bb ⟨tv,tv⟩ rfl (nl rfl)) (⟨tv,Ag tv (Bw rfl tv (⟨tv,Ag tv (c_ (Bb ⟨tv,tv⟩ rfl tv) (⟨tv,Ag tv (c_ (Bb ⟨tv,tv⟩ rfl tv) (⟨tv,Ag tv (c_ (Bb ⟨tv,tv⟩ rfl (nl rfl)) (⟨tv,Ag tv (c_ (Bb t3 rfl tv) (⟨tv,d_ (xv_ rfl rfl rfl e7 (Bl (d_ ?_)))⟩))⟩))⟩))⟩))⟩))⟩))⟩))⟩))⟩))))))))) Au⟩))⟩))⟩))⟩))⟩))⟩))⟩)))))
  obtain rfl:=sj h0
  exact Dd 5
 ·refine Ay 10 [(0,.ptr 1048576 0),(59,.bool (decide ((wi (a0.at_+1))>3000)))] [(1048576,Eu u_ a0.code_ (wi (a0.at_+1)) a0.Fl)] (Ct h0 (fun c8 h0=>?_) (fun c8 h0=>?_))
  ·obtain rfl:=sj h0
   exact Dd 4
  ·refine Jf (bM (Bj (An (st (Bw rfl tv (st (Bw rfl tv (st (c_ (Bb ⟨tv,tv⟩ rfl tv) (st (c_ (Bb ⟨tv,tv⟩ rfl tv) (st (c_ (Bb ⟨tv,tv⟩ rfl (nl rfl)) (st (c_ (Bb t3 rfl tv) (st (c_ (Bb t3 rfl tv) (st (c_ (Bb ⟨tv,tv,tv⟩ rfl (by decide)) (st (c_ (Bb ⟨tv,tv⟩ rfl tv) (st (c_ (Bb ⟨tv,tv⟩ rfl tv) (st (Gd rfl rfl tv rfl rfl rfl (nl rfl) (Hj (bv h0 fun v9 e10 h0=>Dn ⟨[(0,.ptr 1048576 0)],[(1048576,Eu u_ a0.code_ (wi (a0.at_+1)) v9)],[]⟩ (Ez (by subst e10; kernel_rfl)) (Bj (An (st (Bw rfl tv (st (c_ (Bb ⟨tv,tv⟩ rfl tv) (st (c_ (Bb ⟨tv,tv⟩ rfl tv) (st (c_ (Bb ⟨tv,tv⟩ rfl (nl rfl)) (st (c_ (Bb ⟨tv,tv,tv⟩ rfl (by decide)) (st (c_ (Bb ⟨tv,tv,tv⟩ rfl (by decide)) (o_ ?_))))))))))))))))))))))))))))))))))))))))))
   obtain rfl:=sj h0
   exact Dd 3

/- (*loop.example/g00149/spec.l00Src).next -/
def IS:=[i_ 4 0]
def IT:=[m_ 8 1,B_ .leq 9 8 1]
def IU:=[i_ 4 0]
def IV:=[m_ 10 1,B_ .leq 11 10 256]
def IW:=[m_ 12 0,q_ 13 139 [.t 12],m_ 14 1,b_ .rem 15 13 14,m_ 4 15]
def IX:=[m_ 16 0,q_ 17 139 [.t 16],m_ 5 17]
def IY:=[m_ 18 0,q_ 19 139 [.t 18],m_ 6 19]
def IZ:=[m_ 20 0,q_ 21 139 [.t 20],m_ 7 21]
def JA:=[m_ 22 5,B_ .mul 23 22 65536,m_ 24 6,B_ .mul 25 24 256,b_ .add 26 23 25,m_ 27 7,b_ .add 28 26 27,m_ 29 1,b_ .rem 30 28 29,m_ 4 30]
def c117:Dp:=⟨2,31,[.t 4],sr IS (.seq (sr IT (iz 9 (rr IU))) (.seq (sr IV (iz 11 (rr IW))) (sr IX (sr IY (sr IZ (rr JA))))))⟩
def pM (D:Bh):Prop:=∀a0 a1 r,Rf a0 a1=some r→D 117 ⟨[.ptr 1048576 0,iV a1],[Bp a0]⟩ ⟨iV r.1,[Bp r.2],[]⟩
theorem F117 (H139:K139 C):pM (FO C c117):=by
 intro a0 a1 r h0
 refine f0 (Ay 9 [(0,.ptr 1048576 0),(1,iV a1),(9,.bool (decide (a1≤1)))] [(1048576,Bp a0)] (Ct h0 (fun c1 h0=>?_) (fun c1 h0=>?_)))
 ·obtain rfl:=sj h0
  exact Dd 4
 ·refine Ay 7 [(0,.ptr 1048576 0),(1,iV a1),(11,.bool (decide (a1≤256)))] [(1048576,Bp a0)] (Ct h0 (fun c2 h0=>?_) (fun c2 h0=>?_))
  ·refine Bj (An (st (Bw rfl tv (bb h0 fun r3 e4 h0=>Wv [1048576] [] [] (H139 a0 r3 e4) (st (Bw rfl tv (gg h0 fun c5 h0=>st (c_ (Bb ⟨tv,tv,tv⟩ rfl c5) (o_ ?_)))))))))
   obtain rfl:=sj h0
   exact Dd 3
  ·refine Bc 4 (An (bb h0 fun r6 e7 h0=>Wv [1048576] [] [] (H139 a0 r6 e7) (o_ (Ay 2 [(0,.ptr 1048576 0),(1,iV a1),(5,iV r6.1)] [(1048576,Bp r6.2)] (Bj (An (st (Bw rfl tv (bb h0 fun r8 e9 h0=>Wv [1048576] [] [] (H139 r6.2 r8 e9) (o_ (Ay 2 [(0,.ptr 1048576 0),(1,iV a1),(5,iV r6.1),(6,iV r8.1)] [(1048576,Bp r8.2)] (Bj (An (st (Bw rfl tv (bb h0 fun r10 e11 h0=>Wv [1048576] [] [] (H139 r8.2 r10 e11) (o_ (Ay 2 [(1,iV a1),(5,iV r6.1),(6,iV r8.1),(7,iV r10.1)] [(1048576,Bp r10.2)] (Bc 9 (An (gg h0 fun c12 h0=>st (c_ (Bb ⟨tv,tv,tv⟩ rfl c12) (st (Bw rfl tv (Hj (bv h0 fun v13 e14 h0=>Dn ⟨[(4,iV v13)],[(1048576,Bp r10.2)],[]⟩ (Ez (by subst e14; kernel_rfl)) ?_))))))))))))))))))))))))))
   obtain rfl:=sj h0
   exact Lf (Eg rfl rfl rfl rfl rfl tv)

/- (*loop.example/g00149/spec.l00Src).size -/
def JB:=[i_ 4 0]
def JC:List Bt:=[m_ 5 0,iQ 6 (.nilc (.t 5)),f_ 7 6 0,l_ 8 7 1,n_ 9 8,B_ .quo 10 9 12,⟨some 11,.p (.bin .add (.c (iV 1)) (.t 10)),none⟩,m_ 12 1,iQ 13 (.mn (.t 11) (.t 12)),m_ 4 13]
def c118:Dp:=⟨2,14,[.t 4],sr JB (rr JC)⟩
def K118 (D:Bh):Prop:=∀a0 a1 r,g118 a0 a1=some r→D 118 ⟨[.iptr (Bp a0),iV a1],[]⟩ ⟨iV r,[],[]⟩
theorem F118:K118 (FO C c118):=by
 intro a0 a1 r h0
 refine f0 (Ay 3 [(0,.iptr (Bp a0)),(1,iV a1)] [] (Bc 5 (An (Sn rfl (st (c_ (Bb ⟨tv,tv,tv⟩ rfl (by decide)) (o_ (Bc 5 (bv h0 fun v1 e2 h0=>Dn ⟨[(4,iV v1)],[],[]⟩ (Ez (by subst e2; kernel_rfl)) ?_)))))))))
 obtain rfl:=sj h0
 exact Lf (Eg rfl rfl rfl rfl rfl tv)

/- (*loop.example/g00149/spec.l00Src).chance -/
def JD:=[k_ 4 (.bool false)]
def JE:=[m_ 5 0,m_ 6 1,q_ 7 117 [.t 5,.t 6],m_ 8 1,B_ .sub 9 8 1,b_ .eql 10 7 9,m_ 4 10]
def c119:Dp:=⟨2,11,[.t 4],sr JD (rr JE)⟩
def K119 (D:Bh):Prop:=∀a0 a1 r,g119 a0 a1=some r→D 119 ⟨[.ptr 1048576 0,iV a1],[Bp a0]⟩ ⟨.bool r.1,[Bp r.2],[]⟩
theorem F119 (H117:pM C):K119 (FO C c119):=by
 intro a0 a1 r h0
 refine f0 (Ay 3 [(0,.ptr 1048576 0),(1,iV a1)] [(1048576,Bp a0)] (Bc 3 (An (bb h0 fun r1 e2 h0=>Wv [1048576] [] [] (H117 a0 a1 r1 e2) (o_ ?_)))))
 obtain rfl:=sj h0
 exact Dd 6

/- (*loop.example/g00149/spec.l00Src).Cb -/
def PM:List Bt:=[⟨some 2,.nilS 1,none⟩]
def PN:List Bt:=[⟨some 5,.mkS 1 [iV 0] 0 [],none⟩,m_ 3 5]
def PO:=[m_ 6 0,q_ 7 117 [.t 6,.c (iV 4)],m_ 4 7]
def PP:=[m_ 8 4,B_ .gtr 9 8 0]
def PQ:List Bt:=[m_ 12 3,m_ 13 0,q_ 14 117 [.t 13,.c (iV 5)],B_ .rem 15 14 3,⟨some 16,.mkS 1 [iV 0] 1 [(0,.t 15)],none⟩,⟨some 17,.app 1 8 (.t 12) (.t 16),none⟩,m_ 3 17]
def PR:=[m_ 10 4,B_ .sub 11 10 1,m_ 4 11]
def PL:IR:=(.seq (sr PP (.ite (.t 9) .skip (.exit 0))) (.seq (.block 1 (.reg PQ)) (.reg PR)))
def PS:=[m_ 18 3,m_ 2 18]
def PK:Dp:=⟨1,19,[.t 2],sr PM (sr PN (.seq (sr PO (Ju 0 PL)) (rr PS)))⟩
def K147 (D:Bh):Prop:=∀a0 r,AG a0=some r→D 147 ⟨[.ptr 1048576 0],[Bp a0]⟩ ⟨oI 0 r.1,[Bp r.2],[]⟩
theorem F147 (H117:pM C):K147 (FO C PK):=by
 intro a0 r h0
 refine f0 (Ay 8 [(0,.ptr 1048576 0),(3,oI 320 [])] [(1048576,Bp a0)] (Bc 3 (An (bb h0 fun r1 e2 h0=>Wv [1048576] [] [] (H117 a0 4 r1 e2) (o_ (Ay 2 [(0,.ptr 1048576 0),(3,oI 320 []),(4,iV r1.1)] [(1048576,Bp r1.2)] (Cg (bb h0 fun r29 e30 h0=>Cz (R:=(fun S=>∃p21:List Int,∃p22:List UInt8,∃p23:Int,∃p24:Int,(p21,p22,p23,p24)=r29∧S=⟨[(3,oI 320 p21)],[(1048576,Eu u_ p22 p23 p24)],[]⟩)) (Xr) (fun s S=>match s with | (p7,p8,p9,p10,p11)=>S=⟨[(0,.ptr 1048576 0),(3,oI 320 p7),(4,iV p8)],[(1048576,Eu u_ p9 p10 p11)],[]⟩) e30 _ (Ez (by kernel_rfl)) rfl 0 (fun _=>rfl) ?_ ?_))))))))
 ·rintro S _ hfg ⟨p21,p22,p23,p24,rfl,rfl⟩
  refine Dn _ hfg ?_
  obtain rfl:=sj h0
  exact Dd 5
 ·rintro ⟨p7,p8,p9,p10,p11⟩ o1 _ K1 rfl h1 hx1 hK1 hE1 hR1
  refine Ay 5 [(0,.ptr 1048576 0),(3,oI 320 p7),(4,iV p8),(9,.bool (decide (p8>0)))] [(1048576,Eu u_ p9 p10 p11)] (Ct h1 (fun c25 h1=>?_) (fun c25 h1=>?_))
  ·refine Bc 6 (An (bb h1 fun r26 e27 h1=>Wv [1048576] [] [] (H117 (By.mk p9 p10 p11) 5 r26 e27) (st (c_ (Bb ⟨tv,tv,tv⟩ rfl (by decide)) (st (Wy ⟨tv,tv⟩ ⟨⟨nl rfl,rfl,rfl⟩,tv⟩ (gg h1 fun c28 h1=>st (Ja (e:=eI) (l0:=p7) (l1:=([(r26.1).tmod 3]:List Int)) rfl rfl tv rfl (by decide) c28 (o_ (Ay 3 [(0,.ptr 1048576 0),(3,oI 320 (p7++([(r26.1).tmod 3]:List Int))),(4,iV p8)] [(1048576,Bp r26.2)] (Bc 4 ?_)))))))))))
   obtain rfl:=sj h1
   exact kn hK1 rfl rfl
  ·obtain rfl:=sj h1
   obtain rfl:=hx1 _ rfl
   refine Jv rfl ?_
   exact jn hE1 ⟨_,_,_,_,rfl,rfl⟩

/- (*loop.example/g00149/spec.l00Src).vaultAct -/
def MX:=[a_ 2 [iV 0,iV 0,iV 0,iV 0,iV 0,.own 134 0 1 [],iV 0]]
def MY:List Bt:=[m_ 4 0,q_ 5 117 [.t 4,.c (iV 9)],⟨some 6,.p (.bin .add (.c (iV 1)) (.t 5)),none⟩,m_ 7 0,q_ 8 147 [.t 7],⟨some 9,.p (.build [iV 0,iV 0,iV 0,iV 0,iV 0,.own 582 0 1 [],iV 0] [(0,1,.c (iV 1)),(2,1,.t 6),(5,1,.t 8)]),none⟩,a_ 3 [iV 0,iV 0,iV 0,iV 0,iV 0,.own 198 0 1 [],iV 0],s_ 3 9 7]
def MZ:=tk [f_ 10 3 2,l_ 11 10 1,m_ 12 0] (.alt [l_ 11 10 1,f_ 10 3 2] (q_ 13 117 [.t 12,.c (iV 9)]) (tk [b_ .add 14 11 13,f_ 15 3 3] (.alt [] (s_ 15 14 1) .fin .stop)) .stop)
def NA:=[m_ 16 0,q_ 17 117 [.t 16,.c (iV 10)]]
def NC:=[B_ .eql 19 17 0,m_ 18 19]
def ND:List Bt:=[m_ 20 0,q_ 21 117 [.t 20,.c (iV 9)],⟨some 22,.p (.bin .add (.c (iV 1)) (.t 21)),none⟩,m_ 23 0,q_ 24 117 [.t 23,.c (iV 12)],⟨some 25,.p (.bin .add (.c (iV 1)) (.t 24)),none⟩,⟨some 26,.p (.build [iV 0,iV 0,iV 0,iV 0,iV 0,.own 1670 0 1 [],iV 0] [(0,1,.c (iV 2)),(1,1,.t 22),(2,1,.t 25)]),none⟩,s_ 3 26 7]
def NE:=[B_ .eql 28 17 1,m_ 27 28]
def NF:List Bt:=[m_ 29 0,q_ 30 117 [.t 29,.c (iV 9)],⟨some 31,.p (.bin .add (.c (iV 1)) (.t 30)),none⟩,⟨some 32,.p (.build [iV 0,iV 0,iV 0,iV 0,iV 0,.own 2054 0 1 [],iV 0] [(0,1,.c (iV 3)),(1,1,.t 31)]),none⟩,s_ 3 32 7]
def NG:=[B_ .eql 34 17 2,m_ 33 34]
def NH:=[B_ .eql 35 17 3,m_ 33 35]
def vD:=[B_ .eql 36 17 4,m_ 33 36]
def vE:List Bt:=[m_ 37 0,q_ 38 117 [.t 37,.c (iV 60)],m_ 39 0,q_ 40 147 [.t 39],⟨some 41,.p (.build [iV 0,iV 0,iV 0,iV 0,iV 0,.own 2630 0 1 [],iV 0] [(0,1,.c (iV 4)),(4,1,.t 38),(5,1,.t 40)]),none⟩,s_ 3 41 7]
def vF:=[B_ .eql 43 17 5,m_ 42 43]
def vG:List Bt:=[⟨some 44,.mkS 1 [iV 0] 4 [(0,.c (iV 5)),(1,.c (iV 6)),(2,.c (iV 6)),(3,.c (iV 6))],none⟩,m_ 45 0,q_ 46 117 [.t 45,.c (iV 4)],x_ 47 44 46 1,l_ 48 47 1,⟨some 49,.p (.build [iV 0,iV 0,iV 0,iV 0,iV 0,.own 3142 0 1 [],iV 0] [(0,1,.t 48)]),none⟩,s_ 3 49 7]
def vH:=[m_ 50 0,q_ 51 119 [.t 50,.c (iV 7)]]
def vI:List Bt:=[m_ 52 0,q_ 53 117 [.t 52,.c (iV 2)],⟨some 54,.p (.bin .add (.c (iV 1)) (.t 53)),none⟩,f_ 55 3 6,s_ 55 54 1]
def vJ:=[L_ 56 3 7,s_ 2 56 7]
def MW:Dp:=⟨1,57,[.cell 2 7 true],sr MX (sr MY (sd MZ (.seq (sr NA (.block 0 (sr NC (.ite (.t 18) (.reg ND) (sr NE (.ite (.t 27) (.reg NF) (.seq (sr NG (.ite (.t 33) .skip (sr NH (.ite (.t 33) .skip (.reg vD))))) (.ite (.t 33) (.reg vE) (sr vF (iz 42 (.reg vG))))))))))) (.seq (sr vH (iz 51 (.reg vI))) (rr vJ)))))⟩
def K135 (D:Bh):Prop:=∀a0 r,g135 a0=some r→D 135 ⟨[.ptr 1048576 0],[Bp a0]⟩ ⟨.agg (aI r.1 (Ap 0)),[Bp r.2],[]⟩
abbrev Fa:=fun (r:List (Nat×List V))=>(128,Bv 0 0 0 0 0 (Ap 134) [] 0)::r
abbrev Gu:=fun (r:List (Nat×V))=>(0,.ptr 1048576 0)::(2,.ptr 128 0)::(3,.ptr 192 0)::r
theorem F135 (H117:pM C) (H119:K119 C) (H147:K147 C):K135 (FO C MW):=by
 intro a0 r h0
 refine f0 (Ay 3 [(0,.ptr 1048576 0),(2,.ptr 128 0)] (Fa [(1048576,Bp a0)]) (Bj (An (st (Bw rfl tv (bb h0 fun r1 e2 h0=>Wv [1048576] [] [] (H117 a0 9 r1 e2) (sw ⟨[(0,.ptr 1048576 0),(2,.ptr 128 0),(5,iV r1.1)],Fa [(1048576,Bp r1.2)],[]⟩ (Ez (by kernel_rfl)) (c_ (Bb t3 rfl tv) (st (Bw rfl tv (bb h0 fun r3 e4 h0=>Wv [1048576] [] [] (H147 r1.2 r3 e4) (sw ⟨[(0,.ptr 1048576 0),(2,.ptr 128 0),(6,iV (wi (1+r1.1))),(8,oI 512 r3.1)],Fa [(1048576,Bp r3.2)],[]⟩ (Ez (by kernel_rfl)) (c_ (v:=.agg (Bv 1 0 (wi (1+r1.1)) 0 0 (Ap 512) r3.1 0)) (Bb ⟨tv,tv,tv,tv⟩ rfl ⟨⟨rfl,rfl,nl rfl⟩,⟨rfl,rfl,nl rfl⟩,⟨rfl,rfl,nl rfl⟩,tv⟩) (o_ (Ay 3 (Gu []) (Fa [(192,Bv 1 0 (wi (1+r1.1)) 0 0 (Ap 512) r3.1 0),(1048576,Bp r3.2)]) (Bj (bb h0 fun r5 e6 h0=>Bc 3 (Bl (Bu (Eb [1048576] [] [] true (H117 r3.2 9 r5 e6) ⟨tv,tv,tv⟩ (by kernel_rfl) (by kernel_rfl) (by kernel_rfl) (by kernel_rfl) (fun h=>nomatch h) (dw [(0,.ptr 1048576 0),(2,.ptr 128 0),(3,.ptr 192 0),(10,.ptr 192 2),(11,iV (wi (1+r1.1))),(13,iV r5.1)] [(128,Bv 0 0 0 0 0 (Ap 134) [] 0),(192,Bv 1 0 (wi (1+r1.1)) 0 0 (Ap 512) r3.1 0),(1048576,Bp r5.2)] hB (d_ (Bc 2 (Bl (Bu (Gd rfl rfl tv rfl rfl rfl (nl rfl) (d0 tv (d_ (Ay 1 (Gu []) (Fa [(192,Bv 1 0 (wi (1+r1.1)) (wi ((wi (1+r1.1))+r5.1)) 0 (Ap 512) r3.1 0),(1048576,Bp r5.2)]) (Bc 3 (An (bb h0 fun r7 e8 h0=>Wv [1048576] [] [] (H117 r5.2 10 r7 e8) (o_ (Ay 1 (Gu [(17,iV r7.1)]) (Fa [(192,Bv 1 0 (wi (1+r1.1)) (wi ((wi (1+r1.1))+r5.1)) 0 (Ap 512) r3.1 0),(1048576,Bp r7.2)]) (Hs (fun S=>∃p32:Int,∃p33:Int,∃p34:Int,∃p35:Int,∃p36:Int,∃p37:List Int,∃p38:List UInt8,∃p39:Int,∃p40:Int,S=⟨Gu [],Fa [(192,Bv p32 p33 p34 p35 p36 (Ap 1670) p37 0),(1048576,Eu u_ p38 p39 p40)],[]⟩∧Lo p32 p33 p34 p35 p36 p37 p38 p39 p40=some r) ?_ (fun J54=>?_))))))))))) Au)))))) Au)))))))))))))))))))
 ·rintro _ ⟨p32,p33,p34,p35,p36,p37,p38,p39,p40,rfl,h0⟩
  refine Bc 4 (An (bb h0 fun r41 e42 h0=>Wv [1048576] [] [] (H119 (By.mk p38 p39 p40) 7 r41 e42) (o_ (Ay 1 (Gu [(51,.bool r41.1)]) (Fa [(192,Bv p32 p33 p34 p35 p36 (Ap 1670) p37 0),(1048576,Bp r41.2)]) (Kg (cb:=r41.1) (fun S=>∃p46:Int,∃p47:List UInt8,∃p48:Int,∃p49:Int,S=⟨[(2,.ptr 128 0),(3,.ptr 192 0)],Fa [(192,Bv p32 p33 p34 p35 p36 (Ap 1670) p37 p46),(1048576,Eu u_ p47 p48 p49)],[]⟩∧Xo p32 p33 p34 p35 p36 p37 p46 p47 p48 p49=some r) rfl ?_ (fun c51 J50=>?_) (fun c51 J50=>?_))))))
  ·rintro _ ⟨p46,p47,p48,p49,rfl,h0⟩
   obtain rfl:=sj h0
   exact Dd 6
  ·replace h0:=ip c51 h0
   refine An (st (Bw rfl tv (bb h0 fun r52 e53 h0=>Wv [1048576] [] [] (H117 r41.2 2 r52 e53) (sw ⟨[(2,.ptr 128 0),(3,.ptr 192 0),(53,iV r52.1)],Fa [(192,Bv p32 p33 p34 p35 p36 (Ap 1670) p37 0),(1048576,Bp r52.2)],[]⟩ (Ez (by kernel_rfl)) (c_ (Bb t3 rfl tv) (o_ (Bc 3 ?_)))))))
   exact jn J50 ⟨_,_,_,_,rfl,h0⟩
  ·replace h0:=Wx c51 h0
   refine Jf ?_
   exact jn J50 ⟨_,_,_,_,rfl,h0⟩
 ·refine Bj ?_
  refine Ay 3 (Gu [(17,iV r7.1),(18,.bool (r7.1==0))]) (Fa [(192,Bv 1 0 (wi (1+r1.1)) (wi ((wi (1+r1.1))+r5.1)) 0 (Ap 512) r3.1 0),(1048576,Bp r7.2)]) (Ct h0 (fun c55 h0=>?_) (fun c55 h0=>?_))
  ·refine An (st (Bw rfl tv (bb h0 fun r56 e57 h0=>Wv [1048576] [] [] (H117 r7.2 9 r56 e57) (sw ⟨Gu [(21,iV r56.1)],Fa [(192,Bv 1 0 (wi (1+r1.1)) (wi ((wi (1+r1.1))+r5.1)) 0 (Ap 512) r3.1 0),(1048576,Bp r56.2)],[]⟩ (Ez (by kernel_rfl)) (c_ (Bb t3 rfl tv) (st (Bw rfl tv (bb h0 fun r58 e59 h0=>Wv [1048576] [] [] (H117 r56.2 12 r58 e59) (sw ⟨Gu [(22,iV (wi (1+r56.1))),(24,iV r58.1)],Fa [(192,Bv 1 0 (wi (1+r1.1)) (wi ((wi (1+r1.1))+r5.1)) 0 (Ap 512) r3.1 0),(1048576,Bp r58.2)],[]⟩ (Ez (by kernel_rfl)) (c_ (Bb t3 rfl tv) (st (c_ (v:=.agg (Bv 2 (wi (1+r56.1)) (wi (1+r58.1)) 0 0 (Ap 1670) [] 0)) (Bb ⟨tv,tv,tv,tv⟩ rfl ⟨⟨rfl,rfl,nl rfl⟩,⟨rfl,rfl,nl rfl⟩,⟨rfl,rfl,nl rfl⟩,tv⟩) (o_ (Bc 3 ?_))))))))))))))
   exact jn J54 ⟨_,_,_,_,_,_,_,_,_,rfl,h0⟩
  ·refine Ay 4 (Gu [(17,iV r7.1),(27,.bool (r7.1==1))]) (Fa [(192,Bv 1 0 (wi (1+r1.1)) (wi ((wi (1+r1.1))+r5.1)) 0 (Ap 512) r3.1 0),(1048576,Bp r7.2)]) (Ct h0 (fun c60 h0=>?_) (fun c60 h0=>?_))
   ·refine An (st (Bw rfl tv (bb h0 fun r61 e62 h0=>Wv [1048576] [] [] (H117 r7.2 9 r61 e62) (sw ⟨Gu [(30,iV r61.1)],Fa [(192,Bv 1 0 (wi (1+r1.1)) (wi ((wi (1+r1.1))+r5.1)) 0 (Ap 512) r3.1 0),(1048576,Bp r61.2)],[]⟩ (Ez (by kernel_rfl)) (c_ (Bb t3 rfl tv) (st (c_ (v:=.agg (Bv 3 (wi (1+r61.1)) 0 0 0 (Ap 2054) [] 0)) (Bb ⟨tv,tv,tv⟩ rfl ⟨⟨rfl,rfl,nl rfl⟩,⟨rfl,rfl,nl rfl⟩,tv⟩) (o_ (Bc 3 ?_)))))))))
    exact J54 _ _ (Vh [] [(2054,1670)] rfl (by kernel_rfl)) ⟨_,_,_,_,_,_,_,_,_,rfl,h0⟩
   ·refine Ay 5 (Gu [(17,iV r7.1),(33,.bool (r7.1==2))]) (Fa [(192,Bv 1 0 (wi (1+r1.1)) (wi ((wi (1+r1.1))+r5.1)) 0 (Ap 512) r3.1 0),(1048576,Bp r7.2)]) (Kg (cb:=(r7.1==2)) (fun S=>∃p65:Bool,S=⟨Gu [(17,iV r7.1),(33,.bool p65)],Fa [(192,Bv 1 0 (wi (1+r1.1)) (wi ((wi (1+r1.1))+r5.1)) 0 (Ap 512) r3.1 0),(1048576,Bp r7.2)],[]⟩∧Qo r1 r3 r5 r7 p65=some r) rfl ?_ (fun c79 J78=>?_) (fun c79 J78=>?_))
    ·rintro _ ⟨p65,rfl,h0⟩
     refine Mx 1 (Ct h0 (fun c66 h0=>?_) (fun c66 h0=>?_))
     ·refine An (st (Bw rfl tv (bb h0 fun r67 e68 h0=>Wv [1048576] [] [] (H117 r7.2 60 r67 e68) (sw ⟨Gu [(38,iV r67.1)],Fa [(192,Bv 1 0 (wi (1+r1.1)) (wi ((wi (1+r1.1))+r5.1)) 0 (Ap 512) r3.1 0),(1048576,Bp r67.2)],[]⟩ (Ez (by kernel_rfl)) (Bw rfl tv (bb h0 fun r69 e70 h0=>Wv [1048576] [] [] (H147 r67.2 r69 e70) (sw ⟨Gu [(38,iV r67.1),(40,oI 2560 r69.1)],Fa [(192,Bv 1 0 (wi (1+r1.1)) (wi ((wi (1+r1.1))+r5.1)) 0 (Ap 512) r3.1 0),(1048576,Bp r69.2)],[]⟩ (Ez (by kernel_rfl)) (c_ (v:=.agg (Bv 4 0 0 0 r67.1 (Ap 2560) r69.1 0)) (Bb ⟨tv,tv,tv,tv⟩ rfl ⟨⟨rfl,rfl,nl rfl⟩,⟨rfl,rfl,nl rfl⟩,⟨rfl,rfl,nl rfl⟩,tv⟩) (o_ (Bc 3 ?_))))))))))
      exact J54 _ _ (Vh [] [(2560,1670)] rfl (by kernel_rfl)) ⟨_,_,_,_,_,_,_,_,_,rfl,h0⟩
     ·refine Ay 4 (Gu [(42,.bool (r7.1==5))]) (Fa [(192,Bv 1 0 (wi (1+r1.1)) (wi ((wi (1+r1.1))+r5.1)) 0 (Ap 512) r3.1 0),(1048576,Bp r7.2)]) (Ct h0 (fun c71 h0=>?_) (fun c71 h0=>?_))
      ·refine Bc 2 (An (bb h0 fun r72 e73 h0=>Wv [1048576] [] [] (H117 r7.2 4 r72 e73) (bb h0 fun y74 e75 h0=>sw ⟨Gu [(44,oI 2816 ([5,6,6,6]:List Int)),(46,iV r72.1)],Fa [(192,Bv 1 0 (wi (1+r1.1)) (wi ((wi (1+r1.1))+r5.1)) 0 (Ap 512) r3.1 0),(1048576,Bp r72.2)],[]⟩ (Ez (by kernel_rfl)) (c_ (Ka rfl rfl e75) (bb h0 fun y76 e77 h0=>lo_ rfl rfl e77 (st (c_ (v:=.agg (Bv y76 0 0 0 0 (Ap 3142) [] 0)) (Bb ⟨tv,tv⟩ rfl ⟨⟨rfl,rfl,nl rfl⟩,tv⟩) (o_ (Bc 3 ?_)))))))))
       exact J54 _ _ (Vh [] [(3142,1670)] rfl (by kernel_rfl)) ⟨_,_,_,_,_,_,_,_,_,rfl,h0⟩
      ·refine Jf (Rd ?_)
       exact J54 _ _ (Vh [] [(512,1670)] rfl (by kernel_rfl)) ⟨_,_,_,_,_,_,_,_,_,rfl,h0⟩
    ·replace h0:=ip c79 h0
     refine Jf ?_
     exact jn J78 ⟨_,rfl,h0⟩
    ·replace h0:=Wx c79 h0
     refine Ay 4 (Gu [(17,iV r7.1),(33,.bool (r7.1==3))]) (Fa [(192,Bv 1 0 (wi (1+r1.1)) (wi ((wi (1+r1.1))+r5.1)) 0 (Ap 512) r3.1 0),(1048576,Bp r7.2)]) (Ct h0 (fun c80 h0=>?_) (fun c80 h0=>?_))
     ·refine Jf ?_
      exact jn J78 ⟨_,rfl,h0⟩
     ·refine Bc 3 ?_
      exact jn J78 ⟨_,rfl,h0⟩

/- (*loop.example/g00149/spec.l00Src).vaultActs -/
def FW:List Bt:=[⟨some 2,.nilS 7,none⟩]
def FX:List Bt:=[⟨some 6,.mkS 7 [iV 0,iV 0,iV 0,iV 0,iV 0,.lst 1 [],iV 0] 0 [],none⟩,m_ 3 6]
def FY:=[m_ 7 0,m_ 8 0,q_ 9 118 [.t 8,.c (iV 16)],B_ .add 10 9 3,q_ 11 117 [.t 7,.t 10],m_ 4 11]
def FZ:=[m_ 12 4,B_ .gtr 13 12 0]
def GA:=[m_ 16 0,q_ 17 135 [.t 16],a_ 5 [iV 0,iV 0,iV 0,iV 0,iV 0,.own 326 0 1 [],iV 0],s_ 5 17 7]
def GB:List Bt:=[m_ 18 3,L_ 19 5 7,⟨some 20,.mkS 7 [iV 0,iV 0,iV 0,iV 0,iV 0,.lst 1 [],iV 0] 1 [(0,.t 19)],none⟩,⟨some 21,.app 7 72 (.t 18) (.t 20),none⟩,m_ 3 21]
def GC:=[f_ 22 5 6,l_ 23 22 1,B_ .neq 24 23 0,m_ 25 24,fF 25 26 5 0,lF 25 27 26 1 false,pF 25 28 (.bin .eql (.t 27) (.c (iV 5))),po 29 25 28]
def GD:List Bt:=[m_ 30 3,⟨some 31,.p (.build [iV 0,iV 0,iV 0,iV 0,iV 0,.own 1990 0 1 [],iV 0] [(0,1,.c (iV 6))]),none⟩,⟨some 32,.mkS 7 [iV 0,iV 0,iV 0,iV 0,iV 0,.lst 1 [],iV 0] 1 [(0,.t 31)],none⟩,⟨some 33,.app 7 72 (.t 30) (.t 32),none⟩,m_ 3 33]
def GE:=[m_ 14 4,B_ .sub 15 14 1,m_ 4 15]
def FV:IR:=(.seq (sr FZ (.ite (.t 13) .skip (.exit 0))) (.seq (.block 1 (sr GA (sr GB (sr GC (iz 29 (.reg GD)))))) (.reg GE)))
def GF:List Bt:=[m_ 34 3,m_ 35 3,n_ 36 35,⟨some 37,.p (.mn (.t 36) (.c (iV 120))),none⟩,⟨some 38,.p (.slice (.t 34) none (some (.t 37)) 7),none⟩,m_ 2 38]
def c103:Dp:=⟨1,39,[.t 2],sr FW (sr FX (.seq (sr FY (Ju 0 FV)) (rr GF)))⟩
def K103 (D:Bh):Prop:=∀a0 r,g103 a0=some r→D 103 ⟨[.ptr 1048576 0],[Bp a0]⟩ ⟨Ey 0 r.1,[Bp r.2],[]⟩
theorem F103 (H117:pM C) (H118:K118 C) (H135:K135 C):K103 (FO C c103):=by
 intro a0 r h0
 refine f0 (Ay 8 [(0,.ptr 1048576 0),(3,Ey 384 [])] [(1048576,Bp a0)] (Bc 4 (An (bb h0 fun r1 e2 h0=>Vf (H118 a0 16 r1 e2) (st (c_ (Bb t3 rfl tv) (bb h0 fun r3 e4 h0=>Wv [1048576] [] [] (H117 a0 (wi (r1+3)) r3 e4) (o_ (Ay 2 [(0,.ptr 1048576 0),(3,Ey 384 []),(4,iV r3.1)] [(1048576,Bp r3.2)] (Cg (bb h0 fun r55 e56 h0=>Cz (R:=(fun S=>∃p35:List Am,∃p36:List UInt8,∃p37:Int,∃p38:Int,(p35,p36,p37,p38)=r55∧S=⟨[(3,Ey 384 p35)],[(1048576,Eu u_ p36 p37 p38)],[]⟩)) (Xk) (fun s S=>match s with | (p15,p16,p17,p18,p19)=>S=⟨[(0,.ptr 1048576 0),(3,Ey 384 p15),(4,iV p16)],[(1048576,Eu u_ p17 p18 p19)],[]⟩) e56 _ (Ez (by kernel_rfl)) rfl 0 (fun _=>rfl) ?_ ?_)))))))))))
 ·rintro S _ hfg ⟨p35,p36,p37,p38,rfl,rfl⟩
  refine Dn _ hfg (Bc 3 (An (aS rfl (st (c_ (Bb ⟨tv,tv,tv⟩ rfl rfl) (bb h0 fun s57 e58 h0=>st (c_ (Ep (e:=Ar) (y:=s57) rfl rfl tv ⟨tv,tv⟩ rfl rfl e58) (o_ ?_))))))))
  obtain rfl:=sj h0
  exact Dd 3
 ·rintro ⟨p15,p16,p17,p18,p19⟩ o1 _ K1 rfl h1 hx1 hK1 hE1 hR1
  refine Ay 5 [(0,.ptr 1048576 0),(3,Ey 384 p15),(4,iV p16),(13,.bool (decide (p16>0)))] [(1048576,Eu u_ p17 p18 p19)] (Ct h1 (fun c39 h1=>?_) (fun c39 h1=>?_))
  ·refine Mx 3 (Hs (fun S=>∃p45:List Am,∃p46:List UInt8,∃p47:Int,∃p48:Int,S=⟨[(0,.ptr 1048576 0),(3,Ey 384 p45),(4,iV p16)],[(1048576,Eu u_ p46 p47 p48)],[]⟩∧Xj p16 p45 p46 p47 p48=some o1) ?_ (fun J49=>?_))
   ·rintro _ ⟨p45,p46,p47,p48,rfl,h1⟩
    refine Bc 5 ?_
    obtain rfl:=sj h1
    exact kn hK1 rfl rfl
   ·refine Bj ?_
    refine An (st (Bw rfl tv (bb h1 fun r50 e51 h1=>Wv [1048576] [] [] (H135 (By.mk p17 p18 p19) r50 e51) (o_ (Ay 3 [(0,.ptr 1048576 0),(3,Ey 384 p15),(4,iV p16),(5,.ptr 320 0)] [(320,aI r50.1 (Ap 1088)),(1048576,Bp r50.2)] (Bc 4 (An (gg h1 fun c52 h1=>st (Ja (e:=Ar) (l0:=p15) (l1:=([r50.1]:List Am)) rfl rfl tv rfl (by decide) c52 (o_ (AU 13 [(0,.ptr 1048576 0),(3,Ey 384 (p15++([r50.1]:List Am))),(4,iV p16),(29,.bool (bif (r50.1.stop != 0) then true else (r50.1.kind==5)))] [(1048576,Bp r50.2)] (Ct h1 (fun c53 h1=>?_) (fun c53 h1=>?_)))))))))))))
    ·refine An (st (Bw rfl tv (st (c_ (v:=.agg (Bv 6 0 0 0 0 (Ap 1990) [] 0)) (Bb ⟨tv,tv⟩ rfl ⟨⟨rfl,rfl,nl rfl⟩,tv⟩) (st (Wy ⟨tv,tv⟩ ⟨⟨nl rfl,rfl,rfl⟩,tv⟩ (gg h1 fun c54 h1=>st (Ja (e:=Ar) (l0:=p15++([r50.1]:List Am)) (l1:=([Am.mk 6 0 0 0 0 ([]:List Int) 0]:List Am)) rfl rfl tv rfl (by decide) c54 (st (Bw rfl tv (Hj (Rd ?_))))))))))))
     exact jn J49 ⟨_,_,_,_,rfl,h1⟩
    ·refine Jf (Rd ?_)
     exact jn J49 ⟨_,_,_,_,rfl,h1⟩
  ·obtain rfl:=sj h1
   obtain rfl:=hx1 _ rfl
   refine Jv rfl ?_
   exact jn hE1 ⟨_,_,_,_,rfl,rfl⟩

/- loop.example/g00149/spec.VaultActsOf -/
def c51_r0:List Bt:=[⟨some 2,.nilS 7,none⟩]
def c51_r1:=[m_ 3 0,q_ 4 83 [.t 3],q_ 5 103 [.t 4],m_ 2 5]
def c51:Dp:=⟨1,6,[.t 2],sr c51_r0 (rr c51_r1)⟩
def K51 (D:Bh):Prop:=∀a0 r,g51 a0=some r→D 51 ⟨[lU8 a0],[]⟩ ⟨Ey 0 r,[],[]⟩
theorem F51 (H83:K83 C) (H103:K103 C):K51 (FO C c51):=by
 intro a0 r h0
 refine f0 (Ay 3 [(0,lU8 a0)] [] (Bj (An (st (Bw rfl tv (bb h0 fun r1 e2 h0=>Wv [] [] [] (H83 a0 r1 e2) (bb h0 fun r3 e4 h0=>Wv [256] [] [] (H103 r1 r3 e4) (o_ ?_))))))))
 obtain rfl:=sj h0
 exact Dd 3

/- loop.example/g00149/impl.within -/
def c63_r0:=[k_ 6 (.bool false)]
def c63_r1:=[m_ 7 1,m_ 8 0,b_ .leq 9 7 8,m_ 10 9,mT 10 11 0,mT 10 12 2,pT 10 13 (.bin .leq (.t 11) (.t 12)),pa 14 10 13,m_ 6 14]
def c63:Dp:=⟨3,15,[.t 6],sr c63_r0 (rr c63_r1)⟩
def K63 (D:Bh):Prop:=∀a0 a1 a2 r,qM a0 a1 a2=some r→D 63 ⟨[iV a0,iV a1,iV a2],[]⟩ ⟨.bool r,[],[]⟩
theorem F63:K63 (FO C c63):=by
 intro a0 a1 a2 r h0
 refine f0 (Ay 3 [(0,iV a0),(1,iV a1),(2,iV a2)] [] (cX 9 (An (o_ ?_))))
 obtain rfl:=sj h0
 exact Dd 3

/- loop.example/g00149/impl.isSerial -/
def c58_r0:=[k_ 2 (.bool false)]
def c58_r1:=[m_ 3 0,q_ 4 63 [.t 3,.c (iV 1),.c (iV 1000000)],m_ 2 4]
def c58:Dp:=⟨1,5,[.t 2],sr c58_r0 (rr c58_r1)⟩
def K58 (D:Bh):Prop:=∀a0 r,g58 a0=some r→D 58 ⟨[iV a0],[]⟩ ⟨.bool r,[],[]⟩
theorem F58 (H63:K63 C):K58 (FO C c58):=by
 intro a0 r h0
 refine f0 (Ay 3 [(0,iV a0)] [] (Bj (An (st (Bw rfl tv (bb h0 fun r1 e2 h0=>Vf (H63 a0 1 1000000 r1 e2) (o_ ?_)))))))
 obtain rfl:=sj h0
 exact Dd 3

/- loop.example/g00149/impl.rises -/
def c59_r0:=[k_ 6 (.bool false)]
def c59_r1:=[m_ 9 0,n_ 10 9,i_ 11 0]
def c59_r2:=[b_ .lss 12 11 10]
def c59_r3:=[m_ 13 11,x_ 14 9 11 1,l_ 15 14 1,m_ 7 13,m_ 8 15]
def c59_r4:List Bt:=[m_ 16 8,m_ 17 1,m_ 18 2,q_ 19 63 [.t 16,.t 17,.t 18],N_ 20 19,m_ 21 20,mF 21 22 7,pF 21 23 (.bin .gtr (.t 22) (.c (iV 0))),mF 21 24 23,mT 24 25 0,mT 24 26 7,pT 24 27 (.bin .sub (.t 26) (.c (iV 1))),xT 24 28 25 27 1,lT 24 29 28 1 false,mT 24 30 8,pT 24 31 (.bin .geq (.t 29) (.t 30)),⟨some 32,.pick (.t 24) (.t 31) (.c (.bool false)),some (21,false)⟩,po 33 21 32]
def c59_r5:=[k_ 6 (.bool false)]
def c59_r6:=[B_ .add 34 11 1,m_ 11 34]
def c59_l0:IR:=(sr c59_r2 (.seq (.ite (.t 12) .skip (.exit 0)) (.seq (.block 1 (sr c59_r3 (sr c59_r4 (iz 33 (rr c59_r5))))) (.reg c59_r6))))
def c59_r7:=[k_ 6 (.bool true)]
def c59:Dp:=⟨3,35,[.t 6],sr c59_r0 (.seq (sr c59_r1 (Ju 0 c59_l0)) (rr c59_r7))⟩
def K59 (D:Bh):Prop:=∀a0 a1 a2 r,g59 a0 a1 a2=some r→D 59 ⟨[lI a0,iV a1,iV a2],[]⟩ ⟨.bool r,[],[]⟩
abbrev iW:=fun x0 x1 x2 (r:List (Nat×V))=>(0,lI x0)::(1,iV x1)::(2,iV x2)::(9,lI x0)::r
theorem F59 (H63:K63 C):K59 (FO C c59):=by
 intro a0 a1 a2 r h0
 refine f0 (Ay 3 [(0,lI a0),(1,iV a1),(2,iV a2)] [] (Bc 3 (An (Sn rfl (o_ (Ay 2 (iW a0 a1 a2 [(10,iV (a0.length:Int)),(11,iV 0)]) [] (Cg (bb h0 fun r33 e34 h0=>Cz (R:=(fun S=>.inl ()=r33∧S=⟨[],[],[]⟩)) (Zp a0 a1 a2) (fun s S=>match s with | p11=>S=⟨iW a0 a1 a2 [(10,iV (a0.length:Int)),(11,iV p11)],[],[]⟩) e34 _ (Ez (by kernel_rfl)) rfl 0 (fun _=>rfl) ?_ ?_))))))))
 ·rintro S _ hfg ⟨rfl,rfl⟩
  refine Dn _ hfg ?_
  obtain rfl:=sj h0
  exact Dd 4
 ·rintro p11 o1 _ K1 rfl h1 hx1 hK1 hE1 hR1
  refine Ay 3 (iW a0 a1 a2 [(10,iV (a0.length:Int)),(11,iV p11),(12,.bool (decide (p11<(a0.length:Int))))]) [] (Bj (Ct h1 (fun c23 h1=>?_) (fun c23 h1=>?_)))
  ·refine Bc 6 (An (bb h1 fun y24 e25 h1=>Vv rfl rfl e25 (o_ (Ay 4 (iW a0 a1 a2 [(7,iV p11),(8,iV y24),(10,iV (a0.length:Int)),(11,iV p11)]) [] (Bc 4 (An (bb h1 fun r26 e27 h1=>Vf (H63 y24 a1 a2 r26 e27) (o_ (Bc 2 (An (st (Ce (u:=iV p11) rfl (fun hg=>(Dt (v:=iV p11) rfl tv)) (st (Ce (u:=.bool (decide (p11>0))) rfl (fun hg=>(Bb ⟨(fun _=>hg),tv,tv⟩ rfl tv)) (st (Ce (u:=.bool (decide (p11>0))) rfl (fun hg=>(Dt (v:=.may ((!r26)==false) (.bool (decide (p11>0)))) rfl (fun _=>hg))) (st (Ce (u:=lI a0) rfl (fun hg=>(Dt (v:=lI a0) rfl tv)) (st (Ce (u:=iV p11) rfl (fun hg=>(Dt (v:=iV p11) rfl tv)) (st (Ce (u:=iV (wi (p11-1))) rfl (fun hg=>(Bb ⟨(fun _=>hg),tv,tv⟩ rfl tv)) (bb h1 fun y28 e29 h1=>st (Ce (u:=.iptr [iV y28]) rfl (fun hg=>(Zd (e:=eI) (y:=y28) rfl rfl (fun _=>hg) rfl rfl (fun _=>hg) (ip hg e29))) (st (Ce (u:=iV y28) rfl (fun hg=>(Bb ⟨(fun _=>hg),tv⟩ rfl (nl rfl))) (st (Ce (u:=iV y24) rfl (fun hg=>(Dt (v:=iV y24) rfl tv)) (st (Ce (u:=.bool (decide (y28≥y24))) rfl (fun hg=>(Bb ⟨(fun _=>hg),(fun _=>hg),tv⟩ rfl tv)) (st (aV (u:=.bool (bif (decide (p11>0)) then (decide (y28≥y24)) else false)) rfl (fun hg=>iA rfl rfl (fun _=>hg) rfl rfl (fun h=>Bi hg (Sr h)) tv rfl) (st (Eh rfl rfl rfl tv (fun h=>eqf h) rfl (Hj (bv h1 fun v30 e31 h1=>Dn ⟨iW a0 a1 a2 [(10,iV (a0.length:Int)),(11,iV p11),(33,.bool v30)],[],[]⟩ (Ez (by subst e31; kernel_rfl)) (Ct h1 (fun c32 h1=>?_) (fun c32 h1=>?_))))))))))))))))))))))))))))))))))))))
   ·obtain rfl:=sj h1
    obtain rfl:=hx1 _ rfl
    obtain rfl:=sj h0
    exact rX 4 hR1
   ·refine Bc 6 ?_
    obtain rfl:=sj h1
    exact kn hK1 rfl rfl
  ·obtain rfl:=sj h1
   obtain rfl:=hx1 _ rfl
   refine Jv rfl ?_
   exact jn hE1 ⟨rfl,rfl⟩

/- (loop.example/g00149/impl.Table).ids -/
def c60_r0:List Bt:=[X_ 1 0,⟨some 2,.nilS 1,none⟩]
def c60_r1:List Bt:=[⟨some 3,.nilS 1,none⟩]
def c60_r2:=[f_ 6 1 2,l_ 7 6 1,n_ 8 7,i_ 9 0]
def c60_r3:=[b_ .lss 10 9 8]
def c60_r4:=[x_ 11 7 9 4,L_ 12 11 4,a_ 5 [iV 0,iV 0,iV 0,.bool false],s_ 5 12 4]
def c60_r5:List Bt:=[m_ 13 3,f_ 14 5 0,l_ 15 14 1,⟨some 16,.mkS 1 [iV 0] 1 [(0,.t 15)],none⟩,⟨some 17,.app 1 8 (.t 13) (.t 16),none⟩,m_ 3 17]
def c60_r6:=[B_ .add 18 9 1,m_ 9 18]
def c60_l0:IR:=(sr c60_r3 (.seq (.ite (.t 10) .skip (.exit 0)) (.seq (.block 1 (sr c60_r4 (.reg c60_r5))) (.reg c60_r6))))
def c60_r7:=[m_ 19 3,m_ 2 19]
def c60:Dp:=⟨1,20,[.t 2],sr c60_r0 (sr c60_r1 (.seq (sr c60_r2 (Ju 0 c60_l0)) (rr c60_r7)))⟩
def K60 (D:Bh):Prop:=∀a0 r,g60 a0=some r→D 60 ⟨[.agg (Bd a0)],[]⟩ ⟨oI 0 r,[],[]⟩
theorem F60:K60 (FO C c60):=by
 intro a0 r h0
 refine f0 (Ay 8 [(1,.ptr 64 0),(3,.own 192 0 1 ([].map eI))] [(64,Bd a0)] (Bc 4 (An (Sn rfl (o_ (Ay 2 [(3,.own 192 0 1 ([].map eI)),(7,Ck a0.Ae),(8,iV (a0.Ae.length:Int)),(9,iV 0)] [] (Cg (bb h0 fun r18 e19 h0=>Cz (R:=(fun S=>∃p13:List Int,p13=r18∧S=⟨[(3,oI 192 p13)],[],[]⟩)) (Nf a0) (fun s S=>match s with | (p5,p6)=>S=⟨[(3,oI 192 p5),(7,Ck a0.Ae),(8,iV (a0.Ae.length:Int)),(9,iV p6)],[],[]⟩) e19 _ (Ez (by kernel_rfl)) rfl 0 (fun _=>rfl) ?_ ?_))))))))
 ·rintro S _ hfg ⟨p13,rfl,rfl⟩
  refine Dn _ hfg ?_
  obtain rfl:=sj h0
  exact Dd 5
 ·rintro ⟨p5,p6⟩ o1 _ K1 rfl h1 hx1 hK1 hE1 hR1
  refine Ay 3 [(3,oI 192 p5),(7,Ck a0.Ae),(8,iV (a0.Ae.length:Int)),(9,iV p6),(10,.bool (decide (p6<(a0.Ae.length:Int))))] [] (Bj (Ct h1 (fun c14 h1=>?_) (fun c14 h1=>?_)))
  ·refine Mx 5 (An (bb h1 fun y15 e16 h1=>Vv rfl rfl e16 (o_ (Ay 4 [(3,oI 192 p5),(5,.ptr 320 0),(7,Ck a0.Ae),(8,iV (a0.Ae.length:Int)),(9,iV p6)] [(320,Ac y15)] (Bc 4 (An (gg h1 fun c17 h1=>st (Ja (e:=eI) (l0:=p5) (l1:=([y15.id]:List Int)) rfl rfl tv rfl (by decide) c17 (o_ (Ay 3 [(3,oI 192 (p5++([y15.id]:List Int))),(7,Ck a0.Ae),(8,iV (a0.Ae.length:Int)),(9,iV p6)] [] (Bc 3 ?_)))))))))))
   obtain rfl:=sj h1
   exact kn hK1 rfl rfl
  ·obtain rfl:=sj h1
   obtain rfl:=hx1 _ rfl
   refine Jv rfl ?_
   exact jn hE1 ⟨_,rfl,rfl⟩

/- slices.IndexFunc[[]loop.example/g00149/impl.Lease,loop.example/g00149/impl.Lease] -/
def GM:=[i_ 4 0]
def GN:=[m_ 6 0,n_ 7 6,i_ 8 0]
def GO:=[b_ .lss 9 8 7]
def GP:=[m_ 10 8,m_ 5 10]
def GQ:List Bt:=[m_ 11 1,m_ 12 0,m_ 13 5,x_ 14 12 13 4,L_ 15 14 4,⟨some 16,.callv (.t 11) [.t 15],none⟩]
def GR:=[m_ 17 5,m_ 4 17]
def GS:=[B_ .add 18 8 1,m_ 8 18]
def GL:IR:=(sr GO (.seq (.ite (.t 9) .skip (.exit 0)) (.seq (.block 1 (sr GP (sr GQ (iz 16 (rr GR))))) (.reg GS))))
def GT:=[i_ 4 (-1)]
def GK:Dp:=⟨2,19,[.t 4],sr GM (.seq (sr GN (Ju 0 GL)) (rr GT))⟩
def K108 (C:Bh) (D:Bh:=C):Prop:=∀(a0:List Aa) (f1:Nat) (k1:List V) (is1:Aa→Option Bool) (hs1:Iu k1) (hf1:∀(x0:Aa) r,is1 x0=some r→C f1 ⟨.agg (Ac x0)::k1,[]⟩ ⟨.bool r,[],[]⟩) (r:Int),AA a0 is1=some r→D 108 ⟨[Ck a0,.clo f1 k1],[]⟩ ⟨iV r,[],[]⟩
theorem F108:K108 C (FO C GK):=by
 intro a0 f1 k1 is1 hs1 hf1 r h0
 refine f0 (Ay 3 [(0,Ck a0),(1,.clo f1 k1)] [] (Bc 3 (An (Sn rfl (o_ (Ay 2 [(0,Ck a0),(1,.clo f1 k1),(7,iV (a0.length:Int)),(8,iV 0)] [] (Cg (bb h0 fun r21 e22 h0=>Cz (R:=(fun S=>.inl ()=r21∧S=⟨[],[],[]⟩)) (Qj a0 is1) (fun s S=>match s with | p7=>S=⟨[(0,Ck a0),(1,.clo f1 k1),(7,iV (a0.length:Int)),(8,iV p7)],[],[]⟩) e22 _ (Ez (by kernel_rfl)) rfl 0 (fun _=>rfl) ?_ ?_))))))))
 ·rintro S _ hfg ⟨rfl,rfl⟩
  refine Dn _ hfg ?_
  obtain rfl:=sj h0
  exact Dd 4
 ·rintro p7 o1 _ K1 rfl h1 hx1 hK1 hE1 hR1
  refine Ay 3 [(0,Ck a0),(1,.clo f1 k1),(7,iV (a0.length:Int)),(8,iV p7),(9,.bool (decide (p7<(a0.length:Int))))] [] (Bj (Ct h1 (fun c15 h1=>?_) (fun c15 h1=>?_)))
  ·refine Ay 8 [(0,Ck a0),(1,.clo f1 k1),(5,iV p7),(7,iV (a0.length:Int)),(8,iV p7)] [] (Bc 4 (An (bb h1 fun y16 e17 h1=>Vv rfl rfl e17 (st (c_ (v:=.agg (Ac y16)) (Bb ⟨tv,tv⟩ rfl (nl rfl)) (bb h1 fun r18 e19 h1=>st (Gy (r:=.bool r18) rfl false (hf1 _ r18 e19) ⟨tv,tv⟩ (Bi rfl hs1.2.2.1) (Av rfl (hs1.2.1 _ _ _ _ _)) (fun _=>rfl) (o_ (Ay 1 [(0,Ck a0),(1,.clo f1 k1),(5,iV p7),(7,iV (a0.length:Int)),(8,iV p7),(16,.bool r18)] [] (Ct h1 (fun EC h1=>?_) (fun EC h1=>?_)))))))))))
   ·obtain rfl:=sj h1
    obtain rfl:=hx1 _ rfl
    obtain rfl:=sj h0
    exact rX 5 hR1
   ·refine Bc 6 ?_
    obtain rfl:=sj h1
    exact kn hK1 rfl rfl
  ·obtain rfl:=sj h1
   obtain rfl:=hx1 _ rfl
   refine Jv rfl ?_
   exact jn hE1 ⟨rfl,rfl⟩

/- slices.ContainsFunc[[]loop.example/g00149/impl.Lease,loop.example/g00149/impl.Lease] -/
def GG:=[k_ 4 (.bool false)]
def GH:=[m_ 5 0,m_ 6 1,q_ 7 108 [.t 5,.t 6],B_ .geq 8 7 0,m_ 4 8]
def c105:Dp:=⟨2,9,[.t 4],sr GG (rr GH)⟩
def K105 (C:Bh) (D:Bh:=C):Prop:=∀(a0:List Aa) (f1:Nat) (k1:List V) (is1:Aa→Option Bool) (hs1:Iu k1) (hf1:∀(x0:Aa) r,is1 x0=some r→C f1 ⟨.agg (Ac x0)::k1,[]⟩ ⟨.bool r,[],[]⟩) (r:Bool),g105 a0 is1=some r→D 105 ⟨[Ck a0,.clo f1 k1],[]⟩ ⟨.bool r,[],[]⟩
theorem F105 (H108:K108 C):K105 C (FO C c105):=by
 intro a0 f1 k1 is1 hs1 hf1 r h0
 refine f0 (Ay 3 [(0,Ck a0),(1,.clo f1 k1)] [] (Bc 3 (An (bb h0 fun r1 e2 h0=>st (Dj (r:=iV r1) false (H108 a0 f1 k1 is1 hs1 hf1 r1 e2) ⟨tv,tv,tv⟩ rfl (Av rfl (Av (Eo hs1) rfl)) (fun _=>rfl) (o_ ?_))))))
 obtain rfl:=sj h0
 exact Dd 4

/- loop.example/g00149/impl.areAll[loop.example/g00149/impl.Lease]$1 -/
def GI:=[X_ 2 0,k_ 3 (.bool false)]
def GJ:List Bt:=[l_ 4 1 1,L_ 5 2 4,⟨some 6,.callv (.t 4) [.t 5],none⟩,N_ 7 6,m_ 3 7]
def c106:Dp:=⟨2,8,[.t 3],sr GI (rr GJ)⟩
def K106 (C:Bh) (D:Bh:=C):Prop:=∀(a0:Aa) (f1:Nat) (k1:List V) (is1:Aa→Option Bool) (hs1:Iu k1) (hf1:∀(x0:Aa) r,is1 x0=some r→C f1 ⟨.agg (Ac x0)::k1,[]⟩ ⟨.bool r,[],[]⟩) (r:Bool),zZ a0 is1=some r→D 106 ⟨[.agg (Ac a0),.iptr [.clo f1 k1]],[]⟩ ⟨.bool r,[],[]⟩
theorem F106:K106 C (FO C c106):=by
 intro a0 f1 k1 is1 hs1 hf1 r h0
 refine f0 (Ay 4 [(1,.iptr [.clo f1 k1]),(2,.ptr 128 0)] [(128,Ac a0)] (Bc 3 (An (bb h0 fun r1 e2 h0=>st (Gy (r:=.bool r1) rfl false (hf1 _ r1 e2) ⟨tv,tv⟩ (Bi rfl hs1.2.2.1) (Av rfl (hs1.2.1 _ _ _ _ _)) (fun _=>rfl) (o_ ?_))))))
 obtain rfl:=sj h0
 exact Dd 4

/- loop.example/g00149/impl.areAll[loop.example/g00149/impl.Lease] -/
def c61_r0:=[X_ 3 1,k_ 4 (.bool false)]
def c61_r1:=[m_ 5 0,iQ 6 (.fn 106 [.t 3]),q_ 7 105 [.t 5,.t 6],N_ 8 7,m_ 4 8]
def c61:Dp:=⟨2,9,[.t 4],sr c61_r0 (rr c61_r1)⟩
def K61 (C:Bh) (D:Bh:=C):Prop:=∀(a0:List Aa) (f1:Nat) (k1:List V) (is1:Aa→Option Bool) (hs1:Iu k1) (hf1:∀(x0:Aa) r,is1 x0=some r→C f1 ⟨.agg (Ac x0)::k1,[]⟩ ⟨.bool r,[],[]⟩) (r:Bool),g61 a0 is1=some r→D 61 ⟨[Ck a0,.clo f1 k1],[]⟩ ⟨.bool r,[],[]⟩
theorem F61 (H105:K105 C) (H106:K106 C):K61 C (FO C c61):=by
 intro a0 f1 k1 is1 hs1 hf1 r h0
 refine f0 (Bj (An (st (box_ (iD hs1) tv rfl (o_ (Ay 2 [(0,Ck a0),(3,.ptr 192 0)] [(192,[.clo f1 k1])] (Bc 3 (An (bb h0 fun r1 e2 h0=>st (Dj (r:=.bool r1) false (H105 a0 106 [.iptr [.clo f1 k1]] (fun z106_0=>zZ z106_0 is1) (⟨fun _ _ _ _ _=>rfl,fun _ _ _ _ _=>rfl,rfl,fun _ _ _ n=>by cases n<;>rfl,fun _=>rfl⟩) (fun z106_0 r h=>H106 z106_0 f1 k1 is1 hs1 hf1 r h) r1 e2) ⟨tv,tv,tv⟩ rfl (Av rfl (Av (congrArg (fun z=>V.clo 106 [.iptr [.clo f1 z]]) (hs1.2.2.2.1 _ _ _ _)) rfl)) (fun _=>rfl) (o_ ?_)))))))))))
 obtain rfl:=sj h0
 exact Dd 4

/- loop.example/g00149/impl.TableOK$1 -/
def c62_r0:=[X_ 2 0,k_ 3 (.bool false)]
def c62_r1:List Bt:=[f_ 4 2 1,l_ 5 4 1,f_ 6 2 2,l_ 7 6 1,q_ 8 63 [.t 5,.c (iV 0),.t 7],m_ 9 8,fT 9 10 2 3,lT 9 11 10 1 false,mT 9 12 11,fF 12 13 2 1,lF 12 14 13 1 false,fF 12 15 1 0,lF 12 16 15 1 false,pF 12 17 (.bin .gtr (.t 14) (.t 16)),⟨some 18,.pick (.t 12) (.c (.bool true)) (.t 17),some (9,true)⟩,pa 19 9 18,m_ 3 19]
def c62:Dp:=⟨2,20,[.t 3],sr c62_r0 (rr c62_r1)⟩
def K62 (D:Bh):Prop:=∀a0 a1 r,g62 a0 a1=some r→D 62 ⟨[.agg (Ac a0),.iptr (Bd a1)],[]⟩ ⟨.bool r,[],[]⟩
theorem F62 (H63:K63 C):K62 (FO C c62):=by
 intro a0 a1 r h0
 refine f0 (Ay 4 [(1,.iptr (Bd a1)),(2,.ptr 128 0)] [(128,Ac a0)] (Bc 5 (An (bb h0 fun r1 e2 h0=>Vf (H63 a0.Bm 0 a0.cap r1 e2) (o_ (cX 9 (An (st (aV (u:=.bool (bif a0.Cj then true else (decide (a0.Bm>a1.clock)))) rfl (fun hg=>iA rfl rfl (fun _=>hg) rfl rfl tv (fun h=>Bi hg (eqf h)) rfl) (o_ (cX 3 (bv h0 fun v3 e4 h0=>Dn ⟨[(3,.bool v3)],[],[]⟩ (Ez (by subst e4; kernel_rfl)) ?_))))))))))))
 obtain rfl:=sj h0
 exact Lf (Eg rfl rfl rfl rfl rfl tv)
end Go.Ev
