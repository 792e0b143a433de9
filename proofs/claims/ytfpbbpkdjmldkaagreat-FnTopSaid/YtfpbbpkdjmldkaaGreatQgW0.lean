/- The walks of functions: the code comes to the answers that QgD tells. Written by a program of ours. -/
import Derived.Test.YtfpbbpkdjmldkaaGreatQgD
set_option linter.all false
set_option maxHeartbeats 4000000
set_option linter.unusedVariables false
set_option maxRecDepth 100000
namespace Go.Ev
variable {C:Ba}
theorem sj {α:Type} {a b:α} (h:some a=some b):a=b:=Option.some.inj h
abbrev wi:Int→Int:=IntKind.i64.wrap
theorem tv:True:=True.intro
abbrev iQ (n:Nat) (o:PU):Bj:=⟨some n,.p o,none⟩
abbrev iV (n:Int):V:=.int .i64 n
theorem nl {a b:Nat} (h:Nat.ble a b=true):a≤b:=Nat.le_of_ble_eq_true h
theorem t3:True∧True∧True:=⟨trivial,trivial,trivial⟩
abbrev m_ (d s:Nat):Bj:=⟨some d,.p (.mv (.t s)),none⟩
abbrev k_ (d:Nat) (v:V):Bj:=⟨some d,.p (.mv (.c v)),none⟩
abbrev i_ (d:Nat) (n:Int):Bj:=⟨some d,.p (.mv (.c (.int .i64 n))),none⟩
abbrev f_ (d x o:Nat):Bj:=⟨some d,.p (.fieldA (.t x) o),none⟩
abbrev l_ (d x n:Nat):Bj:=⟨some d,.p (.load (.t x) n false),none⟩
abbrev L_ (d x n:Nat):Bj:=⟨some d,.p (.load (.t x) n true),none⟩
abbrev x_ (d x y n:Nat):Bj:=⟨some d,.p (.idxA (.t x) (.t y) n),none⟩
abbrev e_ (d x n:Nat):Bj:=⟨some d,.p (.ext (.t x) n),none⟩
abbrev b_ (o:BinOp) (d x y:Nat):Bj:=⟨some d,.p (.bin o (.t x) (.t y)),none⟩
abbrev B_ (o:BinOp) (d x:Nat) (n:Int):Bj:=⟨some d,.p (.bin o (.t x) (.c (.int .i64 n))),none⟩
abbrev n_ (d x:Nat):Bj:=⟨some d,.p (.len (.t x)),none⟩
abbrev N_ (d x:Nat):Bj:=⟨some d,.p (.un .not (.t x)),none⟩
abbrev s_ (x y n:Nat):Bj:=⟨none,.store (.t x) (.t y) n,none⟩
abbrev a_ (d:Nat) (z:List V):Bj:=⟨some d,.alloc z,none⟩
abbrev X_ (d x:Nat):Bj:=⟨some d,.box (.t x),none⟩
abbrev q_ (d f:Nat) (l:List Cu):Bj:=⟨some d,.call f l,none⟩
abbrev pk (d:Nat) (a b c:Cu):Bj:=⟨some d,.pick a b c,none⟩
abbrev pT (g d:Nat) (o:PU):Bj:=⟨some d,.p o,some (g,true)⟩
abbrev pF (g d:Nat) (o:PU):Bj:=⟨some d,.p o,some (g,false)⟩
abbrev zV (a b c:Nat):List V:=[.int .i64 0,.int .i64 0,.own a 0 4 [],.own b 0 2 [],.own c 0 1 [],.bool false]
abbrev zT (a:Nat):List V:=[.int .i64 0,.int .i64 0,.own a 0 4 []]
abbrev mT (g d s:Nat):Bj:=⟨some d,.p (.mv (.t s)),some (g,true)⟩
abbrev mF (g d s:Nat):Bj:=⟨some d,.p (.mv (.t s)),some (g,false)⟩
abbrev lT (g d x n:Nat) (a:Bool):Bj:=⟨some d,.p (.load (.t x) n a),some (g,true)⟩
abbrev lF (g d x n:Nat) (a:Bool):Bj:=⟨some d,.p (.load (.t x) n a),some (g,false)⟩
abbrev fT (g d x n:Nat):Bj:=⟨some d,.p (.fieldA (.t x) n),some (g,true)⟩
abbrev fF (g d x n:Nat):Bj:=⟨some d,.p (.fieldA (.t x) n),some (g,false)⟩
abbrev xT (g d x y n:Nat):Bj:=⟨some d,.p (.idxA (.t x) (.t y) n),some (g,true)⟩
abbrev xF (g d x y n:Nat):Bj:=⟨some d,.p (.idxA (.t x) (.t y) n),some (g,false)⟩
abbrev pa (d a b:Nat):Bj:=⟨some d,.pick (.t a) (.t b) (.c (.bool false)),none⟩
abbrev po (d a b:Nat):Bj:=⟨some d,.pick (.t a) (.c (.bool true)) (.t b),none⟩
abbrev sr (l:List Bj) (b:IR):IR:=.seq (.reg l) b
abbrev sd (p:DP) (b:IR):IR:=.seq (.draw p) b
abbrev rr (l:List Bj):IR:=.seq (.reg l) .ret
abbrev iz (n:Nat) (a:IR):IR:=.ite (.t n) a .skip
abbrev Jc (n:Nat) (a:IR):IR:=.block n (.loop a)
def tk:List Bj→DP→DP
  | [],p=>p
  | i::l,p=>.take i (tk l p)
abbrev FO (C:Ba) (c:De):Ba:=fun _=>pB C c
theorem f0 {C:Ba} {fn:De} {args:List V} {bx:List (List V)} {t:Gs} (h:WL C [.c fn.body] (FQ fn.res bx.length t) .normal ⟨Qn args 0,Qo bx Di,[]⟩) (h0:Nat.ble args.length fn.nt=true:=by kernel_rfl):pB C fn ⟨args,bx⟩ t:=fn_ (Nat.le_of_ble_eq_true h0) h
abbrev Al (t k:Nat) (l:List (List V)):V:=.own t 0 k l
abbrev u_ (k:Nat) (l:List (List V)):V:=.lst k l
abbrev lB (l:List Bool):V:=.lst 1 (l.map eB)
abbrev Co (l:List Ar):V:=.lst 3 (l.map Dn)
abbrev Cj (l:List Ad):V:=.lst 2 (l.map Cd)
abbrev Dh (l:List Af):V:=.lst 4 (l.map Bg)
abbrev Cy (l:List Bd):V:=.lst 2 (l.map Cn)
abbrev Cr (l:List Aw):V:=.lst 2 (l.map Du)
abbrev Ca (l:List Aj):V:=.lst 7 (l.map Ao)
abbrev lI (l:List Int):V:=.lst 1 (l.map eI)
abbrev Eb (l:List UInt8):V:=.lst 1 (l.map Gh)
abbrev oB (t:Nat) (l:List Bool):V:=.own t 0 1 (l.map eB)
abbrev Jp (t:Nat) (l:List Ar):V:=.own t 0 3 (l.map Dn)
abbrev Cf (t:Nat) (l:List Ad):V:=.own t 0 2 (l.map Cd)
abbrev Bu (t:Nat) (l:List Af):V:=.own t 0 4 (l.map Bg)
abbrev Be (t:Nat) (l:List Bd):V:=.own t 0 2 (l.map Cn)
abbrev Bo (t:Nat) (l:List Aw):V:=.own t 0 2 (l.map Du)
abbrev Fi (t:Nat) (l:List Aj):V:=.own t 0 7 (l.map Ao)
abbrev Ct (t:Nat) (l:List Am):V:=.own t 0 2 (l.map Bp)
abbrev oI (t:Nat) (l:List Int):V:=.own t 0 1 (l.map eI)
abbrev Eo (t:Nat) (l:List UInt8):V:=.own t 0 1 (l.map Gh)
abbrev jA (x0:Int) (x1:Int) (x2:Int) (x3:Bool):List V:=[iV x0,iV x1,iV x2,.bool x3]
abbrev Bt (x0:Int) (x1:Int) (w2:Nat→List (List V)→V) (x2:List Af):List V:=[iV x0,iV x1,w2 4 (x2.map Bg)]
abbrev Db (x:Ak) (w2:Nat→List (List V)→V):List V:=[iV x.clock,iV x.next,w2 4 (x.Ac.map Bg)]
abbrev Ap (x0:Int) (x1:Int) (w2:Nat→List (List V)→V) (x2:List Af) (w3:Nat→List (List V)→V) (x3:List Ad) (w4:Nat→List (List V)→V) (x4:List Int) (x5:Bool):List V:=[iV x0,iV x1,w2 4 (x2.map Bg),w3 2 (x3.map Cd),w4 1 (x4.map eI),.bool x5]
abbrev Bi (x:Ag) (w2:Nat→List (List V)→V) (w3:Nat→List (List V)→V) (w4:Nat→List (List V)→V):List V:=[iV x.Ab.clock,iV x.Ab.next,w2 4 (x.Ab.Ac.map Bg),w3 2 (x.Aa.map Cd),w4 1 (x.Ae.map eI),.bool x.Ai]
abbrev Ck (x0:Int) (x1:Int) (x2:Int) (x3:Int) (x4:Int) (w5:Nat→List (List V)→V) (x5:List Int) (x6:Int):List V:=[iV x0,iV x1,iV x2,iV x3,iV x4,w5 1 (x5.map eI),iV x6]
abbrev dP (x:Aj) (w5:Nat→List (List V)→V):List V:=[iV x.kind,iV x.id,iV x.ttl,iV x.Fd,iV x.clock,w5 1 (x.Cp.map eI),iV x.stop]
abbrev Eu (w0:Nat→List (List V)→V) (x0:List UInt8) (x1:Int) (x2:Int):List V:=[w0 1 (x0.map Gh),iV x1,iV x2]
abbrev By (x:Ay) (w0:Nat→List (List V)→V) (w1:Nat→List (List V)→V):List V:=[w0 1 (x.held.map Gh),w1 2 (x.Av.map Du)]
abbrev Ie (x0:List UInt8) (x1:List UInt8) (x2:Bool):List V:=[.str x0,.str x1,.bool x2]
abbrev Dl (x0:Int) (x1:Int) (w2:Nat→List (List V)→V) (x2:List Af) (w3:Nat→List (List V)→V) (x3:List Ad) (w4:Nat→List (List V)→V) (x4:List Int) (x5:Bool) (x6:Int) (x7:Int) (x8:Int) (x9:Int) (x10:Int) (w11:Nat→List (List V)→V) (x11:List Int) (x12:Int) (x13:Int):List V:=[iV x0,iV x1,w2 4 (x2.map Bg),w3 2 (x3.map Cd),w4 1 (x4.map eI),.bool x5,iV x6,iV x7,iV x8,iV x9,iV x10,w11 1 (x11.map eI),iV x12,iV x13]
abbrev Hn (x:Dp) (w2:Nat→List (List V)→V) (w3:Nat→List (List V)→V) (w4:Nat→List (List V)→V) (w11:Nat→List (List V)→V):List V:=[iV x.v.Ab.clock,iV x.v.Ab.next,w2 4 (x.v.Ab.Ac.map Bg),w3 2 (x.v.Aa.map Cd),w4 1 (x.v.Ae.map eI),.bool x.v.Ai,iV x.a.kind,iV x.a.id,iV x.a.ttl,iV x.a.Fd,iV x.a.clock,w11 1 (x.a.Cp.map eI),iV x.a.stop,iV x.Hl]

/- loop.example/g00149/spec.l01In -/
def c56_r0:=[k_ 6 (.bool false)]
def c56_r1:=[m_ 7 0,m_ 8 1,b_ .geq 9 7 8,m_ 10 9,mT 10 11 0,mT 10 12 2,pT 10 13 (.bin .leq (.t 11) (.t 12)),pa 14 10 13,m_ 6 14]
def c56:De:=⟨3,15,[.t 6],sr c56_r0 (rr c56_r1)⟩
def K56 (D:Ba):Prop:=∀a0 a1 a2 r,g56 a0 a1 a2=some r→D 56 ⟨[iV a0,iV a1,iV a2],[]⟩ ⟨.bool r,[],[]⟩
theorem F56:K56 (FO C c56):=by
 intro a0 a1 a2 r h0
 refine f0 (As 3 [(0,iV a0),(1,iV a1),(2,iV a2)] [] (Hj 9 (Ah (o_ ?_))))
 obtain rfl:=sj h0
 exact Cs 3

/- loop.example/g00149/spec.l09Act -/
def OJ:=[X_ 1 0,k_ 2 (.bool false)]
def OK:List Bj:=[f_ 4 1 5,l_ 5 4 1,n_ 6 5,B_ .gtr 7 6 4096,m_ 8 7,fF 8 9 1 6,lF 8 10 9 1 false,⟨some 11,.call 56 [.t 10,.c (iV 0),.c (iV 2)],some (8,false)⟩,pF 8 12 (.un .not (.t 11)),po 13 8 12]
def OM:=[k_ 2 (.bool false)]
def ON:=[i_ 3 0]
def OO:=[m_ 14 3,f_ 15 1 5,l_ 16 15 1,n_ 17 16,b_ .lss 18 14 17]
def OP:=[f_ 21 1 5,l_ 22 21 1,m_ 23 3,x_ 24 22 23 1,l_ 25 24 1,q_ 26 56 [.t 25,.c (iV 0),.c (iV 2)],N_ 27 26]
def OQ:=[k_ 2 (.bool false)]
def OR:=[m_ 19 3,B_ .add 20 19 1,m_ 3 20]
def OI:IR:=(.seq (sr OO (.ite (.t 18) .skip (.exit 0))) (.seq (.block 1 (sr OP (iz 27 (rr OQ)))) (.reg OR)))
def OS:=[k_ 2 (.bool true)]
def c100:De:=⟨1,28,[.t 2],sr OJ (.seq (sr OK (iz 13 (rr OM))) (.seq (sr ON (Jc 0 OI)) (rr OS)))⟩
def K100 (D:Ba):Prop:=∀a0 r,AkL a0=some r→D 100 ⟨[.agg (Ao a0)],[]⟩ ⟨.bool r,[],[]⟩
theorem F100 (H56:K56 C):K100 (FO C c100):=by
 intro a0 r h0
 refine f0 (As 4 [(1,.ptr 64 0)] [(64,Ao a0)] (At 4 (Ah (Hf rfl (o_ (Hj 4 (Ah (bb h0 fun r1 e2 h0=>st (En (r:=.bool r1) rfl false (fun hg=>H56 a0.stop 0 2 r1 (ip hg e2)) ⟨(fun hg=>hg),tv,tv,tv⟩ (fun _=>rfl) (fun _=>rfl) (fun _=>rfl) (fun h=>nomatch h) (o_ (uE 3 [(1,.ptr 64 0),(13,.bool (bif (decide ((a0.Cp.length:Int)>4096)) then true else (!r1)))] [(64,Ao a0)] (Cw h0 (fun c3 h0=>?_) (fun c3 h0=>?_)))))))))))))
 ·obtain rfl:=sj h0
  exact Cs 4
 ·refine As 6 [(1,.ptr 64 0),(3,iV 0)] [(64,Ao a0)] (Ci (bb h0 fun r24 e25 h0=>Df (R:=(fun S=>.inl ()=r24∧S=⟨[],[],[]⟩)) (Sg a0) (fun s S=>match s with | p10=>S=⟨[(1,.ptr 64 0),(3,iV p10)],[(64,Ao a0)],[]⟩) e25 _ (Er (by kernel_rfl)) rfl 0 (fun _=>rfl) ?_ ?_))
  ·rintro S _ hfg ⟨rfl,rfl⟩
   refine Dy _ hfg ?_
   obtain rfl:=sj h0
   exact Cs 4
  ·rintro p10 o1 _ K1 rfl h1 hx1 hK1 hE1 hR1
   refine At 5 (Ah (Hf rfl (o_ (As 2 [(1,.ptr 64 0),(3,iV p10),(18,.bool (decide (p10<(a0.Cp.length:Int))))] [(64,Ao a0)] (Cw h1 (fun c18 h1=>?_) (fun c18 h1=>?_))))))
   ·refine At 8 (Ah (bb h1 fun y19 e20 h1=>Ns rfl rfl e20 (st (c_ (Bw ⟨tv,tv⟩ rfl (nl rfl)) (bb h1 fun r21 e22 h1=>Il (H56 y19 0 2 r21 e22) (o_ (As 2 [(1,.ptr 64 0),(3,iV p10),(27,.bool (!r21))] [(64,Ao a0)] (Cw h1 (fun c23 h1=>?_) (fun c23 h1=>?_)))))))))
    ·obtain rfl:=sj h1
     obtain rfl:=hx1 _ rfl
     obtain rfl:=sj h0
     exact Yy 4 hR1
    ·refine At 7 ?_
     obtain rfl:=sj h1
     exact kn hK1 rfl rfl
   ·obtain rfl:=sj h1
    obtain rfl:=hx1 _ rfl
    refine Iw rfl ?_
    exact jn hE1 ⟨rfl,rfl⟩

/- loop.example/g00149/spec.l08Find -/
def c92_r0:=[X_ 2 0,i_ 4 0]
def c92_r1:=[i_ 5 0]
def c92_r2:=[m_ 6 5,f_ 7 2 2,l_ 8 7 1,n_ 9 8,b_ .lss 10 6 9]
def c92_r3:=[f_ 13 2 2,l_ 14 13 1,m_ 15 5,x_ 16 14 15 4,f_ 17 16 0,l_ 18 17 1,m_ 19 1,b_ .eql 20 18 19]
def c92_r4:=[m_ 21 5,m_ 4 21]
def c92_r5:=[m_ 11 5,B_ .add 12 11 1,m_ 5 12]
def c92_l0:IR:=(.seq (sr c92_r2 (.ite (.t 10) .skip (.exit 0))) (.seq (.block 1 (sr c92_r3 (iz 20 (rr c92_r4)))) (.reg c92_r5)))
def c92_r6:=[i_ 4 (-1)]
def c92:De:=⟨2,22,[.t 4],sr c92_r0 (.seq (sr c92_r1 (Jc 0 c92_l0)) (rr c92_r6))⟩
def K92 (D:Ba):Prop:=∀a0 a1 r,g92 a0 a1=some r→D 92 ⟨[.agg (Bh a0),iV a1],[]⟩ ⟨iV r,[],[]⟩
theorem F92:K92 (FO C c92):=by
 intro a0 a1 r h0
 refine f0 (As 9 [(1,iV a1),(2,.ptr 128 0),(5,iV 0)] [(128,Bh a0)] (Ci (bb h0 fun r15 e16 h0=>Df (R:=(fun S=>.inl ()=r15∧S=⟨[],[],[]⟩)) (jZ a0 a1) (fun s S=>match s with | p5=>S=⟨[(1,iV a1),(2,.ptr 128 0),(5,iV p5)],[(128,Bh a0)],[]⟩) e16 _ (Er (by kernel_rfl)) rfl 0 (fun _=>rfl) ?_ ?_)))
 ·rintro S _ hfg ⟨rfl,rfl⟩
  refine Dy _ hfg ?_
  obtain rfl:=sj h0
  exact Cs 4
 ·rintro p5 o1 _ K1 rfl h1 hx1 hK1 hE1 hR1
  refine At 5 (Ah (Hf rfl (o_ (As 2 [(1,iV a1),(2,.ptr 128 0),(5,iV p5),(10,.bool (decide (p5<(a0.Ac.length:Int))))] [(128,Bh a0)] (Cw h1 (fun c11 h1=>?_) (fun c11 h1=>?_))))))
  ·refine At 8 (Ah (bb h1 fun y12 e13 h1=>Ns rfl rfl e13 (o_ (As 5 [(1,iV a1),(2,.ptr 128 0),(5,iV p5),(20,.bool (y12.id==a1))] [(128,Bh a0)] (Cw h1 (fun c14 h1=>?_) (fun c14 h1=>?_))))))
   ·obtain rfl:=sj h1
    obtain rfl:=hx1 _ rfl
    obtain rfl:=sj h0
    exact Yy 5 hR1
   ·refine At 7 ?_
    obtain rfl:=sj h1
    exact kn hK1 rfl rfl
  ·obtain rfl:=sj h1
   obtain rfl:=hx1 _ rfl
   refine Iw rfl ?_
   exact jn hE1 ⟨rfl,rfl⟩

/- loop.example/g00149/spec.l08Copy -/
def RH:=[X_ 1 0,a_ 2 (zT 131)]
def RI:List Bj:=[⟨some 3,.mkS 4 [iV 0,iV 0,iV 0,.bool false] 0 [],none⟩,f_ 4 1 2,l_ 5 4 1,⟨some 6,.app 4 32 (.t 3) (.t 5),none⟩,f_ 7 1 2,s_ 7 6 1]
def RJ:=[L_ 8 1 3,s_ 2 8 3]
def c111:De:=⟨1,9,[.cell 2 3 true],sr RH (sr RI (rr RJ))⟩
def pD (D:Ba):Prop:=∀a0 r,mN a0=some r→D 111 ⟨[.agg (Bh a0)],[]⟩ ⟨.agg (Db r (Al 0)),[],[]⟩
theorem F111:pD (FO C c111):=by
 intro a0 r h0
 refine f0 (As 4 [(1,.ptr 64 0),(2,.ptr 128 0)] [(64,Bh a0),(128,Bt 0 0 (Al 131) [])] (At 4 (Ah (gg h0 fun c1 h0=>st (Fp (e:=Bg) (l0:=([]:List Af)) (l1:=a0.Ac) rfl rfl tv rfl (by decide) c1 (o_ ?_))))))
 obtain rfl:=sj h0
 exact Cs 9

/- loop.example/g00149/spec.l08Revoke -/
def c74_r0:=[X_ 2 0,a_ 4 (zT 259),i_ 5 0]
def c74_r1:=[L_ 8 2 3,m_ 9 1,q_ 10 92 [.t 8,.t 9],m_ 6 10]
def c74_r2:=[m_ 11 6,B_ .lss 12 11 0]
def c74_r3:=[L_ 13 2 3,s_ 4 13 3,i_ 5 5]
def c74_r4:=[L_ 14 2 3,q_ 15 111 [.t 14],a_ 7 (zT 451),s_ 7 15 3]
def c74_r5:List Bj:=[f_ 16 7 2,l_ 17 16 1,m_ 18 6,x_ 19 17 18 4,f_ 20 19 3,⟨none,.store (.t 20) (.c (.bool true)) 1,none⟩]
def c74_r6:=[L_ 21 7 3,s_ 4 21 3,i_ 5 0]
def c74:De:=⟨2,22,[.cell 4 3 true,.t 5],sr c74_r0 (sr c74_r1 (.seq (sr c74_r2 (iz 12 (rr c74_r3))) (sr c74_r4 (sr c74_r5 (rr c74_r6)))))⟩
def K74 (D:Ba):Prop:=∀a0 a1 r,g74 a0 a1=some r→D 74 ⟨[.agg (Bh a0),iV a1],[]⟩ ⟨.tup [.agg (Bh r.1),iV r.2],[],[]⟩
theorem F74 (H92:K92 C) (H111:pD C):K74 (FO C c74):=by
 intro a0 a1 r h0
 refine f0 (As 5 [(1,iV a1),(2,.ptr 128 0),(4,.ptr 256 0)] [(128,Bh a0),(256,Bt 0 0 (Al 259) [])] (At 3 (Ah (bb h0 fun r1 e2 h0=>Il (H92 a0 a1 r1 e2) (o_ (As 8 [(2,.ptr 128 0),(4,.ptr 256 0),(6,iV r1),(12,.bool (decide (r1<0)))] [(128,Bh a0),(256,Bt 0 0 (Al 259) [])] (Cw h0 (fun c3 h0=>?_) (fun c3 h0=>?_))))))))
 ·obtain rfl:=sj h0
  exact Cs 6
 ·refine At 4 (Ah (bb h0 fun r4 e5 h0=>Ji (H111 a0 r4 e5) (ar (Bq rfl (af rfl))) (o_ (As 3 [(4,.ptr 256 0),(6,iV r1),(7,.ptr 448 0)] [(256,Bt 0 0 (Al 259) []),(448,Db r4 (Al 960))] (At 4 (Ah (bb h0 fun y6 e7 h0=>iO rfl rfl e7 (st (c_ (Bw ⟨tv,tv⟩ rfl tv) (bb h0 fun y8 e9 h0=>NJ (Af.mk y8.id y8.Bn y8.cap true) rfl rfl e9 (o_ ?_)))))))))))
  obtain rfl:=sj h0
  exact Cs 8 [960]

/- loop.example/g00149/spec.l08Later -/
def c53_r0:=[i_ 4 0]
def c53_r1:List Bj:=[m_ 5 0,m_ 6 1,⟨some 7,.p (.bin .sub (.c (iV 9223372036854775807)) (.t 6)),none⟩,b_ .gtr 8 5 7]
def c53_r2:=[i_ 4 9223372036854775807]
def c53_r3:=[m_ 9 0,m_ 10 1,b_ .add 11 9 10,m_ 4 11]
def c53:De:=⟨2,12,[.t 4],sr c53_r0 (.seq (sr c53_r1 (iz 8 (rr c53_r2))) (rr c53_r3))⟩
def K53 (D:Ba):Prop:=∀a0 a1 r,g53 a0 a1=some r→D 53 ⟨[iV a0,iV a1],[]⟩ ⟨iV r,[],[]⟩
theorem F53:K53 (FO C c53):=by
 intro a0 a1 r h0
 refine f0 (As 11 [(0,iV a0),(1,iV a1),(8,.bool (decide (a0>(wi (9223372036854775807-a1)))))] [] (Cw h0 (fun c1 h0=>?_) (fun c1 h0=>?_)))
 ·obtain rfl:=sj h0
  exact Cs 4
 ·obtain rfl:=sj h0
  exact Cs 9

/- loop.example/g00149/spec.l08Renew -/
def c79_r0:=[X_ 3 0,a_ 6 (zT 387),i_ 7 0]
def c79_r1:=[L_ 10 3 3,m_ 11 1,q_ 12 92 [.t 10,.t 11],m_ 8 12]
def c79_r2:=[m_ 14 2,B_ .lss 15 14 1,m_ 13 15]
def c79_r3:=[L_ 16 3 3,s_ 6 16 3,i_ 7 4]
def c79_r4:=[m_ 18 8,B_ .lss 19 18 0,m_ 17 19]
def c79_r5:=[L_ 20 3 3,s_ 6 20 3,i_ 7 5]
def c79_r6:=[f_ 22 3 2,l_ 23 22 1,m_ 24 8,x_ 25 23 24 4,f_ 26 25 3,l_ 27 26 1,m_ 21 27]
def c79_r7:=[L_ 28 3 3,s_ 6 28 3,i_ 7 13]
def c79_r8:=[L_ 29 3 3,q_ 30 111 [.t 29],a_ 9 (zT 579),s_ 9 30 3]
def c79_r9:=tk [f_ 31 9 2,l_ 32 31 1,m_ 33 8,f_ 34 9 2,l_ 35 34 1,m_ 36 8,x_ 37 35 36 4,f_ 38 37 2,l_ 39 38 1,f_ 40 3 0,l_ 41 40 1,m_ 42 2] (.alt [l_ 39 38 1,f_ 38 37 2,x_ 37 35 36 4,m_ 36 8,l_ 35 34 1,f_ 34 9 2,m_ 33 8,l_ 32 31 1,f_ 31 9 2] (q_ 43 53 [.t 41,.t 42]) (tk [iQ 44 (.mn (.t 39) (.t 43)),x_ 45 32 33 4,f_ 46 45 1] (.alt [] (s_ 46 44 1) .fin .stop)) .stop)
def Akh:=[L_ 47 9 3,s_ 6 47 3,i_ 7 0]
def c79:De:=⟨3,48,[.cell 6 3 true,.t 7],sr c79_r0 (sr c79_r1 (.seq (.block 0 (sr c79_r2 (.ite (.t 13) (rr c79_r3) (sr c79_r4 (.ite (.t 17) (rr c79_r5) (sr c79_r6 (iz 21 (rr c79_r7)))))))) (sr c79_r8 (sd c79_r9 (rr Akh)))))⟩
def K79 (D:Ba):Prop:=∀a0 a1 a2 r,g79 a0 a1 a2=some r→D 79 ⟨[.agg (Bh a0),iV a1,iV a2],[]⟩ ⟨.tup [.agg (Bh r.1),iV r.2],[],[]⟩
abbrev nI:=fun x0 (r:List (Nat×List V))=>(192,Bh x0)::(384,Bt 0 0 (Al 387) [])::r
abbrev nJ:=fun x0 (r:List (Nat×V))=>(2,iV x0)::(3,.ptr 192 0)::(6,.ptr 384 0)::r
theorem F79 (H53:K53 C) (H92:K92 C) (H111:pD C):K79 (FO C c79):=by
 intro a0 a1 a2 r h0
 refine f0 (As 5 (nJ a2 [(1,iV a1)]) (nI a0 []) (At 3 (Ah (bb h0 fun r1 e2 h0=>Il (H92 a0 a1 r1 e2) (o_ (As 10 (nJ a2 [(8,iV r1),(13,.bool (decide (a2<1)))]) (nI a0 []) (Cw h0 (fun c3 h0=>?_) (fun c3 h0=>?_))))))))
 ·obtain rfl:=sj h0
  exact Cs 6
 ·refine As 5 (nJ a2 [(8,iV r1),(17,.bool (decide (r1<0)))]) (nI a0 []) (Cw h0 (fun c4 h0=>?_) (fun c4 h0=>?_))
  ·obtain rfl:=sj h0
   exact Cs 6
  ·refine At 4 (Ah (bb h0 fun y5 e6 h0=>Ns rfl rfl e6 (o_ (As 4 (nJ a2 [(8,iV r1),(21,.bool y5.Cg)]) (nI a0 []) (Cw h0 (fun c7 h0=>?_) (fun c7 h0=>?_))))))
   ·obtain rfl:=sj h0
    exact Cs 6
   ·refine At 5 (Ah (bb h0 fun r8 e9 h0=>Ji (H111 a0 r8 e9) (ar (Bq rfl (af rfl))) (o_ (As 3 (nJ a2 [(8,iV r1),(9,.ptr 576 0)]) (nI a0 [(576,Db r8 (Al 1920))]) (Bk (bb h0 fun y10 e11 h0=>bb h0 fun y12 e13 h0=>bb h0 fun r14 e15 h0=>At 6 (Bm (d_ (xw_ rfl rfl rfl e11 (Bm (Au tv (c_ (Bw ⟨tv,tv⟩ rfl tv) (⟨tv,cL (c_ (ld_ rfl rfl e13) (⟨⟨Xu rfl rfl e13 rfl,tv⟩,Au tv (c_ (Bw ⟨tv,tv⟩ rfl tv) (⟨⟨Xu rfl rfl e13 rfl,tv⟩,Au tv (c_ (Bw ⟨tv,tv⟩ rfl (nl rfl)) (⟨⟨Xu rfl rfl e13 rfl,tv⟩,Au tv (Dc rfl tv (⟨⟨Xu rfl rfl e13 rfl,tv⟩,Cb (Cm (r:=iV r14) false (H53 a0.clock a2 r14 e15) ⟨tv,tv,tv⟩ rfl rfl (fun _=>rfl) (dkw ⟨[(6,.ptr 384 0),(8,iV r1),(9,.ptr 576 0),(31,.ptr 576 2),(32,Bu 1920 r8.Ac),(33,iV r1),(34,.ptr 576 2),(35,Bu 1920 r8.Ac),(36,iV r1),(37,.optr 1920 4 (0+r1.toNat) 0),(38,.optr 1920 4 (0+r1.toNat) 2),(39,iV y12.cap),(43,iV r14)],[(384,Bt 0 0 (Al 387) []),(576,Db r8 (Al 1920))],[]⟩ (Er (by kernel_rfl)) ⟨[iQ 39 (.load (.t 38) 1 false)],⟨⟨.inr (.head _),Xu rfl rfl e13 rfl⟩,⟨.inl tv,Bl (Bw ⟨tv,tv⟩ rfl tv) rfl⟩,⟨.inl tv,Bl (ci_ rfl rfl e11) rfl⟩,⟨.inl tv,Bl (Qc (v:=iV r1) rfl tv) rfl⟩,⟨.inl tv,Bl (Bw ⟨tv,tv⟩ rfl (nl rfl)) rfl⟩,⟨.inl tv,Bl (Bw ⟨tv,tv⟩ rfl tv) rfl⟩,⟨.inl tv,Bl (Qc (v:=iV r1) rfl tv) rfl⟩,⟨.inl tv,Bl (Bw ⟨tv,tv⟩ rfl (nl rfl)) rfl⟩,⟨.inl tv,Bl (Bw ⟨tv,tv⟩ rfl tv) rfl⟩,tv⟩,⟨Xu rfl rfl e13 rfl,tv⟩,Au tv (c_ (Bw ⟨tv,tv,tv⟩ rfl rfl) (⟨⟨Xu rfl rfl e13 rfl,tv⟩,Au tv (c_ (ci_ rfl rfl e11) (⟨⟨Xu rfl rfl e13 rfl,tv⟩,?_⟩))⟩))⟩)) Az⟩))⟩))⟩))⟩))⟩)))))))))))))
    refine Au tv (c_ (Bw ⟨tv,tv⟩ rfl tv) (⟨⟨Xu rfl rfl e13 rfl,tv⟩,Cb (sto_ (y':=(Af.mk y12.id (if r14<y12.cap then r14 else y12.cap) y12.cap y12.Cg)) rfl rfl tv rfl rfl rfl rfl e13 (nl rfl) rfl rfl rfl rfl (d0 tv (Jz (Dy ⟨[(6,.ptr 384 0),(9,.ptr 576 0)],[(384,Bt 0 0 (Al 387) []),(576,Bt r8.clock r8.next (Al 1920) (r8.Ac.set r1.toNat (Af.mk y12.id (if r14<y12.cap then r14 else y12.cap) y12.cap y12.Cg)))],[]⟩ (fg ⟨rfl,rfl,tv⟩ ⟨rfl,congrArg (fun z=>some (([iV r8.clock,iV r8.next,.own 1920 0 4 z]:List V))) Rp,tv⟩) (rZ_ 5 [1920] [] [(6,.ptr 384 0),(7,iV 0)] [(384,Bt r8.clock r8.next u_ (r8.Ac.set r1.toNat (Af.mk y12.id (if r14<y12.cap then r14 else y12.cap) y12.cap y12.Cg)))] ?_))))) Az⟩))
    obtain rfl:=sj h0
    exact Kv (Fe rfl rfl rfl rfl rfl tv)

/- loop.example/g00149/spec.l08Tick -/
def c81_r0:List Bj:=[X_ 2 0,a_ 4 (zT 259),⟨some 5,.nilS 1,none⟩]
def c81_r1:=[L_ 11 2 3,q_ 12 111 [.t 11],a_ 6 (zT 387),s_ 6 12 3]
def c81_r2:=[f_ 13 2 0,l_ 14 13 1,m_ 15 1,iQ 16 (.mx (.t 14) (.t 15)),f_ 17 6 0,s_ 17 16 1]
def c81_r3:List Bj:=[⟨some 18,.mkS 1 [iV 0] 0 [],none⟩,m_ 7 18]
def c81_r4:=[i_ 8 (-1)]
def c81_r5:=[i_ 9 0]
def c81_r6:=[m_ 19 9,f_ 20 6 2,l_ 21 20 1,n_ 22 21,b_ .lss 23 19 22]
def c81_r7:=[f_ 26 6 2,l_ 27 26 1,m_ 28 9,x_ 29 27 28 4,L_ 30 29 4,a_ 10 [iV 0,iV 0,iV 0,.bool false],s_ 10 30 4]
def c81_r8:=tk [f_ 31 10 3,l_ 32 31 1,N_ 33 32,m_ 34 33,fT 34 35 10 1,lT 34 36 35 1 false,fT 34 37 6 0,lT 34 38 37 1 false,pT 34 39 (.bin .leq (.t 36) (.t 38)),pa 40 34 39,m_ 41 40,mT 41 42 8,pT 41 43 (.bin .lss (.t 42) (.c (iV 0))),mT 41 44 43,fF 44 45 10 1,lF 44 46 45 1 false,fF 44 47 6 2,lF 44 48 47 1 false,mF 44 49 8,xF 44 50 48 49 4,fF 44 51 50 1,lF 44 52 51 1 false,pF 44 53 (.bin .lss (.t 46) (.t 52)),⟨some 54,.pick (.t 44) (.c (.bool true)) (.t 53),some (41,true)⟩,pa 55 41 54] .fin
def c81_r9:=[m_ 56 9,m_ 8 56]
def Akj:=[m_ 24 9,B_ .add 25 24 1,m_ 9 25]
def c81_l0:IR:=(.seq (sr c81_r6 (.ite (.t 23) .skip (.exit 2))) (.seq (.block 3 (sr c81_r7 (sd c81_r8 (iz 55 (.reg c81_r9))))) (.reg Akj)))
def Akk:=[m_ 57 8,B_ .lss 58 57 0]
def Akl:=[L_ 59 6 3,m_ 60 7,s_ 4 59 3,m_ 5 60]
def Akm:List Bj:=[f_ 61 6 2,l_ 62 61 1,m_ 63 8,x_ 64 62 63 4,f_ 65 64 3,⟨none,.store (.t 65) (.c (.bool true)) 1,none⟩]
def Akn:List Bj:=[m_ 66 7,f_ 67 6 2,l_ 68 67 1,m_ 69 8,x_ 70 68 69 4,f_ 71 70 0,l_ 72 71 1,⟨some 73,.mkS 1 [iV 0] 1 [(0,.t 72)],none⟩,⟨some 74,.app 1 8 (.t 66) (.t 73),none⟩,m_ 7 74]
def c81_l1:IR:=(.block 1 (sr c81_r4 (.seq (sr c81_r5 (Jc 2 c81_l0)) (.seq (sr Akk (iz 58 (rr Akl))) (sr Akm (.reg Akn))))))
def c81:De:=⟨2,75,[.cell 4 3 true,.t 5],sr c81_r0 (sr c81_r1 (sr c81_r2 (sr c81_r3 (Jc 0 c81_l1))))⟩
def K81 (D:Ba):Prop:=∀a0 a1 r,g81 a0 a1=some r→D 81 ⟨[.agg (Bh a0),iV a1],[]⟩ ⟨.tup [.agg (Db r.1 (Al 0)),oI 1 r.2],[],[]⟩
abbrev Ud:=fun x0 (r:List (Nat×V))=>(4,.ptr 256 0)::(6,.ptr 384 0)::(7,oI 1152 x0)::r
abbrev Py:=fun (r:List (Nat×List V))=>(256,Bt 0 0 (Al 259) [])::r
theorem F81 (H111:pD C):K81 (FO C c81):=by
 intro a0 a1 r h0
 refine f0 (As 5 [(1,iV a1),(2,.ptr 128 0),(4,.ptr 256 0)] (Py [(128,Bh a0)]) (At 2 (Ah (bb h0 fun r1 e2 h0=>Ji (H111 a0 r1 e2) (ar (Bq rfl (af rfl))) (o_ (As 17 [(4,.ptr 256 0),(6,.ptr 384 0),(7,oI 1152 [])] (Py [(384,Bt (if a1>a0.clock then a1 else a0.clock) r1.next (Al 768) r1.Ac)]) (Ci (bb h0 fun r157 e158 h0=>Df (R:=(fun _=>False)) (jY a0 a1 r1) (fun s S=>match s with | (p44,p45)=>S=⟨Ud p44 [],Py [(384,Bt (if a1>a0.clock then a1 else a0.clock) r1.next (Al 768) p45)],[]⟩) e158 _ (Er (by kernel_rfl)) rfl 0 (fun h=>h.elim fun _ h=>h.elim) ?_ ?_))))))))
 ·exact fun _ _ _ h=>h.elim
 ·rintro ⟨p44,p45⟩ o1 _ K1 rfl h1 hx1 hK1 hE1 hR1
  refine As 9 (Ud p44 [(8,iV (-1)),(9,iV 0)]) (Py [(384,Bt (if a1>a0.clock then a1 else a0.clock) r1.next (Al 768) p45)]) (Ci (bb h1 fun r145 e146 h1=>Df (R:=(fun S=>∃p119:Int,p119=r145∧S=⟨Ud p44 [(8,iV p119)],Py [(384,Bt (if a1>a0.clock then a1 else a0.clock) r1.next (Al 768) p45)],[]⟩)) (cW a0 a1 p45) (fun s S=>match s with | (p102,p103)=>S=⟨Ud p44 [(8,iV p102),(9,iV p103)],Py [(384,Bt (if a1>a0.clock then a1 else a0.clock) r1.next (Al 768) p45)],[]⟩) e146 _ (Er (by kernel_rfl)) rfl 2 (fun _=>rfl) ?_ ?_))
  ·rintro S _ hfg ⟨p119,rfl,rfl⟩
   refine Dy _ hfg (As 5 (Ud p44 [(8,iV p119),(58,.bool (decide (p119<0)))]) (Py [(384,Bt (if a1>a0.clock then a1 else a0.clock) r1.next (Al 768) p45)]) (Cw h1 (fun YN h1=>?_) (fun YN h1=>?_)))
   ·obtain rfl:=sj h1
    obtain rfl:=hx1 _ rfl
    obtain rfl:=sj h0
    exact Yy 7 hR1
   ·refine At 6 (Ah (bb h1 fun y148 e149 h1=>iO rfl rfl e149 (st (c_ (Bw ⟨tv,tv⟩ rfl tv) (bb h1 fun y150 e151 h1=>NJ (Af.mk y150.id y150.Bn y150.cap true) rfl rfl e151 (o_ (As 1 (Ud p44 [(8,iV p119)]) (Py [(384,Bt (if a1>a0.clock then a1 else a0.clock) r1.next (Al 768) (p45.set p119.toNat (Af.mk y150.id y150.Bn y150.cap true)))]) (At 4 (Ah (bb h1 fun y152 e153 h1=>iO rfl rfl e153 (st (c_ (Bw ⟨tv,tv⟩ rfl tv) (bb h1 fun y154 e155 h1=>NH rfl rfl e155 (st (Ky ⟨tv,tv⟩ ⟨⟨nl rfl,rfl,rfl⟩,tv⟩ (gg h1 fun c156 h1=>st (Fp (e:=eI) (l0:=p44) (l1:=([y154.id]:List Int)) rfl rfl tv rfl (by decide) c156 (st (Dc rfl tv (In (Um ?_)))))))))))))))))))))
    obtain rfl:=sj h1
    exact kn hK1 rfl rfl
  ·rintro ⟨p102,p103⟩ o2 _ K2 rfl h2 hx2 hK2 hE2 hR2
   refine At 5 (Ah (Qb rfl (o_ (As 2 (Ud p44 [(8,iV p102),(9,iV p103),(23,.bool (decide (p103<(p45.length:Int))))]) (Py [(384,Bt (if a1>a0.clock then a1 else a0.clock) r1.next (Al 768) p45)]) (Cw h2 (fun TA h2=>?_) (fun TA h2=>?_))))))
   ·refine Mm 3 (Hz (fun S=>∃p132:Int,S=⟨Ud p44 [(8,iV p132),(9,iV p103)],Py [(384,Bt (if a1>a0.clock then a1 else a0.clock) r1.next (Al 768) p45)],[]⟩∧Yh p103 p132=some o2) ?_ (fun J133=>?_))
    ·rintro _ ⟨p132,rfl,h2⟩
     refine At 5 ?_
     obtain rfl:=sj h2
     exact kn hK2 rfl rfl
    ·refine Bk ?_
     refine At 3 (Ah (bb h2 fun y134 e135 h2=>iO rfl rfl e135 (bb h2 fun y136 e137 h2=>NH rfl rfl e137 (o_ (As 3 (Ud p44 [(8,iV p102),(9,iV p103),(10,.ptr 640 0)]) (Py [(384,Bt (if a1>a0.clock then a1 else a0.clock) r1.next (Al 768) p45),(640,Bg y136)]) (Bk (bb h2 fun y138 e139 h2=>bb h2 fun y140 e141 h2=>At 4 (Bm (Au tv (Ep (u:=.ptr 640 1) rfl (fun hg=>(Bw ⟨tv,tv⟩ rfl tv)) (⟨tv,Au tv (Ep (u:=iV y136.Bn) rfl (fun hg=>(Bw ⟨(fun _=>hg),tv⟩ rfl (nl rfl))) (⟨tv,Au tv (Ep (u:=.ptr 384 0) rfl (fun hg=>(Bw ⟨tv,tv⟩ rfl tv)) (⟨tv,Au tv (Ep (u:=iV (if a1>a0.clock then a1 else a0.clock)) rfl (fun hg=>(Bw ⟨(fun _=>hg),tv⟩ rfl (nl rfl))) (⟨tv,Au tv (Ep (u:=.bool (decide (y136.Bn≤(if a1>a0.clock then a1 else a0.clock)))) rfl (fun hg=>(Bw ⟨(fun _=>hg),(fun _=>hg),tv⟩ rfl tv)) (⟨tv,Au tv (Hp rfl rfl rfl (fun h=>tM h) tv rfl (⟨tv,Au tv (Dc rfl tv (⟨tv,Au tv (Ep (u:=iV p102) rfl (fun hg=>(Qc (v:=iV p102) rfl tv)) (⟨tv,Au tv (Ep (u:=.bool (decide (p102<0))) rfl (fun hg=>(Bw ⟨(fun _=>hg),tv,tv⟩ rfl tv)) (⟨tv,Au tv (Ep (u:=.bool (decide (p102<0))) rfl (fun hg=>(Qc (v:=.may ((bif (!y136.Cg) then (decide (y136.Bn≤(if a1>a0.clock then a1 else a0.clock))) else false)==true) (.bool (decide (p102<0)))) rfl (fun _=>hg))) (⟨tv,Au tv (Ep (u:=.ptr 640 1) rfl (fun hg=>(Bw ⟨tv,tv⟩ rfl tv)) (⟨tv,?_⟩))⟩))⟩))⟩))⟩))⟩))⟩))⟩))⟩))⟩))⟩)))))))))))
     refine Au tv (Ep (u:=iV y136.Bn) rfl (fun hg=>(Bw ⟨(fun _=>hg),tv⟩ rfl (nl rfl))) (⟨tv,Au tv (Ep (u:=.ptr 384 2) rfl (fun hg=>(Bw ⟨tv,tv⟩ rfl tv)) (⟨tv,Au tv (Ep (u:=Bu 768 p45) rfl (fun hg=>(Bw ⟨(fun _=>hg),tv⟩ rfl (nl rfl))) (⟨tv,Au tv (Ep (u:=iV p102) rfl (fun hg=>(Qc (v:=iV p102) rfl tv)) (⟨tv,Au tv (Ep (u:=.optr 768 4 (0+p102.toNat) 0) rfl (fun hg=>(cidxO (e:=Bg) (y:=y138) rfl rfl (fun _=>hg) rfl rfl (fun _=>hg) (ip hg e139))) (⟨tv,Au tv (Ep (u:=.optr 768 4 (0+p102.toNat) 1) rfl (fun hg=>(Bw ⟨(fun _=>hg),tv⟩ rfl tv)) (⟨tv,cL (Ep (u:=iV y140.Bn) rfl (fun hg=>(Ut (e:=Bg) (y:=y140) (v:=iV y140.Bn) rfl rfl (fun _=>hg) rfl rfl (ip hg e141) rfl (nl rfl) rfl)) (⟨⟨Hy (v:=iV y140.Bn) rfl (fun hg=>(Ut (e:=Bg) (y:=y140) (v:=iV y140.Bn) rfl rfl (fun _=>hg) rfl rfl (ip hg e141) rfl (nl rfl) rfl)) rfl,tv⟩,Au tv (Ep (u:=.bool (decide (y136.Bn<y140.Bn))) rfl (fun hg=>(Bw ⟨(fun _=>hg),(fun _=>hg),tv⟩ rfl tv)) (⟨⟨Hy (v:=iV y140.Bn) rfl (fun hg=>(Ut (e:=Bg) (y:=y140) (v:=iV y140.Bn) rfl rfl (fun _=>hg) rfl rfl (ip hg e141) rfl (nl rfl) rfl)) rfl,tv⟩,Au tv (Pk (u:=.bool (bif (decide (p102<0)) then true else (decide (y136.Bn<y140.Bn)))) rfl (fun hg=>Vy rfl rfl (fun _=>hg) rfl rfl tv (fun h=>Bq hg (lN h)) rfl) (⟨⟨Hy (v:=iV y140.Bn) rfl (fun hg=>(Ut (e:=Bg) (y:=y140) (v:=iV y140.Bn) rfl rfl (fun _=>hg) rfl rfl (ip hg e141) rfl (nl rfl) rfl)) rfl,tv⟩,Au tv (Hp rfl rfl rfl (fun h=>tM h) tv rfl (⟨⟨Hy (v:=iV y140.Bn) rfl (fun hg=>(Ut (e:=Bg) (y:=y140) (v:=iV y140.Bn) rfl rfl (fun _=>hg) rfl rfl (ip hg e141) rfl (nl rfl) rfl)) rfl,tv⟩,Jz (bv h2 fun v142 e143 h2=>Dy ⟨Ud p44 [(8,iV p102),(9,iV p103),(55,.bool v142)],Py [(384,Bt (if a1>a0.clock then a1 else a0.clock) r1.next (Al 768) p45)],[]⟩ (Er (by subst e143; kernel_rfl)) (Cw h2 (fun XS h2=>?_) (fun XS h2=>?_)))⟩))⟩))⟩))⟩))⟩))⟩))⟩))⟩))⟩))⟩))
     ·refine At 4 ?_
      exact jn J133 ⟨_,rfl,h2⟩
     ·refine Nh (Um ?_)
      exact jn J133 ⟨_,rfl,h2⟩
   ·obtain rfl:=sj h2
    obtain rfl:=hx2 _ rfl
    refine Iw rfl ?_
    exact jn hE2 ⟨_,rfl,rfl⟩

/- loop.example/g00149/spec.l09Copy -/
def PE:=[X_ 1 0,a_ 2 (zV 131 132 133)]
def PF:=[f_ 3 1 0,L_ 4 3 3,q_ 5 111 [.t 4],f_ 6 1 0,s_ 6 5 3]
def PG:List Bj:=[⟨some 7,.mkS 2 [iV 0,.bool false] 0 [],none⟩,f_ 8 1 3,l_ 9 8 1,⟨some 10,.app 2 16 (.t 7) (.t 9),none⟩,f_ 11 1 3,s_ 11 10 1]
def PH:List Bj:=[⟨some 12,.mkS 1 [iV 0] 0 [],none⟩,f_ 13 1 4,l_ 14 13 1,⟨some 15,.app 1 8 (.t 12) (.t 14),none⟩,f_ 16 1 4,s_ 16 15 1]
def PI:=[L_ 17 1 6,s_ 2 17 6]
def c102:De:=⟨1,18,[.cell 2 6 true],sr PE (sr PF (sr PG (sr PH (rr PI))))⟩
def pC (D:Ba):Prop:=∀a0 r,cP a0=some r→D 102 ⟨[.agg (Ax a0)],[]⟩ ⟨.agg (Bi r (Al 0) (Al 1) (Al 2)),[],[]⟩
abbrev rJ:=fun (r:List (Nat×List V))=>(128,Ap 0 0 (Al 131) [] (Al 132) [] (Al 133) [] false)::r
theorem F102 (H111:pD C):pC (FO C c102):=by
 intro a0 r h0
 refine f0 (As 4 [(1,.ptr 64 0),(2,.ptr 128 0)] (rJ [(64,Ax a0)]) (At 3 (Ah (bb h0 fun r1 e2 h0=>Ji (H111 a0.Ab r1 e2) (ar (Bq rfl (af rfl))) (o_ (As 3 [(1,.ptr 64 0),(2,.ptr 128 0)] (rJ [(64,Ap r1.clock r1.next (Al 320) r1.Ac u_ a0.Aa u_ a0.Ae a0.Ai)]) (At 4 (Ah (gg h0 fun c3 h0=>st (Fp (e:=Cd) (l0:=([]:List Ad)) (l1:=a0.Aa) rfl rfl tv rfl (by decide) c3 (o_ (As 3 [(1,.ptr 64 0),(2,.ptr 128 0)] (rJ [(64,Ap r1.clock r1.next (Al 320) r1.Ac (Al 448) (([]:List Ad)++a0.Aa) u_ a0.Ae a0.Ai)]) (At 4 (Ah (gg h0 fun c4 h0=>st (Fp (e:=eI) (l0:=([]:List Int)) (l1:=a0.Ae) rfl rfl tv rfl (by decide) c4 (o_ ?_)))))))))))))))))
 obtain rfl:=sj h0
 exact Cs 9

/- loop.example/g00149/spec.l08Grant -/
def c70_r0:=[X_ 3 0,a_ 6 (zT 387),i_ 7 0,i_ 8 0]
def c70_r1:=[m_ 11 1,B_ .lss 12 11 1,m_ 13 12,mF 13 14 2,mF 13 15 1,pF 13 16 (.bin .lss (.t 14) (.t 15)),po 17 13 16,m_ 10 17]
def c70_r2:=[L_ 18 3 3,s_ 6 18 3,i_ 7 0,i_ 8 4]
def c70_r3:=[f_ 20 3 0,l_ 21 20 1,B_ .eql 22 21 9223372036854775807,m_ 19 22]
def c70_r4:=[L_ 23 3 3,s_ 6 23 3,i_ 7 0,i_ 8 11]
def c70_r5:=[f_ 25 3 2,l_ 26 25 1,n_ 27 26,B_ .eql 28 27 40,m_ 29 28,fF 29 30 3 1,lF 29 31 30 1 false,pF 29 32 (.bin .eql (.t 31) (.c (iV 1000000))),po 33 29 32,m_ 24 33]
def c70_r6:=[L_ 34 3 3,s_ 6 34 3,i_ 7 0,i_ 8 9]
def c70_r7:=[L_ 35 3 3,q_ 36 111 [.t 35],a_ 9 (zT 579),s_ 9 36 3]
def c70_r8:=tk [f_ 37 9 2,l_ 38 37 1,f_ 39 3 1,l_ 40 39 1,f_ 41 3 0,l_ 42 41 1,m_ 43 1,f_ 45 3 0,l_ 46 45 1,m_ 47 2] (.alt [m_ 47 2,l_ 46 45 1,f_ 45 3 0,l_ 40 39 1,f_ 39 3 1,l_ 38 37 1,f_ 37 9 2] (q_ 44 53 [.t 42,.t 43]) (.alt [l_ 40 39 1,f_ 39 3 1,l_ 38 37 1,f_ 37 9 2] (q_ 48 53 [.t 46,.t 47]) (tk [⟨some 49,.p (.build [iV 0,iV 0,iV 0,.bool false] [(0,1,.t 40),(1,1,.t 44),(2,1,.t 48)]),none⟩] (.alt [l_ 38 37 1,f_ 37 9 2] ⟨some 50,.mkS 4 [iV 0,iV 0,iV 0,.bool false] 1 [(0,.t 49)],none⟩ (.alt [] ⟨some 51,.app 4 32 (.t 38) (.t 50),none⟩ (tk [f_ 52 9 2] (.alt [] (s_ 52 51 1) .fin .stop)) .stop) .stop)) .stop) .stop)
def c70_r9:=[f_ 53 9 1,l_ 54 53 1,B_ .add 55 54 1,f_ 56 9 1,s_ 56 55 1]
def Akf:=tk [L_ 57 9 3,f_ 58 3 1,l_ 59 58 1] (.alt [l_ 59 58 1,f_ 58 3 1] (s_ 6 57 3) (tk [m_ 7 59,i_ 8 0] .fin) .stop)
def c70:De:=⟨3,60,[.cell 6 3 true,.t 7,.t 8],sr c70_r0 (.seq (.block 0 (sr c70_r1 (.ite (.t 10) (rr c70_r2) (sr c70_r3 (.ite (.t 19) (rr c70_r4) (sr c70_r5 (iz 24 (rr c70_r6)))))))) (sr c70_r7 (sd c70_r8 (sr c70_r9 (sd Akf .ret)))))⟩
def K70 (D:Ba):Prop:=∀a0 a1 a2 r,g70 a0 a1 a2=some r→D 70 ⟨[.agg (Bh a0),iV a1,iV a2],[]⟩ ⟨.tup [.agg (Bh r.1),iV r.2.1,iV r.2.2],[],[]⟩
abbrev nG:=fun x0 (r:List (Nat×List V))=>(192,Bh x0)::(384,Bt 0 0 (Al 387) [])::r
abbrev uU:=fun x0 x1 (r:List (Nat×V))=>(1,iV x0)::(2,iV x1)::(3,.ptr 192 0)::(6,.ptr 384 0)::r
theorem F70 (H53:K53 C) (H111:pD C):K70 (FO C c70):=by
 intro a0 a1 a2 r h0
 refine f0 (uE 19 (uU a1 a2 [(10,.bool (bif (decide (a1<1)) then true else (decide (a2<a1))))]) (nG a0 []) (Cw h0 (fun c1 h0=>?_) (fun c1 h0=>?_)))
 ·obtain rfl:=sj h0
  exact Cs 7
 ·refine As 6 (uU a1 a2 [(19,.bool (a0.clock==9223372036854775807))]) (nG a0 []) (Cw h0 (fun c2 h0=>?_) (fun c2 h0=>?_))
  ·obtain rfl:=sj h0
   exact Cs 7
  ·refine At 3 (Ah (Hf rfl (o_ (Hj 8 (bv h0 fun v3 e4 h0=>Dy ⟨uU a1 a2 [(24,.bool v3)],nG a0 [],[]⟩ (Er (by subst e4; kernel_rfl)) (Cw h0 (fun c5 h0=>?_) (fun c5 h0=>?_)))))))
   ·obtain rfl:=sj h0
    exact Cs 7
   ·refine At 5 (Ah (bb h0 fun r6 e7 h0=>Ji (H111 a0 r6 e7) (ar (Bq rfl (af rfl))) (o_ (As 3 (uU a1 a2 [(9,.ptr 576 0)]) (nG a0 [(576,Db r6 (Al 2304))]) (Bk (bb h0 fun r8 e9 h0=>bb h0 fun r10 e11 h0=>gg h0 fun c12 h0=>At 10 (Bm (Oo (H53 a0.clock a1 r8 e9) rfl (dw [(2,iV a2),(3,.ptr 192 0),(6,.ptr 384 0),(9,.ptr 576 0),(37,.ptr 576 2),(38,Bu 2304 r6.Ac),(39,.ptr 192 1),(40,iV a0.next),(44,iV r8),(45,.ptr 192 0),(46,iV a0.clock),(47,iV a2)] [(192,Bh a0),(384,Bt 0 0 (Al 387) []),(576,Db r6 (Al 2304))] hB (Oo (H53 a0.clock a2 r10 e11) rfl (dw [(3,.ptr 192 0),(6,.ptr 384 0),(9,.ptr 576 0),(37,.ptr 576 2),(38,Bu 2304 r6.Ac),(39,.ptr 192 1),(40,iV a0.next),(44,iV r8),(48,iV r10)] [(192,Bh a0),(384,Bt 0 0 (Al 387) []),(576,Db r6 (Al 2304))] hB (Au tv (c_ (v:=.agg (jA a0.next r8 r10 false)) (Bw ⟨tv,tv,tv,tv⟩ rfl ⟨⟨rfl,rfl,nl rfl⟩,⟨rfl,rfl,nl rfl⟩,⟨rfl,rfl,nl rfl⟩,tv⟩) (⟨tv,Cb (Ky ⟨tv,tv⟩ ⟨⟨nl rfl,rfl,rfl⟩,tv⟩ (d0 hB (Cb (Fp (e:=Bg) (l0:=r6.Ac) (l1:=([Af.mk a0.next r8 r10 false]:List Af)) rfl rfl tv rfl (by decide) c12 (d0 tv ?_)) Az))) Az⟩)))) Az)) Az))))))))
    refine Au tv (c_ (Bw ⟨tv,tv⟩ rfl tv) (⟨tv,Cb (Gc rfl rfl tv rfl rfl rfl (nl rfl) (d0 tv (d_ (As 9 [(3,.ptr 192 0),(6,.ptr 384 0),(9,.ptr 576 0)] (nG a0 [(576,[iV r6.clock,iV (wi (r6.next+1)),Bu 2304 (r6.Ac++([Af.mk a0.next r8 r10 false]:List Af))])]) (At 4 (Bm (Cb (Gc rfl rfl tv rfl rfl rfl (nl rfl) (d0 hB (d_ (rZ_ 3 [2304] [] [(6,.ptr 384 0),(7,iV a0.next),(8,iV 0)] [(384,[iV r6.clock,iV (wi (r6.next+1)),Dh (r6.Ac++([Af.mk a0.next r8 r10 false]:List Af))])] ?_)))) Az))))))) Az⟩))
    obtain rfl:=sj h0
    exact Kv (Fe rfl rfl rfl rfl rfl tv)

/- loop.example/g00149/spec.l09Call -/
def c86_r0:List Bj:=[⟨some 8,.nilS 1,none⟩,i_ 9 0]
def c86_r1:=[m_ 13 3,B_ .eql 14 13 1]
def c86_r2:=[m_ 15 0,m_ 8 15,i_ 9 13]
def c86_r3:List Bj:=[⟨some 16,.mkS 1 [iV 0] 0 [],none⟩,m_ 10 16]
def c86_r4:=[i_ 11 0]
def c86_r5:=[m_ 17 11,m_ 18 0,n_ 19 18,b_ .lss 20 17 19,m_ 21 20,mT 21 22 0,mT 21 23 11,xT 21 24 22 23 1,lT 21 25 24 1 false,mT 21 26 1,pT 21 27 (.bin .lss (.t 25) (.t 26)),pa 28 21 27]
def c86_r6:List Bj:=[m_ 31 10,m_ 32 0,m_ 33 11,x_ 34 32 33 1,l_ 35 34 1,⟨some 36,.mkS 1 [iV 0] 1 [(0,.t 35)],none⟩,⟨some 37,.app 1 8 (.t 31) (.t 36),none⟩,m_ 10 37]
def c86_r7:=[m_ 29 11,B_ .add 30 29 1,m_ 11 30]
def c86_l0:IR:=(.seq (sr c86_r5 (.ite (.t 28) .skip (.exit 0))) (.seq (.block 1 (.reg c86_r6)) (.reg c86_r7)))
def c86_r8:=[m_ 38 10,n_ 39 38,m_ 12 39]
def c86_r9:=[m_ 40 2]
def Akr:List Bj:=[m_ 41 10,m_ 42 1,⟨some 43,.mkS 1 [iV 0] 1 [(0,.t 42)],none⟩,⟨some 44,.app 1 8 (.t 41) (.t 43),none⟩,m_ 10 44]
def Aks:=[m_ 45 12,m_ 46 0,n_ 47 46,b_ .lss 48 45 47,m_ 49 48,mT 49 50 0,mT 49 51 12,xT 49 52 50 51 1,lT 49 53 52 1 false,mT 49 54 1,pT 49 55 (.bin .eql (.t 53) (.t 54)),pa 56 49 55]
def Akt:=[m_ 57 12,B_ .add 58 57 1,m_ 12 58]
def Aku:List Bj:=[m_ 59 10,m_ 60 0,m_ 61 12,⟨some 62,.p (.slice (.t 60) (some (.t 61)) none 1),none⟩,⟨some 63,.app 1 8 (.t 59) (.t 62),none⟩,m_ 10 63]
def Akv:=[m_ 64 3,B_ .eql 65 64 2]
def Akw:=[m_ 66 10,m_ 8 66,i_ 9 15]
def Akx:=[m_ 67 10,m_ 8 67,i_ 9 0]
def c86:De:=⟨4,68,[.t 8,.t 9],sr c86_r0 (.seq (sr c86_r1 (iz 14 (rr c86_r2))) (sr c86_r3 (.seq (sr c86_r4 (Jc 0 c86_l0)) (sr c86_r8 (.seq (sr c86_r9 (iz 40 (.reg Akr))) (.seq (sr Aks (iz 56 (.reg Akt))) (sr Aku (.seq (sr Akv (iz 65 (rr Akw))) (rr Akx)))))))))⟩
def K86 (D:Ba):Prop:=∀a0 a1 a2 a3 r,g86 a0 a1 a2 a3=some r→D 86 ⟨[lI a0,iV a1,.bool a2,iV a3],[]⟩ ⟨.tup [lI r.1,iV r.2],[],[]⟩
abbrev iA:=fun x0 x1 x2 x3 (r:List (Nat×V))=>(0,lI x0)::(1,iV x1)::(2,.bool x2)::(3,iV x3)::r
theorem F86:K86 (FO C c86):=by
 intro a0 a1 a2 a3 r h0
 refine f0 (As 10 (iA a0 a1 a2 a3 [(14,.bool (a3==1))]) [] (Cw h0 (fun c1 h0=>?_) (fun c1 h0=>?_)))
 ·obtain rfl:=sj h0
  exact Cs 6
 ·refine As 11 (iA a0 a1 a2 a3 [(10,oI 1024 []),(11,iV 0)]) [] (Ci (bb h0 fun r31 e32 h0=>Df (R:=(fun S=>∃p22:List Int,p22=r31∧S=⟨iA a0 a1 a2 a3 [(10,oI 1024 p22)],[],[]⟩)) (Yi a0 a1) (fun s S=>match s with | (p10,p11)=>S=⟨iA a0 a1 a2 a3 [(10,oI 1024 p10),(11,iV p11)],[],[]⟩) e32 _ (Er (by kernel_rfl)) rfl 0 (fun _=>rfl) ?_ ?_))
  ·rintro S _ hfg ⟨p22,rfl,rfl⟩
   refine Dy _ hfg (Bk (Ah (st (Dc rfl tv (Qb rfl (o_ (As 7 [(0,lI a0),(1,iV a1),(3,iV a3),(10,oI 1024 p22),(12,iV (p22.length:Int)),(40,.bool a2)] [] (Vc (cb:=a2) (fun S=>∃p35:List Int,S=⟨[(0,lI a0),(1,iV a1),(3,iV a3),(10,oI 1024 p35),(12,iV (p22.length:Int))],[],[]⟩∧cY a0 a1 a3 p22 p35=some r) rfl ?_ (fun c49 J48=>?_) (fun c49 J48=>?_)))))))))
   ·rintro _ ⟨p35,rfl,h0⟩
    refine At 5 (Ah (Hf rfl (o_ (Hj 4 (Ah (bb h0 fun y36 e37 h0=>st (Ep (u:=.iptr [iV y36]) rfl (fun hg=>(Ua (e:=eI) (y:=y36) rfl rfl (fun _=>hg) rfl rfl (fun _=>hg) (ip hg e37))) (o_ (Hj 5 (bv h0 fun v38 e39 h0=>Dy ⟨[(0,lI a0),(3,iV a3),(10,oI 1024 p35),(12,iV (p22.length:Int)),(56,.bool v38)],[],[]⟩ (Er (by subst e39; kernel_rfl)) (Vc (cb:=v38) (fun S=>∃p41:Int,S=⟨[(0,lI a0),(3,iV a3),(10,oI 1024 p35),(12,iV p41)],[],[]⟩∧cZ a0 a3 p35 p41=some r) rfl ?_ (fun c47 J46=>?_) (fun c47 J46=>?_))))))))))))
    ·rintro _ ⟨p41,rfl,h0⟩
     refine At 5 (Ah (bb h0 fun s42 e43 h0=>st (c_ (Hi (e:=eI) (y:=s42) rfl rfl tv ⟨tv,tv⟩ rfl rfl e43) (gg h0 fun c44 h0=>st (Fp (e:=eI) (l0:=p35) (l1:=s42) rfl rfl tv rfl (by decide) c44 (o_ (As 8 [(10,oI 1024 (p35++s42)),(65,.bool (a3==2))] [] (Cw h0 (fun c45 h0=>?_) (fun c45 h0=>?_)))))))))
     ·obtain rfl:=sj h0
      exact Cs 6 [1024]
     ·obtain rfl:=sj h0
      exact Cs 8 [1024]
    ·replace h0:=ip c47 h0
     refine At 4 ?_
     exact jn J46 ⟨_,rfl,h0⟩
    ·replace h0:=oY c47 h0
     refine Nh ?_
     exact jn J46 ⟨_,rfl,h0⟩
   ·replace h0:=ip c49 h0
    refine At 3 (Ah (gg h0 fun c50 h0=>st (Fp (e:=eI) (l0:=p22) (l1:=([a1]:List Int)) rfl rfl tv rfl (by decide) c50 (st (Dc rfl tv (In ?_))))))
    exact jn J48 ⟨_,rfl,h0⟩
   ·replace h0:=oY c49 h0
    refine Nh ?_
    exact jn J48 ⟨_,rfl,h0⟩
  ·rintro ⟨p10,p11⟩ o1 _ K1 rfl h1 hx1 hK1 hE1 hR1
   refine At 4 (Ah (Hf rfl (o_ (Hj 4 (Ah (bb h1 fun y23 e24 h1=>st (Ep (u:=.iptr [iV y23]) rfl (fun hg=>(Ua (e:=eI) (y:=y23) rfl rfl (fun _=>hg) rfl rfl (fun _=>hg) (ip hg e24))) (o_ (Hj 5 (bv h1 fun v25 e26 h1=>Dy ⟨iA a0 a1 a2 a3 [(10,oI 1024 p10),(11,iV p11),(28,.bool v25)],[],[]⟩ (Er (by subst e26; kernel_rfl)) (Cw h1 (fun c27 h1=>?_) (fun c27 h1=>?_))))))))))))
   ·refine At 7 (Ah (bb h1 fun y28 e29 h1=>Ns rfl rfl e29 (o_ (At 2 (Ah (gg h1 fun c30 h1=>st (Fp (e:=eI) (l0:=p10) (l1:=([y28]:List Int)) rfl rfl tv rfl (by decide) c30 (o_ (As 3 (iA a0 a1 a2 a3 [(10,oI 1024 (p10++([y28]:List Int))),(11,iV p11)]) [] (At 4 ?_))))))))))
    obtain rfl:=sj h1
    exact kn hK1 rfl rfl
   ·obtain rfl:=sj h1
    obtain rfl:=hx1 _ rfl
    refine Iw rfl ?_
    exact jn hE1 ⟨_,rfl,rfl⟩

/- loop.example/g00149/spec.l09Recover -/
def VV:=[X_ 1 0,a_ 2 (zV 131 132 133)]
def VW:=[L_ 5 1 6,q_ 6 102 [.t 5],a_ 3 (zV 195 196 197),s_ 3 6 6]
def VX:=[i_ 4 0]
def VY:=[m_ 7 4,f_ 8 3 3,l_ 9 8 1,n_ 10 9,b_ .lss 11 7 10]
def VZ:List Bj:=[f_ 14 3 3,l_ 15 14 1,m_ 16 4,x_ 17 15 16 2,f_ 18 17 1,⟨none,.store (.t 18) (.c (.bool true)) 1,none⟩]
def WA:=[m_ 12 4,B_ .add 13 12 1,m_ 4 13]
def VU:IR:=(.seq (sr VY (.ite (.t 11) .skip (.exit 0))) (.seq (.block 1 (.reg VZ)) (.reg WA)))
def WB:List Bj:=[f_ 19 3 5,⟨none,.store (.t 19) (.c (.bool true)) 1,none⟩]
def WC:=[L_ 20 3 6,s_ 2 20 6]
def c133:De:=⟨1,21,[.cell 2 6 true],sr VV (sr VW (.seq (sr VX (Jc 0 VU)) (sr WB (rr WC))))⟩
def yZ (D:Ba):Prop:=∀a0 r,jN a0=some r→D 133 ⟨[.agg (Ax a0)],[]⟩ ⟨.agg (Bi r (Al 0) (Al 1) (Al 2)),[],[]⟩
abbrev Yq:=fun (r:List (Nat×List V))=>(128,Ap 0 0 (Al 131) [] (Al 132) [] (Al 133) [] false)::r
abbrev dW:=fun (r:List (Nat×V))=>(2,.ptr 128 0)::(3,.ptr 192 0)::r
theorem F133 (H102:pC C):yZ (FO C c133):=by
 intro a0 r h0
 refine f0 (As 4 [(1,.ptr 64 0),(2,.ptr 128 0)] (Yq [(64,Ax a0)]) (At 2 (Ah (bb h0 fun r1 e2 h0=>Ji (H102 a0 r1 e2) (ar (Bq rfl (af (af (af (Bq rfl rfl)))))) (o_ (As 8 (dW [(4,iV 0)]) (Yq [(192,Bi r1 (Al 384) (Al 385) (Al 386))]) (Ci (bb h0 fun r23 e24 h0=>Df (R:=(fun S=>∃p17:List Ad,p17=r23∧S=⟨dW [],Yq [(192,Ap r1.Ab.clock r1.Ab.next (Al 384) r1.Ab.Ac (Al 385) p17 (Al 386) r1.Ae r1.Ai)],[]⟩)) (Sj) (fun s S=>match s with | (p8,p9)=>S=⟨dW [(4,iV p8)],Yq [(192,Ap r1.Ab.clock r1.Ab.next (Al 384) r1.Ab.Ac (Al 385) p9 (Al 386) r1.Ae r1.Ai)],[]⟩) e24 _ (Er (by kernel_rfl)) rfl 0 (fun _=>rfl) ?_ ?_))))))))
 ·rintro S _ hfg ⟨p17,rfl,rfl⟩
  refine Dy _ hfg ?_
  obtain rfl:=sj h0
  exact Cs 10
 ·rintro ⟨p8,p9⟩ o1 _ K1 rfl h1 hx1 hK1 hE1 hR1
  refine At 5 (Ah (Qb rfl (o_ (As 2 (dW [(4,iV p8),(11,.bool (decide (p8<(p9.length:Int))))]) (Yq [(192,Ap r1.Ab.clock r1.Ab.next (Al 384) r1.Ab.Ac (Al 385) p9 (Al 386) r1.Ae r1.Ai)]) (Cw h1 (fun c18 h1=>?_) (fun c18 h1=>?_))))))
  ·refine At 7 (Ah (bb h1 fun y19 e20 h1=>iO rfl rfl e20 (st (c_ (Bw ⟨tv,tv⟩ rfl tv) (bb h1 fun y21 e22 h1=>NJ (Ad.mk y21.Bb true) rfl rfl e22 (o_ (As 2 (dW [(4,iV p8)]) (Yq [(192,Ap r1.Ab.clock r1.Ab.next (Al 384) r1.Ab.Ac (Al 385) (p9.set p8.toNat (Ad.mk y21.Bb true)) (Al 386) r1.Ae r1.Ai)]) (At 4 ?_))))))))
   obtain rfl:=sj h1
   exact kn hK1 rfl rfl
  ·obtain rfl:=sj h1
   obtain rfl:=hx1 _ rfl
   refine Iw rfl ?_
   exact jn hE1 ⟨_,rfl,rfl⟩

/- loop.example/g00149/spec.l09Fate -/
def YA:=[X_ 2 0,i_ 4 0]
def YB:=[m_ 5 1,f_ 6 2 5,l_ 7 6 1,n_ 8 7,b_ .lss 9 5 8]
def YC:=[f_ 10 2 5,l_ 11 10 1,m_ 12 1,x_ 13 11 12 1,l_ 14 13 1,m_ 4 14]
def YD:=[i_ 4 0]
def c145:De:=⟨2,15,[.t 4],sr YA (.seq (sr YB (iz 9 (rr YC))) (rr YD))⟩
def NO (D:Ba):Prop:=∀a0 a1 r,qL a0 a1=some r→D 145 ⟨[.agg (Ao a0),iV a1],[]⟩ ⟨iV r,[],[]⟩
theorem F145:NO (FO C c145):=by
 intro a0 a1 r h0
 refine f0 (As 4 [(1,iV a1),(2,.ptr 128 0)] [(128,Ao a0)] (At 5 (Ah (Hf rfl (o_ (As 2 [(1,iV a1),(2,.ptr 128 0),(9,.bool (decide (a1<(a0.Cp.length:Int))))] [(128,Ao a0)] (Cw h0 (fun c1 h0=>?_) (fun c1 h0=>?_))))))))
 ·refine At 4 (Ah (bb h0 fun y2 e3 h0=>Ns rfl rfl e3 (o_ ?_)))
  obtain rfl:=sj h0
  exact Cs 4
 ·obtain rfl:=sj h0
  exact Cs 6

/- loop.example/g00149/spec.l09Issue -/
def VK:=[X_ 2 0,X_ 3 1,a_ 4 (zV 259 260 261),a_ 5 [iV 0,iV 0]]
def VL:=[f_ 11 2 0,L_ 12 11 3,f_ 13 3 2,l_ 14 13 1,f_ 15 3 3,l_ 16 15 1,q_ 17 70 [.t 12,.t 14,.t 16],m_ 10 17,e_ 18 10 0,e_ 19 10 1,e_ 20 10 2,a_ 6 (zT 387),s_ 6 18 3,m_ 7 19,m_ 8 20]
def VM:=[m_ 21 8,B_ .eql 22 21 0,m_ 23 22,fT 23 24 2 3,lT 23 25 24 1 false,pT 23 26 (.len (.t 25)),pT 23 27 (.bin .eql (.t 26) (.c (iV 40))),pa 28 23 27]
def VN:=[i_ 8 9]
def VO:=[m_ 29 8,B_ .neq 30 29 0]
def VP:List Bj:=[L_ 31 2 6,m_ 32 8,⟨some 33,.p (.build [iV 0,iV 0] [(0,1,.t 32)]),none⟩,s_ 4 31 6,s_ 5 33 2]
def VQ:=[L_ 34 2 6,q_ 35 102 [.t 34],a_ 9 (zV 579 580 581),s_ 9 35 6]
def VR:=[f_ 36 6 1,l_ 37 36 1,f_ 38 9 0,f_ 39 38 1,s_ 39 37 1]
def VS:List Bj:=[f_ 40 9 3,l_ 41 40 1,m_ 42 7,⟨some 43,.p (.build [iV 0,.bool false] [(0,1,.t 42)]),none⟩,⟨some 44,.mkS 2 [iV 0,.bool false] 1 [(0,.t 43)],none⟩,⟨some 45,.app 2 16 (.t 41) (.t 44),none⟩,f_ 46 9 3,s_ 46 45 1]
def VT:=[f_ 47 3 6,l_ 48 47 1,B_ .eql 49 48 1]
def BH:List Bj:=[L_ 50 9 6,q_ 51 133 [.t 50],⟨some 52,.p (.build [iV 0,iV 0] [(0,1,.c (iV 15))]),none⟩,s_ 4 51 6,s_ 5 52 2]
def BI:=tk [f_ 54 9 4,l_ 55 54 1,m_ 56 7,L_ 57 3 7] (.alt [m_ 56 7,l_ 55 54 1,f_ 54 9 4] (q_ 58 145 [.t 57,.c (iV 0)]) (.alt [] (q_ 59 86 [.t 55,.t 56,.c (.bool true),.t 58]) (tk [m_ 53 59,e_ 60 53 0,e_ 61 53 1,f_ 62 9 4] (.alt [e_ 61 53 1] (s_ 62 60 1) (tk [m_ 8 61] .fin) .stop)) .stop) .stop)
def BJ:=[f_ 63 3 6,l_ 64 63 1,B_ .eql 65 64 2]
def BK:List Bj:=[L_ 66 9 6,q_ 67 133 [.t 66],⟨some 68,.p (.build [iV 0,iV 0] [(0,1,.c (iV 15))]),none⟩,s_ 4 67 6,s_ 5 68 2]
def BL:=[m_ 69 8,B_ .neq 70 69 0]
def BM:List Bj:=[f_ 71 9 3,l_ 72 71 1,f_ 73 9 3,l_ 74 73 1,n_ 75 74,B_ .sub 76 75 1,x_ 77 72 76 2,f_ 78 77 1,⟨none,.store (.t 78) (.c (.bool true)) 1,none⟩]
def BN:List Bj:=[L_ 79 9 6,m_ 80 8,⟨some 81,.p (.build [iV 0,iV 0] [(0,1,.t 80)]),none⟩,s_ 4 79 6,s_ 5 81 2]
def BO:List Bj:=[f_ 82 9 3,l_ 83 82 1,f_ 84 9 3,l_ 85 84 1,n_ 86 85,B_ .sub 87 86 1,⟨some 88,.p (.slice (.t 83) none (some (.t 87)) 2),none⟩,f_ 89 9 3,s_ 89 88 1]
def BP:=[L_ 90 6 3,f_ 91 9 0,s_ 91 90 3]
def BQ:List Bj:=[L_ 92 9 6,m_ 93 7,⟨some 94,.p (.build [iV 0,iV 0] [(1,1,.t 93)]),none⟩,s_ 4 92 6,s_ 5 94 2]
def c132:De:=⟨2,95,[.cell 4 6 true,.cell 5 2 true],sr VK (sr VL (.seq (sr VM (iz 28 (.reg VN))) (.seq (sr VO (iz 30 (rr VP))) (sr VQ (sr VR (sr VS (.seq (sr VT (iz 49 (rr BH))) (sd BI (.seq (sr BJ (iz 65 (rr BK))) (.seq (sr BL (iz 70 (sr BM (rr BN)))) (sr BO (sr BP (rr BQ)))))))))))))⟩
def K132 (D:Ba):Prop:=∀a0 a1 r,AkX a0 a1=some r→D 132 ⟨[.agg (Ax a0),.agg (Ao a1)],[]⟩ ⟨.tup [.agg (Ax r.1),.agg (Bp r.2)],[],[]⟩
abbrev Kz:=fun (r:List (Nat×List V))=>(256,Ap 0 0 (Al 259) [] (Al 260) [] (Al 261) [] false)::(320,[iV 0,iV 0])::r
abbrev Pg:=fun x0 (r:List (Nat×V))=>(4,.ptr 256 0)::(5,.ptr 320 0)::(6,.ptr 384 0)::(7,iV x0)::r
theorem F132 (H70:K70 C) (H86:K86 C) (H102:pC C) (H133:yZ C) (H145:NO C):K132 (FO C c132):=by
 intro a0 a1 r h0
 refine f0 (As 6 [(2,.ptr 128 0),(3,.ptr 192 0),(4,.ptr 256 0),(5,.ptr 320 0)] (Kz [(128,Ax a0),(192,Ao a1)]) (At 7 (Ah (bb h0 fun r1 e2 h0=>st (Cm (r:=.tup [.agg (Bh r1.1),iV r1.2.1,iV r1.2.2]) true (H70 a0.Ab a1.ttl a1.Fd r1 e2) ⟨tv,tv,tv,tv⟩ rfl rfl (fun h=>nomatch h) (o_ (As 9 (Pg r1.2.1 [(2,.ptr 128 0),(3,.ptr 192 0),(8,iV r1.2.2)]) (Kz [(128,Ax a0),(192,Ao a1),(384,Bh r1.1)]) (Hj 7 (Ah (st (Ep (u:=iV (a0.Aa.length:Int)) rfl (fun hg=>(Mu (e:=Cd) (l0:=a0.Aa) rfl rfl (fun _=>hg))) (o_ (uE 3 (Pg r1.2.1 [(2,.ptr 128 0),(3,.ptr 192 0),(8,iV r1.2.2),(28,.bool (bif (r1.2.2==0) then ((a0.Aa.length:Int)==40) else false))]) (Kz [(128,Ax a0),(192,Ao a1),(384,Bh r1.1)]) (Vc (cb:=(bif (r1.2.2==0) then ((a0.Aa.length:Int)==40) else false)) (fun S=>∃p4:Int,S=⟨Pg r1.2.1 [(2,.ptr 128 0),(3,.ptr 192 0),(8,iV p4)],Kz [(128,Ax a0),(192,Ao a1),(384,Bh r1.1)],[]⟩∧Lf a0 a1 r1 p4=some r) rfl ?_ (fun c27 J26=>?_) (fun c27 J26=>?_)))))))))))))))
 ·rintro _ ⟨p4,rfl,h0⟩
  refine As 6 (Pg r1.2.1 [(2,.ptr 128 0),(3,.ptr 192 0),(8,iV p4),(30,.bool (p4 != 0))]) (Kz [(128,Ax a0),(192,Ao a1),(384,Bh r1.1)]) (Cw h0 (fun c5 h0=>?_) (fun c5 h0=>?_))
  ·refine At 3 (Ah (st (c_ (v:=.agg [iV p4,iV 0]) (Bw ⟨tv,tv⟩ rfl ⟨⟨rfl,rfl,nl rfl⟩,tv⟩) (o_ ?_))))
   obtain rfl:=sj h0
   exact Cs 4
  ·refine At 4 (Ah (bb h0 fun r6 e7 h0=>Ji (H102 a0 r6 e7) (ar (Bq rfl (af (af (af (Bq rfl rfl)))))) (o_ (As 11 (Pg r1.2.1 [(3,.ptr 192 0),(9,.ptr 576 0)]) (Kz [(192,Ao a1),(384,Bh r1.1),(576,Ap r6.Ab.clock r1.1.next (Al 2240) r6.Ab.Ac (Al 2241) r6.Aa (Al 2242) r6.Ae r6.Ai)]) (At 4 (Ah (st (c_ (v:=.agg [iV r1.2.1,.bool false]) (Bw ⟨tv,tv⟩ rfl ⟨⟨rfl,rfl,nl rfl⟩,tv⟩) (st (Ky ⟨tv,tv⟩ ⟨⟨nl rfl,rfl,rfl⟩,tv⟩ (gg h0 fun c8 h0=>st (Fp (e:=Cd) (l0:=r6.Aa) (l1:=([Ad.mk r1.2.1 false]:List Ad)) rfl rfl tv rfl (by decide) c8 (o_ (As 10 (Pg r1.2.1 [(3,.ptr 192 0),(9,.ptr 576 0),(49,.bool (a1.stop==1))]) (Kz [(192,Ao a1),(384,Bh r1.1),(576,[iV r6.Ab.clock,iV r1.1.next,Bu 2240 r6.Ab.Ac,Cf 2241 (r6.Aa++([Ad.mk r1.2.1 false]:List Ad)),oI 2242 r6.Ae,.bool r6.Ai])]) (Cw h0 (fun c9 h0=>?_) (fun c9 h0=>?_))))))))))))))))
   ·refine At 2 (Ah (bb h0 fun r10 e11 h0=>Ji (H133 (Ag.mk (Ak.mk r6.Ab.clock r1.1.next r6.Ab.Ac) (r6.Aa++([Ad.mk r1.2.1 false]:List Ad)) r6.Ae r6.Ai) r10 e11) (ar (Bq rfl (af (af (af (Bq rfl rfl)))))) (st (c_ (v:=.agg [iV 15,iV 0]) (Bw ⟨tv,tv⟩ rfl ⟨⟨rfl,rfl,nl rfl⟩,tv⟩) (o_ ?_)))))
    obtain rfl:=sj h0
    exact Cs 4 [3264,3265,3266]
   ·refine Mm 3 (bb h0 fun r12 e13 h0=>bb h0 fun r14 e15 h0=>At 4 (Bm (Oo (H145 a1 0 r12 e13) rfl (dw [(3,.ptr 192 0),(4,.ptr 256 0),(5,.ptr 320 0),(6,.ptr 384 0),(7,iV r1.2.1),(9,.ptr 576 0),(54,.ptr 576 4),(55,oI 2242 r6.Ae),(56,iV r1.2.1),(58,iV r12)] [(192,Ao a1),(256,Ap 0 0 (Al 259) [] (Al 260) [] (Al 261) [] false),(320,[iV 0,iV 0]),(384,Bh r1.1),(576,[iV r6.Ab.clock,iV r1.1.next,Bu 2240 r6.Ab.Ac,Cf 2241 (r6.Aa++([Ad.mk r1.2.1 false]:List Ad)),oI 2242 r6.Ae,.bool r6.Ai])] hB (Cb (Cm (r:=.tup [lI r14.1,iV r14.2]) true (H86 r6.Ae r1.2.1 true r12 r14 e15) ⟨tv,tv,tv,tv,tv⟩ rfl rfl (fun h=>nomatch h) (dw [(3,.ptr 192 0),(4,.ptr 256 0),(5,.ptr 320 0),(6,.ptr 384 0),(7,iV r1.2.1),(9,.ptr 576 0),(59,.tup [lI r14.1,iV r14.2])] [(192,Ao a1),(256,Ap 0 0 (Al 259) [] (Al 260) [] (Al 261) [] false),(320,[iV 0,iV 0]),(384,Bh r1.1),(576,[iV r6.Ab.clock,iV r1.1.next,Bu 2240 r6.Ab.Ac,Cf 2241 (r6.Aa++([Ad.mk r1.2.1 false]:List Ad)),lI r6.Ae,.bool r6.Ai])] tv (d_ (At 4 (Bm (Cb (Gc rfl rfl tv rfl rfl rfl (nl rfl) (d0 hB (d_ (As 2 (Pg r1.2.1 [(3,.ptr 192 0),(8,iV r14.2),(9,.ptr 576 0)]) (Kz [(192,Ao a1),(384,Bh r1.1),(576,[iV r6.Ab.clock,iV r1.1.next,Bu 2240 r6.Ab.Ac,Cf 2241 (r6.Aa++([Ad.mk r1.2.1 false]:List Ad)),lI r14.1,.bool r6.Ai])]) (At 3 (Ah ?_)))))) Az)))))) Az)) Az)))
    refine o_ (As 3 (Pg r1.2.1 [(8,iV r14.2),(9,.ptr 576 0),(65,.bool (a1.stop==2))]) (Kz [(384,Bh r1.1),(576,[iV r6.Ab.clock,iV r1.1.next,Bu 2240 r6.Ab.Ac,Cf 2241 (r6.Aa++([Ad.mk r1.2.1 false]:List Ad)),lI r14.1,.bool r6.Ai])]) (Cw h0 (fun c16 h0=>?_) (fun c16 h0=>?_)))
    ·refine At 2 (Ah (bb h0 fun r17 e18 h0=>Ji (H133 (Ag.mk (Ak.mk r6.Ab.clock r1.1.next r6.Ab.Ac) (r6.Aa++([Ad.mk r1.2.1 false]:List Ad)) r14.1 r6.Ai) r17 e18) (ar (Bq rfl (af (af (af (Bq rfl rfl)))))) (st (c_ (v:=.agg [iV 15,iV 0]) (Bw ⟨tv,tv⟩ rfl ⟨⟨rfl,rfl,nl rfl⟩,tv⟩) (o_ ?_)))))
     obtain rfl:=sj h0
     exact Cs 4 [4288,4289,4290]
    ·refine As 7 (Pg r1.2.1 [(8,iV r14.2),(9,.ptr 576 0),(70,.bool (r14.2 != 0))]) (Kz [(384,Bh r1.1),(576,[iV r6.Ab.clock,iV r1.1.next,Bu 2240 r6.Ab.Ac,Cf 2241 (r6.Aa++([Ad.mk r1.2.1 false]:List Ad)),lI r14.1,.bool r6.Ai])]) (Cw h0 (fun c19 h0=>?_) (fun c19 h0=>?_))
     ·refine At 5 (Ah (Qb rfl (st (c_ (Bw t3 rfl tv) (bb h0 fun y20 e21 h0=>iO rfl rfl e21 (st (c_ (Bw ⟨tv,tv⟩ rfl tv) (bb h0 fun y22 e23 h0=>NJ (Ad.mk y22.Bb true) rfl rfl e23 (o_ (As 1 [(4,.ptr 256 0),(5,.ptr 320 0),(8,iV r14.2),(9,.ptr 576 0)] (Kz [(576,[iV r6.Ab.clock,iV r1.1.next,Bu 2240 r6.Ab.Ac,.own 2241 0 2 (((r6.Aa++([Ad.mk r1.2.1 false]:List Ad)).set ((wi (((r6.Aa++([Ad.mk r1.2.1 false]:List Ad)).length:Int)-1)).toNat) (Ad.mk y22.Bb true)).map Cd),lI r14.1,.bool r6.Ai])]) (At 3 (Ah (st (c_ (v:=.agg [iV r14.2,iV 0]) (Bw ⟨tv,tv⟩ rfl ⟨⟨rfl,rfl,nl rfl⟩,tv⟩) (o_ ?_)))))))))))))))
      obtain rfl:=sj h0
      exact Cs 4 [2240,2241]
     ·refine At 7 (Ah (Qb rfl (st (c_ (Bw t3 rfl tv) (bb h0 fun s24 e25 h0=>st (c_ (Dk (e:=Cd) (y:=s24) rfl rfl tv ⟨tv,tv⟩ rfl rfl e25) (o_ (As 9 [(4,.ptr 256 0),(5,.ptr 320 0),(7,iV r1.2.1),(9,.ptr 576 0)] (Kz [(576,Ap r1.1.clock r1.1.next u_ r1.1.Ac (Al 2241) s24 u_ r14.1 r6.Ai)]) (At 3 (Ah (st (c_ (v:=.agg [iV 0,iV r1.2.1]) (Bw ⟨tv,tv⟩ rfl ⟨⟨rfl,rfl,nl rfl⟩,tv⟩) (o_ ?_)))))))))))))
      obtain rfl:=sj h0
      exact Cs 4 [2241]
 ·replace h0:=ip c27 h0
  refine Ah (st (mvc_ tv (In ?_)))
  exact jn J26 ⟨_,rfl,h0⟩
 ·replace h0:=oY c27 h0
  refine Nh ?_
  exact jn J26 ⟨_,rfl,h0⟩

/- loop.example/g00149/spec.l08Done -/
def c76_r0:=[X_ 2 0,a_ 4 (zT 259),i_ 5 0]
def c76_r1:=[L_ 8 2 3,m_ 9 1,q_ 10 92 [.t 8,.t 9],m_ 6 10]
def c76_r2:=[m_ 11 6,B_ .lss 12 11 0]
def c76_r3:=[L_ 13 2 3,s_ 4 13 3,i_ 5 5]
def c76_r4:=[f_ 14 2 2,l_ 15 14 1,m_ 16 6,x_ 17 15 16 4,f_ 18 17 3,l_ 19 18 1,N_ 20 19]
def c76_r5:=[L_ 21 2 3,s_ 4 21 3,i_ 5 13]
def c76_r6:=[L_ 22 2 3,a_ 7 (zT 451),s_ 7 22 3]
def c76_r7:=tk [f_ 24 2 2,l_ 25 24 1,m_ 26 6,⟨some 27,.p (.slice (.t 25) none (some (.t 26)) 4),none⟩,f_ 29 2 2,l_ 30 29 1,m_ 31 6,B_ .add 32 31 1,⟨some 33,.p (.slice (.t 30) (some (.t 32)) none 4),none⟩] (.alt [⟨some 33,.p (.slice (.t 30) (some (.t 32)) none 4),none⟩,B_ .add 32 31 1,m_ 31 6,l_ 30 29 1,f_ 29 2 2,⟨some 27,.p (.slice (.t 25) none (some (.t 26)) 4),none⟩,m_ 26 6,l_ 25 24 1,f_ 24 2 2] ⟨some 23,.mkS 4 [iV 0,iV 0,iV 0,.bool false] 0 [],none⟩ (.alt [⟨some 33,.p (.slice (.t 30) (some (.t 32)) none 4),none⟩,B_ .add 32 31 1,m_ 31 6,l_ 30 29 1,f_ 29 2 2] ⟨some 28,.app 4 32 (.t 23) (.t 27),none⟩ (.alt [] ⟨some 34,.app 4 32 (.t 28) (.t 33),none⟩ (tk [f_ 35 7 2] (.alt [] (s_ 35 34 1) .fin .stop)) .stop) .stop) .stop)
def c76_r8:=[L_ 36 7 3,s_ 4 36 3,i_ 5 0]
def c76:De:=⟨2,37,[.cell 4 3 true,.t 5],sr c76_r0 (sr c76_r1 (.seq (sr c76_r2 (iz 12 (rr c76_r3))) (.seq (sr c76_r4 (iz 20 (rr c76_r5))) (sr c76_r6 (sd c76_r7 (rr c76_r8))))))⟩
def K76 (D:Ba):Prop:=∀a0 a1 r,g76 a0 a1=some r→D 76 ⟨[.agg (Bh a0),iV a1],[]⟩ ⟨.tup [.agg (Bh r.1),iV r.2],[],[]⟩
abbrev uW:=fun x0 (r:List (Nat×List V))=>(128,Bh x0)::(256,Bt 0 0 (Al 259) [])::r
theorem F76 (H92:K92 C):K76 (FO C c76):=by
 intro a0 a1 r h0
 refine f0 (As 5 [(1,iV a1),(2,.ptr 128 0),(4,.ptr 256 0)] (uW a0 []) (Bk (Ah (st (c_ (v:=.agg (Bh a0)) (Bw ⟨tv,tv⟩ rfl (nl rfl)) (st (Dc rfl tv (bb h0 fun r1 e2 h0=>st (Cm (r:=iV r1) false (H92 a0 a1 r1 e2) ⟨tv,tv,tv⟩ rfl rfl (fun _=>rfl) (o_ (As 8 [(2,.ptr 128 0),(4,.ptr 256 0),(6,iV r1),(12,.bool (decide (r1<0)))] (uW a0 []) (Cw h0 (fun c3 h0=>?_) (fun c3 h0=>?_)))))))))))))
 ·obtain rfl:=sj h0
  exact Cs 6
 ·refine Nh (aC (Bk (Bk (Ah (st (c_ (Bw ⟨tv,tv⟩ rfl tv) (st (c_ (Bw ⟨tv,tv⟩ rfl (nl rfl)) (st (Dc rfl tv (bb h0 fun y4 e5 h0=>Ns rfl rfl e5 (o_ (As 4 [(2,.ptr 128 0),(4,.ptr 256 0),(6,iV r1),(20,.bool (!y4.Cg))] (uW a0 []) (Cw h0 (fun c6 h0=>?_) (fun c6 h0=>?_)))))))))))))))
  ·obtain rfl:=sj h0
   exact Cs 6
  ·refine As 7 [(2,.ptr 128 0),(4,.ptr 256 0),(6,iV r1),(7,.ptr 448 0)] (uW a0 [(448,Bh a0)]) (Bk (bb h0 fun s7 e8 h0=>bb h0 fun s9 e10 h0=>gg h0 fun c11 h0=>gg h0 fun c12 h0=>Bm (Au tv (c_ (Bw ⟨tv,tv⟩ rfl tv) (⟨tv,Au tv (c_ (Bw ⟨tv,tv⟩ rfl (nl rfl)) (⟨tv,Au tv (Dc rfl tv (⟨tv,Au tv (c_ (Hi (e:=Bg) (y:=s7) rfl rfl tv ⟨tv,tv⟩ rfl rfl e8) (⟨tv,Au tv (c_ (Bw ⟨tv,tv⟩ rfl tv) (⟨tv,Au tv (c_ (Bw ⟨tv,tv⟩ rfl (nl rfl)) (⟨tv,Au tv (Dc rfl tv (⟨tv,Au tv (c_ (Bw t3 rfl tv) (⟨tv,Au tv (c_ (Hi (e:=Bg) (y:=s9) rfl rfl tv ⟨tv,tv⟩ rfl rfl e10) (⟨tv,Cb (Ky tv tv (d0 ⟨⟨.inl tv,Bl (Hi (e:=Bg) (y:=s9) rfl rfl tv ⟨tv,tv⟩ rfl rfl e10) rfl⟩,⟨.inl tv,Bl (Bw t3 rfl tv) rfl⟩,⟨.inl tv,Bl (Qc (v:=iV r1) rfl tv) rfl⟩,⟨.inl tv,Bl (Bw ⟨tv,tv⟩ rfl (nl rfl)) rfl⟩,⟨.inl tv,Bl (Bw ⟨tv,tv⟩ rfl tv) rfl⟩,⟨.inl tv,Bl (Hi (e:=Bg) (y:=s7) rfl rfl tv ⟨tv,tv⟩ rfl rfl e8) rfl⟩,⟨.inl tv,Bl (Qc (v:=iV r1) rfl tv) rfl⟩,⟨.inl tv,Bl (Bw ⟨tv,tv⟩ rfl (nl rfl)) rfl⟩,⟨.inl tv,Bl (Bw ⟨tv,tv⟩ rfl tv) rfl⟩,tv⟩ (Cb (Fp (e:=Bg) (l0:=([]:List Af)) (l1:=s7) rfl rfl tv rfl (by decide) c11 (dw [(2,.ptr 128 0),(4,.ptr 256 0),(6,iV r1),(7,.ptr 448 0),(28,Bu 1472 (([]:List Af)++s7)),(29,.ptr 128 2),(30,Dh a0.Ac),(31,iV r1),(32,iV (wi (r1+1))),(33,Dh s9)] [(128,Bh a0),(256,Bt 0 0 (Al 259) []),(448,Bh a0)] ⟨⟨.inl tv,Bl (Hi (e:=Bg) (y:=s9) rfl rfl tv ⟨tv,tv⟩ rfl rfl e10) rfl⟩,⟨.inl tv,Bl (Bw t3 rfl tv) rfl⟩,⟨.inl tv,Bl (Qc (v:=iV r1) rfl tv) rfl⟩,⟨.inl tv,Bl (Bw ⟨tv,tv⟩ rfl (nl rfl)) rfl⟩,⟨.inl tv,Bl (Bw ⟨tv,tv⟩ rfl tv) rfl⟩,tv⟩ (Cb (Fp (e:=Bg) (l0:=([]:List Af)++s7) (l1:=s9) rfl rfl tv rfl (by decide) c12 (d0 tv (Au tv (c_ (Bw ⟨tv,tv⟩ rfl tv) (⟨tv,Cb (Gc rfl rfl tv rfl rfl rfl (nl rfl) (d0 tv (d_ (As 1 [(4,.ptr 256 0),(7,.ptr 448 0)] [(256,Bt 0 0 (Al 259) []),(448,Bt a0.clock a0.next (Al 1472) ((([]:List Af)++s7)++s9))] ?_)))) Az⟩))))) Az))) Az))) Az⟩))⟩))⟩))⟩))⟩))⟩))⟩))⟩))⟩)))))
   obtain rfl:=sj h0
   exact Cs 6 [1472]

/- loop.example/g00149/spec.l09Without -/
def YF:List Bj:=[⟨some 4,.nilS 2,none⟩]
def YG:List Bj:=[⟨some 7,.mkS 2 [iV 0,.bool false] 0 [],none⟩,m_ 5 7]
def YH:=[i_ 6 0]
def YI:=[m_ 8 6,m_ 9 0,n_ 10 9,b_ .lss 11 8 10]
def YJ:=[m_ 14 0,m_ 15 6,x_ 16 14 15 2,f_ 17 16 0,l_ 18 17 1,m_ 19 1,b_ .neq 20 18 19]
def YK:List Bj:=[m_ 21 5,m_ 22 0,m_ 23 6,x_ 24 22 23 2,L_ 25 24 2,⟨some 26,.mkS 2 [iV 0,.bool false] 1 [(0,.t 25)],none⟩,⟨some 27,.app 2 16 (.t 21) (.t 26),none⟩,m_ 5 27]
def YL:=[m_ 12 6,B_ .add 13 12 1,m_ 6 13]
def YE:IR:=(.seq (sr YI (.ite (.t 11) .skip (.exit 0))) (.seq (.block 1 (sr YJ (iz 20 (.reg YK)))) (.reg YL)))
def YM:=[m_ 28 5,m_ 4 28]
def c146:De:=⟨2,29,[.t 4],sr YF (sr YG (.seq (sr YH (Jc 0 YE)) (rr YM)))⟩
def K146 (D:Ba):Prop:=∀a0 a1 r,Alb a0 a1=some r→D 146 ⟨[Cj a0,iV a1],[]⟩ ⟨Cf 0 r,[],[]⟩
theorem F146:K146 (FO C c146):=by
 intro a0 a1 r h0
 refine f0 (As 13 [(0,Cj a0),(1,iV a1),(5,Cf 448 []),(6,iV 0)] [] (Ci (bb h0 fun r37 e38 h0=>Df (R:=(fun S=>∃p21:List Ad,p21=r37∧S=⟨[(5,Cf 448 p21)],[],[]⟩)) (Sn a0 a1) (fun s S=>match s with | (p9,p10)=>S=⟨[(0,Cj a0),(1,iV a1),(5,Cf 448 p9),(6,iV p10)],[],[]⟩) e38 _ (Er (by kernel_rfl)) rfl 0 (fun _=>rfl) ?_ ?_)))
 ·rintro S _ hfg ⟨p21,rfl,rfl⟩
  refine Dy _ hfg ?_
  obtain rfl:=sj h0
  exact Cs 5
 ·rintro ⟨p9,p10⟩ o1 _ K1 rfl h1 hx1 hK1 hE1 hR1
  refine At 4 (Ah (Hf rfl (o_ (As 2 [(0,Cj a0),(1,iV a1),(5,Cf 448 p9),(6,iV p10),(11,.bool (decide (p10<(a0.length:Int))))] [] (Cw h1 (fun c22 h1=>?_) (fun c22 h1=>?_))))))
  ·refine Mm 3 (Hz (fun S=>∃p29:List Ad,S=⟨[(0,Cj a0),(1,iV a1),(5,Cf 448 p29),(6,iV p10)],[],[]⟩∧aY p10 p29=some o1) ?_ (fun J30=>?_))
   ·rintro _ ⟨p29,rfl,h1⟩
    refine At 5 ?_
    obtain rfl:=sj h1
    exact kn hK1 rfl rfl
   ·refine Bk ?_
    refine At 2 (Ah (bb h1 fun y31 e32 h1=>Ns rfl rfl e32 (o_ (As 5 [(0,Cj a0),(1,iV a1),(5,Cf 448 p9),(6,iV p10),(20,.bool (y31.Bb != a1))] [] (Cw h1 (fun c33 h1=>?_) (fun c33 h1=>?_))))))
    ·refine At 3 (Ah (bb h1 fun y34 e35 h1=>Ns rfl rfl e35 (o_ (At 2 (Ah (gg h1 fun c36 h1=>st (Fp (e:=Cd) (l0:=p9) (l1:=([y34]:List Ad)) rfl rfl tv rfl (by decide) c36 (st (Dc rfl tv (In (Um ?_)))))))))))
     exact jn J30 ⟨_,rfl,h1⟩
    ·refine Nh (Um ?_)
     exact jn J30 ⟨_,rfl,h1⟩
  ·obtain rfl:=sj h1
   obtain rfl:=hx1 _ rfl
   refine Iw rfl ?_
   exact jn hE1 ⟨_,rfl,rfl⟩

/- loop.example/g00149/spec.l09Sweep -/
def WG:=[X_ 2 0,X_ 3 1,a_ 4 (zV 259 260 261)]
def WH:=[L_ 14 2 6,q_ 15 102 [.t 14],a_ 5 (zV 323 324 325),s_ 5 15 6]
def WI:=[i_ 6 0]
def WJ:=[i_ 7 0]
def WK:=[m_ 16 7,f_ 17 2 0,f_ 18 17 2,l_ 19 18 1,n_ 20 19,b_ .lss 21 16 20]
def WM:=[f_ 24 2 0,f_ 25 24 2,l_ 26 25 1,m_ 27 7,x_ 28 26 27 4,f_ 29 28 0,l_ 30 29 1,m_ 8 30]
def WN:=[f_ 31 2 0,f_ 32 31 2,l_ 33 32 1,m_ 34 7,x_ 35 33 34 4,f_ 36 35 3,l_ 37 36 1,N_ 38 37]
def WO:=tk [f_ 40 5 4,l_ 41 40 1,m_ 42 8,L_ 43 3 7,m_ 44 6] (.alt [m_ 42 8,l_ 41 40 1,f_ 40 5 4] (q_ 45 145 [.t 43,.t 44]) (.alt [] (q_ 46 86 [.t 41,.t 42,.c (.bool false),.t 45]) (tk [m_ 39 46,e_ 47 39 0,e_ 48 39 1,m_ 9 47,m_ 10 48] .fin) .stop) .stop)
def WP:=[m_ 49 6,B_ .add 50 49 1,m_ 6 50]
def WQ:=[m_ 51 9,f_ 52 5 4,s_ 52 51 1]
def BR:=[m_ 53 10,B_ .eql 54 53 0]
def BS:=[f_ 56 5 0,L_ 57 56 3,m_ 58 8,q_ 59 76 [.t 57,.t 58],m_ 55 59,e_ 60 55 0,e_ 61 55 1,f_ 62 5 0,s_ 62 60 3]
def BT:=[f_ 63 3 6,l_ 64 63 1,B_ .eql 65 64 2]
def BU:=[L_ 66 5 6,q_ 67 133 [.t 66],s_ 4 67 6]
def BV:=[m_ 22 7,B_ .add 23 22 1,m_ 7 23]
def WE:IR:=(.seq (sr WK (.ite (.t 21) .skip (.exit 0))) (.seq (.block 1 (sr WM (.seq (sr WN (iz 38 (.exit 1))) (sd WO (sr WP (sr WQ (.seq (sr BR (iz 54 (.reg BS))) (sr BT (iz 65 (rr BU)))))))))) (.reg BV)))
def BW:=[i_ 11 0]
def BX:=[m_ 68 11,f_ 69 2 3,l_ 70 69 1,n_ 71 70,b_ .lss 72 68 71]
def BY:=[f_ 75 2 3,l_ 76 75 1,m_ 77 11,x_ 78 76 77 2,f_ 79 78 1,l_ 80 79 1,N_ 81 80]
def BZ:=tk [f_ 83 5 4,l_ 84 83 1,f_ 85 2 3,l_ 86 85 1,m_ 87 11,x_ 88 86 87 2,f_ 89 88 0,l_ 90 89 1,L_ 91 3 7,m_ 92 6] (.alt [l_ 90 89 1,f_ 89 88 0,x_ 88 86 87 2,m_ 87 11,l_ 86 85 1,f_ 85 2 3,l_ 84 83 1,f_ 83 5 4] (q_ 93 145 [.t 91,.t 92]) (.alt [] (q_ 94 86 [.t 84,.t 90,.c (.bool false),.t 93]) (tk [m_ 82 94,e_ 95 82 0,e_ 96 82 1,m_ 12 95,m_ 13 96] .fin) .stop) .stop)
def CA:=[m_ 97 6,B_ .add 98 97 1,m_ 6 98]
def CB:=[m_ 99 12,f_ 100 5 4,s_ 100 99 1]
def CC:=[m_ 101 13,B_ .eql 102 101 0]
def CD:=tk [f_ 103 5 3,l_ 104 103 1,f_ 105 2 3,l_ 106 105 1,m_ 107 11,x_ 108 106 107 2,f_ 109 108 0,l_ 110 109 1] (.alt [] (q_ 111 146 [.t 104,.t 110]) (tk [f_ 112 5 3] (.alt [] (s_ 112 111 1) .fin .stop)) .stop)
def CE:=[f_ 113 3 6,l_ 114 113 1,B_ .eql 115 114 2]
def CF:=[L_ 116 5 6,q_ 117 133 [.t 116],s_ 4 117 6]
def CG:=[m_ 73 11,B_ .add 74 73 1,m_ 11 74]
def WF:IR:=(.seq (sr BX (.ite (.t 72) .skip (.exit 2))) (.seq (.block 3 (.seq (sr BY (iz 81 (.exit 3))) (sd BZ (sr CA (sr CB (.seq (sr CC (iz 102 (.draw CD))) (sr CE (iz 115 (rr CF))))))))) (.reg CG)))
def CH:=[L_ 118 5 6,s_ 4 118 6]
def c134:De:=⟨2,119,[.cell 4 6 true],sr WG (sr WH (sr WI (.seq (sr WJ (Jc 0 WE)) (.seq (sr BW (Jc 2 WF)) (rr CH)))))⟩
def K134 (D:Ba):Prop:=∀a0 a1 r,qJ a0 a1=some r→D 134 ⟨[.agg (Ax a0),.agg (Ao a1)],[]⟩ ⟨.agg (Bi r u_ (Al 0) u_),[],[]⟩
abbrev Ge:=fun x0 x1 (r:List (Nat×List V))=>(128,Ax x0)::(192,Ao x1)::(256,Ap 0 0 (Al 259) [] (Al 260) [] (Al 261) [] false)::r
abbrev Gp:=fun (r:List (Nat×V))=>(2,.ptr 128 0)::(3,.ptr 192 0)::(4,.ptr 256 0)::(5,.ptr 320 0)::r
theorem F134 (H76:K76 C) (H86:K86 C) (H102:pC C) (H133:yZ C) (H145:NO C) (H146:K146 C):K134 (FO C c134):=by
 intro a0 a1 r h0
 refine f0 (As 5 [(2,.ptr 128 0),(3,.ptr 192 0),(4,.ptr 256 0)] (Ge a0 a1 []) (At 2 (Ah (bb h0 fun r1 e2 h0=>Ji (H102 a0 r1 e2) (ar (Bq rfl (af (af (af (Bq rfl rfl)))))) (o_ (As 12 (Gp [(6,iV 0),(7,iV 0)]) (Ge a0 a1 [(320,Bi r1 (Al 960) (Al 961) (Al 962))]) (Ci (bb h0 fun r115 e116 h0=>Df (R:=(fun S=>∃p63:Int,∃p64:Int,∃p65:Int,∃p66:List Af,∃p67:List Int,.inl (p63,p64,p65,p66,p67)=r115∧S=⟨Gp [(6,iV p63)],Ge a0 a1 [(320,Ap p64 p65 u_ p66 (Al 961) r1.Aa u_ p67 r1.Ai)],[]⟩)) (Nb a0 a1 r1) (fun s S=>match s with | (p27,p28,p29,p30,p31,p32)=>S=⟨Gp [(6,iV p27),(7,iV p28)],Ge a0 a1 [(320,Ap p29 p30 u_ p31 (Al 961) r1.Aa u_ p32 r1.Ai)],[]⟩) e116 ⟨Gp [(6,iV 0),(7,iV 0)],Ge a0 a1 [(320,Bi r1 u_ (Al 961) u_)],[]⟩ (qH [960,962] (by kernel_rfl)) rfl 0 (fun _=>rfl) ?_ ?_))))))))
 ·rintro S _ hfg ⟨p63,p64,p65,p66,p67,rfl,rfl⟩
  refine Dy _ hfg (As 4 (Gp [(6,iV p63),(11,iV 0)]) (Ge a0 a1 [(320,Ap p64 p65 u_ p66 (Al 961) r1.Aa u_ p67 r1.Ai)]) (Ci (bb h0 fun r218 e219 h0=>Df (R:=(fun S=>∃p169:List Ad,∃p170:List Int,.inl (p169,p170)=r218∧S=⟨[(4,.ptr 256 0),(5,.ptr 320 0)],[(256,Ap 0 0 (Al 259) [] (Al 260) [] (Al 261) [] false),(320,Ap p64 p65 u_ p66 (Al 961) p169 u_ p170 r1.Ai)],[]⟩)) (Kl a0 a1 r1 p64 p65 p66) (fun s S=>match s with | (p139,p140,p141,p142)=>S=⟨Gp [(6,iV p139),(11,iV p140)],Ge a0 a1 [(320,Ap p64 p65 u_ p66 (Al 961) p141 u_ p142 r1.Ai)],[]⟩) e219 _ (Er (by kernel_rfl)) rfl 2 (fun _=>rfl) ?_ ?_)))
  ·rintro S _ hfg ⟨p169,p170,rfl,rfl⟩
   refine Dy _ hfg ?_
   obtain rfl:=sj h0
   exact Cs 5
  ·rintro ⟨p139,p140,p141,p142⟩ o1 _ K1 rfl h1 hx1 hK1 hE1 hR1
   refine At 5 (Ah (Hf rfl (o_ (As 2 (Gp [(6,iV p139),(11,iV p140),(72,.bool (decide (p140<(a0.Aa.length:Int))))]) (Ge a0 a1 [(320,Ap p64 p65 u_ p66 (Al 961) p141 u_ p142 r1.Ai)]) (Cw h1 (fun c171 h1=>?_) (fun c171 h1=>?_))))))
   ·refine Mm 3 (Hz (fun S=>∃p190:Int,∃p191:List Ad,∃p192:List Int,S=⟨Gp [(6,iV p190),(11,iV p140)],Ge a0 a1 [(320,Ap p64 p65 u_ p66 (Al 961) p191 u_ p192 r1.Ai)],[]⟩∧We p140 p190 p191 p192=some o1) ?_ (fun J193=>?_))
    ·rintro _ ⟨p190,p191,p192,rfl,h1⟩
     refine At 5 ?_
     obtain rfl:=sj h1
     exact kn hK1 rfl rfl
    ·refine Bk ?_
     refine At 4 (Ah (bb h1 fun y194 e195 h1=>Ns rfl rfl e195 (o_ (As 4 (Gp [(6,iV p139),(11,iV p140),(81,.bool (!y194.Ij))]) (Ge a0 a1 [(320,Ap p64 p65 u_ p66 (Al 961) p141 u_ p142 r1.Ai)]) (Cw h1 (fun c196 h1=>?_) (fun c196 h1=>?_))))))
     ·refine ex_ rfl ?_
      exact jn J193 ⟨_,_,_,rfl,h1⟩
     ·refine Mm 3 (bb h1 fun y197 e198 h1=>bb h1 fun r199 e200 h1=>bb h1 fun r201 e202 h1=>At 5 (Bm (d_ (sN rfl rfl rfl e198 (At 4 (Bm (Oo (H145 a1 p139 r199 e200) rfl (dw [(2,.ptr 128 0),(3,.ptr 192 0),(4,.ptr 256 0),(5,.ptr 320 0),(6,iV p139),(11,iV p140),(83,.ptr 320 4),(84,lI p142),(85,.ptr 128 3),(86,Cj a0.Aa),(87,iV p140),(88,.iptr (Cd y197)),(89,.iptr (Cd y197)),(90,iV y197.Bb),(93,iV r199)] [(128,Ax a0),(192,Ao a1),(256,Ap 0 0 (Al 259) [] (Al 260) [] (Al 261) [] false),(320,Ap p64 p65 u_ p66 (Al 961) p141 u_ p142 r1.Ai)] ⟨⟨.inl tv,Bl (Bw ⟨tv,tv⟩ rfl (nl rfl)) rfl⟩,⟨.inl tv,Bl (Bw ⟨tv,tv⟩ rfl (nl rfl)) rfl⟩,⟨.inl tv,Bl (cj_ rfl rfl e198) rfl⟩,⟨.inl tv,Bl (Qc (v:=iV p140) rfl tv) rfl⟩,⟨.inl tv,Bl (Bw ⟨tv,tv⟩ rfl (nl rfl)) rfl⟩,⟨.inl tv,Bl (Bw ⟨tv,tv⟩ rfl tv) rfl⟩,⟨.inl tv,Bl (Bw ⟨tv,tv⟩ rfl (nl rfl)) rfl⟩,⟨.inl tv,Bl (Bw ⟨tv,tv⟩ rfl tv) rfl⟩,tv⟩ (Cb (Cm (r:=.tup [lI r201.1,iV r201.2]) true (H86 p142 y197.Bb false r199 r201 e202) ⟨tv,tv,tv,tv,tv⟩ rfl rfl (fun h=>nomatch h) (dw [(2,.ptr 128 0),(3,.ptr 192 0),(4,.ptr 256 0),(5,.ptr 320 0),(6,iV p139),(11,iV p140),(94,.tup [lI r201.1,iV r201.2])] [(128,Ax a0),(192,Ao a1),(256,Ap 0 0 (Al 259) [] (Al 260) [] (Al 261) [] false),(320,Ap p64 p65 u_ p66 (Al 961) p141 u_ p142 r1.Ai)] tv (d_ (At 3 (Bm ?_))))) Az)) Az)))))))
      refine d_ (As 21 (Gp [(6,iV (wi (p139+1))),(11,iV p140),(102,.bool (r201.2==0))]) (Ge a0 a1 [(320,Ap p64 p65 u_ p66 (Al 961) p141 u_ r201.1 r1.Ai)]) (Vc (cb:=(r201.2==0)) (fun S=>∃p208:List Ad,S=⟨Gp [(6,iV (wi (p139+1))),(11,iV p140)],Ge a0 a1 [(320,Ap p64 p65 u_ p66 (Al 7104) p208 u_ r201.1 r1.Ai)],[]⟩∧Sl a1 r1 p64 p65 p66 p139 p140 r201 p208=some o1) rfl ?_ (fun c213 J212=>?_) (fun c213 J212=>?_)))
      ·rintro _ ⟨p208,rfl,h1⟩
       refine As 6 (Gp [(6,iV (wi (p139+1))),(11,iV p140),(115,.bool (a1.stop==2))]) (Ge a0 a1 [(320,Ap p64 p65 u_ p66 (Al 7104) p208 u_ r201.1 r1.Ai)]) (Cw h1 (fun c209 h1=>?_) (fun c209 h1=>?_))
       ·refine At 2 (Ah (bb h1 fun r210 e211 h1=>Ji (H133 (Ag.mk (Ak.mk p64 p65 p66) p208 r201.1 r1.Ai) r210 e211) (ar (Bq rfl (af (af (af (Bq rfl rfl)))))) (o_ ?_)))
        obtain rfl:=sj h1
        obtain rfl:=hx1 _ rfl
        obtain rfl:=sj h0
        exact Yy 3 hR1 [7488,7490]
       ·refine Nh (Um ?_)
        exact J193 _ _ (Lz [] [(7104,961)] rfl (by kernel_rfl)) ⟨_,_,_,rfl,h1⟩
      ·replace h1:=ip c213 h1
       refine bb h1 fun y214 e215 h1=>bb h1 fun r216 e217 h1=>At 5 (Bm (d_ (sN rfl rfl rfl e215 (At 2 (Bm (Oo (H146 p141 y214.Bb r216 e217) (af rfl) (dw [(2,.ptr 128 0),(3,.ptr 192 0),(4,.ptr 256 0),(5,.ptr 320 0),(6,iV (wi (p139+1))),(11,iV p140),(111,Cf 7104 r216)] [(128,Ax a0),(192,Ao a1),(256,Ap 0 0 (Al 259) [] (Al 260) [] (Al 261) [] false),(320,Ap p64 p65 u_ p66 (Al 961) p141 u_ r201.1 r1.Ai)] tv (Au tv (c_ (Bw ⟨tv,tv⟩ rfl tv) (⟨tv,Cb (Gc rfl rfl tv rfl rfl rfl (nl rfl) (d0 tv (Jz ?_))) Az⟩)))) Az))))))
       exact jn J212 ⟨_,rfl,h1⟩
      ·replace h1:=oY c213 h1
       refine Nh ?_
       exact J212 _ _ (Lz [] [(961,7104)] rfl (by kernel_rfl)) ⟨_,rfl,h1⟩
   ·obtain rfl:=sj h1
    obtain rfl:=hx1 _ rfl
    refine Iw rfl ?_
    exact jn hE1 ⟨_,_,rfl,rfl⟩
 ·rintro ⟨p27,p28,p29,p30,p31,p32⟩ o1 _ K1 rfl h1 hx1 hK1 hE1 hR1
  refine At 6 (Ah (Hf rfl (o_ (As 2 (Gp [(6,iV p27),(7,iV p28),(21,.bool (decide (p28<(a0.Ab.Ac.length:Int))))]) (Ge a0 a1 [(320,Ap p29 p30 u_ p31 (Al 961) r1.Aa u_ p32 r1.Ai)]) (Cw h1 (fun c68 h1=>?_) (fun c68 h1=>?_))))))
  ·refine Mm 3 (Hz (fun S=>∃p87:Int,∃p88:Int,∃p89:Int,∃p90:List Af,∃p91:List Int,S=⟨Gp [(6,iV p87),(7,iV p28)],Ge a0 a1 [(320,Ap p88 p89 u_ p90 (Al 961) r1.Aa u_ p91 r1.Ai)],[]⟩∧Wd p28 p87 p88 p89 p90 p91=some o1) ?_ (fun J92=>?_))
   ·rintro _ ⟨p87,p88,p89,p90,p91,rfl,h1⟩
    refine At 5 ?_
    obtain rfl:=sj h1
    exact kn hK1 rfl rfl
   ·refine Bk ?_
    refine At 4 (Ah (bb h1 fun y93 e94 h1=>Ns rfl rfl e94 (o_ (As 4 (Gp [(6,iV p27),(7,iV p28),(8,iV y93.id)]) (Ge a0 a1 [(320,Ap p29 p30 u_ p31 (Al 961) r1.Aa u_ p32 r1.Ai)]) (At 6 (Ah (bb h1 fun y95 e96 h1=>Ns rfl rfl e96 (o_ (As 4 (Gp [(6,iV p27),(7,iV p28),(8,iV y93.id),(38,.bool (!y95.Cg))]) (Ge a0 a1 [(320,Ap p29 p30 u_ p31 (Al 961) r1.Aa u_ p32 r1.Ai)]) (Cw h1 (fun c97 h1=>?_) (fun c97 h1=>?_)))))))))))
    ·refine ex_ rfl ?_
     exact jn J92 ⟨_,_,_,_,_,rfl,h1⟩
    ·refine Mm 3 (bb h1 fun r98 e99 h1=>bb h1 fun r100 e101 h1=>At 5 (Bm (Oo (H145 a1 p27 r98 e99) rfl (dw [(2,.ptr 128 0),(3,.ptr 192 0),(4,.ptr 256 0),(5,.ptr 320 0),(6,iV p27),(7,iV p28),(8,iV y93.id),(40,.ptr 320 4),(41,lI p32),(42,iV y93.id),(45,iV r98)] [(128,Ax a0),(192,Ao a1),(256,Ap 0 0 (Al 259) [] (Al 260) [] (Al 261) [] false),(320,Ap p29 p30 u_ p31 (Al 961) r1.Aa u_ p32 r1.Ai)] hB (Cb (Cm (r:=.tup [lI r100.1,iV r100.2]) true (H86 p32 y93.id false r98 r100 e101) ⟨tv,tv,tv,tv,tv⟩ rfl rfl (fun h=>nomatch h) (dw [(2,.ptr 128 0),(3,.ptr 192 0),(4,.ptr 256 0),(5,.ptr 320 0),(6,iV p27),(7,iV p28),(8,iV y93.id),(46,.tup [lI r100.1,iV r100.2])] [(128,Ax a0),(192,Ao a1),(256,Ap 0 0 (Al 259) [] (Al 260) [] (Al 261) [] false),(320,Ap p29 p30 u_ p31 (Al 961) r1.Aa u_ p32 r1.Ai)] tv (d_ (As 6 (Gp [(6,iV p27),(7,iV p28),(8,iV y93.id),(9,lI r100.1),(10,iV r100.2)]) (Ge a0 a1 [(320,Ap p29 p30 u_ p31 (Al 961) r1.Aa u_ p32 r1.Ai)]) (At 3 (Ah ?_)))))) Az)) Az)))
     refine o_ (As 14 (Gp [(6,iV (wi (p27+1))),(7,iV p28),(8,iV y93.id),(54,.bool (r100.2==0))]) (Ge a0 a1 [(320,Ap p29 p30 u_ p31 (Al 961) r1.Aa u_ r100.1 r1.Ai)]) (Vc (cb:=(r100.2==0)) (fun S=>∃p105:Int,∃p106:Int,∃p107:List Af,S=⟨Gp [(6,iV (wi (p27+1))),(7,iV p28)],Ge a0 a1 [(320,Ap p105 p106 u_ p107 (Al 961) r1.Aa u_ r100.1 r1.Ai)],[]⟩∧Sk a1 r1 p27 p28 r100 p105 p106 p107=some o1) rfl ?_ (fun vY J111=>?_) (fun vY J111=>?_)))
     ·rintro _ ⟨p105,p106,p107,rfl,h1⟩
      refine As 6 (Gp [(6,iV (wi (p27+1))),(7,iV p28),(65,.bool (a1.stop==2))]) (Ge a0 a1 [(320,Ap p105 p106 u_ p107 (Al 961) r1.Aa u_ r100.1 r1.Ai)]) (Cw h1 (fun QA h1=>?_) (fun QA h1=>?_))
      ·refine At 2 (Ah (bb h1 fun r109 e110 h1=>Ji (H133 (Ag.mk (Ak.mk p105 p106 p107) r1.Aa r100.1 r1.Ai) r109 e110) (ar (Bq rfl (af (af (af (Bq rfl rfl)))))) (o_ ?_)))
       obtain rfl:=sj h1
       obtain rfl:=hx1 _ rfl
       obtain rfl:=sj h0
       exact Yy 3 hR1 [4288,4290]
      ·refine Nh (Um ?_)
       exact jn J92 ⟨_,_,_,_,_,rfl,h1⟩
     ·replace h1:=ip vY h1
      refine At 3 (Ah (bb h1 fun r113 e114 h1=>st (Cm (r:=.tup [.agg (Bh r113.1),iV r113.2]) true (H76 (Ak.mk p29 p30 p31) y93.id r113 e114) ⟨tv,tv,tv⟩ rfl rfl (fun h=>nomatch h) (o_ (At 6 ?_)))))
      exact jn J111 ⟨_,_,_,rfl,h1⟩
     ·replace h1:=oY vY h1
      refine Nh ?_
      exact jn J111 ⟨_,_,_,rfl,h1⟩
  ·obtain rfl:=sj h1
   obtain rfl:=hx1 _ rfl
   refine Iw rfl ?_
   exact jn hE1 ⟨_,_,_,_,_,rfl,rfl⟩

/- loop.example/g00149/spec.l09Step -/
def OU:=[X_ 2 0,X_ 3 1,a_ 4 (zV 259 260 261),a_ 5 [iV 0,iV 0]]
def OV:=[f_ 11 3 0,l_ 12 11 1,q_ 13 56 [.t 12,.c (iV 1),.c (iV 6)],N_ 14 13,m_ 10 14]
def OW:List Bj:=[L_ 15 2 6,⟨some 16,.p (.build [iV 0,iV 0] [(0,1,.c (iV 16))]),none⟩,s_ 4 15 6,s_ 5 16 2]
def OX:=[f_ 18 2 5,l_ 19 18 1,m_ 20 19,fT 20 21 3 0,lT 20 22 21 1 false,pT 20 23 (.bin .neq (.t 22) (.c (iV 6))),pa 24 20 23,m_ 17 24]
def OY:List Bj:=[L_ 25 2 6,⟨some 26,.p (.build [iV 0,iV 0] [(0,1,.c (iV 14))]),none⟩,s_ 4 25 6,s_ 5 26 2]
def OZ:=[f_ 27 2 0,L_ 28 27 3,a_ 6 (zT 387),s_ 6 28 3]
def PA:=[i_ 7 0]
def PB:=[L_ 29 2 6,q_ 30 102 [.t 29],a_ 8 (zV 515 516 517),s_ 8 30 6]
def PC:=[f_ 31 3 0,l_ 32 31 1]
def PD:=[B_ .eql 34 32 1,m_ 33 34]
def zN:=[L_ 35 2 6,L_ 36 3 7,q_ 37 132 [.t 35,.t 36],e_ 38 37 0,e_ 39 37 1,s_ 4 38 6,s_ 5 39 2]
def zO:=[B_ .eql 41 32 2,m_ 40 41]
def zP:=[f_ 43 2 0,L_ 44 43 3,f_ 45 3 1,l_ 46 45 1,f_ 47 3 2,l_ 48 47 1,q_ 49 79 [.t 44,.t 46,.t 48],m_ 42 49,e_ 50 42 0,e_ 51 42 1,s_ 6 50 3,m_ 7 51]
def zQ:=[L_ 52 6 3,f_ 53 8 0,s_ 53 52 3]
def zR:=[B_ .eql 55 32 3,m_ 54 55]
def zS:=[f_ 57 2 0,L_ 58 57 3,f_ 59 3 1,l_ 60 59 1,q_ 61 74 [.t 58,.t 60],m_ 56 61,e_ 62 56 0,e_ 63 56 1,s_ 6 62 3,m_ 7 63]
def zU:=[L_ 64 6 3,f_ 65 8 0,s_ 65 64 3]
def zW:=[B_ .eql 67 32 4,m_ 66 67]
def zX:=[f_ 69 2 0,L_ 70 69 3,f_ 71 3 4,l_ 72 71 1,q_ 73 81 [.t 70,.t 72],m_ 68 73,e_ 74 68 0,e_ 75 68 1,f_ 76 8 0,s_ 76 74 3]
def zY:=[f_ 77 3 6,l_ 78 77 1,B_ .eql 79 78 1]
def zZ:List Bj:=[L_ 80 8 6,q_ 81 133 [.t 80],⟨some 82,.p (.build [iV 0,iV 0] [(0,1,.c (iV 15))]),none⟩,s_ 4 81 6,s_ 5 82 2]
def AA:=[L_ 83 8 6,a_ 9 (zV 579 580 581),s_ 9 83 6]
def AB:=[L_ 84 8 6,L_ 85 3 7,q_ 86 134 [.t 84,.t 85],s_ 8 86 6]
def AC:=[f_ 87 8 5,l_ 88 87 1,m_ 89 88,fT 89 90 9 5,lT 89 91 90 1 false,pT 89 92 (.un .not (.t 91)),pa 93 89 92]
def AD:List Bj:=[L_ 94 8 6,⟨some 95,.p (.build [iV 0,iV 0] [(0,1,.c (iV 15))]),none⟩,s_ 4 94 6,s_ 5 95 2]
def AE:=[B_ .eql 97 32 5,m_ 96 97]
def AF:List Bj:=[f_ 98 8 5,⟨none,.store (.t 98) (.c (.bool true)) 1,none⟩]
def AG:=[B_ .eql 100 32 6,m_ 99 100]
def AH:List Bj:=[f_ 101 8 5,⟨none,.store (.t 101) (.c (.bool false)) 1,none⟩]
def AI:=[m_ 102 7,B_ .neq 103 102 0]
def AJ:List Bj:=[L_ 104 2 6,m_ 105 7,⟨some 106,.p (.build [iV 0,iV 0] [(0,1,.t 105)]),none⟩,s_ 4 104 6,s_ 5 106 2]
def AK:=[L_ 107 8 6,iQ 108 (.build [iV 0,iV 0] []),s_ 4 107 6,s_ 5 108 2]
def OT:De:=⟨2,109,[.cell 4 6 true,.cell 5 2 true],sr OU (.seq (.block 0 (sr OV (.ite (.t 10) (rr OW) (sr OX (iz 17 (rr OY)))))) (sr OZ (sr PA (sr PB (.seq (sr PC (.block 1 (sr PD (.ite (.t 33) (rr zN) (sr zO (.ite (.t 40) (sr zP (.reg zQ)) (sr zR (.ite (.t 54) (sr zS (.reg zU)) (sr zW (.ite (.t 66) (sr zX (.seq (sr zY (iz 79 (rr zZ))) (sr AA (sr AB (sr AC (iz 93 (rr AD))))))) (sr AE (.ite (.t 96) (.reg AF) (sr AG (iz 99 (.reg AH))))))))))))))) (.seq (sr AI (iz 103 (rr AJ))) (rr AK)))))))⟩
def K101 (D:Ba):Prop:=∀a0 a1 r,ID a0 a1=some r→D 101 ⟨[.agg (Ax a0),.agg (Ao a1)],[]⟩ ⟨.tup [.agg (Ax r.1),.agg (Bp r.2)],[],[]⟩
abbrev Hh:=fun x0 (r:List (Nat×List V))=>(128,Ax x0)::(256,Ap 0 0 (Al 259) [] (Al 260) [] (Al 261) [] false)::(320,[iV 0,iV 0])::r
abbrev Jo:=fun (r:List (Nat×V))=>(2,.ptr 128 0)::(4,.ptr 256 0)::(5,.ptr 320 0)::(8,.ptr 512 0)::r
abbrev kJ:=fun (r:List (Nat×V))=>(2,.ptr 128 0)::(3,.ptr 192 0)::(4,.ptr 256 0)::(5,.ptr 320 0)::r
theorem F101 (H56:K56 C) (H74:K74 C) (H79:K79 C) (H81:K81 C) (H102:pC C) (H132:K132 C) (H133:yZ C) (H134:K134 C):K101 (FO C OT):=by
 intro a0 a1 r h0
 refine f0 (As 6 (kJ []) (Hh a0 [(192,Ao a1)]) (At 5 (Ah (bb h0 fun r1 e2 h0=>Il (H56 a1.kind 1 6 r1 e2) (o_ (As 3 (kJ [(10,.bool (!r1))]) (Hh a0 [(192,Ao a1)]) (Cw h0 (fun c3 h0=>?_) (fun c3 h0=>?_))))))))
 ·refine At 2 (Ah (st (c_ (v:=.agg [iV 16,iV 0]) (Bw ⟨tv,tv⟩ rfl ⟨⟨rfl,rfl,nl rfl⟩,tv⟩) (o_ ?_))))
  obtain rfl:=sj h0
  exact Cs 4
 ·refine uE 10 (kJ [(17,.bool (bif a0.Ai then (a1.kind != 6) else false))]) (Hh a0 [(192,Ao a1)]) (Cw h0 (fun c4 h0=>?_) (fun c4 h0=>?_))
  ·refine At 2 (Ah (st (c_ (v:=.agg [iV 14,iV 0]) (Bw ⟨tv,tv⟩ rfl ⟨⟨rfl,rfl,nl rfl⟩,tv⟩) (o_ ?_))))
   obtain rfl:=sj h0
   exact Cs 4
  ·refine As 13 (kJ [(6,.ptr 384 0),(7,iV 0)]) (Hh a0 [(192,Ao a1),(384,Bh a0.Ab)]) (At 2 (Ah (bb h0 fun r5 e6 h0=>Ji (H102 a0 r5 e6) (ar (Bq rfl (af (af (af (Bq rfl rfl)))))) (o_ (As 9 (Jo [(3,.ptr 192 0),(6,.ptr 384 0),(7,iV 0),(32,iV a1.kind)]) (Hh a0 [(192,Ao a1),(384,Bh a0.Ab),(512,Bi r5 (Al 1920) (Al 1921) (Al 1922))]) (Hz (fun S=>∃p27:Int,∃p28:Int,∃p29:Int,∃p30:List Af,∃p31:List Ad,∃p32:List Int,∃p33:Bool,S=⟨Jo [(7,iV p27)],Hh a0 [(512,Ap p28 p29 u_ p30 (Al 1921) p31 u_ p32 p33)],[]⟩∧Im a0 p27 p28 p29 p30 p31 p32 p33=some r) ?_ (fun J35=>?_)))))))
   ·rintro _ ⟨p27,p28,p29,p30,p31,p32,p33,rfl,h0⟩
    refine As 6 (Jo [(7,iV p27),(103,.bool (p27 != 0))]) (Hh a0 [(512,Ap p28 p29 u_ p30 (Al 1921) p31 u_ p32 p33)]) (Cw h0 (fun c34 h0=>?_) (fun c34 h0=>?_))
    ·refine At 3 (Ah (st (c_ (v:=.agg [iV p27,iV 0]) (Bw ⟨tv,tv⟩ rfl ⟨⟨rfl,rfl,nl rfl⟩,tv⟩) (o_ ?_))))
     obtain rfl:=sj h0
     exact Cs 4
    ·obtain rfl:=sj h0
     exact Cs 9 [1921]
   ·refine Bk ?_
    refine As 3 (Jo [(3,.ptr 192 0),(6,.ptr 384 0),(7,iV 0),(32,iV a1.kind),(33,.bool (a1.kind==1))]) (Hh a0 [(192,Ao a1),(384,Bh a0.Ab),(512,Bi r5 (Al 1920) (Al 1921) (Al 1922))]) (Cw h0 (fun c36 h0=>?_) (fun c36 h0=>?_))
    ·refine At 3 (Ah (bb h0 fun r37 e38 h0=>st (Cm (r:=.tup [.agg (Ax r37.1),.agg (Bp r37.2)]) true (H132 a0 a1 r37 e38) ⟨tv,tv,tv⟩ rfl rfl (fun h=>nomatch h) (o_ ?_))))
     obtain rfl:=sj h0
     exact Cs 6
    ·refine As 4 (Jo [(3,.ptr 192 0),(6,.ptr 384 0),(7,iV 0),(32,iV a1.kind),(40,.bool (a1.kind==2))]) (Hh a0 [(192,Ao a1),(384,Bh a0.Ab),(512,Bi r5 (Al 1920) (Al 1921) (Al 1922))]) (Cw h0 (fun c39 h0=>?_) (fun c39 h0=>?_))
     ·refine At 7 (Ah (bb h0 fun r40 e41 h0=>st (Cm (r:=.tup [.agg (Bh r40.1),iV r40.2]) true (H79 a0.Ab a1.id a1.ttl r40 e41) ⟨tv,tv,tv,tv⟩ rfl rfl (fun h=>nomatch h) (o_ (As 6 (Jo [(6,.ptr 384 0),(7,iV r40.2)]) (Hh a0 [(384,Bh r40.1),(512,Bi r5 (Al 1920) (Al 1921) (Al 1922))]) (At 5 ?_))))))
      exact J35 _ _ (qH [1922] (by kernel_rfl)) ⟨_,_,_,_,_,_,_,rfl,h0⟩
     ·refine As 4 (Jo [(3,.ptr 192 0),(6,.ptr 384 0),(7,iV 0),(32,iV a1.kind),(54,.bool (a1.kind==3))]) (Hh a0 [(192,Ao a1),(384,Bh a0.Ab),(512,Bi r5 (Al 1920) (Al 1921) (Al 1922))]) (Cw h0 (fun c42 h0=>?_) (fun c42 h0=>?_))
      ·refine At 5 (Ah (bb h0 fun r43 e44 h0=>st (Cm (r:=.tup [.agg (Bh r43.1),iV r43.2]) true (H74 a0.Ab a1.id r43 e44) ⟨tv,tv,tv⟩ rfl rfl (fun h=>nomatch h) (o_ (As 6 (Jo [(6,.ptr 384 0),(7,iV r43.2)]) (Hh a0 [(384,Bh r43.1),(512,Bi r5 (Al 1920) (Al 1921) (Al 1922))]) (At 5 ?_))))))
       exact J35 _ _ (qH [1922] (by kernel_rfl)) ⟨_,_,_,_,_,_,_,rfl,h0⟩
      ·refine As 4 (Jo [(3,.ptr 192 0),(7,iV 0),(32,iV a1.kind),(66,.bool (a1.kind==4))]) (Hh a0 [(192,Ao a1),(512,Bi r5 (Al 1920) (Al 1921) (Al 1922))]) (Cw h0 (fun c45 h0=>?_) (fun c45 h0=>?_))
       ·refine At 5 (Ah (bb h0 fun r46 e47 h0=>Ji (H81 a0.Ab a1.clock r46 e47) (ar (Bq rfl (af (af rfl)))) (o_ (As 13 (Jo [(3,.ptr 192 0),(7,iV 0),(79,.bool (a1.stop==1))]) (Hh a0 [(192,Ao a1),(512,Ap r46.1.clock r46.1.next (Al 4672) r46.1.Ac (Al 1921) r5.Aa (Al 1922) r5.Ae r5.Ai)]) (Cw h0 (fun c48 h0=>?_) (fun c48 h0=>?_))))))
        ·refine At 2 (Ah (bb h0 fun r49 e50 h0=>Ji (H133 (Ag.mk r46.1 r5.Aa r5.Ae r5.Ai) r49 e50) (ar (Bq rfl (af (af (af (Bq rfl rfl)))))) (st (c_ (v:=.agg [iV 15,iV 0]) (Bw ⟨tv,tv⟩ rfl ⟨⟨rfl,rfl,nl rfl⟩,tv⟩) (o_ ?_)))))
         obtain rfl:=sj h0
         exact Cs 4 [5184,5185,5186]
        ·refine As 7 (Jo [(3,.ptr 192 0),(7,iV 0),(9,.ptr 576 0)]) (Hh a0 [(192,Ao a1),(512,Ap r46.1.clock r46.1.next (Al 4672) r46.1.Ac (Al 1921) r5.Aa (Al 1922) r5.Ae r5.Ai),(576,Ap r46.1.clock r46.1.next (Al 4672) r46.1.Ac (Al 1921) r5.Aa (Al 1922) r5.Ae r5.Ai)]) (At 3 (Ah (bb h0 fun r51 e52 h0=>st (Cm (r:=.agg (Bi r51 u_ (Al 0) u_)) true (H134 (Ag.mk r46.1 r5.Aa r5.Ae r5.Ai) a1 r51 e52) ⟨tv,tv,tv⟩ rfl rfl (fun h=>nomatch h) (o_ (uE 12 (Jo [(7,iV 0),(93,.bool (bif r51.Ai then (!r5.Ai) else false))]) (Hh a0 [(512,Bi r51 u_ (Al 5504) u_)]) (Cw h0 (fun c53 h0=>?_) (fun c53 h0=>?_))))))))
         ·refine At 2 (Ah (st (c_ (v:=.agg [iV 15,iV 0]) (Bw ⟨tv,tv⟩ rfl ⟨⟨rfl,rfl,nl rfl⟩,tv⟩) (o_ ?_))))
          obtain rfl:=sj h0
          exact Cs 4 [5504]
         ·refine Nh (Um ?_)
          exact J35 _ _ (Lz [] [(5504,1921)] rfl (by kernel_rfl)) ⟨_,_,_,_,_,_,_,rfl,h0⟩
       ·refine As 4 (Jo [(7,iV 0),(32,iV a1.kind),(96,.bool (a1.kind==5))]) (Hh a0 [(512,Bi r5 (Al 1920) (Al 1921) (Al 1922))]) (Cw h0 (fun c54 h0=>?_) (fun c54 h0=>?_))
        ·refine At 4 ?_
         exact J35 _ _ (qH [1920,1922] (by kernel_rfl)) ⟨_,_,_,_,_,_,_,rfl,h0⟩
        ·refine As 4 (Jo [(7,iV 0),(99,.bool (a1.kind==6))]) (Hh a0 [(512,Bi r5 (Al 1920) (Al 1921) (Al 1922))]) (Cw h0 (fun c55 h0=>?_) (fun c55 h0=>?_))
         ·refine At 4 ?_
          exact J35 _ _ (qH [1920,1922] (by kernel_rfl)) ⟨_,_,_,_,_,_,_,rfl,h0⟩
         ·refine Nh (Um ?_)
          exact J35 _ _ (qH [1920,1922] (by kernel_rfl)) ⟨_,_,_,_,_,_,_,rfl,h0⟩

/- loop.example/g00149/spec.RunVault -/
def c50_r0:List Bj:=[a_ 2 (zV 131 132 133),⟨some 3,.nilS 2,none⟩,i_ 4 0]
def c50_r1:=[m_ 10 0,n_ 11 10,B_ .gtr 12 11 4096]
def c50_r2:List Bj:=[iQ 13 (.build (zV 835 836 837) []),⟨some 14,.mkS 2 [iV 0,iV 0] 0 [],none⟩,s_ 2 13 6,m_ 3 14,i_ 4 2]
def c50_r3:=[m_ 15 0,n_ 16 15,B_ .gtr 17 16 120]
def c50_r4:List Bj:=[iQ 18 (.build (zV 1155 1156 1157) []),⟨some 19,.mkS 2 [iV 0,iV 0] 0 [],none⟩,s_ 2 18 6,m_ 3 19,i_ 4 6]
def c50_r5:List Bj:=[⟨some 20,.p (.build (zT 1283) [(1,1,.c (iV 1))]),none⟩,⟨some 21,.p (.build (zV 1347 1348 1349) [(0,3,.t 20)]),none⟩,a_ 5 (zV 323 324 325),s_ 5 21 6]
def c50_r6:List Bj:=[⟨some 22,.mkS 2 [iV 0,iV 0] 0 [],none⟩,m_ 6 22]
def c50_r7:=[i_ 7 0]
def c50_r8:=[m_ 23 7,m_ 24 0,n_ 25 24,b_ .lss 26 23 25]
def c50_r9:=[m_ 29 0,m_ 30 7,x_ 31 29 30 7,L_ 32 31 7,q_ 33 100 [.t 32],N_ 34 33]
def AjZ:List Bj:=[iQ 35 (.build (zV 2243 2244 2245) []),⟨some 36,.mkS 2 [iV 0,iV 0] 0 [],none⟩,s_ 2 35 6,m_ 3 36,i_ 4 1]
def bY:DP:=.alt [e_ 45 37 1] (s_ 8 44 6) (.alt [] (s_ 9 45 2) .fin .stop) .stop
def lX:DP:=.alt [] (q_ 43 101 [.t 38,.t 42]) (tk [m_ 37 43,e_ 44 37 0,e_ 45 37 1] bY) .stop
def lY:DP:=.alt [e_ 45 37 1,e_ 44 37 0,m_ 37 43] (a_ 9 [iV 0,iV 0]) bY .stop
def lZ:DP:=.alt [e_ 45 37 1,e_ 44 37 0,m_ 37 43] (a_ 8 (zV 515 516 517)) bY .stop
def Aka:=tk [L_ 38 5 6,m_ 39 0,m_ 40 7,x_ 41 39 40 7,L_ 42 41 7] (.alt [] (q_ 43 101 [.t 38,.t 42]) (tk [m_ 37 43,e_ 44 37 0,e_ 45 37 1] (.alt [e_ 45 37 1,e_ 44 37 0,m_ 37 43] (a_ 8 (zV 515 516 517)) lY (.alt [e_ 45 37 1,e_ 44 37 0,m_ 37 43] (a_ 9 [iV 0,iV 0]) lZ .stop))) (.alt [L_ 42 41 7,x_ 41 39 40 7,m_ 40 7,m_ 39 0,L_ 38 5 6] (a_ 8 (zV 515 516 517)) (.alt [] (q_ 43 101 [.t 38,.t 42]) (tk [m_ 37 43,e_ 44 37 0,e_ 45 37 1] lY) (.alt [L_ 42 41 7,x_ 41 39 40 7,m_ 40 7,m_ 39 0,L_ 38 5 6] (a_ 9 [iV 0,iV 0]) lX .stop)) (.alt [L_ 42 41 7,x_ 41 39 40 7,m_ 40 7,m_ 39 0,L_ 38 5 6] (a_ 9 [iV 0,iV 0]) (.alt [] (q_ 43 101 [.t 38,.t 42]) (tk [m_ 37 43,e_ 44 37 0,e_ 45 37 1] lZ) (.alt [L_ 42 41 7,x_ 41 39 40 7,m_ 40 7,m_ 39 0,L_ 38 5 6] (a_ 8 (zV 515 516 517)) lX .stop)) .stop)))
def Akb:=[L_ 46 8 6,s_ 5 46 6]
def Akc:List Bj:=[m_ 47 6,L_ 48 9 2,⟨some 49,.mkS 2 [iV 0,iV 0] 1 [(0,.t 48)],none⟩,⟨some 50,.app 2 16 (.t 47) (.t 49),none⟩,m_ 6 50]
def Akd:=[m_ 27 7,B_ .add 28 27 1,m_ 7 28]
def c50_l0:IR:=(.seq (sr c50_r8 (.ite (.t 26) .skip (.exit 0))) (.seq (.block 1 (.seq (sr c50_r9 (iz 34 (rr AjZ))) (sd Aka (sr Akb (.reg Akc))))) (.reg Akd)))
def Ake:=[L_ 51 5 6,q_ 52 102 [.t 51],m_ 53 6,s_ 2 52 6,m_ 3 53,i_ 4 0]
def c50:De:=⟨1,54,[.cell 2 6 true,.t 3,.t 4],sr c50_r0 (.seq (sr c50_r1 (iz 12 (rr c50_r2))) (.seq (sr c50_r3 (iz 17 (rr c50_r4))) (sr c50_r5 (sr c50_r6 (.seq (sr c50_r7 (Jc 0 c50_l0)) (rr Ake))))))⟩
def K50 (D:Ba):Prop:=∀a0 r,g50 a0=some r→D 50 ⟨[Ca a0],[]⟩ ⟨.tup [.agg (Bi r.1 (Al 0) (Al 1) (Al 2)),Ct 3 r.2.1,iV r.2.2],[],[]⟩
abbrev Px:=fun (r:List (Nat×List V))=>(128,Ap 0 0 (Al 131) [] (Al 132) [] (Al 133) [] false)::r
abbrev Zx:=fun x0 (r:List (Nat×V))=>(0,Ca x0)::(2,.ptr 128 0)::(5,.ptr 320 0)::r
theorem F50 (H100:K100 C) (H101:K101 C) (H102:pC C):K50 (FO C c50):=by
 intro a0 r h0
 refine f0 (As 5 [(0,Ca a0),(2,.ptr 128 0)] (Px []) (At 3 (Ah (Hf rfl (o_ (As 2 [(0,Ca a0),(2,.ptr 128 0),(12,.bool (decide ((a0.length:Int)>4096)))] (Px []) (Cw h0 (fun c1 h0=>?_) (fun c1 h0=>?_))))))))
 ·obtain rfl:=sj h0
  exact Cs 8
 ·refine At 5 (Ah (Hf rfl (o_ (As 2 [(0,Ca a0),(2,.ptr 128 0),(17,.bool (decide ((a0.length:Int)>120)))] (Px []) (Cw h0 (fun c2 h0=>?_) (fun c2 h0=>?_))))))
  ·obtain rfl:=sj h0
   exact Cs 8
  ·refine Mm 3 (Ah (st (c_ (v:=.agg (Bt 0 1 (Al 1283) [])) (Bw ⟨tv,tv⟩ rfl ⟨⟨rfl,rfl,nl rfl⟩,tv⟩) (st (c_ (v:=.agg (Ap 0 1 (Al 1283) [] (Al 1348) [] (Al 1349) [] false)) (Bw ⟨tv,tv⟩ rfl ⟨⟨rfl,rfl,nl rfl⟩,tv⟩) (o_ (As 13 (Zx a0 [(6,Ct 1408 []),(7,iV 0)]) (Px [(320,Ap 0 1 (Al 1283) [] (Al 1348) [] (Al 1349) [] false)]) (Ci (bb h0 fun r62 e63 h0=>Df (R:=(fun S=>∃p43:List Am,∃p44:Int,∃p45:Int,∃p46:List Af,∃p47:List Ad,∃p48:List Int,∃p49:Bool,.inl (p43,p44,p45,p46,p47,p48,p49)=r62∧S=⟨[(2,.ptr 128 0),(5,.ptr 320 0),(6,Ct 1408 p43)],Px [(320,Ap p44 p45 u_ p46 u_ p47 u_ p48 p49)],[]⟩)) (cT a0) (fun s S=>match s with | (p15,p16,p17,p18,p19,p20,p21,p22)=>S=⟨Zx a0 [(6,Ct 1408 p15),(7,iV p16)],Px [(320,Ap p17 p18 u_ p19 u_ p20 u_ p21 p22)],[]⟩) e63 ⟨Zx a0 [(6,Ct 1408 []),(7,iV 0)],Px [(320,Ap 0 1 u_ [] u_ [] u_ [] false)],[]⟩ (qH [1283,1348,1349] (by kernel_rfl)) rfl 0 (fun _=>rfl) ?_ ?_)))))))))
   ·rintro S _ hfg ⟨p43,p44,p45,p46,p47,p48,p49,rfl,rfl⟩
    refine Dy _ hfg (At 2 (Ah (bb h0 fun r64 e65 h0=>Ji (H102 (Ag.mk (Ak.mk p44 p45 p46) p47 p48 p49) r64 e65) (ar (Bq rfl (af (af (af (Bq rfl rfl)))))) (o_ ?_))))
    obtain rfl:=sj h0
    exact Cs 6
   ·rintro ⟨p15,p16,p17,p18,p19,p20,p21,p22⟩ o1 _ K1 rfl h1 hx1 hK1 hE1 hR1
    refine At 4 (Ah (Hf rfl (o_ (As 2 (Zx a0 [(6,Ct 1408 p15),(7,iV p16),(26,.bool (decide (p16<(a0.length:Int))))]) (Px [(320,Ap p17 p18 u_ p19 u_ p20 u_ p21 p22)]) (Cw h1 (fun c50 h1=>?_) (fun c50 h1=>?_))))))
    ·refine At 8 (Ah (bb h1 fun y51 e52 h1=>Ns rfl rfl e52 (st (c_ (v:=.agg (Ao y51)) (Bw ⟨tv,tv⟩ rfl (nl rfl)) (bb h1 fun r53 e54 h1=>Il (H100 y51 r53 e54) (o_ (As 2 (Zx a0 [(6,Ct 1408 p15),(7,iV p16),(34,.bool (!r53))]) (Px [(320,Ap p17 p18 u_ p19 u_ p20 u_ p21 p22)]) (Cw h1 (fun c55 h1=>?_) (fun c55 h1=>?_)))))))))
     ·obtain rfl:=sj h1
      obtain rfl:=hx1 _ rfl
      obtain rfl:=sj h0
      exact Yy 8 hR1
     ·refine Mm 3 (bb h1 fun y56 e57 h1=>bb h1 fun r58 e59 h1=>HU (fun S=>S=⟨Zx a0 [(6,Ct 1408 p15),(7,iV p16),(8,.ptr 512 0),(9,.ptr 576 0)],Px [(320,Ap p17 p18 u_ p19 u_ p20 u_ p21 p22),(512,Ax r58.1),(576,Bp r58.2)],[]⟩) ?_ (fun J60=>?_))
      ·rintro _ rfl
       refine As 4 (Zx a0 [(6,Ct 1408 p15),(7,iV p16),(9,.ptr 576 0)]) (Px [(320,Ax r58.1),(576,Bp r58.2)]) (At 3 (Ah (gg h1 fun c61 h1=>st (Fp (e:=Bp) (l0:=p15) (l1:=([r58.2]:List Am)) rfl rfl tv rfl (by decide) c61 (o_ (As 3 (Zx a0 [(6,Ct 1408 (p15++([r58.2]:List Am))),(7,iV p16)]) (Px [(320,Ax r58.1)]) (At 4 ?_)))))))
       obtain rfl:=sj h1
       exact kn hK1 rfl rfl
      ·refine Au tv (c_ (v:=.agg (Ap p17 p18 u_ p19 u_ p20 u_ p21 p22)) (Bw ⟨tv,tv⟩ rfl (nl rfl)) ?_)
       refine ⟨tv,d_ (At 2 (Bm (d_ (sN rfl rfl rfl e57 (Bm (Au tv (c_ (v:=.agg (Ao y56)) (Bw ⟨tv,tv⟩ rfl (nl rfl)) (⟨tv,Cb (Cm (r:=.tup [.agg (Ax r58.1),.agg (Bp r58.2)]) true (H101 (Ag.mk (Ak.mk p17 p18 p19) p20 p21 p22) y56 r58 e59) ⟨tv,tv,tv⟩ rfl rfl (fun h=>nomatch h) ?_) ?_⟩))))))))⟩
       ·refine dw [(0,Ca a0),(2,.ptr 128 0),(5,.ptr 320 0),(6,Ct 1408 p15),(7,iV p16),(43,.tup [.agg (Ax r58.1),.agg (Bp r58.2)])] [(128,Ap 0 0 (Al 131) [] (Al 132) [] (Al 133) [] false),(320,Ap p17 p18 u_ p19 u_ p20 u_ p21 p22)] tv ?_
        refine d_ (At 3 (Bm (Cb (Hg ?_) ?_)))
        ·refine d0 hB ?_
         refine Cb (Hg (d0 hB (Cb (Gc rfl rfl tv rfl rfl rfl (nl rfl) (d0 hB (Cb (Gc rfl rfl tv rfl rfl rfl (nl rfl) (d0 tv (Jz ?_))) Az))) Az))) Az
         exact jn J60 rfl
        ·refine Cb (Hg ?_) Az
         refine d0 hB (Cb (Hg (d0 hB (Cb (Gc rfl rfl tv rfl rfl rfl (nl rfl) (d0 hB (Cb (Gc rfl rfl tv rfl rfl rfl (nl rfl) (d0 tv (Jz ?_))) Az))) Az))) Az)
         exact jn J60 rfl
       ·refine Cb (Hg ?_) ?_
        ·refine d0 ⟨⟨.inl tv,Bl (Bw ⟨tv,tv⟩ rfl (nl rfl)) rfl⟩,⟨.inl tv,Bl (cj_ rfl rfl e57) rfl⟩,⟨.inl tv,Bl (Qc (v:=iV p16) rfl tv) rfl⟩,⟨.inl tv,Bl (Qc (v:=Ca a0) rfl tv) rfl⟩,⟨.inl tv,Bl (Bw ⟨tv,tv⟩ rfl (nl rfl)) rfl⟩,tv⟩ ?_
         refine Cb (Cm (r:=.tup [.agg (Ax r58.1),.agg (Bp r58.2)]) true (H101 (Ag.mk (Ak.mk p17 p18 p19) p20 p21 p22) y56 r58 e59) ⟨tv,tv,tv⟩ rfl rfl (fun h=>nomatch h) ?_) ?_
         ·refine dw [(0,Ca a0),(2,.ptr 128 0),(5,.ptr 320 0),(6,Ct 1408 p15),(7,iV p16),(8,.ptr 512 0),(43,.tup [.agg (Ax r58.1),.agg (Bp r58.2)])] [(128,Ap 0 0 (Al 131) [] (Al 132) [] (Al 133) [] false),(320,Ap p17 p18 u_ p19 u_ p20 u_ p21 p22),(512,Ap 0 0 (Al 515) [] (Al 516) [] (Al 517) [] false)] tv ?_
          refine d_ (At 3 (Bm (Cb (Hg (d0 hB (Cb (Gc rfl rfl tv rfl rfl rfl (nl rfl) (d0 hB (Cb (Gc rfl rfl tv rfl rfl rfl (nl rfl) (d0 tv (Jz ?_))) Az))) Az))) Az)))
          exact jn J60 rfl
         ·refine Cb (Hg ?_) Az
          refine d0 ⟨⟨.inl tv,Bl (Bw ⟨tv,tv⟩ rfl (nl rfl)) rfl⟩,⟨.inl tv,Bl (cj_ rfl rfl e57) rfl⟩,⟨.inl tv,Bl (Qc (v:=iV p16) rfl tv) rfl⟩,⟨.inl tv,Bl (Qc (v:=Ca a0) rfl tv) rfl⟩,⟨.inl tv,Bl (Bw ⟨tv,tv⟩ rfl (nl rfl)) rfl⟩,tv⟩ (Cb (Cm (r:=.tup [.agg (Ax r58.1),.agg (Bp r58.2)]) true (H101 (Ag.mk (Ak.mk p17 p18 p19) p20 p21 p22) y56 r58 e59) ⟨tv,tv,tv⟩ rfl rfl (fun h=>nomatch h) (dw [(0,Ca a0),(2,.ptr 128 0),(5,.ptr 320 0),(6,Ct 1408 p15),(7,iV p16),(8,.ptr 512 0),(9,.ptr 576 0),(43,.tup [.agg (Ax r58.1),.agg (Bp r58.2)])] [(128,Ap 0 0 (Al 131) [] (Al 132) [] (Al 133) [] false),(320,Ap p17 p18 u_ p19 u_ p20 u_ p21 p22),(512,Ap 0 0 (Al 515) [] (Al 516) [] (Al 517) [] false),(576,[iV 0,iV 0])] tv (d_ (At 3 (Bm (Cb (Gc rfl rfl tv rfl rfl rfl (nl rfl) (d0 hB (Cb (Gc rfl rfl tv rfl rfl rfl (nl rfl) (d0 tv (Jz ?_))) Az))) Az)))))) Az)
          exact jn J60 rfl
        ·refine Cb (Hg ?_) Az
         refine d0 ⟨⟨.inl tv,Bl (Bw ⟨tv,tv⟩ rfl (nl rfl)) rfl⟩,⟨.inl tv,Bl (cj_ rfl rfl e57) rfl⟩,⟨.inl tv,Bl (Qc (v:=iV p16) rfl tv) rfl⟩,⟨.inl tv,Bl (Qc (v:=Ca a0) rfl tv) rfl⟩,⟨.inl tv,Bl (Bw ⟨tv,tv⟩ rfl (nl rfl)) rfl⟩,tv⟩ (Cb (Cm (r:=.tup [.agg (Ax r58.1),.agg (Bp r58.2)]) true (H101 (Ag.mk (Ak.mk p17 p18 p19) p20 p21 p22) y56 r58 e59) ⟨tv,tv,tv⟩ rfl rfl (fun h=>nomatch h) ?_) ?_)
         ·refine dw [(0,Ca a0),(2,.ptr 128 0),(5,.ptr 320 0),(6,Ct 1408 p15),(7,iV p16),(9,.ptr 576 0),(43,.tup [.agg (Ax r58.1),.agg (Bp r58.2)])] [(128,Ap 0 0 (Al 131) [] (Al 132) [] (Al 133) [] false),(320,Ap p17 p18 u_ p19 u_ p20 u_ p21 p22),(576,[iV 0,iV 0])] tv ?_
          refine d_ (At 3 (Bm (Cb (Hg (d0 hB (Cb (Gc rfl rfl tv rfl rfl rfl (nl rfl) (d0 hB (Cb (Gc rfl rfl tv rfl rfl rfl (nl rfl) (d0 tv (Jz ?_))) Az))) Az))) Az)))
          exact jn J60 rfl
         ·refine Cb (Hg ?_) Az
          refine d0 ⟨⟨.inl tv,Bl (Bw ⟨tv,tv⟩ rfl (nl rfl)) rfl⟩,⟨.inl tv,Bl (cj_ rfl rfl e57) rfl⟩,⟨.inl tv,Bl (Qc (v:=iV p16) rfl tv) rfl⟩,⟨.inl tv,Bl (Qc (v:=Ca a0) rfl tv) rfl⟩,⟨.inl tv,Bl (Bw ⟨tv,tv⟩ rfl (nl rfl)) rfl⟩,tv⟩ (Cb (Cm (r:=.tup [.agg (Ax r58.1),.agg (Bp r58.2)]) true (H101 (Ag.mk (Ak.mk p17 p18 p19) p20 p21 p22) y56 r58 e59) ⟨tv,tv,tv⟩ rfl rfl (fun h=>nomatch h) (dw [(0,Ca a0),(2,.ptr 128 0),(5,.ptr 320 0),(6,Ct 1408 p15),(7,iV p16),(8,.ptr 512 0),(9,.ptr 576 0),(43,.tup [.agg (Ax r58.1),.agg (Bp r58.2)])] [(128,Ap 0 0 (Al 131) [] (Al 132) [] (Al 133) [] false),(320,Ap p17 p18 u_ p19 u_ p20 u_ p21 p22),(512,Ap 0 0 (Al 515) [] (Al 516) [] (Al 517) [] false),(576,[iV 0,iV 0])] tv (d_ (At 3 (Bm (Cb (Gc rfl rfl tv rfl rfl rfl (nl rfl) (d0 hB (Cb (Gc rfl rfl tv rfl rfl rfl (nl rfl) (d0 tv (Jz ?_))) Az))) Az)))))) Az)
          exact jn J60 rfl
    ·obtain rfl:=sj h1
     obtain rfl:=hx1 _ rfl
     refine Iw rfl ?_
     exact jn hE1 ⟨_,_,_,_,_,_,_,rfl,rfl⟩

/- loop.example/g00149/spec.l00Source -/
def c83_r0:=[iQ 2 (.mv (.c .undef))]
def c83_r1:List Bj:=[m_ 3 0,m_ 4 0,n_ 5 4,B_ .rem 6 5 1000,⟨some 7,.p (.build [.own 449 0 1 [],iV 0,iV 0] [(0,1,.t 3),(2,1,.t 6)]),none⟩,X_ 8 7,m_ 2 8]
def c83:De:=⟨1,9,[.t 2],sr c83_r0 (rr c83_r1)⟩
def K83 (D:Ba):Prop:=∀a0 r,g83 a0=some r→D 83 ⟨[Eb a0],[]⟩ ⟨.ptr 0 0,[Br r],[]⟩
theorem F83:K83 (FO C c83):=by
 intro a0 r h0
 refine f0 (As 3 [(0,Eb a0)] [] (At 3 (Ah (Hf rfl (st (c_ (Bw ⟨tv,tv,tv⟩ rfl (by decide)) (st (c_ (v:=.agg (Eu u_ a0 0 (((a0.length:Int)).tmod 1000))) (Bw ⟨tv,tv,tv⟩ rfl ⟨⟨rfl,rfl,nl rfl⟩,⟨rfl,rfl,nl rfl⟩,tv⟩) (o_ ?_)))))))))
 obtain rfl:=sj h0
 exact Cs 4

/- (*loop.example/g00149/spec.l00Src).byte -/
def XE:=[i_ 2 0]
def XF:=[m_ 3 0,iQ 4 (.nilc (.t 3)),f_ 5 4 1,l_ 6 5 1,B_ .add 7 6 1,iQ 8 (.nilc (.t 3)),f_ 9 8 1,s_ 9 7 1]
def XG:=tk [m_ 10 0,iQ 11 (.nilc (.t 10)),f_ 12 11 1,l_ 13 12 1,m_ 14 0,iQ 15 (.nilc (.t 14)),f_ 16 15 0,l_ 17 16 1,n_ 18 17,b_ .leq 19 13 18] .fin
def XH:=tk [m_ 20 0,m_ 21 0,iQ 22 (.nilc (.t 21)),f_ 23 22 2,l_ 24 23 1,B_ .mul 25 24 31,m_ 26 0,iQ 27 (.nilc (.t 26)),f_ 28 27 0,l_ 29 28 1,m_ 30 0,iQ 31 (.nilc (.t 30)),f_ 32 31 1,l_ 33 32 1,B_ .sub 34 33 1,x_ 35 29 34 1,l_ 36 35 1,iQ 37 (.conv .i64 (.t 36)),b_ .add 38 25 37,B_ .add 39 38 7,B_ .rem 40 39 2147483648,iQ 41 (.nilc (.t 20)),f_ 42 41 2] (.alt [] (s_ 42 40 1) .fin .stop)
def XI:=tk [m_ 43 0,iQ 44 (.nilc (.t 43)),f_ 45 44 0,l_ 46 45 1,m_ 47 0,iQ 48 (.nilc (.t 47)),f_ 49 48 1,l_ 50 49 1,B_ .sub 51 50 1,x_ 52 46 51 1,l_ 53 52 1,iQ 54 (.conv .i64 (.t 53)),m_ 2 54] .fin
def XJ:=[m_ 55 0,iQ 56 (.nilc (.t 55)),f_ 57 56 1,l_ 58 57 1,B_ .gtr 59 58 3000]
def XK:=[i_ 2 0]
def XL:=[m_ 60 0,m_ 61 0,iQ 62 (.nilc (.t 61)),f_ 63 62 2,l_ 64 63 1,B_ .mul 65 64 1103515245,B_ .add 66 65 12345,B_ .rem 67 66 2147483648,iQ 68 (.nilc (.t 60)),f_ 69 68 2,s_ 69 67 1]
def XM:=[m_ 70 0,iQ 71 (.nilc (.t 70)),f_ 72 71 2,l_ 73 72 1,B_ .quo 74 73 65536,B_ .rem 75 74 256,m_ 2 75]
def c139:De:=⟨1,76,[.t 2],sr XE (sr XF (.seq (sd XG (iz 19 (sd XH (sd XI .ret)))) (.seq (sr XJ (iz 59 (rr XK))) (sr XL (rr XM)))))⟩
def K139 (D:Ba):Prop:=∀a0 r,qK a0=some r→D 139 ⟨[.ptr 1048576 0],[Br a0]⟩ ⟨iV r.1,[Br r.2],[]⟩
theorem F139:K139 (FO C c139):=by
 intro a0 r h0
 refine f0 (As 14 [(0,.ptr 1048576 0)] [(1048576,Eu u_ a0.code_ (wi (a0.at_+1)) a0.Fv)] (At 7 (Bm ?_)))
 refine d_ (At 3 (Bm (Au tv (c_ (Mu (e:=Gh) (l0:=a0.code_) rfl rfl tv) (⟨tv,d_ (As 2 [(0,.ptr 1048576 0),(19,.bool (decide ((wi (a0.at_+1))≤(a0.code_.length:Int))))] [(1048576,Eu u_ a0.code_ (wi (a0.at_+1)) a0.Fv)] (Cw h0 (fun c1 h0=>?_) (fun c1 h0=>?_)))⟩)))))
 ·refine Bk (bb h0 fun y2 e3 h0=>At 15 (Bm ?_))
  refine d_ (sN rfl rfl rfl e3 (At 4 (Bm (Au tv (c_ (Bw ⟨tv,tv,tv⟩ rfl (by decide)) (⟨tv,d_ (At 2 (Bm (Cb (Gc rfl rfl tv rfl rfl rfl (nl rfl) (d0 tv (Jz (bv h0 fun v4 e5 h0=>Dy ⟨[(0,.ptr 1048576 0)],[(1048576,Eu u_ a0.code_ (wi (a0.at_+1)) v4)],[]⟩ (Er (by subst e5; kernel_rfl)) (Bk (bb h0 fun y6 e7 h0=>At 9 (Bm (d_ (sN rfl rfl rfl e7 (Bm (d_ ?_))))))))))) Az)))⟩))))))
  obtain rfl:=sj h0
  exact Cs 5
 ·refine As 10 [(0,.ptr 1048576 0),(59,.bool (decide ((wi (a0.at_+1))>3000)))] [(1048576,Eu u_ a0.code_ (wi (a0.at_+1)) a0.Fv)] (Cw h0 (fun c8 h0=>?_) (fun c8 h0=>?_))
  ·obtain rfl:=sj h0
   exact Cs 4
  ·refine At 10 (Ah (st (c_ (Bw ⟨tv,tv,tv⟩ rfl (by decide)) (o_ (At 4 (bv h0 fun v9 e10 h0=>Dy ⟨[(0,.ptr 1048576 0)],[(1048576,Eu u_ a0.code_ (wi (a0.at_+1)) v9)],[]⟩ (Er (by subst e10; kernel_rfl)) (At 5 (Ah (st (c_ (Bw ⟨tv,tv,tv⟩ rfl (by decide)) (st (c_ (Bw ⟨tv,tv,tv⟩ rfl (by decide)) (o_ ?_)))))))))))))
   obtain rfl:=sj h0
   exact Cs 3

/- (*loop.example/g00149/spec.l00Src).next -/
def SN:=[i_ 4 0]
def SO:=[m_ 8 1,B_ .leq 9 8 1]
def SP:=[i_ 4 0]
def SQ:=[m_ 10 1,B_ .leq 11 10 256]
def SR:=[m_ 12 0,q_ 13 139 [.t 12],m_ 14 1,b_ .rem 15 13 14,m_ 4 15]
def SS:=[m_ 16 0,q_ 17 139 [.t 16],m_ 5 17]
def ST:=[m_ 18 0,q_ 19 139 [.t 18],m_ 6 19]
def SU:=[m_ 20 0,q_ 21 139 [.t 20],m_ 7 21]
def SV:=[m_ 22 5,B_ .mul 23 22 65536,m_ 24 6,B_ .mul 25 24 256,b_ .add 26 23 25,m_ 27 7,b_ .add 28 26 27,m_ 29 1,b_ .rem 30 28 29,m_ 4 30]
def c117:De:=⟨2,31,[.t 4],sr SN (.seq (sr SO (iz 9 (rr SP))) (.seq (sr SQ (iz 11 (rr SR))) (sr SS (sr ST (sr SU (rr SV))))))⟩
def pE (D:Ba):Prop:=∀a0 a1 r,Qy a0 a1=some r→D 117 ⟨[.ptr 1048576 0,iV a1],[Br a0]⟩ ⟨iV r.1,[Br r.2],[]⟩
theorem F117 (H139:K139 C):pE (FO C c117):=by
 intro a0 a1 r h0
 refine f0 (As 9 [(0,.ptr 1048576 0),(1,iV a1),(9,.bool (decide (a1≤1)))] [(1048576,Br a0)] (Cw h0 (fun c1 h0=>?_) (fun c1 h0=>?_)))
 ·obtain rfl:=sj h0
  exact Cs 4
 ·refine As 7 [(0,.ptr 1048576 0),(1,iV a1),(11,.bool (decide (a1≤256)))] [(1048576,Br a0)] (Cw h0 (fun c2 h0=>?_) (fun c2 h0=>?_))
  ·refine Bk (Ah (st (Dc rfl tv (bb h0 fun r3 e4 h0=>Vv [1048576] [] [] (H139 a0 r3 e4) (st (Dc rfl tv (gg h0 fun c5 h0=>st (c_ (Bw ⟨tv,tv,tv⟩ rfl c5) (o_ ?_)))))))))
   obtain rfl:=sj h0
   exact Cs 3
  ·refine At 4 (Ah (bb h0 fun r6 e7 h0=>Vv [1048576] [] [] (H139 a0 r6 e7) (o_ (As 2 [(0,.ptr 1048576 0),(1,iV a1),(5,iV r6.1)] [(1048576,Br r6.2)] (Bk (Ah (st (Dc rfl tv (bb h0 fun r8 e9 h0=>Vv [1048576] [] [] (H139 r6.2 r8 e9) (o_ (As 2 [(0,.ptr 1048576 0),(1,iV a1),(5,iV r6.1),(6,iV r8.1)] [(1048576,Br r8.2)] (Bk (Ah (st (Dc rfl tv (bb h0 fun r10 e11 h0=>Vv [1048576] [] [] (H139 r8.2 r10 e11) (o_ (As 2 [(1,iV a1),(5,iV r6.1),(6,iV r8.1),(7,iV r10.1)] [(1048576,Br r10.2)] (At 9 (Ah (gg h0 fun c12 h0=>st (c_ (Bw ⟨tv,tv,tv⟩ rfl c12) (st (Dc rfl tv (In (bv h0 fun v13 e14 h0=>Dy ⟨[(4,iV v13)],[(1048576,Br r10.2)],[]⟩ (Er (by subst e14; kernel_rfl)) ?_))))))))))))))))))))))))))
   obtain rfl:=sj h0
   exact Kv (Fe rfl rfl rfl rfl rfl tv)

/- (*loop.example/g00149/spec.l00Src).size -/
def SW:=[i_ 4 0]
def SX:List Bj:=[m_ 5 0,iQ 6 (.nilc (.t 5)),f_ 7 6 0,l_ 8 7 1,n_ 9 8,B_ .quo 10 9 12,⟨some 11,.p (.bin .add (.c (iV 1)) (.t 10)),none⟩,m_ 12 1,iQ 13 (.mn (.t 11) (.t 12)),m_ 4 13]
def c118:De:=⟨2,14,[.t 4],sr SW (rr SX)⟩
def K118 (D:Ba):Prop:=∀a0 a1 r,AkP a0 a1=some r→D 118 ⟨[.iptr (Br a0),iV a1],[]⟩ ⟨iV r,[],[]⟩
theorem F118:K118 (FO C c118):=by
 intro a0 a1 r h0
 refine f0 (As 3 [(0,.iptr (Br a0)),(1,iV a1)] [] (At 5 (Ah (Hf rfl (st (c_ (Bw ⟨tv,tv,tv⟩ rfl (by decide)) (o_ (At 5 (bv h0 fun v1 e2 h0=>Dy ⟨[(4,iV v1)],[],[]⟩ (Er (by subst e2; kernel_rfl)) ?_)))))))))
 obtain rfl:=sj h0
 exact Kv (Fe rfl rfl rfl rfl rfl tv)

/- (*loop.example/g00149/spec.l00Src).chance -/
def SY:=[k_ 4 (.bool false)]
def SZ:=[m_ 5 0,m_ 6 1,q_ 7 117 [.t 5,.t 6],m_ 8 1,B_ .sub 9 8 1,b_ .eql 10 7 9,m_ 4 10]
def c119:De:=⟨2,11,[.t 4],sr SY (rr SZ)⟩
def NL (D:Ba):Prop:=∀a0 a1 r,IH a0 a1=some r→D 119 ⟨[.ptr 1048576 0,iV a1],[Br a0]⟩ ⟨.bool r.1,[Br r.2],[]⟩
theorem F119 (H117:pE C):NL (FO C c119):=by
 intro a0 a1 r h0
 refine f0 (As 3 [(0,.ptr 1048576 0),(1,iV a1)] [(1048576,Br a0)] (At 3 (Ah (bb h0 fun r1 e2 h0=>Vv [1048576] [] [] (H117 a0 a1 r1 e2) (o_ ?_)))))
 obtain rfl:=sj h0
 exact Cs 6

/- (*loop.example/g00149/spec.l00Src).Cp -/
def YP:List Bj:=[⟨some 2,.nilS 1,none⟩]
def YQ:List Bj:=[⟨some 5,.mkS 1 [iV 0] 0 [],none⟩,m_ 3 5]
def YR:=[m_ 6 0,q_ 7 117 [.t 6,.c (iV 4)],m_ 4 7]
def YS:=[m_ 8 4,B_ .gtr 9 8 0]
def YT:List Bj:=[m_ 12 3,m_ 13 0,q_ 14 117 [.t 13,.c (iV 5)],B_ .rem 15 14 3,⟨some 16,.mkS 1 [iV 0] 1 [(0,.t 15)],none⟩,⟨some 17,.app 1 8 (.t 12) (.t 16),none⟩,m_ 3 17]
def YU:=[m_ 10 4,B_ .sub 11 10 1,m_ 4 11]
def YO:IR:=(.seq (sr YS (.ite (.t 9) .skip (.exit 0))) (.seq (.block 1 (.reg YT)) (.reg YU)))
def YV:=[m_ 18 3,m_ 2 18]
def YN:De:=⟨1,19,[.t 2],sr YP (sr YQ (.seq (sr YR (Jc 0 YO)) (rr YV)))⟩
def K147 (D:Ba):Prop:=∀a0 r,IK a0=some r→D 147 ⟨[.ptr 1048576 0],[Br a0]⟩ ⟨oI 0 r.1,[Br r.2],[]⟩
theorem F147 (H117:pE C):K147 (FO C YN):=by
 intro a0 r h0
 refine f0 (As 8 [(0,.ptr 1048576 0),(3,oI 320 [])] [(1048576,Br a0)] (At 3 (Ah (bb h0 fun r1 e2 h0=>Vv [1048576] [] [] (H117 a0 4 r1 e2) (o_ (As 2 [(0,.ptr 1048576 0),(3,oI 320 []),(4,iV r1.1)] [(1048576,Br r1.2)] (Ci (bb h0 fun r29 e30 h0=>Df (R:=(fun S=>∃p21:List Int,∃p22:List UInt8,∃p23:Int,∃p24:Int,(p21,p22,p23,p24)=r29∧S=⟨[(3,oI 320 p21)],[(1048576,Eu u_ p22 p23 p24)],[]⟩)) (aZ) (fun s S=>match s with | (p7,p8,p9,p10,p11)=>S=⟨[(0,.ptr 1048576 0),(3,oI 320 p7),(4,iV p8)],[(1048576,Eu u_ p9 p10 p11)],[]⟩) e30 _ (Er (by kernel_rfl)) rfl 0 (fun _=>rfl) ?_ ?_))))))))
 ·rintro S _ hfg ⟨p21,p22,p23,p24,rfl,rfl⟩
  refine Dy _ hfg ?_
  obtain rfl:=sj h0
  exact Cs 5
 ·rintro ⟨p7,p8,p9,p10,p11⟩ o1 _ K1 rfl h1 hx1 hK1 hE1 hR1
  refine As 5 [(0,.ptr 1048576 0),(3,oI 320 p7),(4,iV p8),(9,.bool (decide (p8>0)))] [(1048576,Eu u_ p9 p10 p11)] (Cw h1 (fun c25 h1=>?_) (fun c25 h1=>?_))
  ·refine At 6 (Ah (bb h1 fun r26 e27 h1=>Vv [1048576] [] [] (H117 (Bz.mk p9 p10 p11) 5 r26 e27) (st (c_ (Bw ⟨tv,tv,tv⟩ rfl (by decide)) (st (Ky ⟨tv,tv⟩ ⟨⟨nl rfl,rfl,rfl⟩,tv⟩ (gg h1 fun c28 h1=>st (Fp (e:=eI) (l0:=p7) (l1:=([(r26.1).tmod 3]:List Int)) rfl rfl tv rfl (by decide) c28 (o_ (As 3 [(0,.ptr 1048576 0),(3,oI 320 (p7++([(r26.1).tmod 3]:List Int))),(4,iV p8)] [(1048576,Br r26.2)] (At 4 ?_)))))))))))
   obtain rfl:=sj h1
   exact kn hK1 rfl rfl
  ·obtain rfl:=sj h1
   obtain rfl:=hx1 _ rfl
   refine Iw rfl ?_
   exact jn hE1 ⟨_,_,_,_,rfl,rfl⟩

/- (*loop.example/g00149/spec.l00Src).vaultAct -/
def WR:=[a_ 2 [iV 0,iV 0,iV 0,iV 0,iV 0,.own 134 0 1 [],iV 0]]
def WS:List Bj:=[m_ 4 0,q_ 5 117 [.t 4,.c (iV 9)],⟨some 6,.p (.bin .add (.c (iV 1)) (.t 5)),none⟩,m_ 7 0,q_ 8 147 [.t 7],⟨some 9,.p (.build [iV 0,iV 0,iV 0,iV 0,iV 0,.own 582 0 1 [],iV 0] [(0,1,.c (iV 1)),(2,1,.t 6),(5,1,.t 8)]),none⟩,a_ 3 [iV 0,iV 0,iV 0,iV 0,iV 0,.own 198 0 1 [],iV 0],s_ 3 9 7]
def WT:=tk [f_ 10 3 2,l_ 11 10 1,m_ 12 0] (.alt [l_ 11 10 1,f_ 10 3 2] (q_ 13 117 [.t 12,.c (iV 9)]) (tk [b_ .add 14 11 13,f_ 15 3 3] (.alt [] (s_ 15 14 1) .fin .stop)) .stop)
def WU:=[m_ 16 0,q_ 17 117 [.t 16,.c (iV 10)]]
def WV:=[B_ .eql 19 17 0,m_ 18 19]
def WW:List Bj:=[m_ 20 0,q_ 21 117 [.t 20,.c (iV 9)],⟨some 22,.p (.bin .add (.c (iV 1)) (.t 21)),none⟩,m_ 23 0,q_ 24 117 [.t 23,.c (iV 12)],⟨some 25,.p (.bin .add (.c (iV 1)) (.t 24)),none⟩,⟨some 26,.p (.build [iV 0,iV 0,iV 0,iV 0,iV 0,.own 1670 0 1 [],iV 0] [(0,1,.c (iV 2)),(1,1,.t 22),(2,1,.t 25)]),none⟩,s_ 3 26 7]
def WX:=[B_ .eql 28 17 1,m_ 27 28]
def WY:List Bj:=[m_ 29 0,q_ 30 117 [.t 29,.c (iV 9)],⟨some 31,.p (.bin .add (.c (iV 1)) (.t 30)),none⟩,⟨some 32,.p (.build [iV 0,iV 0,iV 0,iV 0,iV 0,.own 2054 0 1 [],iV 0] [(0,1,.c (iV 3)),(1,1,.t 31)]),none⟩,s_ 3 32 7]
def WZ:=[B_ .eql 34 17 2,m_ 33 34]
def XA:=[B_ .eql 35 17 3,m_ 33 35]
def CI:=[B_ .eql 36 17 4,m_ 33 36]
def CJ:List Bj:=[m_ 37 0,q_ 38 117 [.t 37,.c (iV 60)],m_ 39 0,q_ 40 147 [.t 39],⟨some 41,.p (.build [iV 0,iV 0,iV 0,iV 0,iV 0,.own 2630 0 1 [],iV 0] [(0,1,.c (iV 4)),(4,1,.t 38),(5,1,.t 40)]),none⟩,s_ 3 41 7]
def CK:=[B_ .eql 43 17 5,m_ 42 43]
def CL:List Bj:=[⟨some 44,.mkS 1 [iV 0] 4 [(0,.c (iV 5)),(1,.c (iV 6)),(2,.c (iV 6)),(3,.c (iV 6))],none⟩,m_ 45 0,q_ 46 117 [.t 45,.c (iV 4)],x_ 47 44 46 1,l_ 48 47 1,⟨some 49,.p (.build [iV 0,iV 0,iV 0,iV 0,iV 0,.own 3142 0 1 [],iV 0] [(0,1,.t 48)]),none⟩,s_ 3 49 7]
def CM:=[m_ 50 0,q_ 51 119 [.t 50,.c (iV 7)]]
def CN:List Bj:=[m_ 52 0,q_ 53 117 [.t 52,.c (iV 2)],⟨some 54,.p (.bin .add (.c (iV 1)) (.t 53)),none⟩,f_ 55 3 6,s_ 55 54 1]
def CO:=[L_ 56 3 7,s_ 2 56 7]
def c135:De:=⟨1,57,[.cell 2 7 true],sr WR (sr WS (sd WT (.seq (sr WU (.block 0 (sr WV (.ite (.t 18) (.reg WW) (sr WX (.ite (.t 27) (.reg WY) (.seq (sr WZ (.ite (.t 33) .skip (sr XA (.ite (.t 33) .skip (.reg CI))))) (.ite (.t 33) (.reg CJ) (sr CK (iz 42 (.reg CL))))))))))) (.seq (sr CM (iz 51 (.reg CN))) (rr CO)))))⟩
def K135 (D:Ba):Prop:=∀a0 r,AkY a0=some r→D 135 ⟨[.ptr 1048576 0],[Br a0]⟩ ⟨.agg (dP r.1 (Al 0)),[Br r.2],[]⟩
abbrev Fw:=fun (r:List (Nat×List V))=>(128,Ck 0 0 0 0 0 (Al 134) [] 0)::r
abbrev Ho:=fun (r:List (Nat×V))=>(0,.ptr 1048576 0)::(2,.ptr 128 0)::(3,.ptr 192 0)::r
theorem F135 (H117:pE C) (H119:NL C) (H147:K147 C):K135 (FO C c135):=by
 intro a0 r h0
 refine f0 (As 3 [(0,.ptr 1048576 0),(2,.ptr 128 0)] (Fw [(1048576,Br a0)]) (Bk (Ah (st (Dc rfl tv (bb h0 fun r1 e2 h0=>Vv [1048576] [] [] (H117 a0 9 r1 e2) (sw ⟨[(0,.ptr 1048576 0),(2,.ptr 128 0),(5,iV r1.1)],Fw [(1048576,Br r1.2)],[]⟩ (Er (by kernel_rfl)) (c_ (Bw t3 rfl tv) (st (Dc rfl tv (bb h0 fun r3 e4 h0=>Vv [1048576] [] [] (H147 r1.2 r3 e4) (sw ⟨[(0,.ptr 1048576 0),(2,.ptr 128 0),(6,iV (wi (1+r1.1))),(8,oI 512 r3.1)],Fw [(1048576,Br r3.2)],[]⟩ (Er (by kernel_rfl)) (c_ (v:=.agg (Ck 1 0 (wi (1+r1.1)) 0 0 (Al 512) r3.1 0)) (Bw ⟨tv,tv,tv,tv⟩ rfl ⟨⟨rfl,rfl,nl rfl⟩,⟨rfl,rfl,nl rfl⟩,⟨rfl,rfl,nl rfl⟩,tv⟩) (o_ (As 3 (Ho []) (Fw [(192,Ck 1 0 (wi (1+r1.1)) 0 0 (Al 512) r3.1 0),(1048576,Br r3.2)]) (Bk (bb h0 fun r5 e6 h0=>At 3 (Bm (Cb (Up [1048576] [] [] true (H117 r3.2 9 r5 e6) ⟨tv,tv,tv⟩ (by kernel_rfl) (by kernel_rfl) (by kernel_rfl) (by kernel_rfl) (fun h=>nomatch h) (dw [(0,.ptr 1048576 0),(2,.ptr 128 0),(3,.ptr 192 0),(10,.ptr 192 2),(11,iV (wi (1+r1.1))),(13,iV r5.1)] [(128,Ck 0 0 0 0 0 (Al 134) [] 0),(192,Ck 1 0 (wi (1+r1.1)) 0 0 (Al 512) r3.1 0),(1048576,Br r5.2)] hB (d_ (At 2 (Bm (Cb (Gc rfl rfl tv rfl rfl rfl (nl rfl) (d0 tv (d_ (As 1 (Ho []) (Fw [(192,Ck 1 0 (wi (1+r1.1)) (wi ((wi (1+r1.1))+r5.1)) 0 (Al 512) r3.1 0),(1048576,Br r5.2)]) (At 3 (Ah (bb h0 fun r7 e8 h0=>Vv [1048576] [] [] (H117 r5.2 10 r7 e8) (o_ (As 1 (Ho [(17,iV r7.1)]) (Fw [(192,Ck 1 0 (wi (1+r1.1)) (wi ((wi (1+r1.1))+r5.1)) 0 (Al 512) r3.1 0),(1048576,Br r7.2)]) (Hz (fun S=>∃p32:Int,∃p33:Int,∃p34:Int,∃p35:Int,∃p36:Int,∃p37:List Int,∃p38:List UInt8,∃p39:Int,∃p40:Int,S=⟨Ho [],Fw [(192,Ck p32 p33 p34 p35 p36 (Al 1670) p37 0),(1048576,Eu u_ p38 p39 p40)],[]⟩∧Nc p32 p33 p34 p35 p36 p37 p38 p39 p40=some r) ?_ (fun J54=>?_))))))))))) Az)))))) Az)))))))))))))))))))
 ·rintro _ ⟨p32,p33,p34,p35,p36,p37,p38,p39,p40,rfl,h0⟩
  refine At 4 (Ah (bb h0 fun r41 e42 h0=>Vv [1048576] [] [] (H119 (Bz.mk p38 p39 p40) 7 r41 e42) (o_ (As 1 (Ho [(51,.bool r41.1)]) (Fw [(192,Ck p32 p33 p34 p35 p36 (Al 1670) p37 0),(1048576,Br r41.2)]) (Vc (cb:=r41.1) (fun S=>∃p46:Int,∃p47:List UInt8,∃p48:Int,∃p49:Int,S=⟨[(2,.ptr 128 0),(3,.ptr 192 0)],Fw [(192,Ck p32 p33 p34 p35 p36 (Al 1670) p37 p46),(1048576,Eu u_ p47 p48 p49)],[]⟩∧aW p32 p33 p34 p35 p36 p37 p46 p47 p48 p49=some r) rfl ?_ (fun c51 J50=>?_) (fun c51 J50=>?_))))))
  ·rintro _ ⟨p46,p47,p48,p49,rfl,h0⟩
   obtain rfl:=sj h0
   exact Cs 6
  ·replace h0:=ip c51 h0
   refine Ah (st (Dc rfl tv (bb h0 fun r52 e53 h0=>Vv [1048576] [] [] (H117 r41.2 2 r52 e53) (sw ⟨[(2,.ptr 128 0),(3,.ptr 192 0),(53,iV r52.1)],Fw [(192,Ck p32 p33 p34 p35 p36 (Al 1670) p37 0),(1048576,Br r52.2)],[]⟩ (Er (by kernel_rfl)) (c_ (Bw t3 rfl tv) (o_ (At 3 ?_)))))))
   exact jn J50 ⟨_,_,_,_,rfl,h0⟩
  ·replace h0:=oY c51 h0
   refine Nh ?_
   exact jn J50 ⟨_,_,_,_,rfl,h0⟩
 ·refine Bk ?_
  refine As 3 (Ho [(17,iV r7.1),(18,.bool (r7.1==0))]) (Fw [(192,Ck 1 0 (wi (1+r1.1)) (wi ((wi (1+r1.1))+r5.1)) 0 (Al 512) r3.1 0),(1048576,Br r7.2)]) (Cw h0 (fun c55 h0=>?_) (fun c55 h0=>?_))
  ·refine Ah (st (Dc rfl tv (bb h0 fun r56 e57 h0=>Vv [1048576] [] [] (H117 r7.2 9 r56 e57) (sw ⟨Ho [(21,iV r56.1)],Fw [(192,Ck 1 0 (wi (1+r1.1)) (wi ((wi (1+r1.1))+r5.1)) 0 (Al 512) r3.1 0),(1048576,Br r56.2)],[]⟩ (Er (by kernel_rfl)) (c_ (Bw t3 rfl tv) (st (Dc rfl tv (bb h0 fun r58 e59 h0=>Vv [1048576] [] [] (H117 r56.2 12 r58 e59) (sw ⟨Ho [(22,iV (wi (1+r56.1))),(24,iV r58.1)],Fw [(192,Ck 1 0 (wi (1+r1.1)) (wi ((wi (1+r1.1))+r5.1)) 0 (Al 512) r3.1 0),(1048576,Br r58.2)],[]⟩ (Er (by kernel_rfl)) (c_ (Bw t3 rfl tv) (st (c_ (v:=.agg (Ck 2 (wi (1+r56.1)) (wi (1+r58.1)) 0 0 (Al 1670) [] 0)) (Bw ⟨tv,tv,tv,tv⟩ rfl ⟨⟨rfl,rfl,nl rfl⟩,⟨rfl,rfl,nl rfl⟩,⟨rfl,rfl,nl rfl⟩,tv⟩) (o_ (At 3 ?_))))))))))))))
   exact jn J54 ⟨_,_,_,_,_,_,_,_,_,rfl,h0⟩
  ·refine As 4 (Ho [(17,iV r7.1),(27,.bool (r7.1==1))]) (Fw [(192,Ck 1 0 (wi (1+r1.1)) (wi ((wi (1+r1.1))+r5.1)) 0 (Al 512) r3.1 0),(1048576,Br r7.2)]) (Cw h0 (fun c60 h0=>?_) (fun c60 h0=>?_))
   ·refine Ah (st (Dc rfl tv (bb h0 fun r61 e62 h0=>Vv [1048576] [] [] (H117 r7.2 9 r61 e62) (sw ⟨Ho [(30,iV r61.1)],Fw [(192,Ck 1 0 (wi (1+r1.1)) (wi ((wi (1+r1.1))+r5.1)) 0 (Al 512) r3.1 0),(1048576,Br r61.2)],[]⟩ (Er (by kernel_rfl)) (c_ (Bw t3 rfl tv) (st (c_ (v:=.agg (Ck 3 (wi (1+r61.1)) 0 0 0 (Al 2054) [] 0)) (Bw ⟨tv,tv,tv⟩ rfl ⟨⟨rfl,rfl,nl rfl⟩,⟨rfl,rfl,nl rfl⟩,tv⟩) (o_ (At 3 ?_)))))))))
    exact J54 _ _ (Lz [] [(2054,1670)] rfl (by kernel_rfl)) ⟨_,_,_,_,_,_,_,_,_,rfl,h0⟩
   ·refine As 5 (Ho [(17,iV r7.1),(33,.bool (r7.1==2))]) (Fw [(192,Ck 1 0 (wi (1+r1.1)) (wi ((wi (1+r1.1))+r5.1)) 0 (Al 512) r3.1 0),(1048576,Br r7.2)]) (Vc (cb:=(r7.1==2)) (fun S=>∃p65:Bool,S=⟨Ho [(17,iV r7.1),(33,.bool p65)],Fw [(192,Ck 1 0 (wi (1+r1.1)) (wi ((wi (1+r1.1))+r5.1)) 0 (Al 512) r3.1 0),(1048576,Br r7.2)],[]⟩∧Sm r1 r3 r5 r7 p65=some r) rfl ?_ (fun c79 J78=>?_) (fun c79 J78=>?_))
    ·rintro _ ⟨p65,rfl,h0⟩
     refine Mm 1 (Cw h0 (fun c66 h0=>?_) (fun c66 h0=>?_))
     ·refine Ah (st (Dc rfl tv (bb h0 fun r67 e68 h0=>Vv [1048576] [] [] (H117 r7.2 60 r67 e68) (sw ⟨Ho [(38,iV r67.1)],Fw [(192,Ck 1 0 (wi (1+r1.1)) (wi ((wi (1+r1.1))+r5.1)) 0 (Al 512) r3.1 0),(1048576,Br r67.2)],[]⟩ (Er (by kernel_rfl)) (Dc rfl tv (bb h0 fun r69 e70 h0=>Vv [1048576] [] [] (H147 r67.2 r69 e70) (sw ⟨Ho [(38,iV r67.1),(40,oI 2560 r69.1)],Fw [(192,Ck 1 0 (wi (1+r1.1)) (wi ((wi (1+r1.1))+r5.1)) 0 (Al 512) r3.1 0),(1048576,Br r69.2)],[]⟩ (Er (by kernel_rfl)) (c_ (v:=.agg (Ck 4 0 0 0 r67.1 (Al 2560) r69.1 0)) (Bw ⟨tv,tv,tv,tv⟩ rfl ⟨⟨rfl,rfl,nl rfl⟩,⟨rfl,rfl,nl rfl⟩,⟨rfl,rfl,nl rfl⟩,tv⟩) (o_ (At 3 ?_))))))))))
      exact J54 _ _ (Lz [] [(2560,1670)] rfl (by kernel_rfl)) ⟨_,_,_,_,_,_,_,_,_,rfl,h0⟩
     ·refine As 4 (Ho [(42,.bool (r7.1==5))]) (Fw [(192,Ck 1 0 (wi (1+r1.1)) (wi ((wi (1+r1.1))+r5.1)) 0 (Al 512) r3.1 0),(1048576,Br r7.2)]) (Cw h0 (fun c71 h0=>?_) (fun c71 h0=>?_))
      ·refine At 2 (Ah (bb h0 fun r72 e73 h0=>Vv [1048576] [] [] (H117 r7.2 4 r72 e73) (bb h0 fun y74 e75 h0=>sw ⟨Ho [(44,oI 2816 ([5,6,6,6]:List Int)),(46,iV r72.1)],Fw [(192,Ck 1 0 (wi (1+r1.1)) (wi ((wi (1+r1.1))+r5.1)) 0 (Al 512) r3.1 0),(1048576,Br r72.2)],[]⟩ (Er (by kernel_rfl)) (c_ (ci_ rfl rfl e75) (bb h0 fun y76 e77 h0=>NH rfl rfl e77 (st (c_ (v:=.agg (Ck y76 0 0 0 0 (Al 3142) [] 0)) (Bw ⟨tv,tv⟩ rfl ⟨⟨rfl,rfl,nl rfl⟩,tv⟩) (o_ (At 3 ?_)))))))))
       exact J54 _ _ (Lz [] [(3142,1670)] rfl (by kernel_rfl)) ⟨_,_,_,_,_,_,_,_,_,rfl,h0⟩
      ·refine Nh (Um ?_)
       exact J54 _ _ (Lz [] [(512,1670)] rfl (by kernel_rfl)) ⟨_,_,_,_,_,_,_,_,_,rfl,h0⟩
    ·replace h0:=ip c79 h0
     refine Nh ?_
     exact jn J78 ⟨_,rfl,h0⟩
    ·replace h0:=oY c79 h0
     refine As 4 (Ho [(17,iV r7.1),(33,.bool (r7.1==3))]) (Fw [(192,Ck 1 0 (wi (1+r1.1)) (wi ((wi (1+r1.1))+r5.1)) 0 (Al 512) r3.1 0),(1048576,Br r7.2)]) (Cw h0 (fun c80 h0=>?_) (fun c80 h0=>?_))
     ·refine Nh ?_
      exact jn J78 ⟨_,rfl,h0⟩
     ·refine At 3 ?_
      exact jn J78 ⟨_,rfl,h0⟩

/- (*loop.example/g00149/spec.l00Src).vaultActs -/
def PK:List Bj:=[⟨some 2,.nilS 7,none⟩]
def PL:List Bj:=[⟨some 6,.mkS 7 [iV 0,iV 0,iV 0,iV 0,iV 0,.lst 1 [],iV 0] 0 [],none⟩,m_ 3 6]
def PM:=[m_ 7 0,m_ 8 0,q_ 9 118 [.t 8,.c (iV 16)],B_ .add 10 9 3,q_ 11 117 [.t 7,.t 10],m_ 4 11]
def PN:=[m_ 12 4,B_ .gtr 13 12 0]
def PO:=[m_ 16 0,q_ 17 135 [.t 16],a_ 5 [iV 0,iV 0,iV 0,iV 0,iV 0,.own 326 0 1 [],iV 0],s_ 5 17 7]
def PP:List Bj:=[m_ 18 3,L_ 19 5 7,⟨some 20,.mkS 7 [iV 0,iV 0,iV 0,iV 0,iV 0,.lst 1 [],iV 0] 1 [(0,.t 19)],none⟩,⟨some 21,.app 7 72 (.t 18) (.t 20),none⟩,m_ 3 21]
def PQ:=[f_ 22 5 6,l_ 23 22 1,B_ .neq 24 23 0,m_ 25 24,fF 25 26 5 0,lF 25 27 26 1 false,pF 25 28 (.bin .eql (.t 27) (.c (iV 5))),po 29 25 28]
def PR:List Bj:=[m_ 30 3,⟨some 31,.p (.build [iV 0,iV 0,iV 0,iV 0,iV 0,.own 1990 0 1 [],iV 0] [(0,1,.c (iV 6))]),none⟩,⟨some 32,.mkS 7 [iV 0,iV 0,iV 0,iV 0,iV 0,.lst 1 [],iV 0] 1 [(0,.t 31)],none⟩,⟨some 33,.app 7 72 (.t 30) (.t 32),none⟩,m_ 3 33]
def PS:=[m_ 14 4,B_ .sub 15 14 1,m_ 4 15]
def PJ:IR:=(.seq (sr PN (.ite (.t 13) .skip (.exit 0))) (.seq (.block 1 (sr PO (sr PP (sr PQ (iz 29 (.reg PR)))))) (.reg PS)))
def PT:List Bj:=[m_ 34 3,m_ 35 3,n_ 36 35,⟨some 37,.p (.mn (.t 36) (.c (iV 120))),none⟩,⟨some 38,.p (.slice (.t 34) none (some (.t 37)) 7),none⟩,m_ 2 38]
def AL:De:=⟨1,39,[.t 2],sr PK (sr PL (.seq (sr PM (Jc 0 PJ)) (rr PT)))⟩
def K103 (D:Ba):Prop:=∀a0 r,g103 a0=some r→D 103 ⟨[.ptr 1048576 0],[Br a0]⟩ ⟨Fi 0 r.1,[Br r.2],[]⟩
theorem F103 (H117:pE C) (H118:K118 C) (H135:K135 C):K103 (FO C AL):=by
 intro a0 r h0
 refine f0 (As 8 [(0,.ptr 1048576 0),(3,Fi 384 [])] [(1048576,Br a0)] (At 4 (Ah (bb h0 fun r1 e2 h0=>Il (H118 a0 16 r1 e2) (st (c_ (Bw t3 rfl tv) (bb h0 fun r3 e4 h0=>Vv [1048576] [] [] (H117 a0 (wi (r1+3)) r3 e4) (o_ (As 2 [(0,.ptr 1048576 0),(3,Fi 384 []),(4,iV r3.1)] [(1048576,Br r3.2)] (Ci (bb h0 fun r55 e56 h0=>Df (R:=(fun S=>∃p35:List Aj,∃p36:List UInt8,∃p37:Int,∃p38:Int,(p35,p36,p37,p38)=r55∧S=⟨[(3,Fi 384 p35)],[(1048576,Eu u_ p36 p37 p38)],[]⟩)) (aS) (fun s S=>match s with | (p15,p16,p17,p18,p19)=>S=⟨[(0,.ptr 1048576 0),(3,Fi 384 p15),(4,iV p16)],[(1048576,Eu u_ p17 p18 p19)],[]⟩) e56 _ (Er (by kernel_rfl)) rfl 0 (fun _=>rfl) ?_ ?_)))))))))))
 ·rintro S _ hfg ⟨p35,p36,p37,p38,rfl,rfl⟩
  refine Dy _ hfg (At 3 (Ah (Qb rfl (st (c_ (Bw ⟨tv,tv,tv⟩ rfl rfl) (bb h0 fun s57 e58 h0=>st (c_ (Dk (e:=Ao) (y:=s57) rfl rfl tv ⟨tv,tv⟩ rfl rfl e58) (o_ ?_))))))))
  obtain rfl:=sj h0
  exact Cs 3
 ·rintro ⟨p15,p16,p17,p18,p19⟩ o1 _ K1 rfl h1 hx1 hK1 hE1 hR1
  refine As 5 [(0,.ptr 1048576 0),(3,Fi 384 p15),(4,iV p16),(13,.bool (decide (p16>0)))] [(1048576,Eu u_ p17 p18 p19)] (Cw h1 (fun c39 h1=>?_) (fun c39 h1=>?_))
  ·refine Mm 3 (Hz (fun S=>∃p45:List Aj,∃p46:List UInt8,∃p47:Int,∃p48:Int,S=⟨[(0,.ptr 1048576 0),(3,Fi 384 p45),(4,iV p16)],[(1048576,Eu u_ p46 p47 p48)],[]⟩∧aR p16 p45 p46 p47 p48=some o1) ?_ (fun J49=>?_))
   ·rintro _ ⟨p45,p46,p47,p48,rfl,h1⟩
    refine At 5 ?_
    obtain rfl:=sj h1
    exact kn hK1 rfl rfl
   ·refine Bk ?_
    refine Ah (st (Dc rfl tv (bb h1 fun r50 e51 h1=>Vv [1048576] [] [] (H135 (Bz.mk p17 p18 p19) r50 e51) (o_ (As 3 [(0,.ptr 1048576 0),(3,Fi 384 p15),(4,iV p16),(5,.ptr 320 0)] [(320,dP r50.1 (Al 1088)),(1048576,Br r50.2)] (At 4 (Ah (gg h1 fun c52 h1=>st (Fp (e:=Ao) (l0:=p15) (l1:=([r50.1]:List Aj)) rfl rfl tv rfl (by decide) c52 (o_ (uE 13 [(0,.ptr 1048576 0),(3,Fi 384 (p15++([r50.1]:List Aj))),(4,iV p16),(29,.bool (bif (r50.1.stop != 0) then true else (r50.1.kind==5)))] [(1048576,Br r50.2)] (Cw h1 (fun c53 h1=>?_) (fun c53 h1=>?_)))))))))))))
    ·refine Ah (st (Dc rfl tv (st (c_ (v:=.agg (Ck 6 0 0 0 0 (Al 1990) [] 0)) (Bw ⟨tv,tv⟩ rfl ⟨⟨rfl,rfl,nl rfl⟩,tv⟩) (st (Ky ⟨tv,tv⟩ ⟨⟨nl rfl,rfl,rfl⟩,tv⟩ (gg h1 fun c54 h1=>st (Fp (e:=Ao) (l0:=p15++([r50.1]:List Aj)) (l1:=([Aj.mk 6 0 0 0 0 ([]:List Int) 0]:List Aj)) rfl rfl tv rfl (by decide) c54 (st (Dc rfl tv (In (Um ?_))))))))))))
     exact jn J49 ⟨_,_,_,_,rfl,h1⟩
    ·refine Nh (Um ?_)
     exact jn J49 ⟨_,_,_,_,rfl,h1⟩
  ·obtain rfl:=sj h1
   obtain rfl:=hx1 _ rfl
   refine Iw rfl ?_
   exact jn hE1 ⟨_,_,_,_,rfl,rfl⟩

/- loop.example/g00149/spec.VaultActsOf -/
def c51_r0:List Bj:=[⟨some 2,.nilS 7,none⟩]
def c51_r1:=[m_ 3 0,q_ 4 83 [.t 3],q_ 5 103 [.t 4],m_ 2 5]
def c51:De:=⟨1,6,[.t 2],sr c51_r0 (rr c51_r1)⟩
def K51 (D:Ba):Prop:=∀a0 r,g51 a0=some r→D 51 ⟨[Eb a0],[]⟩ ⟨Fi 0 r,[],[]⟩
theorem F51 (H83:K83 C) (H103:K103 C):K51 (FO C c51):=by
 intro a0 r h0
 refine f0 (As 3 [(0,Eb a0)] [] (Bk (Ah (st (Dc rfl tv (bb h0 fun r1 e2 h0=>Vv [] [] [] (H83 a0 r1 e2) (bb h0 fun r3 e4 h0=>Vv [256] [] [] (H103 r1 r3 e4) (o_ ?_))))))))
 obtain rfl:=sj h0
 exact Cs 3

/- loop.example/g00149/impl.isList[loop.example/g00149/impl.Sector] -/
def Abe:=[k_ 2 (.bool false)]
def Abf:=[m_ 3 0,n_ 4 3,B_ .leq 5 4 4096,m_ 2 5]
def c269:De:=⟨1,6,[.t 2],sr Abe (rr Abf)⟩
def NP (D:Ba):Prop:=∀a0 r,wW a0=some r→D 269 ⟨[Cr a0],[]⟩ ⟨.bool r,[],[]⟩
theorem F269:NP (FO C c269):=by
 intro a0 r h0
 refine f0 (As 3 [(0,Cr a0)] [] (Bk (Ah (st (Dc rfl tv (Hf rfl (o_ ?_)))))))
 obtain rfl:=sj h0
 exact Cs 4

/- slices.IndexFunc[[]loop.example/g00149/impl.Sector,loop.example/g00149/impl.Sector] -/
def Aew:=[i_ 4 0]
def Aex:=[m_ 6 0,n_ 7 6,i_ 8 0]
def Aey:=[b_ .lss 9 8 7]
def Aez:=[m_ 10 8,m_ 5 10]
def AeA:List Bj:=[m_ 11 1,m_ 12 0,m_ 13 5,x_ 14 12 13 2,L_ 15 14 2,⟨some 16,.callv (.t 11) [.t 15],none⟩]
def AeB:=[m_ 17 5,m_ 4 17]
def AeC:=[B_ .add 18 8 1,m_ 8 18]
def Aev:IR:=(sr Aey (.seq (.ite (.t 9) .skip (.exit 0)) (.seq (.block 1 (sr Aez (sr AeA (iz 16 (rr AeB))))) (.reg AeC))))
def AeD:=[i_ 4 (-1)]
def c367:De:=⟨2,19,[.t 4],sr Aew (.seq (sr Aex (Jc 0 Aev)) (rr AeD))⟩
def K367 (C:Ba) (D:Ba:=C):Prop:=∀(a0:List Aw) (f1:Nat) (k1:List V) (is1:Aw→Option Bool) (hs1:Kp k1) (hf1:∀(x0:Aw) r,is1 x0=some r→C f1 ⟨.agg (Du x0)::k1,[]⟩ ⟨.bool r,[],[]⟩) (r:Int),g367 a0 is1=some r→D 367 ⟨[Cr a0,.clo f1 k1],[]⟩ ⟨iV r,[],[]⟩
theorem F367:K367 C (FO C c367):=by
 intro a0 f1 k1 is1 hs1 hf1 r h0
 refine f0 (As 3 [(0,Cr a0),(1,.clo f1 k1)] [] (At 3 (Ah (Hf rfl (o_ (As 2 [(0,Cr a0),(1,.clo f1 k1),(7,iV (a0.length:Int)),(8,iV 0)] [] (Ci (bb h0 fun r21 e22 h0=>Df (R:=(fun S=>.inl ()=r21∧S=⟨[],[],[]⟩)) (tV a0 is1) (fun s S=>match s with | p7=>S=⟨[(0,Cr a0),(1,.clo f1 k1),(7,iV (a0.length:Int)),(8,iV p7)],[],[]⟩) e22 _ (Er (by kernel_rfl)) rfl 0 (fun _=>rfl) ?_ ?_))))))))
 ·rintro S _ hfg ⟨rfl,rfl⟩
  refine Dy _ hfg ?_
  obtain rfl:=sj h0
  exact Cs 4
 ·rintro p7 o1 _ K1 rfl h1 hx1 hK1 hE1 hR1
  refine As 3 [(0,Cr a0),(1,.clo f1 k1),(7,iV (a0.length:Int)),(8,iV p7),(9,.bool (decide (p7<(a0.length:Int))))] [] (Bk (Cw h1 (fun c15 h1=>?_) (fun c15 h1=>?_)))
  ·refine As 8 [(0,Cr a0),(1,.clo f1 k1),(5,iV p7),(7,iV (a0.length:Int)),(8,iV p7)] [] (At 4 (Ah (bb h1 fun y16 e17 h1=>Ns rfl rfl e17 (st (c_ (v:=.agg (Du y16)) (Bw ⟨tv,tv⟩ rfl (nl rfl)) (bb h1 fun r18 e19 h1=>st (Gg (r:=.bool r18) rfl false (hf1 _ r18 e19) ⟨tv,tv⟩ (Bq rfl hs1.2.2.1) (Ej rfl (hs1.2.1 _ _ _ _ _)) (fun _=>rfl) (o_ (As 1 [(0,Cr a0),(1,.clo f1 k1),(5,iV p7),(7,iV (a0.length:Int)),(8,iV p7),(16,.bool r18)] [] (Cw h1 (fun eZ h1=>?_) (fun eZ h1=>?_)))))))))))
   ·obtain rfl:=sj h1
    obtain rfl:=hx1 _ rfl
    obtain rfl:=sj h0
    exact Yy 5 hR1
   ·refine At 6 ?_
    obtain rfl:=sj h1
    exact kn hK1 rfl rfl
  ·obtain rfl:=sj h1
   obtain rfl:=hx1 _ rfl
   refine Iw rfl ?_
   exact jn hE1 ⟨rfl,rfl⟩

/- slices.ContainsFunc[[]loop.example/g00149/impl.Sector,loop.example/g00149/impl.Sector] -/
def AcW:=[k_ 4 (.bool false)]
def AcX:=[m_ 5 0,m_ 6 1,q_ 7 367 [.t 5,.t 6],B_ .geq 8 7 0,m_ 4 8]
def c329:De:=⟨2,9,[.t 4],sr AcW (rr AcX)⟩
def K329 (C:Ba) (D:Ba:=C):Prop:=∀(a0:List Aw) (f1:Nat) (k1:List V) (is1:Aw→Option Bool) (hs1:Kp k1) (hf1:∀(x0:Aw) r,is1 x0=some r→C f1 ⟨.agg (Du x0)::k1,[]⟩ ⟨.bool r,[],[]⟩) (r:Bool),Aly a0 is1=some r→D 329 ⟨[Cr a0,.clo f1 k1],[]⟩ ⟨.bool r,[],[]⟩
theorem F329 (H367:K367 C):K329 C (FO C c329):=by
 intro a0 f1 k1 is1 hs1 hf1 r h0
 refine f0 (As 3 [(0,Cr a0),(1,.clo f1 k1)] [] (At 3 (Ah (bb h0 fun r1 e2 h0=>st (Cm (r:=iV r1) false (H367 a0 f1 k1 is1 hs1 hf1 r1 e2) ⟨tv,tv,tv⟩ rfl (Ej rfl (Ej (Yc hs1) rfl)) (fun _=>rfl) (o_ ?_))))))
 obtain rfl:=sj h0
 exact Cs 4

/- loop.example/g00149/impl.areAll[loop.example/g00149/impl.Sector]$1 -/
def AcY:=[X_ 2 0,k_ 3 (.bool false)]
def AcZ:List Bj:=[l_ 4 1 1,L_ 5 2 2,⟨some 6,.callv (.t 4) [.t 5],none⟩,N_ 7 6,m_ 3 7]
def c330:De:=⟨2,8,[.t 3],sr AcY (rr AcZ)⟩
def K330 (C:Ba) (D:Ba:=C):Prop:=∀(a0:Aw) (f1:Nat) (k1:List V) (is1:Aw→Option Bool) (hs1:Kp k1) (hf1:∀(x0:Aw) r,is1 x0=some r→C f1 ⟨.agg (Du x0)::k1,[]⟩ ⟨.bool r,[],[]⟩) (r:Bool),AlA a0 is1=some r→D 330 ⟨[.agg (Du a0),.iptr [.clo f1 k1]],[]⟩ ⟨.bool r,[],[]⟩
theorem F330:K330 C (FO C c330):=by
 intro a0 f1 k1 is1 hs1 hf1 r h0
 refine f0 (As 4 [(1,.iptr [.clo f1 k1]),(2,.ptr 128 0)] [(128,Du a0)] (At 3 (Ah (bb h0 fun r1 e2 h0=>st (Gg (r:=.bool r1) rfl false (hf1 _ r1 e2) ⟨tv,tv⟩ (Bq rfl hs1.2.2.1) (Ej rfl (hs1.2.1 _ _ _ _ _)) (fun _=>rfl) (o_ ?_))))))
 obtain rfl:=sj h0
 exact Cs 4

/- loop.example/g00149/impl.areAll[loop.example/g00149/impl.Sector] -/
def Abg:=[X_ 3 1,k_ 4 (.bool false)]
def Abh:=[m_ 5 0,iQ 6 (.fn 330 [.t 3]),q_ 7 329 [.t 5,.t 6],N_ 8 7,m_ 4 8]
def c270:De:=⟨2,9,[.t 4],sr Abg (rr Abh)⟩
def K270 (C:Ba) (D:Ba:=C):Prop:=∀(a0:List Aw) (f1:Nat) (k1:List V) (is1:Aw→Option Bool) (hs1:Kp k1) (hf1:∀(x0:Aw) r,is1 x0=some r→C f1 ⟨.agg (Du x0)::k1,[]⟩ ⟨.bool r,[],[]⟩) (r:Bool),Alo a0 is1=some r→D 270 ⟨[Cr a0,.clo f1 k1],[]⟩ ⟨.bool r,[],[]⟩
theorem F270 (H329:K329 C) (H330:K330 C):K270 C (FO C c270):=by
 intro a0 f1 k1 is1 hs1 hf1 r h0
 refine f0 (Bk (Ah (st (vX (cJ hs1) tv rfl (o_ (As 2 [(0,Cr a0),(3,.ptr 192 0)] [(192,[.clo f1 k1])] (At 3 (Ah (bb h0 fun r1 e2 h0=>st (Cm (r:=.bool r1) false (H329 a0 330 [.iptr [.clo f1 k1]] (fun z330_0=>AlA z330_0 is1) (⟨fun _ _ _ _ _=>rfl,fun _ _ _ _ _=>rfl,rfl,fun _ _ _ n=>by cases n<;>rfl,fun _=>rfl⟩) (fun z330_0 r h=>H330 z330_0 f1 k1 is1 hs1 hf1 r h) r1 e2) ⟨tv,tv,tv⟩ rfl (Ej rfl (Ej (congrArg (fun z=>V.clo 330 [.iptr [.clo f1 z]]) (hs1.2.2.2.1 _ _ _ _)) rfl)) (fun _=>rfl) (o_ ?_)))))))))))
 obtain rfl:=sj h0
 exact Cs 4

/- loop.example/g00149/impl.within -/
def c63_r0:=[k_ 6 (.bool false)]
def c63_r1:=[m_ 7 1,m_ 8 0,b_ .leq 9 7 8,m_ 10 9,mT 10 11 0,mT 10 12 2,pT 10 13 (.bin .leq (.t 11) (.t 12)),pa 14 10 13,m_ 6 14]
def c63:De:=⟨3,15,[.t 6],sr c63_r0 (rr c63_r1)⟩
def yV (D:Ba):Prop:=∀a0 a1 a2 r,bI a0 a1 a2=some r→D 63 ⟨[iV a0,iV a1,iV a2],[]⟩ ⟨.bool r,[],[]⟩
theorem F63:yV (FO C c63):=by
 intro a0 a1 a2 r h0
 refine f0 (As 3 [(0,iV a0),(1,iV a1),(2,iV a2)] [] (Hj 9 (Ah (o_ ?_))))
 obtain rfl:=sj h0
 exact Cs 3

/- loop.example/g00149/impl.DeviceOK$1 -/
def Abi:=[X_ 1 0,k_ 2 (.bool false)]
def Abj:=[f_ 3 1 0,l_ 4 3 1,q_ 5 63 [.t 4,.c (iV 0),.c (iV 127)],m_ 6 5,fT 6 7 1 1,lT 6 8 7 1 false,pT 6 9 (.len (.t 8)),pT 6 10 (.bin .eql (.t 9) (.c (iV 32))),pa 11 6 10,m_ 2 11]
def c271:De:=⟨1,12,[.t 2],sr Abi (rr Abj)⟩
def K271 (D:Ba):Prop:=∀a0 r,wX a0=some r→D 271 ⟨[.agg (Du a0)],[]⟩ ⟨.bool r,[],[]⟩
theorem F271 (H63:yV C):K271 (FO C c271):=by
 intro a0 r h0
 refine f0 (As 4 [(1,.ptr 64 0)] [(64,Du a0)] (At 3 (Ah (bb h0 fun r1 e2 h0=>Il (H63 a0.at_ 0 127 r1 e2) (o_ (Hj 3 (Ah (st (Ep (u:=iV (a0.data.length:Int)) rfl (fun hg=>(Mu (e:=Gh) (l0:=a0.data) rfl rfl (fun _=>hg))) (o_ (Hj 2 (Ah (o_ ?_)))))))))))))
 obtain rfl:=sj h0
 exact Cs 3

/- loop.example/g00149/impl.DeviceOK -/
def ZC:=[X_ 1 0,k_ 2 (.bool false)]
def ZD:List Bj:=[f_ 3 1 0,l_ 4 3 1,n_ 5 4,B_ .rem 6 5 32,B_ .eql 7 6 0,m_ 8 7,fT 8 9 1 0,lT 8 10 9 1 false,pT 8 11 (.len (.t 10)),pT 8 12 (.bin .leq (.t 11) (.c (iV 4096))),pa 13 8 12,m_ 14 13,fT 14 15 1 1,lT 14 16 15 1 false,⟨some 17,.call 269 [.t 16],some (14,true)⟩,pa 18 14 17,m_ 19 18,fT 19 20 1 1,lT 19 21 20 1 false,⟨some 22,.call 270 [.t 21,.c (.clo 271 [])],some (19,true)⟩,pa 23 19 22,m_ 2 23]
def c216:De:=⟨1,24,[.t 2],sr ZC (rr ZD)⟩
def pG (D:Ba):Prop:=∀a0 r,mP a0=some r→D 216 ⟨[.agg (Ch a0)],[]⟩ ⟨.bool r,[],[]⟩
theorem F216 (H269:NP C) (H270:K270 C) (H271:K271 C):pG (FO C c216):=by
 intro a0 r h0
 refine f0 (As 4 [(1,.ptr 64 0)] [(64,Ch a0)] (At 3 (Ah (Hf rfl (st (c_ (Bw ⟨tv,tv,tv⟩ rfl (by decide)) (o_ (At 2 (Ah (st (Ep (u:=.ptr 64 0) rfl (fun hg=>(Bw ⟨tv,tv⟩ rfl tv)) (st (Ep (u:=Eb a0.held) rfl (fun hg=>(Bw ⟨(fun _=>hg),tv⟩ rfl (nl rfl))) (st (Ep (u:=iV (a0.held.length:Int)) rfl (fun hg=>(Mu (e:=Gh) (l0:=a0.held) rfl rfl (fun _=>hg))) (st (Ep (u:=.bool (decide ((a0.held.length:Int)≤4096))) rfl (fun hg=>(Bw ⟨(fun _=>hg),tv,tv⟩ rfl tv)) (st (Hp rfl rfl rfl (fun h=>tM h) tv rfl (st (Dc rfl tv (st (Ep (u:=.ptr 64 1) rfl (fun hg=>(Bw ⟨tv,tv⟩ rfl tv)) (st (Ep (u:=Cr a0.Av) rfl (fun hg=>(Bw ⟨(fun _=>hg),tv⟩ rfl (nl rfl))) (bb h0 fun r1 e2 h0=>st (En (r:=.bool r1) rfl false (fun hg=>H269 a0.Av r1 (ip hg e2)) ⟨(fun hg=>hg),tv⟩ (fun _=>rfl) (fun _=>rfl) (fun _=>rfl) (fun h=>nomatch h) (st (Hp rfl rfl rfl (fun h=>tM h) tv rfl (st (Dc rfl tv (st (Ep (u:=.ptr 64 1) rfl (fun hg=>(Bw ⟨tv,tv⟩ rfl tv)) (st (Ep (u:=Cr a0.Av) rfl (fun hg=>(Bw ⟨(fun _=>hg),tv⟩ rfl (nl rfl))) (bb h0 fun r3 e4 h0=>st (En (r:=.bool r3) rfl false (fun hg=>H270 a0.Av 271 [] (fun z271_0=>wX z271_0) (⟨fun _ _ _ _ _=>rfl,fun _ _ _ _ _=>rfl,rfl,fun _ _ _ n=>by cases n<;>rfl,fun _=>rfl⟩) (fun z271_0 r h=>H271 z271_0 r h) r3 (ip hg e4)) ⟨(fun hg=>hg),tv,tv⟩ (fun _=>rfl) (fun _=>rfl) (fun _=>rfl) (fun h=>nomatch h) (st (Hp rfl rfl rfl (fun h=>tM h) tv rfl (st (Dc rfl tv (In (bv h0 fun v5 e6 h0=>Dy ⟨[(2,.bool v5)],[],[]⟩ (Er (by subst e6; kernel_rfl)) ?_)))))))))))))))))))))))))))))))))))))))))))
 obtain rfl:=sj h0
 exact Kv (Fe rfl rfl rfl rfl rfl tv)

/- loop.example/g00149/impl.isShort[[]byte] -/
def AaJ:=[k_ 2 (.bool false)]
def AaK:=[m_ 3 0,n_ 4 3,B_ .leq 5 4 65536,m_ 2 5]
def c264:De:=⟨1,6,[.t 2],sr AaJ (rr AaK)⟩
def K264 (D:Ba):Prop:=∀a0 r,qM a0=some r→D 264 ⟨[Eb a0],[]⟩ ⟨.bool r,[],[]⟩
theorem F264:K264 (FO C c264):=by
 intro a0 r h0
 refine f0 (As 3 [(0,Eb a0)] [] (Bk (Ah (st (Dc rfl tv (Hf rfl (o_ ?_)))))))
 obtain rfl:=sj h0
 exact Cs 4

/- loop.example/g00149/impl.isRoom -/
def AcI:=[k_ 4 (.bool false)]
def AcJ:=[m_ 5 0,q_ 6 63 [.t 5,.c (iV 0),.c (iV 4096)],m_ 7 6,mT 7 8 0,mT 7 9 1,pT 7 10 (.bin .add (.t 8) (.t 9)),pT 7 11 (.bin .leq (.t 10) (.c (iV 4096))),pa 12 7 11,m_ 4 12]
def c327:De:=⟨2,13,[.t 4],sr AcI (rr AcJ)⟩
def NS (D:Ba):Prop:=∀a0 a1 r,qN a0 a1=some r→D 327 ⟨[iV a0,iV a1],[]⟩ ⟨.bool r,[],[]⟩
theorem F327 (H63:yV C):NS (FO C c327):=by
 intro a0 a1 r h0
 refine f0 (As 3 [(0,iV a0),(1,iV a1)] [] (Bk (Ah (st (Dc rfl tv (bb h0 fun r1 e2 h0=>Il (H63 a0 0 4096 r1 e2) (o_ (Hj 8 (bv h0 fun v3 e4 h0=>Dy ⟨[(4,.bool v3)],[],[]⟩ (Er (by subst e4; kernel_rfl)) ?_)))))))))
 obtain rfl:=sj h0
 exact Kv (Fe rfl rfl rfl rfl rfl tv)

/- slices.Clone[[]byte,byte] -/
def Acy:List Bj:=[⟨some 2,.nilS 1,none⟩]
def Acz:List Bj:=[m_ 3 0,⟨some 4,.isnil (.t 3) false,none⟩]
def AcA:List Bj:=[⟨some 2,.nilS 1,none⟩]
def AcB:List Bj:=[⟨some 5,.mkS 1 [.int .u8 0] 0 [],none⟩,m_ 6 0,⟨some 7,.app 1 1 (.t 5) (.t 6),none⟩,m_ 2 7]
def c325:De:=⟨1,8,[.t 2],sr Acy (.seq (sr Acz (iz 4 (rr AcA))) (rr AcB))⟩
def pI (D:Ba):Prop:=∀a0 r,jO a0=some r→D 325 ⟨[Eb a0],[]⟩ ⟨Eo 0 r,[],[]⟩
theorem F325:pI (FO C c325):=by
 intro a0 r h0
 refine f0 ?_
 obtain ⟨hc,h0⟩:=xE h0
 obtain rfl:=sj h0
 refine As 3 [(0,Eb a0)] [] (At 3 (Ah (st (dH (e:=Gh) (l0:=a0) rfl fun b hb=>(In (aC (Od (cb:=b) rfl (fun h=>?_) (fun h=>?_))))))))
 ·obtain rfl:=hb h
  refine Bk (Ah (st (Zy (In (aC ?_)))))
  refine Kv (Fe rfl rfl rfl rfl rfl tv)
 ·refine Nh ?_
  refine As 0 [(0,Eb a0)] [] (At 3 (Ah (st (Fp (e:=Gh) (l0:=([]:List UInt8)) (l1:=a0) rfl rfl tv rfl (by decide) ?_ ?_))))
  rotate_left
  refine st (Dc rfl tv (In (aC ?_)))
  refine Kv (Fe rfl rfl rfl rfl rfl tv)
  have:=Nat.mul_le_mul_right 1 hc
  exact Nat.le_trans this (by decide)

/- loop.example/g00149/impl.put -/
def AcC:List Bj:=[X_ 3 1,⟨some 4,.nilS 1,none⟩]
def AcD:List Bj:=[f_ 6 3 0,l_ 7 6 1,B_ .add 8 7 1,⟨some 9,.p (.bin .mul (.c (iV 32)) (.t 8)),none⟩,m_ 5 9]
def AcE:=[m_ 10 0,n_ 11 10,m_ 12 5,b_ .lss 13 11 12]
def AcF:List Bj:=[m_ 14 0,m_ 15 5,m_ 16 0,n_ 17 16,b_ .sub 18 15 17,⟨some 19,.appz 1 1 [.int .u8 0] (.t 14) (.t 18),none⟩,m_ 0 19]
def AcG:=tk [m_ 20 0,f_ 21 3 0,l_ 22 21 1,⟨some 23,.p (.bin .mul (.c (iV 32)) (.t 22)),none⟩,⟨some 24,.p (.slice (.t 20) (some (.t 23)) none 1),none⟩,f_ 25 3 1,l_ 26 25 1] (.alt [] ⟨some 27,.copy 1 (.t 24) (.t 26),none⟩ .fin .stop)
def AcH:=[m_ 28 0,m_ 4 28]
def c326:De:=⟨2,29,[.t 4],sr AcC (.seq (sr AcD (sr AcE (iz 13 (.reg AcF)))) (sd AcG (rr AcH)))⟩
def NQ (D:Ba):Prop:=∀a0 a1 r,IT a0 a1=some r→D 326 ⟨[Eo 1024000 a0,.agg (Du a1)],[]⟩ ⟨Eo 0 r,[],[]⟩
theorem F326:NQ (FO C c326):=by
 intro a0 a1 r h0
 refine f0 (As 13 [(0,Eo 1024000 a0),(3,.ptr 192 0),(5,iV (wi (32*(wi (a1.at_+1)))))] [(192,Du a1)] (Bk (Ah (st (Dc rfl tv (Qb rfl (o_ (At 3 (bv h0 fun v1 e2 h0=>Dy ⟨[(0,Eo 1024000 a0),(3,.ptr 192 0),(5,iV (wi (32*(wi (a1.at_+1))))),(13,.bool v1)],[(192,Du a1)],[]⟩ (Er (by subst e2; kernel_rfl)) (Vc (cb:=v1) (fun S=>∃p6:List UInt8,S=⟨[(0,Eo 1024000 p6),(3,.ptr 192 0)],[(192,Du a1)],[]⟩∧Wk a1 p6=some r) rfl ?_ (fun c12 J11=>?_) (fun c12 J11=>?_)))))))))))
 ·rintro _ ⟨p6,rfl,h0⟩
  refine Mm 2 (bb h0 fun s7 e8 h0=>At 4 (Bm (Au tv (c_ (Dk (e:=Gh) (y:=s7) rfl rfl tv ⟨tv,tv⟩ rfl rfl e8) (⟨tv,d_ (At 2 (Bm (Cb (copy_ (e:=Gh) (l1:=a1.data) rfl rfl tv rfl (d0 tv (Jz (Dy ⟨[(0,Eo 1024000 (ovl p6 ((wi (32*a1.at_)).toNat) (a1.data.take s7.length)))],[],[]⟩ (fg ⟨congrArg (fun z=>some ((.own 1024000 0 1 z:V))) Fb,tv⟩ tv) (At 4 (bv h0 fun v9 e10 h0=>Dy ⟨[(4,Eo 1024000 v9)],[],[]⟩ (Er (by subst e10; kernel_rfl)) ?_)))))) Az)))⟩)))))
  obtain rfl:=sj h0
  exact Kv (Fe rfl rfl rfl rfl rfl tv)
 ·replace h0:=ip c12 h0
  refine At 3 (Ah (Qb rfl (st (c_ (Bw t3 rfl tv) (gg h0 fun c13 h0=>gg h0 fun c14 h0=>st (appz_ (e:=Gh) (l0:=a0) (0:UInt8) rfl rfl rfl (by decide) c13 c14 (st (Dc rfl tv (In ?_)))))))))
  exact jn J11 ⟨_,rfl,h0⟩
 ·replace h0:=oY c12 h0
  refine Nh ?_
  exact jn J11 ⟨_,rfl,h0⟩

/- (loop.example/g00149/impl.Device).read -/
def AaB:List Bj:=[X_ 1 0,⟨some 2,.nilS 1,none⟩]
def AaC:=[f_ 6 1 0,l_ 7 6 1,q_ 8 325 [.t 7],m_ 3 8]
def AaD:=[f_ 9 1 1,l_ 10 9 1,n_ 11 10,i_ 12 0]
def AaE:=[b_ .lss 13 12 11]
def AaF:=[x_ 14 10 12 2,L_ 15 14 2,a_ 5 [iV 0,.own 322 0 1 []],s_ 5 15 2]
def AaG:=[m_ 16 3,L_ 17 5 2,q_ 18 326 [.t 16,.t 17],m_ 3 18]
def AaH:=[B_ .add 19 12 1,m_ 12 19]
def AaA:IR:=(sr AaE (.seq (.ite (.t 13) .skip (.exit 0)) (.seq (.block 1 (sr AaF (.reg AaG))) (.reg AaH))))
def AaI:=[m_ 20 3,m_ 2 20]
def c263:De:=⟨1,21,[.t 2],sr AaB (sr AaC (.seq (sr AaD (Jc 0 AaA)) (rr AaI)))⟩
def pH (D:Ba):Prop:=∀a0 r,fI a0=some r→D 263 ⟨[.agg (Ch a0)],[]⟩ ⟨Eo 0 r,[],[]⟩
theorem F263 (H325:pI C) (H326:NQ C):pH (FO C c263):=by
 intro a0 r h0
 refine f0 (As 4 [(1,.ptr 64 0)] [(64,Ch a0)] (At 3 (Ah (bb h0 fun r1 e2 h0=>Ji (H325 a0.held r1 e2) (af rfl) (o_ (As 2 [(1,.ptr 64 0),(3,Eo 512 r1)] [(64,Ch a0)] (At 4 (Ah (Hf rfl (o_ (As 2 [(3,Eo 512 r1),(10,Cr a0.Av),(11,iV (a0.Av.length:Int)),(12,iV 0)] [] (Ci (bb h0 fun r23 e24 h0=>Df (R:=(fun S=>∃p17:List UInt8,p17=r23∧S=⟨[(3,Eo 512 p17)],[],[]⟩)) (Wh a0) (fun s S=>match s with | (p8,p9)=>S=⟨[(3,Eo 512 p8),(10,Cr a0.Av),(11,iV (a0.Av.length:Int)),(12,iV p9)],[],[]⟩) e24 _ (Er (by kernel_rfl)) rfl 0 (fun _=>rfl) ?_ ?_)))))))))))))
 ·rintro S _ hfg ⟨p17,rfl,rfl⟩
  refine Dy _ hfg ?_
  obtain rfl:=sj h0
  exact Cs 5
 ·rintro ⟨p8,p9⟩ o1 _ K1 rfl h1 hx1 hK1 hE1 hR1
  refine As 3 [(3,Eo 512 p8),(10,Cr a0.Av),(11,iV (a0.Av.length:Int)),(12,iV p9),(13,.bool (decide (p9<(a0.Av.length:Int))))] [] (Bk (Cw h1 (fun c18 h1=>?_) (fun c18 h1=>?_)))
  ·refine Mm 5 (Ah (bb h1 fun y19 e20 h1=>Ns rfl rfl e20 (o_ (As 4 [(3,Eo 512 p8),(5,.ptr 320 0),(10,Cr a0.Av),(11,iV (a0.Av.length:Int)),(12,iV p9)] [(320,Du y19)] (At 2 (Ah (bb h1 fun r21 e22 h1=>fE [] [] [512] (H326 p8 y19 r21 e22) (Bq (af rfl) rfl) (o_ (As 3 [(3,Eo 1152 r21),(10,Cr a0.Av),(11,iV (a0.Av.length:Int)),(12,iV p9)] [] (At 3 ?_))))))))))
   obtain rfl:=sj h1
   exact hK1 _ rfl _ _ (Lz [] [(1152,512)] rfl (by kernel_rfl)) rfl
  ·obtain rfl:=sj h1
   obtain rfl:=hx1 _ rfl
   refine Iw rfl ?_
   exact jn hE1 ⟨_,rfl,rfl⟩
end Go.Ev
