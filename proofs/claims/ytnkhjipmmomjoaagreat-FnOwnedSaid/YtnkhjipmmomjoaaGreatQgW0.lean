/- The walks of functions: the code comes to the answers that QgD tells. Written by a program of ours. -/
import Derived.Test.YtnkhjipmmomjoaaGreatQgD
set_option linter.all false
set_option maxHeartbeats 4000000
set_option linter.unusedVariables false
set_option maxRecDepth 100000
namespace Go.Ev
variable {C:Bi}
theorem sj {α:Type} {a b:α} (h:some a=some b):a=b:=Option.some.inj h
abbrev wi:Int→Int:=IntKind.i64.wrap
theorem tv:True:=True.intro
abbrev iQ (n:Nat) (o:PU):Bv:=⟨some n,.p o,none⟩
abbrev iV (n:Int):V:=.int .i64 n
theorem nl {a b:Nat} (h:Nat.ble a b=true):a≤b:=Nat.le_of_ble_eq_true h
theorem t3:True∧True∧True:=⟨trivial,trivial,trivial⟩
abbrev m_ (d s:Nat):Bv:=⟨some d,.p (.mv (.t s)),none⟩
abbrev k_ (d:Nat) (v:V):Bv:=⟨some d,.p (.mv (.c v)),none⟩
abbrev i_ (d:Nat) (n:Int):Bv:=⟨some d,.p (.mv (.c (.int .i64 n))),none⟩
abbrev f_ (d x o:Nat):Bv:=⟨some d,.p (.fieldA (.t x) o),none⟩
abbrev l_ (d x n:Nat):Bv:=⟨some d,.p (.load (.t x) n false),none⟩
abbrev L_ (d x n:Nat):Bv:=⟨some d,.p (.load (.t x) n true),none⟩
abbrev x_ (d x y n:Nat):Bv:=⟨some d,.p (.idxA (.t x) (.t y) n),none⟩
abbrev e_ (d x n:Nat):Bv:=⟨some d,.p (.ext (.t x) n),none⟩
abbrev b_ (o:BinOp) (d x y:Nat):Bv:=⟨some d,.p (.bin o (.t x) (.t y)),none⟩
abbrev B_ (o:BinOp) (d x:Nat) (n:Int):Bv:=⟨some d,.p (.bin o (.t x) (.c (.int .i64 n))),none⟩
abbrev n_ (d x:Nat):Bv:=⟨some d,.p (.len (.t x)),none⟩
abbrev N_ (d x:Nat):Bv:=⟨some d,.p (.un .not (.t x)),none⟩
abbrev s_ (x y n:Nat):Bv:=⟨none,.store (.t x) (.t y) n,none⟩
abbrev a_ (d:Nat) (z:List V):Bv:=⟨some d,.alloc z,none⟩
abbrev X_ (d x:Nat):Bv:=⟨some d,.box (.t x),none⟩
abbrev q_ (d f:Nat) (l:List Ci):Bv:=⟨some d,.call f l,none⟩
abbrev pk (d:Nat) (a b c:Ci):Bv:=⟨some d,.pick a b c,none⟩
abbrev pT (g d:Nat) (o:PU):Bv:=⟨some d,.p o,some (g,true)⟩
abbrev pF (g d:Nat) (o:PU):Bv:=⟨some d,.p o,some (g,false)⟩
abbrev zV (a b c:Nat):List V:=[.int .i64 0,.int .i64 0,.own a 0 4 [],.own b 0 2 [],.own c 0 1 [],.bool false]
abbrev zT (a:Nat):List V:=[.int .i64 0,.int .i64 0,.own a 0 4 []]
abbrev mT (g d s:Nat):Bv:=⟨some d,.p (.mv (.t s)),some (g,true)⟩
abbrev mF (g d s:Nat):Bv:=⟨some d,.p (.mv (.t s)),some (g,false)⟩
abbrev lT (g d x n:Nat) (a:Bool):Bv:=⟨some d,.p (.load (.t x) n a),some (g,true)⟩
abbrev lF (g d x n:Nat) (a:Bool):Bv:=⟨some d,.p (.load (.t x) n a),some (g,false)⟩
abbrev fT (g d x n:Nat):Bv:=⟨some d,.p (.fieldA (.t x) n),some (g,true)⟩
abbrev fF (g d x n:Nat):Bv:=⟨some d,.p (.fieldA (.t x) n),some (g,false)⟩
abbrev xT (g d x y n:Nat):Bv:=⟨some d,.p (.idxA (.t x) (.t y) n),some (g,true)⟩
abbrev xF (g d x y n:Nat):Bv:=⟨some d,.p (.idxA (.t x) (.t y) n),some (g,false)⟩
abbrev pa (d a b:Nat):Bv:=⟨some d,.pick (.t a) (.t b) (.c (.bool false)),none⟩
abbrev po (d a b:Nat):Bv:=⟨some d,.pick (.t a) (.c (.bool true)) (.t b),none⟩
abbrev sr (l:List Bv) (b:IR):IR:=.seq (.reg l) b
abbrev sd (p:DP) (b:IR):IR:=.seq (.draw p) b
abbrev rr (l:List Bv):IR:=.seq (.reg l) .ret
abbrev iz (n:Nat) (a:IR):IR:=.ite (.t n) a .skip
abbrev Ik (n:Nat) (a:IR):IR:=.block n (.loop a)
def tk:List Bv→DP→DP
  | [],p=>p
  | i::l,p=>.take i (tk l p)
abbrev FO (C:Bi) (c:Dj):Bi:=fun _=>iC C c
theorem f0 {C:Bi} {fn:Dj} {args:List V} {bx:List (List V)} {t:Fq} (h:WL C [.c fn.body] (FQ fn.res bx.length t) .normal ⟨Oz args 0,Pa bx Cv,[]⟩) (h0:Nat.ble args.length fn.nt=true:=by kernel_rfl):iC C fn ⟨args,bx⟩ t:=fn_ (Nat.le_of_ble_eq_true h0) h
abbrev An (t k:Nat) (l:List (List V)):V:=.own t 0 k l
abbrev u_ (k:Nat) (l:List (List V)):V:=.lst k l
abbrev Cj (l:List Ai):V:=.lst 2 (l.map Bw)
abbrev Cg (l:List Aa):V:=.lst 4 (l.map Ac)
abbrev Cx (l:List Ak):V:=.lst 7 (l.map Aq)
abbrev lI (l:List Int):V:=.lst 1 (l.map eI)
abbrev lU8 (l:List UInt8):V:=.lst 1 (l.map eU8)
abbrev Bx (t:Nat) (l:List Ai):V:=.own t 0 2 (l.map Bw)
abbrev Af (t:Nat) (l:List Aa):V:=.own t 0 4 (l.map Ac)
abbrev Bt (t:Nat) (l:List Ak):V:=.own t 0 7 (l.map Aq)
abbrev Dw (t:Nat) (l:List As):V:=.own t 0 2 (l.map Ap)
abbrev oI (t:Nat) (l:List Int):V:=.own t 0 1 (l.map eI)
abbrev oK (x0:Int) (x1:Int) (x2:Int) (x3:Bool):List V:=[iV x0,iV x1,iV x2,.bool x3]
abbrev Bo (x0:Int) (x1:Int) (w2:Nat→List (List V)→V) (x2:List Aa):List V:=[iV x0,iV x1,w2 4 (x2.map Ac)]
abbrev Cn (x:Al) (w2:Nat→List (List V)→V):List V:=[iV x.clock,iV x.next,w2 4 (x.Ae.map Ac)]
abbrev At (x0:Int) (x1:Int) (w2:Nat→List (List V)→V) (x2:List Aa) (w3:Nat→List (List V)→V) (x3:List Ai) (w4:Nat→List (List V)→V) (x4:List Int) (x5:Bool):List V:=[iV x0,iV x1,w2 4 (x2.map Ac),w3 2 (x3.map Bw),w4 1 (x4.map eI),.bool x5]
abbrev Au (x:Aj) (w2:Nat→List (List V)→V) (w3:Nat→List (List V)→V) (w4:Nat→List (List V)→V):List V:=[iV x.Ad.clock,iV x.Ad.next,w2 4 (x.Ad.Ae.map Ac),w3 2 (x.Ab.map Bw),w4 1 (x.Ah.map eI),.bool x.Am]
abbrev Ch (x0:Int) (x1:Int) (x2:Int) (x3:Int) (x4:Int) (w5:Nat→List (List V)→V) (x5:List Int) (x6:Int):List V:=[iV x0,iV x1,iV x2,iV x3,iV x4,w5 1 (x5.map eI),iV x6]
abbrev aY (x:Ak) (w5:Nat→List (List V)→V):List V:=[iV x.kind,iV x.id,iV x.ttl,iV x.El,iV x.clock,w5 1 (x.Ce.map eI),iV x.stop]
abbrev Fd (w0:Nat→List (List V)→V) (x0:List UInt8) (x1:Int) (x2:Int):List V:=[w0 1 (x0.map eU8),iV x1,iV x2]
abbrev Cw (x0:Int) (x1:Int) (w2:Nat→List (List V)→V) (x2:List Aa) (w3:Nat→List (List V)→V) (x3:List Ai) (w4:Nat→List (List V)→V) (x4:List Int) (x5:Bool) (x6:Int) (x7:Int) (x8:Int) (x9:Int) (x10:Int) (w11:Nat→List (List V)→V) (x11:List Int) (x12:Int) (x13:Int):List V:=[iV x0,iV x1,w2 4 (x2.map Ac),w3 2 (x3.map Bw),w4 1 (x4.map eI),.bool x5,iV x6,iV x7,iV x8,iV x9,iV x10,w11 1 (x11.map eI),iV x12,iV x13]
abbrev Ft (x:Da) (w2:Nat→List (List V)→V) (w3:Nat→List (List V)→V) (w4:Nat→List (List V)→V) (w11:Nat→List (List V)→V):List V:=[iV x.v.Ad.clock,iV x.v.Ad.next,w2 4 (x.v.Ad.Ae.map Ac),w3 2 (x.v.Ab.map Bw),w4 1 (x.v.Ah.map eI),.bool x.v.Am,iV x.a.kind,iV x.a.id,iV x.a.ttl,iV x.a.El,iV x.a.clock,w11 1 (x.a.Ce.map eI),iV x.a.stop,iV x.Gu]

/- loop.example/g00149/impl.within -/
def c63_r0:=[k_ 6 (.bool false)]
def c63_r1:=[m_ 7 1,m_ 8 0,b_ .leq 9 7 8,m_ 10 9,mT 10 11 0,mT 10 12 2,pT 10 13 (.bin .leq (.t 11) (.t 12)),pa 14 10 13,m_ 6 14]
def c63:Dj:=⟨3,15,[.t 6],sr c63_r0 (rr c63_r1)⟩
def K63 (D:Bi):Prop:=∀a0 a1 a2 r,rM a0 a1 a2=some r→D 63 ⟨[iV a0,iV a1,iV a2],[]⟩ ⟨.bool r,[],[]⟩
theorem F63:K63 (FO C c63):=by
 intro a0 a1 a2 r h0
 refine f0 (Az 3 [(0,iV a0),(1,iV a1),(2,iV a2)] [] (cH 9 (Ao (o_ ?_))))
 obtain rfl:=sj h0
 exact Cy 3

/- loop.example/g00149/impl.isSerial -/
def c58_r0:=[k_ 2 (.bool false)]
def c58_r1:=[m_ 3 0,q_ 4 63 [.t 3,.c (iV 1),.c (iV 1000000)],m_ 2 4]
def c58:Dj:=⟨1,5,[.t 2],sr c58_r0 (rr c58_r1)⟩
def K58 (D:Bi):Prop:=∀a0 r,g58 a0=some r→D 58 ⟨[iV a0],[]⟩ ⟨.bool r,[],[]⟩
theorem F58 (H63:K63 C):K58 (FO C c58):=by
 intro a0 r h0
 refine f0 (Az 3 [(0,iV a0)] [] (Bm (Ao (st (Ca rfl tv (bb h0 fun r1 e2 h0=>Om (H63 a0 1 1000000 r1 e2) (o_ ?_)))))))
 obtain rfl:=sj h0
 exact Cy 3

/- loop.example/g00149/impl.rises -/
def c59_r0:=[k_ 6 (.bool false)]
def c59_r1:=[m_ 9 0,n_ 10 9,i_ 11 0]
def c59_r2:=[b_ .lss 12 11 10]
def c59_r3:=[m_ 13 11,x_ 14 9 11 1,l_ 15 14 1,m_ 7 13,m_ 8 15]
def c59_r4:List Bv:=[m_ 16 8,m_ 17 1,m_ 18 2,q_ 19 63 [.t 16,.t 17,.t 18],N_ 20 19,m_ 21 20,mF 21 22 7,pF 21 23 (.bin .gtr (.t 22) (.c (iV 0))),mF 21 24 23,mT 24 25 0,mT 24 26 7,pT 24 27 (.bin .sub (.t 26) (.c (iV 1))),xT 24 28 25 27 1,lT 24 29 28 1 false,mT 24 30 8,pT 24 31 (.bin .geq (.t 29) (.t 30)),⟨some 32,.pick (.t 24) (.t 31) (.c (.bool false)),some (21,false)⟩,po 33 21 32]
def c59_r5:=[k_ 6 (.bool false)]
def c59_r6:=[B_ .add 34 11 1,m_ 11 34]
def c59_l0:IR:=(sr c59_r2 (.seq (.ite (.t 12) .skip (.exit 0)) (.seq (.block 1 (sr c59_r3 (sr c59_r4 (iz 33 (rr c59_r5))))) (.reg c59_r6))))
def c59_r7:=[k_ 6 (.bool true)]
def c59:Dj:=⟨3,35,[.t 6],sr c59_r0 (.seq (sr c59_r1 (Ik 0 c59_l0)) (rr c59_r7))⟩
def K59 (D:Bi):Prop:=∀a0 a1 a2 r,g59 a0 a1 a2=some r→D 59 ⟨[lI a0,iV a1,iV a2],[]⟩ ⟨.bool r,[],[]⟩
abbrev jQ:=fun x0 x1 x2 (r:List (Nat×V))=>(0,lI x0)::(1,iV x1)::(2,iV x2)::(9,lI x0)::r
theorem F59 (H63:K63 C):K59 (FO C c59):=by
 intro a0 a1 a2 r h0
 refine f0 (Az 3 [(0,lI a0),(1,iV a1),(2,iV a2)] [] (Ay 3 (Ao (Me rfl (o_ (Az 2 (jQ a0 a1 a2 [(10,iV (a0.length:Int)),(11,iV 0)]) [] (By (bb h0 fun r33 e34 h0=>Cs (R:=(fun S=>.inl ()=r33∧S=⟨[],[],[]⟩)) (aF a0 a1 a2) (fun s S=>match s with | p11=>S=⟨jQ a0 a1 a2 [(10,iV (a0.length:Int)),(11,iV p11)],[],[]⟩) e34 _ (Dv (by kernel_rfl)) rfl 0 (fun _=>rfl) ?_ ?_))))))))
 ·rintro S _ hfg ⟨rfl,rfl⟩
  refine Dd _ hfg ?_
  obtain rfl:=sj h0
  exact Cy 4
 ·rintro p11 o1 _ K1 rfl h1 hx1 hK1 hE1 hR1
  refine Az 3 (jQ a0 a1 a2 [(10,iV (a0.length:Int)),(11,iV p11),(12,.bool (decide (p11<(a0.length:Int))))]) [] (Bm (Co h1 (fun c23 h1=>?_) (fun c23 h1=>?_)))
  ·refine Ay 6 (Ao (bb h1 fun y24 e25 h1=>Tc rfl rfl e25 (o_ (Az 4 (jQ a0 a1 a2 [(7,iV p11),(8,iV y24),(10,iV (a0.length:Int)),(11,iV p11)]) [] (Ay 4 (Ao (bb h1 fun r26 e27 h1=>Om (H63 y24 a1 a2 r26 e27) (o_ (Ay 2 (Ao (st (Bn (u:=iV p11) rfl (fun hg=>(Dg (v:=iV p11) rfl tv)) (st (Bn (u:=.bool (decide (p11>0))) rfl (fun hg=>(Ax ⟨(fun _=>hg),tv,tv⟩ rfl tv)) (st (Bn (u:=.bool (decide (p11>0))) rfl (fun hg=>(Dg (v:=.may ((!r26)==false) (.bool (decide (p11>0)))) rfl (fun _=>hg))) (st (Bn (u:=lI a0) rfl (fun hg=>(Dg (v:=lI a0) rfl tv)) (st (Bn (u:=iV p11) rfl (fun hg=>(Dg (v:=iV p11) rfl tv)) (st (Bn (u:=iV (wi (p11-1))) rfl (fun hg=>(Ax ⟨(fun _=>hg),tv,tv⟩ rfl tv)) (bb h1 fun y28 e29 h1=>st (Bn (u:=.iptr [iV y28]) rfl (fun hg=>(Ob (e:=eI) (y:=y28) rfl rfl (fun _=>hg) rfl rfl (fun _=>hg) (ip hg e29))) (st (Bn (u:=iV y28) rfl (fun hg=>(Ax ⟨(fun _=>hg),tv⟩ rfl (nl rfl))) (st (Bn (u:=iV y24) rfl (fun hg=>(Dg (v:=iV y24) rfl tv)) (st (Bn (u:=.bool (decide (y28≥y24))) rfl (fun hg=>(Ax ⟨(fun _=>hg),(fun _=>hg),tv⟩ rfl tv)) (st (Nq (u:=.bool (bif (decide (p11>0)) then (decide (y28≥y24)) else false)) rfl (fun hg=>Tl rfl rfl (fun _=>hg) rfl rfl (fun h=>Bf hg (Qm h)) tv rfl) (st (Cu rfl rfl rfl tv (fun h=>Rl h) rfl (Gr (bv h1 fun v30 e31 h1=>Dd ⟨jQ a0 a1 a2 [(10,iV (a0.length:Int)),(11,iV p11),(33,.bool v30)],[],[]⟩ (Dv (by subst e31; kernel_rfl)) (Co h1 (fun c32 h1=>?_) (fun c32 h1=>?_))))))))))))))))))))))))))))))))))))))
   ·obtain rfl:=sj h1
    obtain rfl:=hx1 _ rfl
    obtain rfl:=sj h0
    exact cJ 4 hR1
   ·refine Ay 6 ?_
    obtain rfl:=sj h1
    exact kn hK1 rfl rfl
  ·obtain rfl:=sj h1
   obtain rfl:=hx1 _ rfl
   refine Iq rfl ?_
   exact jn hE1 ⟨rfl,rfl⟩

/- (loop.example/g00149/impl.Table).ids -/
def c60_r0:List Bv:=[X_ 1 0,⟨some 2,.nilS 1,none⟩]
def c60_r1:List Bv:=[⟨some 3,.nilS 1,none⟩]
def c60_r2:=[f_ 6 1 2,l_ 7 6 1,n_ 8 7,i_ 9 0]
def c60_r3:=[b_ .lss 10 9 8]
def c60_r4:=[x_ 11 7 9 4,L_ 12 11 4,a_ 5 [iV 0,iV 0,iV 0,.bool false],s_ 5 12 4]
def c60_r5:List Bv:=[m_ 13 3,f_ 14 5 0,l_ 15 14 1,⟨some 16,.mkS 1 [iV 0] 1 [(0,.t 15)],none⟩,⟨some 17,.app 1 8 (.t 13) (.t 16),none⟩,m_ 3 17]
def c60_r6:=[B_ .add 18 9 1,m_ 9 18]
def c60_l0:IR:=(sr c60_r3 (.seq (.ite (.t 10) .skip (.exit 0)) (.seq (.block 1 (sr c60_r4 (.reg c60_r5))) (.reg c60_r6))))
def c60_r7:=[m_ 19 3,m_ 2 19]
def c60:Dj:=⟨1,20,[.t 2],sr c60_r0 (sr c60_r1 (.seq (sr c60_r2 (Ik 0 c60_l0)) (rr c60_r7)))⟩
def K60 (D:Bi):Prop:=∀a0 r,g60 a0=some r→D 60 ⟨[.agg (Ba a0)],[]⟩ ⟨oI 0 r,[],[]⟩
theorem F60:K60 (FO C c60):=by
 intro a0 r h0
 refine f0 (Az 8 [(1,.ptr 64 0),(3,.own 192 0 1 ([].map eI))] [(64,Ba a0)] (Ay 4 (Ao (Me rfl (o_ (Az 2 [(3,.own 192 0 1 ([].map eI)),(7,Cg a0.Ae),(8,iV (a0.Ae.length:Int)),(9,iV 0)] [] (By (bb h0 fun r18 e19 h0=>Cs (R:=(fun S=>∃p13:List Int,p13=r18∧S=⟨[(3,oI 192 p13)],[],[]⟩)) (Nf a0) (fun s S=>match s with | (p5,p6)=>S=⟨[(3,oI 192 p5),(7,Cg a0.Ae),(8,iV (a0.Ae.length:Int)),(9,iV p6)],[],[]⟩) e19 _ (Dv (by kernel_rfl)) rfl 0 (fun _=>rfl) ?_ ?_))))))))
 ·rintro S _ hfg ⟨p13,rfl,rfl⟩
  refine Dd _ hfg ?_
  obtain rfl:=sj h0
  exact Cy 5
 ·rintro ⟨p5,p6⟩ o1 _ K1 rfl h1 hx1 hK1 hE1 hR1
  refine Az 3 [(3,oI 192 p5),(7,Cg a0.Ae),(8,iV (a0.Ae.length:Int)),(9,iV p6),(10,.bool (decide (p6<(a0.Ae.length:Int))))] [] (Bm (Co h1 (fun c14 h1=>?_) (fun c14 h1=>?_)))
  ·refine Lg 5 (Ao (bb h1 fun y15 e16 h1=>Tc rfl rfl e16 (o_ (Az 4 [(3,oI 192 p5),(5,.ptr 320 0),(7,Cg a0.Ae),(8,iV (a0.Ae.length:Int)),(9,iV p6)] [(320,Ac y15)] (Ay 4 (Ao (gg h1 fun c17 h1=>st (Je (e:=eI) (l0:=p5) (l1:=([y15.id]:List Int)) rfl rfl tv rfl (by decide) c17 (o_ (Az 3 [(3,oI 192 (p5++([y15.id]:List Int))),(7,Cg a0.Ae),(8,iV (a0.Ae.length:Int)),(9,iV p6)] [] (Ay 3 ?_)))))))))))
   obtain rfl:=sj h1
   exact kn hK1 rfl rfl
  ·obtain rfl:=sj h1
   obtain rfl:=hx1 _ rfl
   refine Iq rfl ?_
   exact jn hE1 ⟨_,rfl,rfl⟩

/- slices.IndexFunc[[]loop.example/g00149/impl.Lease,loop.example/g00149/impl.Lease] -/
def HY:=[i_ 4 0]
def HZ:=[m_ 6 0,n_ 7 6,i_ 8 0]
def IA:=[b_ .lss 9 8 7]
def IB:=[m_ 10 8,m_ 5 10]
def IC:List Bv:=[m_ 11 1,m_ 12 0,m_ 13 5,x_ 14 12 13 4,L_ 15 14 4,⟨some 16,.callv (.t 11) [.t 15],none⟩]
def ID:=[m_ 17 5,m_ 4 17]
def IE:=[B_ .add 18 8 1,m_ 8 18]
def HX:IR:=(sr IA (.seq (.ite (.t 9) .skip (.exit 0)) (.seq (.block 1 (sr IB (sr IC (iz 16 (rr ID))))) (.reg IE))))
def IF:=[i_ 4 (-1)]
def HW:Dj:=⟨2,19,[.t 4],sr HY (.seq (sr HZ (Ik 0 HX)) (rr IF))⟩
def K108 (C:Bi) (D:Bi:=C):Prop:=∀(a0:List Aa) (f1:Nat) (k1:List V) (is1:Aa→Option Bool) (hs1:Ho k1) (hf1:∀(x0:Aa) r,is1 x0=some r→C f1 ⟨.agg (Ac x0)::k1,[]⟩ ⟨.bool r,[],[]⟩) (r:Int),BL a0 is1=some r→D 108 ⟨[Cg a0,.clo f1 k1],[]⟩ ⟨iV r,[],[]⟩
theorem F108:K108 C (FO C HW):=by
 intro a0 f1 k1 is1 hs1 hf1 r h0
 refine f0 (Az 3 [(0,Cg a0),(1,.clo f1 k1)] [] (Ay 3 (Ao (Me rfl (o_ (Az 2 [(0,Cg a0),(1,.clo f1 k1),(7,iV (a0.length:Int)),(8,iV 0)] [] (By (bb h0 fun r21 e22 h0=>Cs (R:=(fun S=>.inl ()=r21∧S=⟨[],[],[]⟩)) (Qp a0 is1) (fun s S=>match s with | p7=>S=⟨[(0,Cg a0),(1,.clo f1 k1),(7,iV (a0.length:Int)),(8,iV p7)],[],[]⟩) e22 _ (Dv (by kernel_rfl)) rfl 0 (fun _=>rfl) ?_ ?_))))))))
 ·rintro S _ hfg ⟨rfl,rfl⟩
  refine Dd _ hfg ?_
  obtain rfl:=sj h0
  exact Cy 4
 ·rintro p7 o1 _ K1 rfl h1 hx1 hK1 hE1 hR1
  refine Az 3 [(0,Cg a0),(1,.clo f1 k1),(7,iV (a0.length:Int)),(8,iV p7),(9,.bool (decide (p7<(a0.length:Int))))] [] (Bm (Co h1 (fun c15 h1=>?_) (fun c15 h1=>?_)))
  ·refine Az 8 [(0,Cg a0),(1,.clo f1 k1),(5,iV p7),(7,iV (a0.length:Int)),(8,iV p7)] [] (Ay 4 (Ao (bb h1 fun y16 e17 h1=>Tc rfl rfl e17 (st (c_ (v:=.agg (Ac y16)) (Ax ⟨tv,tv⟩ rfl (nl rfl)) (bb h1 fun r18 e19 h1=>st (Gb (r:=.bool r18) rfl false (hf1 _ r18 e19) ⟨tv,tv⟩ (Bf rfl hs1.2.2.1) (Bb rfl (hs1.2.1 _ _ _ _ _)) (fun _=>rfl) (o_ (Az 1 [(0,Cg a0),(1,.clo f1 k1),(5,iV p7),(7,iV (a0.length:Int)),(8,iV p7),(16,.bool r18)] [] (Co h1 (fun sV h1=>?_) (fun sV h1=>?_)))))))))))
   ·obtain rfl:=sj h1
    obtain rfl:=hx1 _ rfl
    obtain rfl:=sj h0
    exact cJ 5 hR1
   ·refine Ay 6 ?_
    obtain rfl:=sj h1
    exact kn hK1 rfl rfl
  ·obtain rfl:=sj h1
   obtain rfl:=hx1 _ rfl
   refine Iq rfl ?_
   exact jn hE1 ⟨rfl,rfl⟩

/- slices.ContainsFunc[[]loop.example/g00149/impl.Lease,loop.example/g00149/impl.Lease] -/
def HS:=[k_ 4 (.bool false)]
def HT:=[m_ 5 0,m_ 6 1,q_ 7 108 [.t 5,.t 6],B_ .geq 8 7 0,m_ 4 8]
def HR:Dj:=⟨2,9,[.t 4],sr HS (rr HT)⟩
def K105 (C:Bi) (D:Bi:=C):Prop:=∀(a0:List Aa) (f1:Nat) (k1:List V) (is1:Aa→Option Bool) (hs1:Ho k1) (hf1:∀(x0:Aa) r,is1 x0=some r→C f1 ⟨.agg (Ac x0)::k1,[]⟩ ⟨.bool r,[],[]⟩) (r:Bool),g105 a0 is1=some r→D 105 ⟨[Cg a0,.clo f1 k1],[]⟩ ⟨.bool r,[],[]⟩
theorem F105 (H108:K108 C):K105 C (FO C HR):=by
 intro a0 f1 k1 is1 hs1 hf1 r h0
 refine f0 (Az 3 [(0,Cg a0),(1,.clo f1 k1)] [] (Ay 3 (Ao (bb h0 fun r1 e2 h0=>st (De (r:=iV r1) false (H108 a0 f1 k1 is1 hs1 hf1 r1 e2) ⟨tv,tv,tv⟩ rfl (Bb rfl (Bb (En hs1) rfl)) (fun _=>rfl) (o_ ?_))))))
 obtain rfl:=sj h0
 exact Cy 4

/- loop.example/g00149/impl.areAll[loop.example/g00149/impl.Lease]$1 -/
def HU:=[X_ 2 0,k_ 3 (.bool false)]
def HV:List Bv:=[l_ 4 1 1,L_ 5 2 4,⟨some 6,.callv (.t 4) [.t 5],none⟩,N_ 7 6,m_ 3 7]
def c106:Dj:=⟨2,8,[.t 3],sr HU (rr HV)⟩
def K106 (C:Bi) (D:Bi:=C):Prop:=∀(a0:Aa) (f1:Nat) (k1:List V) (is1:Aa→Option Bool) (hs1:Ho k1) (hf1:∀(x0:Aa) r,is1 x0=some r→C f1 ⟨.agg (Ac x0)::k1,[]⟩ ⟨.bool r,[],[]⟩) (r:Bool),BK a0 is1=some r→D 106 ⟨[.agg (Ac a0),.iptr [.clo f1 k1]],[]⟩ ⟨.bool r,[],[]⟩
theorem F106:K106 C (FO C c106):=by
 intro a0 f1 k1 is1 hs1 hf1 r h0
 refine f0 (Az 4 [(1,.iptr [.clo f1 k1]),(2,.ptr 128 0)] [(128,Ac a0)] (Ay 3 (Ao (bb h0 fun r1 e2 h0=>st (Gb (r:=.bool r1) rfl false (hf1 _ r1 e2) ⟨tv,tv⟩ (Bf rfl hs1.2.2.1) (Bb rfl (hs1.2.1 _ _ _ _ _)) (fun _=>rfl) (o_ ?_))))))
 obtain rfl:=sj h0
 exact Cy 4

/- loop.example/g00149/impl.areAll[loop.example/g00149/impl.Lease] -/
def c61_r0:=[X_ 3 1,k_ 4 (.bool false)]
def c61_r1:=[m_ 5 0,iQ 6 (.fn 106 [.t 3]),q_ 7 105 [.t 5,.t 6],N_ 8 7,m_ 4 8]
def c61:Dj:=⟨2,9,[.t 4],sr c61_r0 (rr c61_r1)⟩
def K61 (C:Bi) (D:Bi:=C):Prop:=∀(a0:List Aa) (f1:Nat) (k1:List V) (is1:Aa→Option Bool) (hs1:Ho k1) (hf1:∀(x0:Aa) r,is1 x0=some r→C f1 ⟨.agg (Ac x0)::k1,[]⟩ ⟨.bool r,[],[]⟩) (r:Bool),g61 a0 is1=some r→D 61 ⟨[Cg a0,.clo f1 k1],[]⟩ ⟨.bool r,[],[]⟩
theorem F61 (H105:K105 C) (H106:K106 C):K61 C (FO C c61):=by
 intro a0 f1 k1 is1 hs1 hf1 r h0
 refine f0 (Bm (Ao (st (GG (dK hs1) tv rfl (o_ (Az 2 [(0,Cg a0),(3,.ptr 192 0)] [(192,[.clo f1 k1])] (Ay 3 (Ao (bb h0 fun r1 e2 h0=>st (De (r:=.bool r1) false (H105 a0 106 [.iptr [.clo f1 k1]] (fun z106_0=>BK z106_0 is1) (⟨fun _ _ _ _ _=>rfl,fun _ _ _ _ _=>rfl,rfl,fun _ _ _ n=>by cases n<;>rfl,fun _=>rfl⟩) (fun z106_0 r h=>H106 z106_0 f1 k1 is1 hs1 hf1 r h) r1 e2) ⟨tv,tv,tv⟩ rfl (Bb rfl (Bb (congrArg (fun z=>V.clo 106 [.iptr [.clo f1 z]]) (hs1.2.2.2.1 _ _ _ _)) rfl)) (fun _=>rfl) (o_ ?_)))))))))))
 obtain rfl:=sj h0
 exact Cy 4

/- loop.example/g00149/impl.TableOK$1 -/
def c62_r0:=[X_ 2 0,k_ 3 (.bool false)]
def c62_r1:List Bv:=[f_ 4 2 1,l_ 5 4 1,f_ 6 2 2,l_ 7 6 1,q_ 8 63 [.t 5,.c (iV 0),.t 7],m_ 9 8,fT 9 10 2 3,lT 9 11 10 1 false,mT 9 12 11,fF 12 13 2 1,lF 12 14 13 1 false,fF 12 15 1 0,lF 12 16 15 1 false,pF 12 17 (.bin .gtr (.t 14) (.t 16)),⟨some 18,.pick (.t 12) (.c (.bool true)) (.t 17),some (9,true)⟩,pa 19 9 18,m_ 3 19]
def c62:Dj:=⟨2,20,[.t 3],sr c62_r0 (rr c62_r1)⟩
def K62 (D:Bi):Prop:=∀a0 a1 r,g62 a0 a1=some r→D 62 ⟨[.agg (Ac a0),.iptr (Ba a1)],[]⟩ ⟨.bool r,[],[]⟩
theorem F62 (H63:K63 C):K62 (FO C c62):=by
 intro a0 a1 r h0
 refine f0 (Az 4 [(1,.iptr (Ba a1)),(2,.ptr 128 0)] [(128,Ac a0)] (Ay 5 (Ao (bb h0 fun r1 e2 h0=>Om (H63 a0.Bl 0 a0.cap r1 e2) (o_ (cH 9 (Ao (st (Nq (u:=.bool (bif a0.Ck then true else (decide (a0.Bl>a1.clock)))) rfl (fun hg=>Tl rfl rfl (fun _=>hg) rfl rfl tv (fun h=>Bf hg (Rl h)) rfl) (o_ (cH 3 (bv h0 fun v3 e4 h0=>Dd ⟨[(3,.bool v3)],[],[]⟩ (Dv (by subst e4; kernel_rfl)) ?_))))))))))))
 obtain rfl:=sj h0
 exact Lf (Eg rfl rfl rfl rfl rfl tv)

/- loop.example/g00149/impl.TableOK -/
def c20_r0:=[X_ 1 0,k_ 2 (.bool false)]
def c20_r1:=tk [f_ 3 1 0,l_ 4 3 1,B_ .geq 5 4 0,m_ 6 5,fT 6 7 1 1,lT 6 8 7 1 false] (.alt [] ⟨some 9,.call 58 [.t 8],some (6,true)⟩ (tk [pa 10 6 9,m_ 11 10,fT 11 12 1 2,lT 11 13 12 1 false,pT 11 14 (.len (.t 13)),pT 11 15 (.bin .leq (.t 14) (.c (iV 40))),pa 16 11 15,m_ 17 16,lT 17 18 1 3 true,fT 17 20 1 1,lT 17 21 20 1 false,pT 17 22 (.bin .sub (.t 21) (.c (iV 1)))] (.alt [pT 17 22 (.bin .sub (.t 21) (.c (iV 1))),lT 17 21 20 1 false,fT 17 20 1 1] ⟨some 19,.call 60 [.t 18],some (17,true)⟩ (.alt [] ⟨some 23,.call 59 [.t 19,.c (iV 1),.t 22],some (17,true)⟩ (tk [pa 24 17 23,m_ 25 24,fT 25 26 1 2,lT 25 27 26 1 false,pT 25 28 (.fn 62 [.t 1])] (.alt [] ⟨some 29,.call 61 [.t 27,.t 28],some (25,true)⟩ (tk [pa 30 25 29,m_ 2 30] .fin) .stop)) .stop) .stop)) .stop)
def sV:Dj:=⟨1,31,[.t 2],sr c20_r0 (sd c20_r1 .ret)⟩
def K20 (D:Bi):Prop:=∀a0 r,g20 a0=some r→D 20 ⟨[.agg (Ba a0)],[]⟩ ⟨.bool r,[],[]⟩
theorem F20 (H58:K58 C) (H59:K59 C) (H60:K60 C) (H61:K61 C) (H62:K62 C):K20 (FO C sV):=by
 intro a0 r h0
 refine f0 (Az 4 [(1,.ptr 64 0)] [(64,Ba a0)] (Bm (bb h0 fun r1 e2 h0=>bb h0 fun r3 e4 h0=>bb h0 fun r5 e6 h0=>bb h0 fun r7 e8 h0=>Ay 4 (Bg (Ag tv (Bn (u:=.ptr 64 1) rfl (fun hg=>(Ax ⟨tv,tv⟩ rfl tv)) (⟨tv,Ag tv (Bn (u:=iV a0.next) rfl (fun hg=>(Ax ⟨(fun _=>hg),tv⟩ rfl (nl rfl))) (⟨tv,Bq (Dy (r:=.bool r1) rfl false (fun hg=>H58 a0.next r1 (ip hg e2)) ⟨(fun hg=>hg),tv⟩ (fun _=>rfl) (fun _=>rfl) (fun _=>rfl) (fun h=>nomatch h) (dw [(1,.ptr 64 0),(6,.bool (decide (a0.clock≥0))),(9,.may ((decide (a0.clock≥0))==true) (.bool r1))] [(64,Ba a0)] tv (Ag tv (Cu rfl rfl rfl (fun h=>Qm h) tv rfl (⟨tv,Ag tv (Ca rfl tv (⟨tv,Ag tv (Bn (u:=.ptr 64 2) rfl (fun hg=>(Ax ⟨tv,tv⟩ rfl tv)) (⟨tv,Ag tv (Bn (u:=Cg a0.Ae) rfl (fun hg=>(Ax ⟨(fun _=>hg),tv⟩ rfl (nl rfl))) (⟨tv,Ag tv (Bn (u:=iV (a0.Ae.length:Int)) rfl (fun hg=>(Ml (e:=Ac) (l0:=a0.Ae) rfl rfl (fun _=>hg))) (⟨tv,Ag tv (Bn (u:=.bool (decide ((a0.Ae.length:Int)≤40))) rfl (fun hg=>(Ax ⟨(fun _=>hg),tv,tv⟩ rfl tv)) (⟨tv,Ag tv (Cu rfl rfl rfl (fun h=>Qm h) tv rfl (⟨tv,Ag tv (Ca rfl tv (⟨tv,?_⟩))⟩))⟩))⟩))⟩))⟩))⟩))⟩))))) Aw⟩))⟩)))))))
 refine Ag tv (Bn (u:=.agg (Ba a0)) rfl (fun hg=>(Ax ⟨tv,tv⟩ rfl (nl rfl))) (⟨tv,Ag tv (Bn (u:=.ptr 64 1) rfl (fun hg=>(Ax ⟨tv,tv⟩ rfl tv)) (⟨tv,Ag tv (Bn (u:=iV a0.next) rfl (fun hg=>(Ax ⟨(fun _=>hg),tv⟩ rfl (nl rfl))) (⟨tv,Ag tv (Bn (u:=iV (wi (a0.next-1))) rfl (fun hg=>(Ax ⟨(fun _=>hg),tv,tv⟩ rfl tv)) (⟨tv,Bq (Dy (r:=oI 0 r3) rfl false (fun hg=>H60 a0 r3 (ip hg e4)) ⟨(fun hg=>hg),tv⟩ (fun _=>rfl) (fun _=>rfl) (fun _=>(af rfl)) (fun h=>nomatch h) (dw [(1,.ptr 64 0),(17,.bool (bif (bif (decide (a0.clock≥0)) then r1 else false) then (decide ((a0.Ae.length:Int)≤40)) else false)),(19,.may ((bif (bif (decide (a0.clock≥0)) then r1 else false) then (decide ((a0.Ae.length:Int)≤40)) else false)==true) (lI r3)),(20,.may ((bif (bif (decide (a0.clock≥0)) then r1 else false) then (decide ((a0.Ae.length:Int)≤40)) else false)==true) (.ptr 64 1)),(21,.may ((bif (bif (decide (a0.clock≥0)) then r1 else false) then (decide ((a0.Ae.length:Int)≤40)) else false)==true) (iV a0.next)),(22,.may ((bif (bif (decide (a0.clock≥0)) then r1 else false) then (decide ((a0.Ae.length:Int)≤40)) else false)==true) (iV (wi (a0.next-1))))] [(64,Ba a0)] ⟨⟨.inl tv,Br (v:=iV (wi (a0.next-1))) rfl (fun hg=>(Ax ⟨(fun _=>hg),tv,tv⟩ rfl tv)) rfl⟩,⟨.inl tv,Br (v:=iV a0.next) rfl (fun hg=>(Ax ⟨(fun _=>hg),tv⟩ rfl (nl rfl))) rfl⟩,⟨.inl tv,Br (v:=.ptr 64 1) rfl (fun hg=>(Ax ⟨tv,tv⟩ rfl tv)) rfl⟩,tv⟩ (Bq (Dy (r:=.bool r5) rfl false (fun hg=>H59 r3 1 (wi (a0.next-1)) r5 (ip hg e6)) ⟨(fun hg=>hg),tv,(fun hg=>hg),tv⟩ (fun _=>rfl) (fun _=>rfl) (fun _=>rfl) (fun h=>nomatch h) (dw [(1,.ptr 64 0),(17,.bool (bif (bif (decide (a0.clock≥0)) then r1 else false) then (decide ((a0.Ae.length:Int)≤40)) else false)),(23,.may ((bif (bif (decide (a0.clock≥0)) then r1 else false) then (decide ((a0.Ae.length:Int)≤40)) else false)==true) (.bool r5))] [(64,Ba a0)] tv (Ag tv (Cu rfl rfl rfl (fun h=>Qm h) tv rfl (⟨tv,Ag tv (Ca rfl tv (⟨tv,Ag tv (Bn (u:=.ptr 64 2) rfl (fun hg=>(Ax ⟨tv,tv⟩ rfl tv)) (⟨tv,Ag tv (Bn (u:=Cg a0.Ae) rfl (fun hg=>(Ax ⟨(fun _=>hg),tv⟩ rfl (nl rfl))) (⟨tv,Ag tv (Bn (u:=.clo 62 [.ptr 64 0]) rfl (fun hg=>(Ax ⟨tv,tv⟩ rfl rfl)) (⟨tv,Bq (Dy (r:=.bool r7) rfl false (fun hg=>H61 a0.Ae 62 [.iptr (Ba a0)] (fun z62_0=>g62 z62_0 a0) (⟨fun _ _ _ _ _=>rfl,fun _ _ _ _ _=>rfl,rfl,fun _ _ _ n=>by cases n<;>rfl,fun _=>rfl⟩) (fun z62_0 r h=>H62 z62_0 a0 r h) r7 (ip hg e8)) ⟨(fun hg=>hg),(fun hg=>hg),tv⟩ (fun _=>rfl) (fun _=>rfl) (fun _=>rfl) (fun h=>nomatch h) (dw [(25,.bool (bif (bif (bif (decide (a0.clock≥0)) then r1 else false) then (decide ((a0.Ae.length:Int)≤40)) else false) then r5 else false)),(29,.may ((bif (bif (bif (decide (a0.clock≥0)) then r1 else false) then (decide ((a0.Ae.length:Int)≤40)) else false) then r5 else false)==true) (.bool r7))] [] tv (Ag tv (Cu rfl rfl rfl (fun h=>Qm h) tv rfl (⟨tv,d_ (Ay 2 (bv h0 fun v9 e10 h0=>Dd ⟨[(2,.bool v9)],[],[]⟩ (Dv (by subst e10; kernel_rfl)) ?_))⟩))))) Aw⟩))⟩))⟩))⟩))⟩))))) Aw))) Aw⟩))⟩))⟩))⟩))
 obtain rfl:=sj h0
 exact Lf (Eg rfl rfl rfl rfl rfl tv)

/- loop.example/g00149/impl.leases -/
def c95_r0:List Bv:=[⟨some 2,.nilS 1,none⟩]
def c95_r1:List Bv:=[⟨some 3,.nilS 1,none⟩]
def c95_r2:=[m_ 6 0,n_ 7 6,i_ 8 0]
def c95_r3:=[b_ .lss 9 8 7]
def c95_r4:=[x_ 10 6 8 2,L_ 11 10 2,a_ 5 [iV 0,.bool false],s_ 5 11 2]
def c95_r5:List Bv:=[m_ 12 3,f_ 13 5 0,l_ 14 13 1,⟨some 15,.mkS 1 [iV 0] 1 [(0,.t 14)],none⟩,⟨some 16,.app 1 8 (.t 12) (.t 15),none⟩,m_ 3 16]
def c95_r6:=[B_ .add 17 8 1,m_ 8 17]
def c95_l0:IR:=(sr c95_r3 (.seq (.ite (.t 9) .skip (.exit 0)) (.seq (.block 1 (sr c95_r4 (.reg c95_r5))) (.reg c95_r6))))
def c95_r7:=[m_ 18 3,m_ 2 18]
def c95:Dj:=⟨1,19,[.t 2],sr c95_r0 (sr c95_r1 (.seq (sr c95_r2 (Ik 0 c95_l0)) (rr c95_r7)))⟩
def K95 (D:Bi):Prop:=∀a0 r,g95 a0=some r→D 95 ⟨[Cj a0],[]⟩ ⟨oI 0 r,[],[]⟩
theorem F95:K95 (FO C c95):=by
 intro a0 r h0
 refine f0 (Az 7 [(0,Cj a0),(3,.own 192 0 1 ([].map eI))] [] (Ay 3 (Ao (Me rfl (o_ (Az 2 [(3,.own 192 0 1 ([].map eI)),(6,Cj a0),(7,iV (a0.length:Int)),(8,iV 0)] [] (By (bb h0 fun r18 e19 h0=>Cs (R:=(fun S=>∃p13:List Int,p13=r18∧S=⟨[(3,oI 192 p13)],[],[]⟩)) (aL a0) (fun s S=>match s with | (p5,p6)=>S=⟨[(3,oI 192 p5),(6,Cj a0),(7,iV (a0.length:Int)),(8,iV p6)],[],[]⟩) e19 _ (Dv (by kernel_rfl)) rfl 0 (fun _=>rfl) ?_ ?_))))))))
 ·rintro S _ hfg ⟨p13,rfl,rfl⟩
  refine Dd _ hfg ?_
  obtain rfl:=sj h0
  exact Cy 5
 ·rintro ⟨p5,p6⟩ o1 _ K1 rfl h1 hx1 hK1 hE1 hR1
  refine Az 3 [(3,oI 192 p5),(6,Cj a0),(7,iV (a0.length:Int)),(8,iV p6),(9,.bool (decide (p6<(a0.length:Int))))] [] (Bm (Co h1 (fun c14 h1=>?_) (fun c14 h1=>?_)))
  ·refine Lg 5 (Ao (bb h1 fun y15 e16 h1=>Tc rfl rfl e16 (o_ (Az 4 [(3,oI 192 p5),(5,.ptr 320 0),(6,Cj a0),(7,iV (a0.length:Int)),(8,iV p6)] [(320,Bw y15)] (Ay 4 (Ao (gg h1 fun c17 h1=>st (Je (e:=eI) (l0:=p5) (l1:=([y15.Av]:List Int)) rfl rfl tv rfl (by decide) c17 (o_ (Az 3 [(3,oI 192 (p5++([y15.Av]:List Int))),(6,Cj a0),(7,iV (a0.length:Int)),(8,iV p6)] [] (Ay 3 ?_)))))))))))
   obtain rfl:=sj h1
   exact kn hK1 rfl rfl
  ·obtain rfl:=sj h1
   obtain rfl:=hx1 _ rfl
   refine Iq rfl ?_
   exact jn hE1 ⟨_,rfl,rfl⟩

/- slices.Grow[[]int,int] -/
def QM:List Bv:=[⟨some 4,.nilS 1,none⟩]
def QN:=[m_ 5 1,B_ .lss 6 5 0]
def QO:List Bv:=[⟨some 7,.bad,none⟩,⟨none,.bad,none⟩]
def QP:List Bv:=[m_ 8 1,m_ 9 0,⟨some 10,.cap (.t 9),none⟩,m_ 11 0,n_ 12 11,b_ .sub 13 10 12,b_ .sub 14 8 13,m_ 1 14]
def QQ:=[m_ 15 1,B_ .gtr 16 15 0]
def QR:List Bv:=[m_ 17 0,m_ 18 0,⟨some 19,.cap (.t 18),none⟩,⟨some 20,.p (.slice (.t 17) none (some (.t 19)) 1),none⟩,m_ 21 1,⟨some 22,.appz 1 8 [iV 0] (.t 20) (.t 21),none⟩,m_ 23 0,n_ 24 23,⟨some 25,.p (.slice (.t 22) none (some (.t 24)) 1),none⟩,m_ 0 25]
def QS:=[m_ 26 0,m_ 4 26]
def QL:Dj:=⟨2,27,[.t 4],sr QM (.seq (sr QN (iz 6 (.reg QO))) (.seq (sr QP (sr QQ (iz 16 (.reg QR)))) (rr QS)))⟩
def K144 (D:Bi):Prop:=∀a0 a1 r,g144 a0 a1=some r→D 144 ⟨[oI 1024000 a0,iV a1],[]⟩ ⟨oI 0 r,[],[]⟩
theorem F144:K144 (FO C QL):=by
 intro a0 a1 r h0
 refine fnc_ (nl rfl) fun f hf=>?_
 obtain ⟨⟨hb,hl⟩,h0⟩:=grd h0
 obtain rfl:=sj h0
 obtain ⟨n,rfl⟩:=Int.eq_ofNat_of_zero_le hb
 have hn:a0.length+n≤17592186044416:=by omega
 have hbyte:(a0.length+n)*8≤140737488355328:=Nat.le_trans (Nat.mul_le_mul_right 8 hn) (by decide)
 obtain ⟨hc1,hc2⟩:=hf 0 1024000 0 1 (a0.map eI) rfl (by decide)
 rw [List.length_map] at hc1
 have hc2:=hc2 rfl
 have w1:wi ((f 0:Int)-(a0.length:Int))=(f 0:Int)-(a0.length:Int):=wrapI (by omega) (by omega)
 have w2:wi ((n:Int)-((f 0:Int)-(a0.length:Int)))=(n:Int)-((f 0:Int)-(a0.length:Int)):=wrapI (by omega) (by omega)
 refine Bm (Ao (st (eG (Gr (Dd ⟨[(0,oI 1024000 a0),(1,iV n)],[],[(0,Et+(f 0:Int))]⟩ (BF ⟨rfl,rfl,tv⟩ tv ⟨.inl ⟨_,rfl,.inl rfl⟩,tv⟩) (Ay 5 (Dd ⟨[(6,.bool (decide ((n:Int)<0))),(0,oI 1024000 a0),(1,iV n)],[],[(0,Et+(f 0:Int))]⟩ (BF ⟨rfl,rfl,rfl,tv⟩ tv ⟨.inl ⟨_,rfl,.inl rfl⟩,tv⟩) (Vw (cb:=decide ((n:Int)<0)) rfl (fun h=>absurd (of_decide_eq_true h) (by omega)) (fun _=>(Js (Dd ⟨[(0,oI 1024000 a0),(1,iV n)],[],[(0,Et+(f 0:Int))]⟩ (BF ⟨rfl,rfl,tv⟩ tv ⟨.inl ⟨_,rfl,.inl rfl⟩,tv⟩) (Ay 4 (Ao (st (cap_ (e:=eI) (l0:=a0) rfl fun c _ _ hc=>?_)))))))))))))))
 have hcf:(c:Int)=(f 0:Int):=by have:=hc _ rfl (by omega); omega
 refine st (Ca rfl tv (Yv rfl (st (c_ (Ax (v:=iV ((f 0:Int)-(a0.length:Int))) ⟨tv,tv,tv⟩ (congrArg (fun z=>some (True,V.int .i64 z)) ((congrArg (fun z=>wi (z-(a0.length:Int))) hcf).trans w1)) tv) (st (c_ (Ax (v:=iV ((n:Int)-((f 0:Int)-(a0.length:Int)))) ⟨tv,tv,tv⟩ (congrArg (fun z=>some (True,V.int .i64 z)) w2) tv) (st (Ca rfl tv (Gr (Dd ⟨[(0,oI 1024000 a0),(1,iV ((n:Int)-((f 0:Int)-(a0.length:Int))))],[],[(0,Et+(f 0:Int))]⟩ (BF ⟨rfl,rfl,tv⟩ tv ⟨.inl ⟨_,rfl,.inl rfl⟩,tv⟩) (Ay 4 (Dd ⟨[(16,.bool (decide ((n:Int)-((f 0:Int)-(a0.length:Int))>0))),(0,oI 1024000 a0),(1,iV ((n:Int)-((f 0:Int)-(a0.length:Int))))],[],[(0,Et+(f 0:Int))]⟩ (BF ⟨rfl,rfl,rfl,tv⟩ tv ⟨.inl ⟨_,rfl,.inl rfl⟩,tv⟩) (Vw (cb:=decide ((n:Int)-((f 0:Int)-(a0.length:Int))>0)) rfl (fun hgt=>?_) (fun _=>?_))))))))))))))
 ·have hgt':f 0<a0.length+n:=by have:=of_decide_eq_true hgt; omega
  obtain ⟨m,hm⟩:∃m:Nat,(n:Int)-((f 0:Int)-(a0.length:Int))=(m:Int):=⟨a0.length+n-f 0,by omega⟩
  rw [hm]
  refine Ay 2 (Ao (st (cap_ (e:=eI) (l0:=a0) rfl fun c2 _ _ hc3=>?_)))
  have hcf2:c2=f 0:=by have:=hc3 _ rfl (by omega); omega
  subst hcf2
  refine st (c_ (pZ (e:=eI) (l0:=a0) (t:=1024000) (sz:=1) (H:=f 0) (c:=Et+(f 0:Int)) rfl rfl hc1 (show (0:Nat)<1 by decide) rfl (by rw [aX]; omega)) (st (Ca rfl tv (st (tF (e:=eo eI 1) (l0:=a0.map some++List.replicate (f 0-a0.length) none) (c:=Et+(f 0:Int)-0) (t:=1024000) (some (default:Int)) rfl rfl rfl (by decide) (Int.natCast_nonneg _) ?_ rfl (by omega) ?_ ?_)))))
  ·have e1:(a0.map some++List.replicate (f 0-a0.length) none).length+m=a0.length+n:=by simp; omega
   have:=Int.ofNat_le.2 hbyte
   rw [Int.natCast_mul] at this
   rw [←Int.natCast_add,e1]
   exact this
  ·have e1:(a0.map some++List.replicate (f 0-a0.length) none).length=f 0:=by simp; omega
   rw [e1]; omega
  refine st (Ca rfl tv (Yv rfl ?_))
  have hk:((a0.map some++List.replicate (f 0-a0.length) none)++List.replicate ((m:Int)).toNat (some (default:Int))).take a0.length=a0.map some:=by
   rw [List.append_assoc,List.take_append_of_le_length (by simp),List.take_of_length_le (by simp)]
  have hlen:a0.length≤((a0.map some++List.replicate (f 0-a0.length) none)++List.replicate ((m:Int)).toNat (some (default:Int))).length:=by simp only [List.length_append,List.length_map]; omega
  generalize (a0.map some++List.replicate (f 0-a0.length) none)++List.replicate ((m:Int)).toNat (some (default:Int))=R at hk hlen
  refine st (c_ (Ey (e:=eo eI 1) (y:=a0.map some) rfl rfl tv ⟨tv,tv⟩ rfl rfl (by rw [show (none:Option Int).getD 0=((0:Nat):Int) from rfl]; exact (slcN R 0 a0.length (by omega) hlen).trans (congrArg some hk))) (st (Ca rfl tv (Gr ?_))))
  rw [←Xr]
  refine Az 0 [(0,oI 1408 a0)] [] (Ay 5 ?_)
  exact Lf (Eg rfl rfl rfl rfl rfl tv)
 ·refine Js ?_
  refine Az 0 [(0,oI 1024000 a0)] [] (Ay 5 ?_)
  exact Lf (Eg rfl rfl rfl rfl rfl tv)


/- slices.Concat[[]int,int] -/
def MN:List Bv:=[⟨some 2,.nilS 1,none⟩]
def MO:=[i_ 3 0]
def MP:=[m_ 9 0,n_ 10 9,i_ 11 0]
def MQ:=[b_ .lss 12 11 10]
def MR:=[x_ 13 9 11 1,l_ 14 13 1,m_ 5 14]
def MS:=[m_ 15 3,m_ 16 5,n_ 17 16,b_ .add 18 15 17,m_ 3 18]
def MT:=[m_ 19 3,B_ .lss 20 19 0]
def MU:List Bv:=[⟨some 21,.bad,none⟩,⟨none,.bad,none⟩]
def MV:=[B_ .add 22 11 1,m_ 11 22]
def ML:IR:=(sr MQ (.seq (.ite (.t 12) .skip (.exit 0)) (.seq (.block 1 (sr MR (sr MS (sr MT (iz 20 (.reg MU)))))) (.reg MV))))
def MW:=[m_ 23 3,q_ 24 144 [.c (.own 1048575 0 1 []),.t 23],m_ 6 24]
def uU:=[m_ 25 0,n_ 26 25,i_ 27 0]
def uV:=[b_ .lss 28 27 26]
def uW:=[x_ 29 25 27 1,l_ 30 29 1,m_ 8 30]
def uX:List Bv:=[m_ 31 6,m_ 32 8,⟨some 33,.app 1 8 (.t 31) (.t 32),none⟩,m_ 6 33]
def uY:=[B_ .add 34 27 1,m_ 27 34]
def MM:IR:=(sr uV (.seq (.ite (.t 28) .skip (.exit 2)) (.seq (.block 3 (sr uW (.reg uX))) (.reg uY))))
def uZ:=[m_ 35 6,m_ 2 35]
def c126:Dj:=⟨1,36,[.t 2],sr MN (sr MO (.seq (sr MP (Ik 0 ML)) (sr MW (.seq (sr uU (Ik 2 MM)) (rr uZ)))))⟩
def K126 (D:Bi):Prop:=∀a0 r,g126 a0=some r→D 126 ⟨[.lst 1 (a0.map (eL 1 eI))],[]⟩ ⟨oI 0 r,[],[]⟩
theorem F126 (H144:K144 C):K126 (FO C c126):=by
 intro a0 r h0
 refine f0 (Az 7 [(0,.lst 1 (a0.map (eL 1 eI))),(3,iV 0)] [] (Ay 3 (Ao (Me rfl (o_ (Az 2 [(0,.lst 1 (a0.map (eL 1 eI))),(3,iV 0),(9,.lst 1 (a0.map (eL 1 eI))),(10,iV (a0.length:Int)),(11,iV 0)] [] (By (bb h0 fun r25 e26 h0=>Cs (R:=(fun S=>∃p15:Int,p15=r25∧S=⟨[(0,.lst 1 (a0.map (eL 1 eI))),(3,iV p15)],[],[]⟩)) (Lm a0) (fun s S=>match s with | (p6,p7)=>S=⟨[(0,.lst 1 (a0.map (eL 1 eI))),(3,iV p6),(9,.lst 1 (a0.map (eL 1 eI))),(10,iV (a0.length:Int)),(11,iV p7)],[],[]⟩) e26 _ (Dv (by kernel_rfl)) rfl 0 (fun _=>rfl) ?_ ?_))))))))
 ·rintro S _ hfg ⟨p15,rfl,rfl⟩
  refine Dd _ hfg (Bm (Ao (st (Ca rfl tv (bb h0 fun r27 e28 h0=>iL [] [] [1048575] (H144 ([]:List Int) p15 r27 e28) (Bf (af rfl) rfl) (o_ (Az 2 [(0,.lst 1 (a0.map (eL 1 eI))),(6,oI 1536 r27)] [] (Ay 3 (Ao (Me rfl (o_ (Az 2 [(6,oI 1536 r27),(25,.lst 1 (a0.map (eL 1 eI))),(26,iV (a0.length:Int)),(27,iV 0)] [] (By (bb h0 fun r46 e47 h0=>Cs (R:=(fun S=>∃p41:List Int,p41=r46∧S=⟨[(6,oI 1536 p41)],[],[]⟩)) (Ln a0) (fun s S=>match s with | (p33,p34)=>S=⟨[(6,oI 1536 p33),(25,.lst 1 (a0.map (eL 1 eI))),(26,iV (a0.length:Int)),(27,iV p34)],[],[]⟩) e47 _ (Dv (by kernel_rfl)) rfl 2 (fun _=>rfl) ?_ ?_))))))))))))))
  ·rintro S _ hfg ⟨p41,rfl,rfl⟩
   refine Dd _ hfg ?_
   obtain rfl:=sj h0
   exact Cy 5
  ·rintro ⟨p33,p34⟩ o1 _ K1 rfl h1 hx1 hK1 hE1 hR1
   refine Az 3 [(6,oI 1536 p33),(25,.lst 1 (a0.map (eL 1 eI))),(26,iV (a0.length:Int)),(27,iV p34),(28,.bool (decide (p34<(a0.length:Int))))] [] (Bm (Co h1 (fun c42 h1=>?_) (fun c42 h1=>?_)))
   ·refine Lg 5 (Ao (bb h1 fun y43 e44 h1=>Tc rfl rfl e44 (o_ (Az 3 [(6,oI 1536 p33),(8,lI y43),(25,.lst 1 (a0.map (eL 1 eI))),(26,iV (a0.length:Int)),(27,iV p34)] [] (Ay 2 (Ao (gg h1 fun c45 h1=>st (Je (e:=eI) (l0:=p33) (l1:=y43) rfl rfl tv rfl (by decide) c45 (o_ (Az 3 [(6,oI 1536 (p33++y43)),(25,.lst 1 (a0.map (eL 1 eI))),(26,iV (a0.length:Int)),(27,iV p34)] [] (Ay 3 ?_)))))))))))
    obtain rfl:=sj h1
    exact kn hK1 rfl rfl
   ·obtain rfl:=sj h1
    obtain rfl:=hx1 _ rfl
    refine Iq rfl ?_
    exact jn hE1 ⟨_,rfl,rfl⟩
 ·rintro ⟨p6,p7⟩ o1 _ K1 rfl h1 hx1 hK1 hE1 hR1
  refine Az 3 [(0,.lst 1 (a0.map (eL 1 eI))),(3,iV p6),(9,.lst 1 (a0.map (eL 1 eI))),(10,iV (a0.length:Int)),(11,iV p7),(12,.bool (decide (p7<(a0.length:Int))))] [] (Bm (Co h1 (fun c16 h1=>?_) (fun c16 h1=>?_)))
  ·refine Lg 3 (Il (fun S=>∃p20:Int,S=⟨[(0,.lst 1 (a0.map (eL 1 eI))),(3,iV p20),(9,.lst 1 (a0.map (eL 1 eI))),(10,iV (a0.length:Int)),(11,iV p7)],[],[]⟩∧Xy p7 p20=some o1) ?_ (fun J21=>?_))
   ·rintro _ ⟨p20,rfl,h1⟩
    refine Ay 4 ?_
    obtain rfl:=sj h1
    exact kn hK1 rfl rfl
   ·refine Bm ?_
    refine Ao (bb h1 fun y22 e23 h1=>Tc rfl rfl e23 (o_ (Az 3 [(0,.lst 1 (a0.map (eL 1 eI))),(3,iV p6),(5,lI y22),(9,.lst 1 (a0.map (eL 1 eI))),(10,iV (a0.length:Int)),(11,iV p7)] [] (Ay 3 (Ao (Me rfl (o_ (Az 8 [(0,.lst 1 (a0.map (eL 1 eI))),(3,iV (wi (p6+(y22.length:Int)))),(9,.lst 1 (a0.map (eL 1 eI))),(10,iV (a0.length:Int)),(11,iV p7),(20,.bool (decide ((wi (p6+(y22.length:Int)))<0)))] [] (Co h1 (fun c24 h1=>?_) (fun c24 h1=>?_))))))))))
    ·refine Ao ?_
     cases h1
    ·refine Js (Rp ?_)
     exact jn J21 ⟨_,rfl,h1⟩
  ·obtain rfl:=sj h1
   obtain rfl:=hx1 _ rfl
   refine Iq rfl ?_
   exact jn hE1 ⟨_,rfl,rfl⟩

/- slices.IndexFunc[[]int,int] -/
def MY:=[i_ 4 0]
def MZ:=[m_ 6 0,n_ 7 6,i_ 8 0]
def NA:=[b_ .lss 9 8 7]
def NC:=[m_ 10 8,m_ 5 10]
def ND:List Bv:=[m_ 11 1,m_ 12 0,m_ 13 5,x_ 14 12 13 1,l_ 15 14 1,⟨some 16,.callv (.t 11) [.t 15],none⟩]
def NE:=[m_ 17 5,m_ 4 17]
def NF:=[B_ .add 18 8 1,m_ 8 18]
def MX:IR:=(sr NA (.seq (.ite (.t 9) .skip (.exit 0)) (.seq (.block 1 (sr NC (sr ND (iz 16 (rr NE))))) (.reg NF))))
def NG:=[i_ 4 (-1)]
def c127:Dj:=⟨2,19,[.t 4],sr MY (.seq (sr MZ (Ik 0 MX)) (rr NG))⟩
def FU (C:Bi) (D:Bi:=C):Prop:=∀(a0:List Int) (f1:Nat) (k1:List V) (is1:Int→Option Bool) (hs1:Ho k1) (hf1:∀(x0:Int) r,is1 x0=some r→C f1 ⟨iV x0::k1,[]⟩ ⟨.bool r,[],[]⟩) (r:Int),g127 a0 is1=some r→D 127 ⟨[lI a0,.clo f1 k1],[]⟩ ⟨iV r,[],[]⟩
theorem F127:FU C (FO C c127):=by
 intro a0 f1 k1 is1 hs1 hf1 r h0
 refine f0 (Az 3 [(0,lI a0),(1,.clo f1 k1)] [] (Ay 3 (Ao (Me rfl (o_ (Az 2 [(0,lI a0),(1,.clo f1 k1),(7,iV (a0.length:Int)),(8,iV 0)] [] (By (bb h0 fun r21 e22 h0=>Cs (R:=(fun S=>.inl ()=r21∧S=⟨[],[],[]⟩)) (oT a0 is1) (fun s S=>match s with | p7=>S=⟨[(0,lI a0),(1,.clo f1 k1),(7,iV (a0.length:Int)),(8,iV p7)],[],[]⟩) e22 _ (Dv (by kernel_rfl)) rfl 0 (fun _=>rfl) ?_ ?_))))))))
 ·rintro S _ hfg ⟨rfl,rfl⟩
  refine Dd _ hfg ?_
  obtain rfl:=sj h0
  exact Cy 4
 ·rintro p7 o1 _ K1 rfl h1 hx1 hK1 hE1 hR1
  refine Az 3 [(0,lI a0),(1,.clo f1 k1),(7,iV (a0.length:Int)),(8,iV p7),(9,.bool (decide (p7<(a0.length:Int))))] [] (Bm (Co h1 (fun c15 h1=>?_) (fun c15 h1=>?_)))
  ·refine Az 8 [(0,lI a0),(1,.clo f1 k1),(5,iV p7),(7,iV (a0.length:Int)),(8,iV p7)] [] (Ay 4 (Ao (bb h1 fun y16 e17 h1=>Tc rfl rfl e17 (st (c_ (Ax ⟨tv,tv⟩ rfl (nl rfl)) (bb h1 fun r18 e19 h1=>st (Gb (r:=.bool r18) rfl false (hf1 _ r18 e19) ⟨tv,tv⟩ (Bf rfl hs1.2.2.1) (Bb rfl (hs1.2.1 _ _ _ _ _)) (fun _=>rfl) (o_ (Az 1 [(0,lI a0),(1,.clo f1 k1),(5,iV p7),(7,iV (a0.length:Int)),(8,iV p7),(16,.bool r18)] [] (Co h1 (fun sV h1=>?_) (fun sV h1=>?_)))))))))))
   ·obtain rfl:=sj h1
    obtain rfl:=hx1 _ rfl
    obtain rfl:=sj h0
    exact cJ 5 hR1
   ·refine Ay 6 ?_
    obtain rfl:=sj h1
    exact kn hK1 rfl rfl
  ·obtain rfl:=sj h1
   obtain rfl:=hx1 _ rfl
   refine Iq rfl ?_
   exact jn hE1 ⟨rfl,rfl⟩

/- (loop.example/g00149/impl.Vault).stray$1 -/
def NH:=[k_ 3 (.bool false)]
def NI:=[l_ 4 1 1,m_ 5 0,iQ 6 (.mget (.t 4) (.t 5)),N_ 7 6,m_ 3 7]
def c128:Dj:=⟨2,8,[.t 3],sr NH (rr NI)⟩
def K128 (D:Bi):Prop:=∀a0 a1 r,BO a0 a1=some r→D 128 ⟨[iV a0,.iptr [.lst 0 (gH a1)]],[]⟩ ⟨.bool r,[],[]⟩
theorem F128:K128 (FO C c128):=by
 intro a0 a1 r h0
 refine f0 (Az 3 [(0,iV a0),(1,.iptr [.lst 0 (gH a1)])] [] (Ay 3 (Ao (st (c_ (cmgetL rfl rfl) (o_ ?_))))))
 obtain rfl:=sj h0
 exact Cy 4

/- (loop.example/g00149/impl.Vault).stray -/
def c96_r0:=[X_ 1 0,i_ 2 0,k_ 3 (.bool false)]
def c96_r1:List Bv:=[⟨some 8,.mkM,none⟩,a_ 4 [.undef],s_ 4 8 1]
def c96_r2:=tk [f_ 9 1 0,L_ 10 9 3,f_ 12 1 3,l_ 13 12 1,i_ 18 0] (.alt [i_ 18 0,l_ 13 12 1,f_ 12 1 3] (q_ 11 60 [.t 10]) (.alt [i_ 18 0] (q_ 14 95 [.t 13]) (.alt [i_ 18 0] ⟨some 15,.mkS 1 [.lst 1 []] 2 [(0,.t 11),(1,.t 14)],none⟩ (.alt [i_ 18 0] (q_ 16 126 [.t 15]) (tk [n_ 17 16] .fin) .stop) .stop) .stop) .stop)
def c96_r3:=[b_ .lss 19 18 17]
def c96_r4:=[x_ 20 16 18 1,l_ 21 20 1,m_ 6 21]
def c96_r5:List Bv:=[l_ 22 4 1,m_ 23 6,⟨none,.mset (.t 22) (.t 23) (.c (.bool true)),none⟩]
def c96_r6:=[B_ .add 24 18 1,m_ 18 24]
def c96_l0:IR:=(sr c96_r3 (.seq (.ite (.t 19) .skip (.exit 0)) (.seq (.block 1 (sr c96_r4 (.reg c96_r5))) (.reg c96_r6))))
def c96_r7:=[f_ 25 1 4,l_ 26 25 1,iQ 27 (.fn 128 [.t 4]),q_ 28 127 [.t 26,.t 27],m_ 7 28]
def c96_r8:=[m_ 29 7,B_ .lss 30 29 0]
def c96_r9:=[i_ 2 0,k_ 3 (.bool false)]
def Ack:=[f_ 31 1 4,l_ 32 31 1,m_ 33 7,x_ 34 32 33 1,l_ 35 34 1,m_ 2 35,k_ 3 (.bool true)]
def c96:Dj:=⟨1,36,[.t 2,.t 3],sr c96_r0 (sr c96_r1 (.seq (sd c96_r2 (Ik 0 c96_l0)) (sr c96_r7 (.seq (sr c96_r8 (iz 30 (rr c96_r9))) (rr Ack)))))⟩
def K96 (D:Bi):Prop:=∀a0 r,g96 a0=some r→D 96 ⟨[.agg (Bc a0)],[]⟩ ⟨.tup [iV r.1,.bool r.2],[],[]⟩
abbrev eE:=fun (r:List (Nat×V))=>(1,.ptr 64 0)::(4,.ptr 256 0)::r
theorem F96 (H60:K60 C) (H95:K95 C) (H126:K126 C) (H127:FU C) (H128:K128 C):K96 (FO C c96):=by
 intro a0 r h0
 refine f0 (Az 5 [(1,.ptr 64 0)] [(64,Bc a0)] (Bm (Ao (st (mkM_ (o_ (Az 3 (eE []) [(64,Bc a0),(256,[.own 512 0 0 (gH ([]:List (Int×Bool)))])] (Bm (Bm (bb h0 fun r1 e2 h0=>bb h0 fun r3 e4 h0=>bb h0 fun r5 e6 h0=>Ay 5 (Bg (Rq (H60 a0.Ad r1 e2) (af rfl) (dw [(1,.ptr 64 0),(4,.ptr 256 0),(11,oI 704 r1),(12,.ptr 64 3),(13,Cj a0.Ab),(18,iV 0)] [(64,Bc a0),(256,[.own 512 0 0 (gH ([]:List (Int×Bool)))])] hB (Rq (H95 a0.Ab r3 e4) (af rfl) (dw [(1,.ptr 64 0),(4,.ptr 256 0),(11,oI 704 r1),(14,oI 896 r3),(18,iV 0)] [(64,Bc a0),(256,[.own 512 0 0 (gH ([]:List (Int×Bool)))])] hB (Bq (bF ⟨tv,tv,tv⟩ ⟨⟨nl rfl,rfl,rfl⟩,⟨nl rfl,rfl,rfl⟩,tv⟩ (d0 hB (Rq (H126 ([r1,r3]:List (List Int)) r5 e6) (af rfl) (dw [(1,.ptr 64 0),(4,.ptr 256 0),(16,oI 1024 r5),(18,iV 0)] [(64,Bc a0),(256,[.own 512 0 0 (gH ([]:List (Int×Bool)))])] hB (Ag tv (c_ (oN (e:=eI) (l0:=r5) rfl rfl tv) (⟨tv,d_ (Az 1 (eE [(16,oI 1024 r5),(17,iV (r5.length:Int)),(18,iV 0)]) [(64,Bc a0),(256,[.own 512 0 0 (gH ([]:List (Int×Bool)))])] (By (bb h0 fun r27 e28 h0=>Cs (R:=(fun S=>∃p21:List (Int×Bool),p21=r27∧S=⟨eE [],[(64,Bc a0),(256,[.own 512 0 0 (gH p21)])],[]⟩)) (Vu r5) (fun s S=>match s with | (p12,p13)=>S=⟨eE [(16,oI 1024 r5),(17,iV (r5.length:Int)),(18,iV p12)],[(64,Bc a0),(256,[.own 512 0 0 (gH p13)])],[]⟩) e28 _ (Dv (by kernel_rfl)) rfl 0 (fun _=>rfl) ?_ ?_)))⟩)))) Aw))) Aw)) Aw)) Aw))))))))))))
 ·rintro S _ hfg ⟨p21,rfl,rfl⟩
  refine Dd _ hfg (Ay 4 (Ao (bb h0 fun r29 e30 h0=>st (De (r:=iV r29) false (H127 a0.Ah 128 [.iptr [.lst 0 (gH p21)]] (fun z128_0=>BO z128_0 p21) (⟨fun _ _ _ _ _=>rfl,fun _ _ _ _ _=>rfl,rfl,fun _ _ _ n=>by cases n<;>rfl,fun _=>rfl⟩) (fun z128_0 r h=>H128 z128_0 p21 r h) r29 e30) ⟨tv,tv,tv⟩ rfl rfl (fun _=>rfl) (o_ (Az 8 [(1,.ptr 64 0),(7,iV r29),(30,.bool (decide (r29<0)))] [(64,Bc a0)] (Co h0 (fun c31 h0=>?_) (fun c31 h0=>?_))))))))
  ·obtain rfl:=sj h0
   exact Cy 5
  ·refine Ay 6 (Ao (bb h0 fun y32 e33 h0=>Tc rfl rfl e33 (o_ ?_)))
   obtain rfl:=sj h0
   exact Cy 5
 ·rintro ⟨p12,p13⟩ o1 _ K1 rfl h1 hx1 hK1 hE1 hR1
  refine Az 3 (eE [(16,oI 1024 r5),(17,iV (r5.length:Int)),(18,iV p12),(19,.bool (decide (p12<(r5.length:Int))))]) [(64,Bc a0),(256,[.own 512 0 0 (gH p13)])] (Bm (Co h1 (fun c22 h1=>?_) (fun c22 h1=>?_)))
  ·refine Lg 5 (Ao (bb h1 fun y23 e24 h1=>kV rfl rfl e24 (bb h1 fun y25 e26 h1=>lo_ rfl rfl e26 (o_ (Az 2 (eE [(6,iV y25),(16,oI 1024 r5),(17,iV (r5.length:Int)),(18,iV p12)]) [(64,Bc a0),(256,[.own 512 0 0 (gH p13)])] (Ay 2 (Ao (st (mset_ rfl rfl rfl (Gr (Rp (Dd ⟨[(1,.ptr 64 0),(4,.ptr 256 0),(16,oI 1024 r5),(17,iV (r5.length:Int)),(18,iV p12)],[(64,Bc a0),(256,[.own 512 0 0 (gH (Rv p13 y25 true))])],[]⟩ (fg ⟨rfl,rfl,rfl,rfl,rfl,tv⟩ ⟨rfl,congrArg (fun z=>some (([.own 512 0 0 z]:List V))) DC,tv⟩) (Ay 3 ?_)))))))))))))
   obtain rfl:=sj h1
   exact kn hK1 rfl rfl
  ·obtain rfl:=sj h1
   obtain rfl:=hx1 _ rfl
   refine Iq rfl ?_
   exact jn hE1 ⟨_,rfl,rfl⟩

/- slices.ContainsFunc[[]int,int] -/
def NJ:=[k_ 4 (.bool false)]
def NK:=[m_ 5 0,m_ 6 1,q_ 7 127 [.t 5,.t 6],B_ .geq 8 7 0,m_ 4 8]
def c129:Dj:=⟨2,9,[.t 4],sr NJ (rr NK)⟩
def K129 (C:Bi) (D:Bi:=C):Prop:=∀(a0:List Int) (f1:Nat) (k1:List V) (is1:Int→Option Bool) (hs1:Ho k1) (hf1:∀(x0:Int) r,is1 x0=some r→C f1 ⟨iV x0::k1,[]⟩ ⟨.bool r,[],[]⟩) (r:Bool),g129 a0 is1=some r→D 129 ⟨[lI a0,.clo f1 k1],[]⟩ ⟨.bool r,[],[]⟩
theorem F129 (H127:FU C):K129 C (FO C c129):=by
 intro a0 f1 k1 is1 hs1 hf1 r h0
 refine f0 (Az 3 [(0,lI a0),(1,.clo f1 k1)] [] (Ay 3 (Ao (bb h0 fun r1 e2 h0=>st (De (r:=iV r1) false (H127 a0 f1 k1 is1 hs1 hf1 r1 e2) ⟨tv,tv,tv⟩ rfl (Bb rfl (Bb (En hs1) rfl)) (fun _=>rfl) (o_ ?_))))))
 obtain rfl:=sj h0
 exact Cy 4

/- loop.example/g00149/impl.areAll[int]$1 -/
def NL:=[k_ 3 (.bool false)]
def NM:List Bv:=[l_ 4 1 1,m_ 5 0,⟨some 6,.callv (.t 4) [.t 5],none⟩,N_ 7 6,m_ 3 7]
def c130:Dj:=⟨2,8,[.t 3],sr NL (rr NM)⟩
def K130 (C:Bi) (D:Bi:=C):Prop:=∀(a0:Int) (f1:Nat) (k1:List V) (is1:Int→Option Bool) (hs1:Ho k1) (hf1:∀(x0:Int) r,is1 x0=some r→C f1 ⟨iV x0::k1,[]⟩ ⟨.bool r,[],[]⟩) (r:Bool),g130 a0 is1=some r→D 130 ⟨[iV a0,.iptr [.clo f1 k1]],[]⟩ ⟨.bool r,[],[]⟩
theorem F130:K130 C (FO C c130):=by
 intro a0 f1 k1 is1 hs1 hf1 r h0
 refine f0 (Az 3 [(0,iV a0),(1,.iptr [.clo f1 k1])] [] (Ay 3 (Ao (bb h0 fun r1 e2 h0=>st (Gb (r:=.bool r1) rfl false (hf1 _ r1 e2) ⟨tv,tv⟩ (Bf rfl hs1.2.2.1) (Bb rfl (hs1.2.1 _ _ _ _ _)) (fun _=>rfl) (o_ ?_))))))
 obtain rfl:=sj h0
 exact Cy 4

/- loop.example/g00149/impl.areAll[int] -/
def c97_r0:=[X_ 3 1,k_ 4 (.bool false)]
def c97_r1:=[m_ 5 0,iQ 6 (.fn 130 [.t 3]),q_ 7 129 [.t 5,.t 6],N_ 8 7,m_ 4 8]
def c97:Dj:=⟨2,9,[.t 4],sr c97_r0 (rr c97_r1)⟩
def K97 (C:Bi) (D:Bi:=C):Prop:=∀(a0:List Int) (f1:Nat) (k1:List V) (is1:Int→Option Bool) (hs1:Ho k1) (hf1:∀(x0:Int) r,is1 x0=some r→C f1 ⟨iV x0::k1,[]⟩ ⟨.bool r,[],[]⟩) (r:Bool),g97 a0 is1=some r→D 97 ⟨[lI a0,.clo f1 k1],[]⟩ ⟨.bool r,[],[]⟩
theorem F97 (H129:K129 C) (H130:K130 C):K97 C (FO C c97):=by
 intro a0 f1 k1 is1 hs1 hf1 r h0
 refine f0 (Bm (Ao (st (GG (dK hs1) tv rfl (o_ (Az 2 [(0,lI a0),(3,.ptr 192 0)] [(192,[.clo f1 k1])] (Ay 3 (Ao (bb h0 fun r1 e2 h0=>st (De (r:=.bool r1) false (H129 a0 130 [.iptr [.clo f1 k1]] (fun z130_0=>g130 z130_0 is1) (⟨fun _ _ _ _ _=>rfl,fun _ _ _ _ _=>rfl,rfl,fun _ _ _ n=>by cases n<;>rfl,fun _=>rfl⟩) (fun z130_0 r h=>H130 z130_0 f1 k1 is1 hs1 hf1 r h) r1 e2) ⟨tv,tv,tv⟩ rfl (Bb rfl (Bb (congrArg (fun z=>V.clo 130 [.iptr [.clo f1 z]]) (hs1.2.2.2.1 _ _ _ _)) rfl)) (fun _=>rfl) (o_ ?_)))))))))))
 obtain rfl:=sj h0
 exact Cy 4

/- slices.BinarySearchFunc[[]loop.example/g00149/impl.Lease,loop.example/g00149/impl.Lease,int] -/
def JK:=[i_ 6 0,k_ 7 (.bool false)]
def JL:=[m_ 12 0,n_ 13 12,m_ 8 13]
def JM:=[m_ 14 8,i_ 9 0,m_ 10 14]
def JN:=[m_ 15 9,m_ 16 10,b_ .lss 17 15 16]
def JO:List Bv:=[m_ 18 9,m_ 19 10,b_ .add 20 18 19,iQ 21 (.conv .u64 (.t 20)),⟨some 22,.p (.bin .shr (.t 21) (.c (.int .u64 1))),none⟩,iQ 23 (.conv .i64 (.t 22)),m_ 11 23]
def JP:List Bv:=[m_ 24 2,m_ 25 0,m_ 26 11,x_ 27 25 26 4,L_ 28 27 4,m_ 29 1,⟨some 30,.callv (.t 24) [.t 28,.t 29],none⟩,B_ .lss 31 30 0]
def JQ:=[m_ 32 11,B_ .add 33 32 1,m_ 9 33]
def JR:=[m_ 34 11,m_ 10 34]
def JJ:IR:=(.seq (sr JN (.ite (.t 17) .skip (.exit 0))) (.block 1 (sr JO (sr JP (.ite (.t 31) (.reg JQ) (.reg JR))))))
def JS:List Bv:=[m_ 35 9,m_ 36 9,m_ 37 8,b_ .lss 38 36 37,m_ 39 38,mT 39 40 2,mT 39 41 0,mT 39 42 9,xT 39 43 41 42 4,lT 39 44 43 4 true,mT 39 45 1,⟨some 46,.callv (.t 40) [.t 44,.t 45],some (39,true)⟩,pT 39 47 (.bin .eql (.t 46) (.c (iV 0))),pa 48 39 47,m_ 6 35,m_ 7 48]
def c113:Dj:=⟨3,49,[.t 6,.t 7],sr JK (sr JL (sr JM (.seq (Ik 0 JJ) (rr JS))))⟩
def K113 (C:Bi) (D:Bi:=C):Prop:=∀(a0:List Aa) (a1:Int) (f2:Nat) (k2:List V) (is2:Aa→Int→Option Int) (hs2:Ho k2) (hf2:∀(x0:Aa) (x1:Int) r,is2 x0 x1=some r→C f2 ⟨.agg (Ac x0)::iV x1::k2,[]⟩ ⟨iV r,[],[]⟩) (r:Int×Bool),g113 a0 a1 is2=some r→D 113 ⟨[Cg a0,iV a1,.clo f2 k2],[]⟩ ⟨.tup [iV r.1,.bool r.2],[],[]⟩
abbrev Sv:=fun x0 x1 x2 x3 (r:List (Nat×V))=>(0,Cg x0)::(1,iV x1)::(2,.clo x2 x3)::r
theorem F113:K113 C (FO C c113):=by
 intro a0 a1 f2 k2 is2 hs2 hf2 r h0
 refine f0 (Az 4 (Sv a0 a1 f2 k2 []) [] (Bm (Ao (st (Ca rfl tv (Me rfl (o_ (Az 8 (Sv a0 a1 f2 k2 [(8,iV (a0.length:Int)),(9,iV 0),(10,iV (a0.length:Int))]) [] (Bm (By (bb h0 fun r30 e31 h0=>Cs (R:=(fun S=>∃p21:Int,p21=r30∧S=⟨Sv a0 a1 f2 k2 [(8,iV (a0.length:Int)),(9,iV p21)],[],[]⟩)) (Xv a0 a1 is2) (fun s S=>match s with | (p9,p10)=>S=⟨Sv a0 a1 f2 k2 [(8,iV (a0.length:Int)),(9,iV p9),(10,iV p10)],[],[]⟩) e31 _ (Dv (by kernel_rfl)) rfl 0 (fun _=>rfl) ?_ ?_)))))))))))
 ·rintro S _ hfg ⟨p21,rfl,rfl⟩
  refine Dd ⟨Sv a0 a1 f2 k2 [(8,iV (a0.length:Int)),(9,iV p21)],[],[]⟩ (sW hfg ⟨rfl,rfl,rfl,rfl,rfl,tv⟩ tv) (cH 9 (Ao (bb h0 fun y32 e33 h0=>st (Bn (u:=.iptr (Ac y32)) rfl (fun hg=>(Ob (e:=Ac) (y:=y32) rfl rfl (fun _=>hg) rfl rfl (fun _=>hg) (ip hg e33))) (o_ (cH 2 (Ao (bb h0 fun r34 e35 h0=>st (Io (r:=iV r34) rfl rfl rfl (fun hg=>hg) false (fun hg=>hf2 _ _ r34 (ip hg e35)) ⟨(fun hg=>hg),(fun hg=>hg),tv⟩ (fun _=>(ar (Bf rfl hs2.2.2.1))) (fun _=>(Bb rfl (Bb rfl (hs2.2.1 _ _ _ _ _)))) (fun _=>rfl) (fun h=>nomatch h) (o_ (cH 2 (Ao (o_ ?_)))))))))))))
  obtain rfl:=sj h0
  exact Cy 4
 ·rintro ⟨p9,p10⟩ o1 _ K1 rfl h1 hx1 hK1 hE1 hR1
  refine Az 6 (Sv a0 a1 f2 k2 [(8,iV (a0.length:Int)),(9,iV p9),(10,iV p10),(17,.bool (decide (p9<p10)))]) [] (Co h1 (fun c22 h1=>?_) (fun c22 h1=>?_))
  ·refine Ay 8 (Ao (st (c_ (Ax ⟨tv,tv,tv⟩ rfl (by decide)) (o_ (Ay 3 (bv h1 fun v23 e24 h1=>Dd ⟨[(0,Cg a0),(1,iV a1),(2,.clo f2 k2),(8,iV (a0.length:Int)),(9,iV p9),(10,iV p10),(11,iV v23)],[],[]⟩ (fg ⟨(by subst e24; rfl),(by subst e24; rfl),(by subst e24; rfl),(by subst e24; rfl),(by subst e24; rfl),(by subst e24; rfl),(by subst e24; rfl),tv⟩ tv) (Ay 4 (Ao (bb h1 fun y25 e26 h1=>Tc rfl rfl e26 (o_ (Ay 2 (Ao (bb h1 fun r27 e28 h1=>st (Gb (r:=iV r27) rfl false (hf2 _ _ r27 e28) ⟨tv,tv,tv⟩ (ar (Bf rfl hs2.2.2.1)) (Bb rfl (Bb rfl (hs2.2.1 _ _ _ _ _))) (fun _=>rfl) (o_ (Az 2 (Sv a0 a1 f2 k2 [(8,iV (a0.length:Int)),(9,iV p9),(10,iV p10),(11,iV v23),(31,.bool (decide (r27<0)))]) [] (Co h1 (fun c29 h1=>?_) (fun c29 h1=>?_))))))))))))))))))
   ·refine Ay 5 ?_
    obtain rfl:=sj h1
    exact kn hK1 rfl rfl
   ·refine Ay 4 ?_
    obtain rfl:=sj h1
    exact kn hK1 rfl rfl
  ·obtain rfl:=sj h1
   obtain rfl:=hx1 _ rfl
   refine Iq rfl ?_
   exact jn hE1 ⟨_,rfl,rfl⟩

/- cmp.isNaN[int] -/
def PF:=[k_ 2 (.bool false)]
def PG:=[m_ 3 0,m_ 4 0,b_ .neq 5 3 4,m_ 2 5]
def c136:Dj:=⟨1,6,[.t 2],sr PF (rr PG)⟩
def FV (D:Bi):Prop:=∀a0 r,jD a0=some r→D 136 ⟨[iV a0],[]⟩ ⟨.bool r,[],[]⟩
theorem F136:FV (FO C c136):=by
 intro a0 r h0
 refine f0 (?_)
 obtain rfl:=sj h0
 exact Cy 11

/- cmp.Compare[int] -/
def IT:=[i_ 4 0]
def IU:=[m_ 7 0,q_ 8 136 [.t 7],m_ 5 8]
def IV:=[m_ 9 1,q_ 10 136 [.t 9],m_ 6 10]
def IW:=[m_ 11 5]
def IX:=[m_ 12 6]
def IY:=[i_ 4 0]
def IZ:=[i_ 4 (-1)]
def JA:=[m_ 13 6]
def JB:=[i_ 4 1]
def JC:=[m_ 14 0,m_ 15 1,b_ .lss 16 14 15]
def uF:=[i_ 4 (-1)]
def uG:=[m_ 17 0,m_ 18 1,b_ .gtr 19 17 18]
def uH:=[i_ 4 1]
def uI:=[i_ 4 0]
def IS:Dj:=⟨2,20,[.t 4],sr IT (sr IU (sr IV (.seq (sr IW (iz 11 (.seq (sr IX (iz 12 (rr IY))) (rr IZ)))) (.seq (sr JA (iz 13 (rr JB))) (.seq (sr JC (iz 16 (rr uF))) (.seq (sr uG (iz 19 (rr uH))) (rr uI)))))))⟩
def FS (D:Bi):Prop:=∀a0 a1 r,rD a0 a1=some r→D 110 ⟨[iV a0,iV a1],[]⟩ ⟨iV r,[],[]⟩
theorem F110 (H136:FV C):FS (FO C IS):=by
 intro a0 a1 r h0
 refine f0 (Az 3 [(0,iV a0),(1,iV a1)] [] (Bm (Ao (st (Ca rfl tv (bb h0 fun r1 e2 h0=>Om (H136 a0 r1 e2) (o_ (Az 2 [(0,iV a0),(1,iV a1),(5,.bool r1)] [] (Bm (Ao (st (Ca rfl tv (bb h0 fun r3 e4 h0=>Om (H136 a1 r3 e4) (o_ (Az 7 [(0,iV a0),(1,iV a1),(6,.bool r3),(11,.bool r1)] [] (Co h0 (fun c5 h0=>?_) (fun c5 h0=>?_)))))))))))))))))
 ·refine Az 4 [(12,.bool r3)] [] (Co h0 (fun c6 h0=>?_) (fun c6 h0=>?_))
  ·obtain rfl:=sj h0
   exact Cy 4
  ·obtain rfl:=sj h0
   exact Cy 6
 ·refine Az 6 [(0,iV a0),(1,iV a1),(13,.bool r3)] [] (Co h0 (fun c7 h0=>?_) (fun c7 h0=>?_))
  ·obtain rfl:=sj h0
   exact Cy 4
  ·refine Az 8 [(0,iV a0),(1,iV a1),(16,.bool (decide (a0<a1)))] [] (Co h0 (fun c8 h0=>?_) (fun c8 h0=>?_))
   ·obtain rfl:=sj h0
    exact Cy 4
   ·refine Az 8 [(19,.bool (decide (a0>a1)))] [] (Co h0 (fun c9 h0=>?_) (fun c9 h0=>?_))
    ·obtain rfl:=sj h0
     exact Cy 4
    ·obtain rfl:=sj h0
     exact Cy 6

/- (loop.example/g00149/impl.Table).find$1 -/
def JT:=[X_ 2 0,i_ 4 0]
def JU:=[f_ 5 2 0,l_ 6 5 1,m_ 7 1,q_ 8 110 [.t 6,.t 7],m_ 4 8]
def c114:Dj:=⟨2,9,[.t 4],sr JT (rr JU)⟩
def K114 (D:Bi):Prop:=∀a0 a1 r,rE a0 a1=some r→D 114 ⟨[.agg (Ac a0),iV a1],[]⟩ ⟨iV r,[],[]⟩
theorem F114 (H110:FS C):K114 (FO C c114):=by
 intro a0 a1 r h0
 refine f0 (Az 4 [(1,iV a1),(2,.ptr 128 0)] [(128,Ac a0)] (Ay 4 (Ao (bb h0 fun r1 e2 h0=>Om (H110 a0.id a1 r1 e2) (o_ ?_)))))
 obtain rfl:=sj h0
 exact Cy 3

/- (loop.example/g00149/impl.Table).find -/
def c77_r0:=[X_ 2 0,i_ 4 0,k_ 5 (.bool false)]
def c77_r1:=[f_ 6 2 2,l_ 7 6 1,m_ 8 1,q_ 9 113 [.t 7,.t 8,.c (.clo 114 [])],e_ 10 9 0,e_ 11 9 1,m_ 4 10,m_ 5 11]
def c77:Dj:=⟨2,12,[.t 4,.t 5],sr c77_r0 (rr c77_r1)⟩
def K77 (D:Bi):Prop:=∀a0 a1 r,FM a0 a1=some r→D 77 ⟨[.agg (Ba a0),iV a1],[]⟩ ⟨.tup [iV r.1,.bool r.2],[],[]⟩
theorem F77 (H113:K113 C) (H114:K114 C):K77 (FO C c77):=by
 intro a0 a1 r h0
 refine f0 (Az 5 [(1,iV a1),(2,.ptr 128 0)] [(128,Ba a0)] (Ay 4 (Ao (bb h0 fun r1 e2 h0=>st (De (r:=.tup [iV r1.1,.bool r1.2]) false (H113 a0.Ae a1 114 [] (fun z114_0 z114_1=>rE z114_0 z114_1) (⟨fun _ _ _ _ _=>rfl,fun _ _ _ _ _=>rfl,rfl,fun _ _ _ n=>by cases n<;>rfl,fun _=>rfl⟩) (fun z114_0 z114_1 r h=>H114 z114_0 z114_1 r h) r1 e2) ⟨tv,tv,tv,tv⟩ rfl rfl (fun _=>rfl) (o_ ?_))))))
 obtain rfl:=sj h0
 exact Cy 6

/- loop.example/g00149/impl.VaultOK$1 -/
def c98_r0:=[k_ 3 (.bool false)]
def c98_r1:=[f_ 7 1 0,L_ 8 7 3,m_ 9 0,q_ 10 77 [.t 8,.t 9],m_ 6 10,e_ 11 6 0,e_ 12 6 1,m_ 4 11,m_ 5 12]
def c98_r2:=[m_ 13 5,N_ 14 13,m_ 3 14]
def c98:Dj:=⟨2,15,[.t 3],sr c98_r0 (sr c98_r1 (rr c98_r2))⟩
def K98 (D:Bi):Prop:=∀a0 a1 r,g98 a0 a1=some r→D 98 ⟨[iV a0,.iptr (Bc a1)],[]⟩ ⟨.bool r,[],[]⟩
theorem F98 (H77:K77 C):K98 (FO C c98):=by
 intro a0 a1 r h0
 refine f0 (Az 3 [(0,iV a0),(1,.iptr (Bc a1))] [] (Ay 4 (Ao (bb h0 fun r1 e2 h0=>Om (H77 a1.Ad a0 r1 e2) (o_ ?_)))))
 obtain rfl:=sj h0
 exact Cy 13

/- loop.example/g00149/impl.VaultOK -/
def c48_r0:=[X_ 1 0,k_ 2 (.bool false)]
def c48_r1:=tk [f_ 5 1 0,L_ 6 5 3] (.alt [] (q_ 7 20 [.t 6]) (tk [N_ 8 7,m_ 9 8,fF 9 10 1 3,lF 9 11 10 1 false,pF 9 12 (.len (.t 11)),pF 9 13 (.bin .gtr (.t 12) (.c (iV 40))),po 14 9 13,m_ 15 14,fF 15 16 1 3,lF 15 17 16 1 false,fF 15 19 1 0,fF 15 20 19 1,lF 15 21 20 1 false,pF 15 22 (.bin .sub (.t 21) (.c (iV 1)))] (.alt [pF 15 22 (.bin .sub (.t 21) (.c (iV 1))),lF 15 21 20 1 false,fF 15 20 19 1,fF 15 19 1 0] ⟨some 18,.call 95 [.t 17],some (15,false)⟩ (.alt [] ⟨some 23,.call 59 [.t 18,.c (iV 1),.t 22],some (15,false)⟩ (tk [pF 15 24 (.un .not (.t 23)),po 25 15 24,m_ 26 25,fF 26 27 1 4,lF 26 28 27 1 false,pF 26 29 (.len (.t 28)),pF 26 30 (.bin .gtr (.t 29) (.c (iV 80))),po 31 26 30,m_ 32 31,fF 32 33 1 4,lF 32 34 33 1 false,fF 32 35 1 0,fF 32 36 35 1,lF 32 37 36 1 false,pF 32 38 (.bin .sub (.t 37) (.c (iV 1)))] (.alt [] ⟨some 39,.call 59 [.t 34,.c (iV 1),.t 38],some (32,false)⟩ (tk [pF 32 40 (.un .not (.t 39)),po 41 32 40] .fin) .stop)) .stop) .stop)) .stop)
def c48_r2:=[k_ 2 (.bool false)]
def c48_r3:=[L_ 43 1 6,q_ 44 96 [.t 43],m_ 42 44,e_ 45 42 0,e_ 46 42 1,m_ 3 45,m_ 4 46]
def c48_r4:List Bv:=[m_ 47 4,N_ 48 47,m_ 49 48,fT 49 50 1 3,lT 49 51 50 1 false,⟨some 52,.call 95 [.t 51],some (49,true)⟩,pT 49 53 (.fn 98 [.t 1]),⟨some 54,.call 97 [.t 52,.t 53],some (49,true)⟩,pa 55 49 54,m_ 2 55]
def c48:Dj:=⟨1,56,[.t 2],sr c48_r0 (.seq (sd c48_r1 (iz 41 (rr c48_r2))) (sr c48_r3 (rr c48_r4)))⟩
def K48 (D:Bi):Prop:=∀a0 r,g48 a0=some r→D 48 ⟨[.agg (Bc a0)],[]⟩ ⟨.bool r,[],[]⟩
theorem F48 (H20:K20 C) (H59:K59 C) (H95:K95 C) (H96:K96 C) (H97:K97 C) (H98:K98 C):K48 (FO C c48):=by
 intro a0 r h0
 refine f0 (Az 4 [(1,.ptr 64 0)] [(64,Bc a0)] (Bm (Bm (bb h0 fun r1 e2 h0=>bb h0 fun r3 e4 h0=>bb h0 fun r5 e6 h0=>bb h0 fun r7 e8 h0=>Ay 2 (Bg (Rq (H20 a0.Ad r1 e2) rfl (dw [(1,.ptr 64 0),(7,.bool r1)] [(64,Bc a0)] tv (d_ (Ay 2 (Bg (Ag tv (Bn (u:=.ptr 64 3) rfl (fun hg=>(Ax ⟨tv,tv⟩ rfl tv)) (⟨tv,Ag tv (Bn (u:=Cj a0.Ab) rfl (fun hg=>(Ax ⟨(fun _=>hg),tv⟩ rfl (nl rfl))) (⟨tv,Ag tv (Bn (u:=iV (a0.Ab.length:Int)) rfl (fun hg=>(Ml (e:=Bw) (l0:=a0.Ab) rfl rfl (fun _=>hg))) (⟨tv,Ag tv (Bn (u:=.bool (decide ((a0.Ab.length:Int)>40))) rfl (fun hg=>(Ax ⟨(fun _=>hg),tv,tv⟩ rfl tv)) (⟨tv,Ag tv (Cu rfl rfl rfl tv (fun h=>Rl h) rfl (⟨tv,Ag tv (Ca rfl tv (⟨tv,Ag tv (Bn (u:=.ptr 64 3) rfl (fun hg=>(Ax ⟨tv,tv⟩ rfl tv)) (⟨tv,Ag tv (Bn (u:=Cj a0.Ab) rfl (fun hg=>(Ax ⟨(fun _=>hg),tv⟩ rfl (nl rfl))) (⟨tv,Ag tv (Bn (u:=.ptr 64 0) rfl (fun hg=>(Ax ⟨tv,tv⟩ rfl tv)) (⟨tv,Ag tv (Bn (u:=.ptr 64 1) rfl (fun hg=>(Ax ⟨(fun _=>hg),tv⟩ rfl tv)) (⟨tv,?_⟩))⟩))⟩))⟩))⟩))⟩))⟩))⟩))⟩))⟩))))))) Aw))))))
 refine Ag tv (Bn (u:=iV a0.Ad.next) rfl (fun hg=>(Ax ⟨(fun _=>hg),tv⟩ rfl (nl rfl))) (⟨tv,Ag tv (Bn (u:=iV (wi (a0.Ad.next-1))) rfl (fun hg=>(Ax ⟨(fun _=>hg),tv,tv⟩ rfl tv)) (⟨tv,Bq (Dy (r:=oI 0 r3) rfl false (fun hg=>H95 a0.Ab r3 (ip hg e4)) ⟨(fun hg=>hg),tv⟩ (fun _=>rfl) (fun _=>rfl) (fun _=>(af rfl)) (fun h=>nomatch h) (dw [(1,.ptr 64 0),(15,.bool (bif (!r1) then true else (decide ((a0.Ab.length:Int)>40)))),(18,.may ((bif (!r1) then true else (decide ((a0.Ab.length:Int)>40)))==false) (lI r3)),(19,.may ((bif (!r1) then true else (decide ((a0.Ab.length:Int)>40)))==false) (.ptr 64 0)),(20,.may ((bif (!r1) then true else (decide ((a0.Ab.length:Int)>40)))==false) (.ptr 64 1)),(21,.may ((bif (!r1) then true else (decide ((a0.Ab.length:Int)>40)))==false) (iV a0.Ad.next)),(22,.may ((bif (!r1) then true else (decide ((a0.Ab.length:Int)>40)))==false) (iV (wi (a0.Ad.next-1))))] [(64,Bc a0)] ⟨⟨.inl tv,Br (v:=iV (wi (a0.Ad.next-1))) rfl (fun hg=>(Ax ⟨(fun _=>hg),tv,tv⟩ rfl tv)) rfl⟩,⟨.inl tv,Br (v:=iV a0.Ad.next) rfl (fun hg=>(Ax ⟨(fun _=>hg),tv⟩ rfl (nl rfl))) rfl⟩,⟨.inl tv,Br (v:=.ptr 64 1) rfl (fun hg=>(Ax ⟨(fun _=>hg),tv⟩ rfl tv)) rfl⟩,⟨.inl tv,Br (v:=.ptr 64 0) rfl (fun hg=>(Ax ⟨tv,tv⟩ rfl tv)) rfl⟩,tv⟩ (Bq (Dy (r:=.bool r5) rfl false (fun hg=>H59 r3 1 (wi (a0.Ad.next-1)) r5 (ip hg e6)) ⟨(fun hg=>hg),tv,(fun hg=>hg),tv⟩ (fun _=>rfl) (fun _=>rfl) (fun _=>rfl) (fun h=>nomatch h) (dw [(1,.ptr 64 0),(15,.bool (bif (!r1) then true else (decide ((a0.Ab.length:Int)>40)))),(23,.may ((bif (!r1) then true else (decide ((a0.Ab.length:Int)>40)))==false) (.bool r5))] [(64,Bc a0)] tv (Ag tv (Bn (u:=.bool (!r5)) rfl (fun hg=>(Ax ⟨(fun _=>hg),tv⟩ rfl tv)) (⟨tv,Ag tv (Cu rfl rfl rfl tv (fun h=>Rl h) rfl (⟨tv,Ag tv (Ca rfl tv (⟨tv,Ag tv (Bn (u:=.ptr 64 4) rfl (fun hg=>(Ax ⟨tv,tv⟩ rfl tv)) (⟨tv,Ag tv (Bn (u:=lI a0.Ah) rfl (fun hg=>(Ax ⟨(fun _=>hg),tv⟩ rfl (nl rfl))) (⟨tv,Ag tv (Bn (u:=iV (a0.Ah.length:Int)) rfl (fun hg=>(Ml (e:=eI) (l0:=a0.Ah) rfl rfl (fun _=>hg))) (⟨tv,Ag tv (Bn (u:=.bool (decide ((a0.Ah.length:Int)>80))) rfl (fun hg=>(Ax ⟨(fun _=>hg),tv,tv⟩ rfl tv)) (⟨tv,Ag tv (Cu rfl rfl rfl tv (fun h=>Rl h) rfl (⟨tv,Ag tv (Ca rfl tv (⟨tv,Ag tv (Bn (u:=.ptr 64 4) rfl (fun hg=>(Ax ⟨tv,tv⟩ rfl tv)) (⟨tv,Ag tv (Bn (u:=lI a0.Ah) rfl (fun hg=>(Ax ⟨(fun _=>hg),tv⟩ rfl (nl rfl))) (⟨tv,Ag tv (Bn (u:=.ptr 64 0) rfl (fun hg=>(Ax ⟨tv,tv⟩ rfl tv)) ?_)⟩))⟩))⟩))⟩))⟩))⟩))⟩))⟩))⟩))⟩))⟩))))) Aw))) Aw⟩))⟩))
 refine ⟨tv,Ag tv (Bn (u:=.ptr 64 1) rfl (fun hg=>(Ax ⟨(fun _=>hg),tv⟩ rfl tv)) (⟨tv,Ag tv (Bn (u:=iV a0.Ad.next) rfl (fun hg=>(Ax ⟨(fun _=>hg),tv⟩ rfl (nl rfl))) (⟨tv,Ag tv (Bn (u:=iV (wi (a0.Ad.next-1))) rfl (fun hg=>(Ax ⟨(fun _=>hg),tv,tv⟩ rfl tv)) (⟨tv,Bq (Dy (r:=.bool r7) rfl false (fun hg=>H59 a0.Ah 1 (wi (a0.Ad.next-1)) r7 (ip hg e8)) ⟨(fun hg=>hg),tv,(fun hg=>hg),tv⟩ (fun _=>rfl) (fun _=>rfl) (fun _=>rfl) (fun h=>nomatch h) (dw [(1,.ptr 64 0),(32,.bool (bif (bif (bif (!r1) then true else (decide ((a0.Ab.length:Int)>40))) then true else (!r5)) then true else (decide ((a0.Ah.length:Int)>80)))),(39,.may ((bif (bif (bif (!r1) then true else (decide ((a0.Ab.length:Int)>40))) then true else (!r5)) then true else (decide ((a0.Ah.length:Int)>80)))==false) (.bool r7))] [(64,Bc a0)] tv (Ag tv (Bn (u:=.bool (!r7)) rfl (fun hg=>(Ax ⟨(fun _=>hg),tv⟩ rfl tv)) (⟨tv,Ag tv (Cu rfl rfl rfl tv (fun h=>Rl h) rfl (⟨tv,Hb (bv h0 fun v9 e10 h0=>Dd ⟨[(1,.ptr 64 0),(41,.bool v9)],[(64,Bc a0)],[]⟩ (Dv (by subst e10; kernel_rfl)) (Co h0 (fun c11 h0=>?_) (fun c11 h0=>?_)))⟩))⟩))))) Aw⟩))⟩))⟩))⟩
 ·obtain rfl:=sj h0
  exact Cy 4
 ·refine Ay 4 (Ao (bb h0 fun r12 e13 h0=>Om (H96 a0 r12 e13) (o_ (Az 6 [(1,.ptr 64 0),(4,.bool r12.2)] [(64,Bc a0)] (Ay 4 (Ao (st (Bn (u:=.ptr 64 3) rfl (fun hg=>(Ax ⟨tv,tv⟩ rfl tv)) (st (Bn (u:=Cj a0.Ab) rfl (fun hg=>(Ax ⟨(fun _=>hg),tv⟩ rfl (nl rfl))) (bb h0 fun r14 e15 h0=>st (Dy (r:=oI 0 r14) rfl false (fun hg=>H95 a0.Ab r14 (ip hg e15)) ⟨(fun hg=>hg),tv⟩ (fun _=>rfl) (fun _=>rfl) (fun _=>(af rfl)) (fun h=>nomatch h) (st (Bn (u:=.clo 98 [.ptr 64 0]) rfl (fun hg=>(Ax ⟨tv,tv⟩ rfl rfl)) (bb h0 fun r16 e17 h0=>st (Dy (r:=.bool r16) rfl false (fun hg=>H97 r14 98 [.iptr (Bc a0)] (fun z98_0=>g98 z98_0 a0) (⟨fun _ _ _ _ _=>rfl,fun _ _ _ _ _=>rfl,rfl,fun _ _ _ n=>by cases n<;>rfl,fun _=>rfl⟩) (fun z98_0 r h=>H98 z98_0 a0 r h) r16 (ip hg e17)) ⟨(fun hg=>hg),(fun hg=>hg),tv⟩ (fun _=>rfl) (fun _=>rfl) (fun _=>rfl) (fun h=>nomatch h) (st (Cu rfl rfl rfl (fun h=>Qm h) tv rfl (o_ ?_)))))))))))))))))))
  obtain rfl:=sj h0
  exact Cy 3

/- loop.example/g00149/spec.l00Source -/
def c83_r0:=[iQ 2 (.mv (.c .undef))]
def c83_r1:List Bv:=[m_ 3 0,m_ 4 0,n_ 5 4,B_ .rem 6 5 1000,⟨some 7,.p (.build [.own 449 0 1 [],iV 0,iV 0] [(0,1,.t 3),(2,1,.t 6)]),none⟩,X_ 8 7,m_ 2 8]
def c83:Dj:=⟨1,9,[.t 2],sr c83_r0 (rr c83_r1)⟩
def K83 (D:Bi):Prop:=∀a0 r,g83 a0=some r→D 83 ⟨[lU8 a0],[]⟩ ⟨.ptr 0 0,[Bs r],[]⟩
theorem F83:K83 (FO C c83):=by
 intro a0 r h0
 refine f0 (Az 3 [(0,lU8 a0)] [] (Ay 3 (Ao (Me rfl (st (c_ (Ax ⟨tv,tv,tv⟩ rfl (by decide)) (st (c_ (v:=.agg (Fd u_ a0 0 (((a0.length:Int)).tmod 1000))) (Ax ⟨tv,tv,tv⟩ rfl ⟨⟨rfl,rfl,nl rfl⟩,⟨rfl,rfl,nl rfl⟩,tv⟩) (o_ ?_)))))))))
 obtain rfl:=sj h0
 exact Cy 4

/- (*loop.example/g00149/spec.l00Src).byte -/
def PY:=[i_ 2 0]
def PZ:=[m_ 3 0,iQ 4 (.nilc (.t 3)),f_ 5 4 1,l_ 6 5 1,B_ .add 7 6 1,iQ 8 (.nilc (.t 3)),f_ 9 8 1,s_ 9 7 1]
def QA:=tk [m_ 10 0,iQ 11 (.nilc (.t 10)),f_ 12 11 1,l_ 13 12 1,m_ 14 0,iQ 15 (.nilc (.t 14)),f_ 16 15 0,l_ 17 16 1,n_ 18 17,b_ .leq 19 13 18] .fin
def QB:=tk [m_ 20 0,m_ 21 0,iQ 22 (.nilc (.t 21)),f_ 23 22 2,l_ 24 23 1,B_ .mul 25 24 31,m_ 26 0,iQ 27 (.nilc (.t 26)),f_ 28 27 0,l_ 29 28 1,m_ 30 0,iQ 31 (.nilc (.t 30)),f_ 32 31 1,l_ 33 32 1,B_ .sub 34 33 1,x_ 35 29 34 1,l_ 36 35 1,iQ 37 (.conv .i64 (.t 36)),b_ .add 38 25 37,B_ .add 39 38 7,B_ .rem 40 39 2147483648,iQ 41 (.nilc (.t 20)),f_ 42 41 2] (.alt [] (s_ 42 40 1) .fin .stop)
def QC:=tk [m_ 43 0,iQ 44 (.nilc (.t 43)),f_ 45 44 0,l_ 46 45 1,m_ 47 0,iQ 48 (.nilc (.t 47)),f_ 49 48 1,l_ 50 49 1,B_ .sub 51 50 1,x_ 52 46 51 1,l_ 53 52 1,iQ 54 (.conv .i64 (.t 53)),m_ 2 54] .fin
def QD:=[m_ 55 0,iQ 56 (.nilc (.t 55)),f_ 57 56 1,l_ 58 57 1,B_ .gtr 59 58 3000]
def QE:=[i_ 2 0]
def QF:=[m_ 60 0,m_ 61 0,iQ 62 (.nilc (.t 61)),f_ 63 62 2,l_ 64 63 1,B_ .mul 65 64 1103515245,B_ .add 66 65 12345,B_ .rem 67 66 2147483648,iQ 68 (.nilc (.t 60)),f_ 69 68 2,s_ 69 67 1]
def QG:=[m_ 70 0,iQ 71 (.nilc (.t 70)),f_ 72 71 2,l_ 73 72 1,B_ .quo 74 73 65536,B_ .rem 75 74 256,m_ 2 75]
def PX:Dj:=⟨1,76,[.t 2],sr PY (sr PZ (.seq (sd QA (iz 19 (sd QB (sd QC .ret)))) (.seq (sr QD (iz 59 (rr QE))) (sr QF (rr QG)))))⟩
def K139 (D:Bi):Prop:=∀a0 r,lV a0=some r→D 139 ⟨[.ptr 1048576 0],[Bs a0]⟩ ⟨iV r.1,[Bs r.2],[]⟩
theorem F139:K139 (FO C PX):=by
 intro a0 r h0
 refine f0 (Az 14 [(0,.ptr 1048576 0)] [(1048576,Fd u_ a0.code_ (wi (a0.at_+1)) a0.Fm)] (Bm (Bm (Bg (Ag tv (Ca rfl tv (⟨tv,Ag tv (c_ (Ax ⟨tv,tv⟩ rfl tv) (⟨tv,Ag tv (c_ (Ax ⟨tv,tv⟩ rfl tv) (⟨tv,Ag tv (c_ (Ax ⟨tv,tv⟩ rfl (nl rfl)) (⟨tv,Ag tv (Ca rfl tv (⟨tv,?_⟩))⟩))⟩))⟩))⟩)))))))
 refine Ag tv (c_ (Ax ⟨tv,tv⟩ rfl tv) (⟨tv,Ag tv (c_ (Ax ⟨tv,tv⟩ rfl tv) (⟨tv,Ag tv (c_ (Ax ⟨tv,tv⟩ rfl (nl rfl)) (⟨tv,Ag tv (c_ (Ml (e:=eU8) (l0:=a0.code_) rfl rfl tv) (⟨tv,d_ (Az 2 [(0,.ptr 1048576 0),(19,.bool (decide ((wi (a0.at_+1))≤(a0.code_.length:Int))))] [(1048576,Fd u_ a0.code_ (wi (a0.at_+1)) a0.Fm)] (Co h0 (fun c1 h0=>?_) (fun c1 h0=>?_)))⟩))⟩))⟩))⟩))
 ·refine Bm (bb h0 fun y2 e3 h0=>Bg (Ag tv (Ca rfl tv (⟨tv,Ag tv (Ca rfl tv (⟨tv,Ag tv (c_ (Ax ⟨tv,tv⟩ rfl tv) (⟨tv,Ag tv (c_ (Ax ⟨tv,tv⟩ rfl tv) (⟨tv,Ag tv (c_ (Ax ⟨tv,tv⟩ rfl (nl rfl)) (⟨tv,Ag tv (c_ (Ax t3 rfl tv) (⟨tv,Ag tv (Ca rfl tv (⟨tv,Ag tv (c_ (Ax ⟨tv,tv⟩ rfl tv) (⟨tv,Ag tv (c_ (Ax ⟨tv,tv⟩ rfl tv) (⟨tv,Ag tv (c_ (Ax ⟨tv,tv⟩ rfl (nl rfl)) (⟨tv,Ag tv (Ca rfl tv (⟨tv,Ag tv (c_ (Ax ⟨tv,tv⟩ rfl tv) (⟨tv,Ag tv (c_ (Ax ⟨tv,tv⟩ rfl tv) (⟨tv,Ag tv (c_ (Ax ⟨tv,tv⟩ rfl (nl rfl)) (⟨tv,Ag tv (c_ (Ax t3 rfl tv) (⟨tv,?_⟩))⟩))⟩))⟩))⟩))⟩))⟩))⟩))⟩))⟩))⟩))⟩))⟩))⟩))⟩))))
  refine d_ (nU rfl rfl rfl e3 (Bg (Ag tv (c_ (Ax ⟨tv,tv⟩ rfl (nl rfl)) (⟨tv,Ag tv (c_ (Ax ⟨tv,tv⟩ rfl tv) (⟨tv,Ag tv (c_ (Ax t3 rfl tv) (⟨tv,Ag tv (c_ (Ax t3 rfl tv) (⟨tv,Ag tv (c_ (Ax ⟨tv,tv,tv⟩ rfl (by decide)) (⟨tv,Ag tv (c_ (Ax ⟨tv,tv⟩ rfl tv) (⟨tv,Ag tv (c_ (Ax ⟨tv,tv⟩ rfl tv) (⟨tv,Bq (Ei rfl rfl tv rfl rfl rfl (nl rfl) (d0 tv (Hb (bv h0 fun v4 e5 h0=>Dd ⟨[(0,.ptr 1048576 0)],[(1048576,Fd u_ a0.code_ (wi (a0.at_+1)) v4)],[]⟩ (Dv (by subst e5; kernel_rfl)) (Bm (bb h0 fun y6 e7 h0=>Bg (Ag tv (Ca rfl tv (⟨tv,Ag tv (c_ (Ax ⟨tv,tv⟩ rfl tv) (⟨tv,Ag tv (c_ (Ax ⟨tv,tv⟩ rfl tv) (⟨tv,Ag tv (c_ (Ax ⟨tv,tv⟩ rfl (nl rfl)) (⟨tv,Ag tv (Ca rfl tv (⟨tv,Ag tv (c_ (Ax ⟨tv,tv⟩ rfl tv) (⟨tv,Ag tv (c_ (Ax ⟨tv,tv⟩ rfl tv) (⟨tv,Ag tv (c_ (Ax ⟨tv,tv⟩ rfl (nl rfl)) (⟨tv,Ag tv (c_ (Ax t3 rfl tv) (⟨tv,d_ (nU rfl rfl rfl e7 (Bg (d_ ?_)))⟩))⟩))⟩))⟩))⟩))⟩))⟩))⟩))⟩))))))))) Aw⟩))⟩))⟩))⟩))⟩))⟩))⟩)))))
  obtain rfl:=sj h0
  exact Cy 5
 ·refine Az 10 [(0,.ptr 1048576 0),(59,.bool (decide ((wi (a0.at_+1))>3000)))] [(1048576,Fd u_ a0.code_ (wi (a0.at_+1)) a0.Fm)] (Co h0 (fun c8 h0=>?_) (fun c8 h0=>?_))
  ·obtain rfl:=sj h0
   exact Cy 4
  ·refine Js (cY (Bm (Ao (st (Ca rfl tv (st (Ca rfl tv (st (c_ (Ax ⟨tv,tv⟩ rfl tv) (st (c_ (Ax ⟨tv,tv⟩ rfl tv) (st (c_ (Ax ⟨tv,tv⟩ rfl (nl rfl)) (st (c_ (Ax t3 rfl tv) (st (c_ (Ax t3 rfl tv) (st (c_ (Ax ⟨tv,tv,tv⟩ rfl (by decide)) (st (c_ (Ax ⟨tv,tv⟩ rfl tv) (st (c_ (Ax ⟨tv,tv⟩ rfl tv) (st (Ei rfl rfl tv rfl rfl rfl (nl rfl) (Gr (bv h0 fun v9 e10 h0=>Dd ⟨[(0,.ptr 1048576 0)],[(1048576,Fd u_ a0.code_ (wi (a0.at_+1)) v9)],[]⟩ (Dv (by subst e10; kernel_rfl)) (Bm (Ao (st (Ca rfl tv (st (c_ (Ax ⟨tv,tv⟩ rfl tv) (st (c_ (Ax ⟨tv,tv⟩ rfl tv) (st (c_ (Ax ⟨tv,tv⟩ rfl (nl rfl)) (st (c_ (Ax ⟨tv,tv,tv⟩ rfl (by decide)) (st (c_ (Ax ⟨tv,tv,tv⟩ rfl (by decide)) (o_ ?_))))))))))))))))))))))))))))))))))))))))))
   obtain rfl:=sj h0
   exact Cy 3

/- (*loop.example/g00149/spec.l00Src).next -/
def KF:=[i_ 4 0]
def KG:=[m_ 8 1,B_ .leq 9 8 1]
def KH:=[i_ 4 0]
def KI:=[m_ 10 1,B_ .leq 11 10 256]
def KJ:=[m_ 12 0,q_ 13 139 [.t 12],m_ 14 1,b_ .rem 15 13 14,m_ 4 15]
def KK:=[m_ 16 0,q_ 17 139 [.t 16],m_ 5 17]
def KL:=[m_ 18 0,q_ 19 139 [.t 18],m_ 6 19]
def KM:=[m_ 20 0,q_ 21 139 [.t 20],m_ 7 21]
def KN:=[m_ 22 5,B_ .mul 23 22 65536,m_ 24 6,B_ .mul 25 24 256,b_ .add 26 23 25,m_ 27 7,b_ .add 28 26 27,m_ 29 1,b_ .rem 30 28 29,m_ 4 30]
def c117:Dj:=⟨2,31,[.t 4],sr KF (.seq (sr KG (iz 9 (rr KH))) (.seq (sr KI (iz 11 (rr KJ))) (sr KK (sr KL (sr KM (rr KN))))))⟩
def qI (D:Bi):Prop:=∀a0 a1 r,Rm a0 a1=some r→D 117 ⟨[.ptr 1048576 0,iV a1],[Bs a0]⟩ ⟨iV r.1,[Bs r.2],[]⟩
theorem F117 (H139:K139 C):qI (FO C c117):=by
 intro a0 a1 r h0
 refine f0 (Az 9 [(0,.ptr 1048576 0),(1,iV a1),(9,.bool (decide (a1≤1)))] [(1048576,Bs a0)] (Co h0 (fun c1 h0=>?_) (fun c1 h0=>?_)))
 ·obtain rfl:=sj h0
  exact Cy 4
 ·refine Az 7 [(0,.ptr 1048576 0),(1,iV a1),(11,.bool (decide (a1≤256)))] [(1048576,Bs a0)] (Co h0 (fun c2 h0=>?_) (fun c2 h0=>?_))
  ·refine Bm (Ao (st (Ca rfl tv (bb h0 fun r3 e4 h0=>Xh [1048576] [] [] (H139 a0 r3 e4) (st (Ca rfl tv (gg h0 fun c5 h0=>st (c_ (Ax ⟨tv,tv,tv⟩ rfl c5) (o_ ?_)))))))))
   obtain rfl:=sj h0
   exact Cy 3
  ·refine Ay 4 (Ao (bb h0 fun r6 e7 h0=>Xh [1048576] [] [] (H139 a0 r6 e7) (o_ (Az 2 [(0,.ptr 1048576 0),(1,iV a1),(5,iV r6.1)] [(1048576,Bs r6.2)] (Bm (Ao (st (Ca rfl tv (bb h0 fun r8 e9 h0=>Xh [1048576] [] [] (H139 r6.2 r8 e9) (o_ (Az 2 [(0,.ptr 1048576 0),(1,iV a1),(5,iV r6.1),(6,iV r8.1)] [(1048576,Bs r8.2)] (Bm (Ao (st (Ca rfl tv (bb h0 fun r10 e11 h0=>Xh [1048576] [] [] (H139 r8.2 r10 e11) (o_ (Az 2 [(1,iV a1),(5,iV r6.1),(6,iV r8.1),(7,iV r10.1)] [(1048576,Bs r10.2)] (Ay 9 (Ao (gg h0 fun c12 h0=>st (c_ (Ax ⟨tv,tv,tv⟩ rfl c12) (st (Ca rfl tv (Gr (bv h0 fun v13 e14 h0=>Dd ⟨[(4,iV v13)],[(1048576,Bs r10.2)],[]⟩ (Dv (by subst e14; kernel_rfl)) ?_))))))))))))))))))))))))))
   obtain rfl:=sj h0
   exact Lf (Eg rfl rfl rfl rfl rfl tv)

/- (*loop.example/g00149/spec.l00Src).size -/
def KO:=[i_ 4 0]
def KP:List Bv:=[m_ 5 0,iQ 6 (.nilc (.t 5)),f_ 7 6 0,l_ 8 7 1,n_ 9 8,B_ .quo 10 9 12,⟨some 11,.p (.bin .add (.c (iV 1)) (.t 10)),none⟩,m_ 12 1,iQ 13 (.mn (.t 11) (.t 12)),m_ 4 13]
def c118:Dj:=⟨2,14,[.t 4],sr KO (rr KP)⟩
def K118 (D:Bi):Prop:=∀a0 a1 r,g118 a0 a1=some r→D 118 ⟨[.iptr (Bs a0),iV a1],[]⟩ ⟨iV r,[],[]⟩
theorem F118:K118 (FO C c118):=by
 intro a0 a1 r h0
 refine f0 (Az 3 [(0,.iptr (Bs a0)),(1,iV a1)] [] (Ay 5 (Ao (Me rfl (st (c_ (Ax ⟨tv,tv,tv⟩ rfl (by decide)) (o_ (Ay 5 (bv h0 fun v1 e2 h0=>Dd ⟨[(4,iV v1)],[],[]⟩ (Dv (by subst e2; kernel_rfl)) ?_)))))))))
 obtain rfl:=sj h0
 exact Lf (Eg rfl rfl rfl rfl rfl tv)

/- (*loop.example/g00149/spec.l00Src).chance -/
def KQ:=[k_ 4 (.bool false)]
def KR:=[m_ 5 0,m_ 6 1,q_ 7 117 [.t 5,.t 6],m_ 8 1,B_ .sub 9 8 1,b_ .eql 10 7 9,m_ 4 10]
def c119:Dj:=⟨2,11,[.t 4],sr KQ (rr KR)⟩
def K119 (D:Bi):Prop:=∀a0 a1 r,g119 a0 a1=some r→D 119 ⟨[.ptr 1048576 0,iV a1],[Bs a0]⟩ ⟨.bool r.1,[Bs r.2],[]⟩
theorem F119 (H117:qI C):K119 (FO C c119):=by
 intro a0 a1 r h0
 refine f0 (Az 3 [(0,.ptr 1048576 0),(1,iV a1)] [(1048576,Bs a0)] (Ay 3 (Ao (bb h0 fun r1 e2 h0=>Xh [1048576] [] [] (H117 a0 a1 r1 e2) (o_ ?_)))))
 obtain rfl:=sj h0
 exact Cy 6

/- (*loop.example/g00149/spec.l00Src).Ce -/
def RL:List Bv:=[⟨some 2,.nilS 1,none⟩]
def RM:List Bv:=[⟨some 5,.mkS 1 [iV 0] 0 [],none⟩,m_ 3 5]
def RN:=[m_ 6 0,q_ 7 117 [.t 6,.c (iV 4)],m_ 4 7]
def RR:=[m_ 8 4,B_ .gtr 9 8 0]
def RS:List Bv:=[m_ 12 3,m_ 13 0,q_ 14 117 [.t 13,.c (iV 5)],B_ .rem 15 14 3,⟨some 16,.mkS 1 [iV 0] 1 [(0,.t 15)],none⟩,⟨some 17,.app 1 8 (.t 12) (.t 16),none⟩,m_ 3 17]
def RU:=[m_ 10 4,B_ .sub 11 10 1,m_ 4 11]
def RK:IR:=(.seq (sr RR (.ite (.t 9) .skip (.exit 0))) (.seq (.block 1 (.reg RS)) (.reg RU)))
def RX:=[m_ 18 3,m_ 2 18]
def RJ:Dj:=⟨1,19,[.t 2],sr RL (sr RM (.seq (sr RN (Ik 0 RK)) (rr RX)))⟩
def K147 (D:Bi):Prop:=∀a0 r,BR a0=some r→D 147 ⟨[.ptr 1048576 0],[Bs a0]⟩ ⟨oI 0 r.1,[Bs r.2],[]⟩
theorem F147 (H117:qI C):K147 (FO C RJ):=by
 intro a0 r h0
 refine f0 (Az 8 [(0,.ptr 1048576 0),(3,oI 320 [])] [(1048576,Bs a0)] (Ay 3 (Ao (bb h0 fun r1 e2 h0=>Xh [1048576] [] [] (H117 a0 4 r1 e2) (o_ (Az 2 [(0,.ptr 1048576 0),(3,oI 320 []),(4,iV r1.1)] [(1048576,Bs r1.2)] (By (bb h0 fun r29 e30 h0=>Cs (R:=(fun S=>∃p21:List Int,∃p22:List UInt8,∃p23:Int,∃p24:Int,(p21,p22,p23,p24)=r29∧S=⟨[(3,oI 320 p21)],[(1048576,Fd u_ p22 p23 p24)],[]⟩)) (Yc) (fun s S=>match s with | (p7,p8,p9,p10,p11)=>S=⟨[(0,.ptr 1048576 0),(3,oI 320 p7),(4,iV p8)],[(1048576,Fd u_ p9 p10 p11)],[]⟩) e30 _ (Dv (by kernel_rfl)) rfl 0 (fun _=>rfl) ?_ ?_))))))))
 ·rintro S _ hfg ⟨p21,p22,p23,p24,rfl,rfl⟩
  refine Dd _ hfg ?_
  obtain rfl:=sj h0
  exact Cy 5
 ·rintro ⟨p7,p8,p9,p10,p11⟩ o1 _ K1 rfl h1 hx1 hK1 hE1 hR1
  refine Az 5 [(0,.ptr 1048576 0),(3,oI 320 p7),(4,iV p8),(9,.bool (decide (p8>0)))] [(1048576,Fd u_ p9 p10 p11)] (Co h1 (fun c25 h1=>?_) (fun c25 h1=>?_))
  ·refine Ay 6 (Ao (bb h1 fun r26 e27 h1=>Xh [1048576] [] [] (H117 (Cc.mk p9 p10 p11) 5 r26 e27) (st (c_ (Ax ⟨tv,tv,tv⟩ rfl (by decide)) (st (bF ⟨tv,tv⟩ ⟨⟨nl rfl,rfl,rfl⟩,tv⟩ (gg h1 fun c28 h1=>st (Je (e:=eI) (l0:=p7) (l1:=([(r26.1).tmod 3]:List Int)) rfl rfl tv rfl (by decide) c28 (o_ (Az 3 [(0,.ptr 1048576 0),(3,oI 320 (p7++([(r26.1).tmod 3]:List Int))),(4,iV p8)] [(1048576,Bs r26.2)] (Ay 4 ?_)))))))))))
   obtain rfl:=sj h1
   exact kn hK1 rfl rfl
  ·obtain rfl:=sj h1
   obtain rfl:=hx1 _ rfl
   refine Iq rfl ?_
   exact jn hE1 ⟨_,_,_,_,rfl,rfl⟩

/- (*loop.example/g00149/spec.l00Src).vaultAct -/
def OV:=[a_ 2 [iV 0,iV 0,iV 0,iV 0,iV 0,.own 134 0 1 [],iV 0]]
def OW:List Bv:=[m_ 4 0,q_ 5 117 [.t 4,.c (iV 9)],⟨some 6,.p (.bin .add (.c (iV 1)) (.t 5)),none⟩,m_ 7 0,q_ 8 147 [.t 7],⟨some 9,.p (.build [iV 0,iV 0,iV 0,iV 0,iV 0,.own 582 0 1 [],iV 0] [(0,1,.c (iV 1)),(2,1,.t 6),(5,1,.t 8)]),none⟩,a_ 3 [iV 0,iV 0,iV 0,iV 0,iV 0,.own 198 0 1 [],iV 0],s_ 3 9 7]
def OX:=tk [f_ 10 3 2,l_ 11 10 1,m_ 12 0] (.alt [l_ 11 10 1,f_ 10 3 2] (q_ 13 117 [.t 12,.c (iV 9)]) (tk [b_ .add 14 11 13,f_ 15 3 3] (.alt [] (s_ 15 14 1) .fin .stop)) .stop)
def OY:=[m_ 16 0,q_ 17 117 [.t 16,.c (iV 10)]]
def OZ:=[B_ .eql 19 17 0,m_ 18 19]
def PA:List Bv:=[m_ 20 0,q_ 21 117 [.t 20,.c (iV 9)],⟨some 22,.p (.bin .add (.c (iV 1)) (.t 21)),none⟩,m_ 23 0,q_ 24 117 [.t 23,.c (iV 12)],⟨some 25,.p (.bin .add (.c (iV 1)) (.t 24)),none⟩,⟨some 26,.p (.build [iV 0,iV 0,iV 0,iV 0,iV 0,.own 1670 0 1 [],iV 0] [(0,1,.c (iV 2)),(1,1,.t 22),(2,1,.t 25)]),none⟩,s_ 3 26 7]
def PB:=[B_ .eql 28 17 1,m_ 27 28]
def PC:List Bv:=[m_ 29 0,q_ 30 117 [.t 29,.c (iV 9)],⟨some 31,.p (.bin .add (.c (iV 1)) (.t 30)),none⟩,⟨some 32,.p (.build [iV 0,iV 0,iV 0,iV 0,iV 0,.own 2054 0 1 [],iV 0] [(0,1,.c (iV 3)),(1,1,.t 31)]),none⟩,s_ 3 32 7]
def PD:=[B_ .eql 34 17 2,m_ 33 34]
def PE:=[B_ .eql 35 17 3,m_ 33 35]
def wB:=[B_ .eql 36 17 4,m_ 33 36]
def wC:List Bv:=[m_ 37 0,q_ 38 117 [.t 37,.c (iV 60)],m_ 39 0,q_ 40 147 [.t 39],⟨some 41,.p (.build [iV 0,iV 0,iV 0,iV 0,iV 0,.own 2630 0 1 [],iV 0] [(0,1,.c (iV 4)),(4,1,.t 38),(5,1,.t 40)]),none⟩,s_ 3 41 7]
def wD:=[B_ .eql 43 17 5,m_ 42 43]
def wE:List Bv:=[⟨some 44,.mkS 1 [iV 0] 4 [(0,.c (iV 5)),(1,.c (iV 6)),(2,.c (iV 6)),(3,.c (iV 6))],none⟩,m_ 45 0,q_ 46 117 [.t 45,.c (iV 4)],x_ 47 44 46 1,l_ 48 47 1,⟨some 49,.p (.build [iV 0,iV 0,iV 0,iV 0,iV 0,.own 3142 0 1 [],iV 0] [(0,1,.t 48)]),none⟩,s_ 3 49 7]
def wF:=[m_ 50 0,q_ 51 119 [.t 50,.c (iV 7)]]
def wG:List Bv:=[m_ 52 0,q_ 53 117 [.t 52,.c (iV 2)],⟨some 54,.p (.bin .add (.c (iV 1)) (.t 53)),none⟩,f_ 55 3 6,s_ 55 54 1]
def wH:=[L_ 56 3 7,s_ 2 56 7]
def OU:Dj:=⟨1,57,[.cell 2 7 true],sr OV (sr OW (sd OX (.seq (sr OY (.block 0 (sr OZ (.ite (.t 18) (.reg PA) (sr PB (.ite (.t 27) (.reg PC) (.seq (sr PD (.ite (.t 33) .skip (sr PE (.ite (.t 33) .skip (.reg wB))))) (.ite (.t 33) (.reg wC) (sr wD (iz 42 (.reg wE))))))))))) (.seq (sr wF (iz 51 (.reg wG))) (rr wH)))))⟩
def K135 (D:Bi):Prop:=∀a0 r,g135 a0=some r→D 135 ⟨[.ptr 1048576 0],[Bs a0]⟩ ⟨.agg (aY r.1 (An 0)),[Bs r.2],[]⟩
abbrev Ff:=fun (r:List (Nat×List V))=>(128,Ch 0 0 0 0 0 (An 134) [] 0)::r
abbrev Gw:=fun (r:List (Nat×V))=>(0,.ptr 1048576 0)::(2,.ptr 128 0)::(3,.ptr 192 0)::r
theorem F135 (H117:qI C) (H119:K119 C) (H147:K147 C):K135 (FO C OU):=by
 intro a0 r h0
 refine f0 (Az 3 [(0,.ptr 1048576 0),(2,.ptr 128 0)] (Ff [(1048576,Bs a0)]) (Bm (Ao (st (Ca rfl tv (bb h0 fun r1 e2 h0=>Xh [1048576] [] [] (H117 a0 9 r1 e2) (sw ⟨[(0,.ptr 1048576 0),(2,.ptr 128 0),(5,iV r1.1)],Ff [(1048576,Bs r1.2)],[]⟩ (Dv (by kernel_rfl)) (c_ (Ax t3 rfl tv) (st (Ca rfl tv (bb h0 fun r3 e4 h0=>Xh [1048576] [] [] (H147 r1.2 r3 e4) (sw ⟨[(0,.ptr 1048576 0),(2,.ptr 128 0),(6,iV (wi (1+r1.1))),(8,oI 512 r3.1)],Ff [(1048576,Bs r3.2)],[]⟩ (Dv (by kernel_rfl)) (c_ (v:=.agg (Ch 1 0 (wi (1+r1.1)) 0 0 (An 512) r3.1 0)) (Ax ⟨tv,tv,tv,tv⟩ rfl ⟨⟨rfl,rfl,nl rfl⟩,⟨rfl,rfl,nl rfl⟩,⟨rfl,rfl,nl rfl⟩,tv⟩) (o_ (Az 3 (Gw []) (Ff [(192,Ch 1 0 (wi (1+r1.1)) 0 0 (An 512) r3.1 0),(1048576,Bs r3.2)]) (Bm (bb h0 fun r5 e6 h0=>Ay 3 (Bg (Bq (Ed [1048576] [] [] true (H117 r3.2 9 r5 e6) ⟨tv,tv,tv⟩ (by kernel_rfl) (by kernel_rfl) (by kernel_rfl) (by kernel_rfl) (fun h=>nomatch h) (dw [(0,.ptr 1048576 0),(2,.ptr 128 0),(3,.ptr 192 0),(10,.ptr 192 2),(11,iV (wi (1+r1.1))),(13,iV r5.1)] [(128,Ch 0 0 0 0 0 (An 134) [] 0),(192,Ch 1 0 (wi (1+r1.1)) 0 0 (An 512) r3.1 0),(1048576,Bs r5.2)] hB (d_ (Ay 2 (Bg (Bq (Ei rfl rfl tv rfl rfl rfl (nl rfl) (d0 tv (d_ (Az 1 (Gw []) (Ff [(192,Ch 1 0 (wi (1+r1.1)) (wi ((wi (1+r1.1))+r5.1)) 0 (An 512) r3.1 0),(1048576,Bs r5.2)]) (Ay 3 (Ao (bb h0 fun r7 e8 h0=>Xh [1048576] [] [] (H117 r5.2 10 r7 e8) (o_ (Az 1 (Gw [(17,iV r7.1)]) (Ff [(192,Ch 1 0 (wi (1+r1.1)) (wi ((wi (1+r1.1))+r5.1)) 0 (An 512) r3.1 0),(1048576,Bs r7.2)]) (Il (fun S=>∃p32:Int,∃p33:Int,∃p34:Int,∃p35:Int,∃p36:Int,∃p37:List Int,∃p38:List UInt8,∃p39:Int,∃p40:Int,S=⟨Gw [],Ff [(192,Ch p32 p33 p34 p35 p36 (An 1670) p37 0),(1048576,Fd u_ p38 p39 p40)],[]⟩∧Lp p32 p33 p34 p35 p36 p37 p38 p39 p40=some r) ?_ (fun J54=>?_))))))))))) Aw)))))) Aw)))))))))))))))))))
 ·rintro _ ⟨p32,p33,p34,p35,p36,p37,p38,p39,p40,rfl,h0⟩
  refine Ay 4 (Ao (bb h0 fun r41 e42 h0=>Xh [1048576] [] [] (H119 (Cc.mk p38 p39 p40) 7 r41 e42) (o_ (Az 1 (Gw [(51,.bool r41.1)]) (Ff [(192,Ch p32 p33 p34 p35 p36 (An 1670) p37 0),(1048576,Bs r41.2)]) (Kh (cb:=r41.1) (fun S=>∃p46:Int,∃p47:List UInt8,∃p48:Int,∃p49:Int,S=⟨[(2,.ptr 128 0),(3,.ptr 192 0)],Ff [(192,Ch p32 p33 p34 p35 p36 (An 1670) p37 p46),(1048576,Fd u_ p47 p48 p49)],[]⟩∧Xz p32 p33 p34 p35 p36 p37 p46 p47 p48 p49=some r) rfl ?_ (fun c51 J50=>?_) (fun c51 J50=>?_))))))
  ·rintro _ ⟨p46,p47,p48,p49,rfl,h0⟩
   obtain rfl:=sj h0
   exact Cy 6
  ·replace h0:=ip c51 h0
   refine Ao (st (Ca rfl tv (bb h0 fun r52 e53 h0=>Xh [1048576] [] [] (H117 r41.2 2 r52 e53) (sw ⟨[(2,.ptr 128 0),(3,.ptr 192 0),(53,iV r52.1)],Ff [(192,Ch p32 p33 p34 p35 p36 (An 1670) p37 0),(1048576,Bs r52.2)],[]⟩ (Dv (by kernel_rfl)) (c_ (Ax t3 rfl tv) (o_ (Ay 3 ?_)))))))
   exact jn J50 ⟨_,_,_,_,rfl,h0⟩
  ·replace h0:=Xj c51 h0
   refine Js ?_
   exact jn J50 ⟨_,_,_,_,rfl,h0⟩
 ·refine Bm ?_
  refine Az 3 (Gw [(17,iV r7.1),(18,.bool (r7.1==0))]) (Ff [(192,Ch 1 0 (wi (1+r1.1)) (wi ((wi (1+r1.1))+r5.1)) 0 (An 512) r3.1 0),(1048576,Bs r7.2)]) (Co h0 (fun c55 h0=>?_) (fun c55 h0=>?_))
  ·refine Ao (st (Ca rfl tv (bb h0 fun r56 e57 h0=>Xh [1048576] [] [] (H117 r7.2 9 r56 e57) (sw ⟨Gw [(21,iV r56.1)],Ff [(192,Ch 1 0 (wi (1+r1.1)) (wi ((wi (1+r1.1))+r5.1)) 0 (An 512) r3.1 0),(1048576,Bs r56.2)],[]⟩ (Dv (by kernel_rfl)) (c_ (Ax t3 rfl tv) (st (Ca rfl tv (bb h0 fun r58 e59 h0=>Xh [1048576] [] [] (H117 r56.2 12 r58 e59) (sw ⟨Gw [(22,iV (wi (1+r56.1))),(24,iV r58.1)],Ff [(192,Ch 1 0 (wi (1+r1.1)) (wi ((wi (1+r1.1))+r5.1)) 0 (An 512) r3.1 0),(1048576,Bs r58.2)],[]⟩ (Dv (by kernel_rfl)) (c_ (Ax t3 rfl tv) (st (c_ (v:=.agg (Ch 2 (wi (1+r56.1)) (wi (1+r58.1)) 0 0 (An 1670) [] 0)) (Ax ⟨tv,tv,tv,tv⟩ rfl ⟨⟨rfl,rfl,nl rfl⟩,⟨rfl,rfl,nl rfl⟩,⟨rfl,rfl,nl rfl⟩,tv⟩) (o_ (Ay 3 ?_))))))))))))))
   exact jn J54 ⟨_,_,_,_,_,_,_,_,_,rfl,h0⟩
  ·refine Az 4 (Gw [(17,iV r7.1),(27,.bool (r7.1==1))]) (Ff [(192,Ch 1 0 (wi (1+r1.1)) (wi ((wi (1+r1.1))+r5.1)) 0 (An 512) r3.1 0),(1048576,Bs r7.2)]) (Co h0 (fun c60 h0=>?_) (fun c60 h0=>?_))
   ·refine Ao (st (Ca rfl tv (bb h0 fun r61 e62 h0=>Xh [1048576] [] [] (H117 r7.2 9 r61 e62) (sw ⟨Gw [(30,iV r61.1)],Ff [(192,Ch 1 0 (wi (1+r1.1)) (wi ((wi (1+r1.1))+r5.1)) 0 (An 512) r3.1 0),(1048576,Bs r61.2)],[]⟩ (Dv (by kernel_rfl)) (c_ (Ax t3 rfl tv) (st (c_ (v:=.agg (Ch 3 (wi (1+r61.1)) 0 0 0 (An 2054) [] 0)) (Ax ⟨tv,tv,tv⟩ rfl ⟨⟨rfl,rfl,nl rfl⟩,⟨rfl,rfl,nl rfl⟩,tv⟩) (o_ (Ay 3 ?_)))))))))
    exact J54 _ _ (Sk [] [(2054,1670)] rfl (by kernel_rfl)) ⟨_,_,_,_,_,_,_,_,_,rfl,h0⟩
   ·refine Az 5 (Gw [(17,iV r7.1),(33,.bool (r7.1==2))]) (Ff [(192,Ch 1 0 (wi (1+r1.1)) (wi ((wi (1+r1.1))+r5.1)) 0 (An 512) r3.1 0),(1048576,Bs r7.2)]) (Kh (cb:=(r7.1==2)) (fun S=>∃p65:Bool,S=⟨Gw [(17,iV r7.1),(33,.bool p65)],Ff [(192,Ch 1 0 (wi (1+r1.1)) (wi ((wi (1+r1.1))+r5.1)) 0 (An 512) r3.1 0),(1048576,Bs r7.2)],[]⟩∧Qu r1 r3 r5 r7 p65=some r) rfl ?_ (fun c79 J78=>?_) (fun c79 J78=>?_))
    ·rintro _ ⟨p65,rfl,h0⟩
     refine Lg 1 (Co h0 (fun c66 h0=>?_) (fun c66 h0=>?_))
     ·refine Ao (st (Ca rfl tv (bb h0 fun r67 e68 h0=>Xh [1048576] [] [] (H117 r7.2 60 r67 e68) (sw ⟨Gw [(38,iV r67.1)],Ff [(192,Ch 1 0 (wi (1+r1.1)) (wi ((wi (1+r1.1))+r5.1)) 0 (An 512) r3.1 0),(1048576,Bs r67.2)],[]⟩ (Dv (by kernel_rfl)) (Ca rfl tv (bb h0 fun r69 e70 h0=>Xh [1048576] [] [] (H147 r67.2 r69 e70) (sw ⟨Gw [(38,iV r67.1),(40,oI 2560 r69.1)],Ff [(192,Ch 1 0 (wi (1+r1.1)) (wi ((wi (1+r1.1))+r5.1)) 0 (An 512) r3.1 0),(1048576,Bs r69.2)],[]⟩ (Dv (by kernel_rfl)) (c_ (v:=.agg (Ch 4 0 0 0 r67.1 (An 2560) r69.1 0)) (Ax ⟨tv,tv,tv,tv⟩ rfl ⟨⟨rfl,rfl,nl rfl⟩,⟨rfl,rfl,nl rfl⟩,⟨rfl,rfl,nl rfl⟩,tv⟩) (o_ (Ay 3 ?_))))))))))
      exact J54 _ _ (Sk [] [(2560,1670)] rfl (by kernel_rfl)) ⟨_,_,_,_,_,_,_,_,_,rfl,h0⟩
     ·refine Az 4 (Gw [(42,.bool (r7.1==5))]) (Ff [(192,Ch 1 0 (wi (1+r1.1)) (wi ((wi (1+r1.1))+r5.1)) 0 (An 512) r3.1 0),(1048576,Bs r7.2)]) (Co h0 (fun c71 h0=>?_) (fun c71 h0=>?_))
      ·refine Ay 2 (Ao (bb h0 fun r72 e73 h0=>Xh [1048576] [] [] (H117 r7.2 4 r72 e73) (bb h0 fun y74 e75 h0=>sw ⟨Gw [(44,oI 2816 ([5,6,6,6]:List Int)),(46,iV r72.1)],Ff [(192,Ch 1 0 (wi (1+r1.1)) (wi ((wi (1+r1.1))+r5.1)) 0 (An 512) r3.1 0),(1048576,Bs r72.2)],[]⟩ (Dv (by kernel_rfl)) (c_ (Ja rfl rfl e75) (bb h0 fun y76 e77 h0=>lo_ rfl rfl e77 (st (c_ (v:=.agg (Ch y76 0 0 0 0 (An 3142) [] 0)) (Ax ⟨tv,tv⟩ rfl ⟨⟨rfl,rfl,nl rfl⟩,tv⟩) (o_ (Ay 3 ?_)))))))))
       exact J54 _ _ (Sk [] [(3142,1670)] rfl (by kernel_rfl)) ⟨_,_,_,_,_,_,_,_,_,rfl,h0⟩
      ·refine Js (Rp ?_)
       exact J54 _ _ (Sk [] [(512,1670)] rfl (by kernel_rfl)) ⟨_,_,_,_,_,_,_,_,_,rfl,h0⟩
    ·replace h0:=ip c79 h0
     refine Js ?_
     exact jn J78 ⟨_,rfl,h0⟩
    ·replace h0:=Xj c79 h0
     refine Az 4 (Gw [(17,iV r7.1),(33,.bool (r7.1==3))]) (Ff [(192,Ch 1 0 (wi (1+r1.1)) (wi ((wi (1+r1.1))+r5.1)) 0 (An 512) r3.1 0),(1048576,Bs r7.2)]) (Co h0 (fun c80 h0=>?_) (fun c80 h0=>?_))
     ·refine Js ?_
      exact jn J78 ⟨_,rfl,h0⟩
     ·refine Ay 3 ?_
      exact jn J78 ⟨_,rfl,h0⟩

/- (*loop.example/g00149/spec.l00Src).vaultActs -/
def HH:List Bv:=[⟨some 2,.nilS 7,none⟩]
def HI:List Bv:=[⟨some 6,.mkS 7 [iV 0,iV 0,iV 0,iV 0,iV 0,.lst 1 [],iV 0] 0 [],none⟩,m_ 3 6]
def HJ:=[m_ 7 0,m_ 8 0,q_ 9 118 [.t 8,.c (iV 16)],B_ .add 10 9 3,q_ 11 117 [.t 7,.t 10],m_ 4 11]
def HK:=[m_ 12 4,B_ .gtr 13 12 0]
def HL:=[m_ 16 0,q_ 17 135 [.t 16],a_ 5 [iV 0,iV 0,iV 0,iV 0,iV 0,.own 326 0 1 [],iV 0],s_ 5 17 7]
def HM:List Bv:=[m_ 18 3,L_ 19 5 7,⟨some 20,.mkS 7 [iV 0,iV 0,iV 0,iV 0,iV 0,.lst 1 [],iV 0] 1 [(0,.t 19)],none⟩,⟨some 21,.app 7 72 (.t 18) (.t 20),none⟩,m_ 3 21]
def HN:=[f_ 22 5 6,l_ 23 22 1,B_ .neq 24 23 0,m_ 25 24,fF 25 26 5 0,lF 25 27 26 1 false,pF 25 28 (.bin .eql (.t 27) (.c (iV 5))),po 29 25 28]
def HO:List Bv:=[m_ 30 3,⟨some 31,.p (.build [iV 0,iV 0,iV 0,iV 0,iV 0,.own 1990 0 1 [],iV 0] [(0,1,.c (iV 6))]),none⟩,⟨some 32,.mkS 7 [iV 0,iV 0,iV 0,iV 0,iV 0,.lst 1 [],iV 0] 1 [(0,.t 31)],none⟩,⟨some 33,.app 7 72 (.t 30) (.t 32),none⟩,m_ 3 33]
def HP:=[m_ 14 4,B_ .sub 15 14 1,m_ 4 15]
def HG:IR:=(.seq (sr HK (.ite (.t 13) .skip (.exit 0))) (.seq (.block 1 (sr HL (sr HM (sr HN (iz 29 (.reg HO)))))) (.reg HP)))
def HQ:List Bv:=[m_ 34 3,m_ 35 3,n_ 36 35,⟨some 37,.p (.mn (.t 36) (.c (iV 120))),none⟩,⟨some 38,.p (.slice (.t 34) none (some (.t 37)) 7),none⟩,m_ 2 38]
def c103:Dj:=⟨1,39,[.t 2],sr HH (sr HI (.seq (sr HJ (Ik 0 HG)) (rr HQ)))⟩
def K103 (D:Bi):Prop:=∀a0 r,g103 a0=some r→D 103 ⟨[.ptr 1048576 0],[Bs a0]⟩ ⟨Bt 0 r.1,[Bs r.2],[]⟩
theorem F103 (H117:qI C) (H118:K118 C) (H135:K135 C):K103 (FO C c103):=by
 intro a0 r h0
 refine f0 (Az 8 [(0,.ptr 1048576 0),(3,Bt 384 [])] [(1048576,Bs a0)] (Ay 4 (Ao (bb h0 fun r1 e2 h0=>Om (H118 a0 16 r1 e2) (st (c_ (Ax t3 rfl tv) (bb h0 fun r3 e4 h0=>Xh [1048576] [] [] (H117 a0 (wi (r1+3)) r3 e4) (o_ (Az 2 [(0,.ptr 1048576 0),(3,Bt 384 []),(4,iV r3.1)] [(1048576,Bs r3.2)] (By (bb h0 fun r55 e56 h0=>Cs (R:=(fun S=>∃p35:List Ak,∃p36:List UInt8,∃p37:Int,∃p38:Int,(p35,p36,p37,p38)=r55∧S=⟨[(3,Bt 384 p35)],[(1048576,Fd u_ p36 p37 p38)],[]⟩)) (Xu) (fun s S=>match s with | (p15,p16,p17,p18,p19)=>S=⟨[(0,.ptr 1048576 0),(3,Bt 384 p15),(4,iV p16)],[(1048576,Fd u_ p17 p18 p19)],[]⟩) e56 _ (Dv (by kernel_rfl)) rfl 0 (fun _=>rfl) ?_ ?_)))))))))))
 ·rintro S _ hfg ⟨p35,p36,p37,p38,rfl,rfl⟩
  refine Dd _ hfg (Ay 3 (Ao (Yv rfl (st (c_ (Ax ⟨tv,tv,tv⟩ rfl rfl) (bb h0 fun s57 e58 h0=>st (c_ (Ey (e:=Aq) (y:=s57) rfl rfl tv ⟨tv,tv⟩ rfl rfl e58) (o_ ?_))))))))
  obtain rfl:=sj h0
  exact Cy 3
 ·rintro ⟨p15,p16,p17,p18,p19⟩ o1 _ K1 rfl h1 hx1 hK1 hE1 hR1
  refine Az 5 [(0,.ptr 1048576 0),(3,Bt 384 p15),(4,iV p16),(13,.bool (decide (p16>0)))] [(1048576,Fd u_ p17 p18 p19)] (Co h1 (fun c39 h1=>?_) (fun c39 h1=>?_))
  ·refine Lg 3 (Il (fun S=>∃p45:List Ak,∃p46:List UInt8,∃p47:Int,∃p48:Int,S=⟨[(0,.ptr 1048576 0),(3,Bt 384 p45),(4,iV p16)],[(1048576,Fd u_ p46 p47 p48)],[]⟩∧Xt p16 p45 p46 p47 p48=some o1) ?_ (fun J49=>?_))
   ·rintro _ ⟨p45,p46,p47,p48,rfl,h1⟩
    refine Ay 5 ?_
    obtain rfl:=sj h1
    exact kn hK1 rfl rfl
   ·refine Bm ?_
    refine Ao (st (Ca rfl tv (bb h1 fun r50 e51 h1=>Xh [1048576] [] [] (H135 (Cc.mk p17 p18 p19) r50 e51) (o_ (Az 3 [(0,.ptr 1048576 0),(3,Bt 384 p15),(4,iV p16),(5,.ptr 320 0)] [(320,aY r50.1 (An 1088)),(1048576,Bs r50.2)] (Ay 4 (Ao (gg h1 fun c52 h1=>st (Je (e:=Aq) (l0:=p15) (l1:=([r50.1]:List Ak)) rfl rfl tv rfl (by decide) c52 (o_ (rO 13 [(0,.ptr 1048576 0),(3,Bt 384 (p15++([r50.1]:List Ak))),(4,iV p16),(29,.bool (bif (r50.1.stop != 0) then true else (r50.1.kind==5)))] [(1048576,Bs r50.2)] (Co h1 (fun c53 h1=>?_) (fun c53 h1=>?_)))))))))))))
    ·refine Ao (st (Ca rfl tv (st (c_ (v:=.agg (Ch 6 0 0 0 0 (An 1990) [] 0)) (Ax ⟨tv,tv⟩ rfl ⟨⟨rfl,rfl,nl rfl⟩,tv⟩) (st (bF ⟨tv,tv⟩ ⟨⟨nl rfl,rfl,rfl⟩,tv⟩ (gg h1 fun c54 h1=>st (Je (e:=Aq) (l0:=p15++([r50.1]:List Ak)) (l1:=([Ak.mk 6 0 0 0 0 ([]:List Int) 0]:List Ak)) rfl rfl tv rfl (by decide) c54 (st (Ca rfl tv (Gr (Rp ?_))))))))))))
     exact jn J49 ⟨_,_,_,_,rfl,h1⟩
    ·refine Js (Rp ?_)
     exact jn J49 ⟨_,_,_,_,rfl,h1⟩
  ·obtain rfl:=sj h1
   obtain rfl:=hx1 _ rfl
   refine Iq rfl ?_
   exact jn hE1 ⟨_,_,_,_,rfl,rfl⟩

/- loop.example/g00149/spec.VaultActsOf -/
def c51_r0:List Bv:=[⟨some 2,.nilS 7,none⟩]
def c51_r1:=[m_ 3 0,q_ 4 83 [.t 3],q_ 5 103 [.t 4],m_ 2 5]
def c51:Dj:=⟨1,6,[.t 2],sr c51_r0 (rr c51_r1)⟩
def K51 (D:Bi):Prop:=∀a0 r,g51 a0=some r→D 51 ⟨[lU8 a0],[]⟩ ⟨Bt 0 r,[],[]⟩
theorem F51 (H83:K83 C) (H103:K103 C):K51 (FO C c51):=by
 intro a0 r h0
 refine f0 (Az 3 [(0,lU8 a0)] [] (Bm (Ao (st (Ca rfl tv (bb h0 fun r1 e2 h0=>Xh [] [] [] (H83 a0 r1 e2) (bb h0 fun r3 e4 h0=>Xh [256] [] [] (H103 r1 r3 e4) (o_ ?_))))))))
 obtain rfl:=sj h0
 exact Cy 3

/- loop.example/g00149/laws.sameTable -/
def c41_r0:=[X_ 2 0,X_ 3 1,k_ 4 (.bool false)]
def c41_r1:=[f_ 6 2 0,l_ 7 6 1,f_ 8 3 0,l_ 9 8 1,b_ .neq 10 7 9,m_ 11 10,fF 11 12 2 1,lF 11 13 12 1 false,fF 11 14 3 1,lF 11 15 14 1 false,pF 11 16 (.bin .neq (.t 13) (.t 15)),po 17 11 16,m_ 18 17,fF 18 19 2 2,lF 18 20 19 1 false,pF 18 21 (.len (.t 20)),fF 18 22 3 2,lF 18 23 22 1 false,pF 18 24 (.len (.t 23)),pF 18 25 (.bin .neq (.t 21) (.t 24)),po 26 18 25]
def c41_r2:=[k_ 4 (.bool false)]
def c41_r3:=[i_ 5 0]
def c41_r4:=[m_ 27 5,f_ 28 2 2,l_ 29 28 1,n_ 30 29,b_ .lss 31 27 30]
def c41_r5:=tk [f_ 34 2 2,l_ 35 34 1,m_ 36 5,x_ 37 35 36 4,L_ 38 37 4,f_ 39 3 2,l_ 40 39 1,m_ 41 5,x_ 42 40 41 4,L_ 43 42 4,iQ 44 (.eqs true [0,0,0,1] (.t 38) (.t 43))] .fin
def c41_r6:=[k_ 4 (.bool false)]
def c41_r7:=[m_ 32 5,B_ .add 33 32 1,m_ 5 33]
def c41_l0:IR:=(.seq (sr c41_r4 (.ite (.t 31) .skip (.exit 0))) (.seq (.block 1 (sd c41_r5 (iz 44 (rr c41_r6)))) (.reg c41_r7)))
def c41_r8:=[k_ 4 (.bool true)]
def c41:Dj:=⟨2,45,[.t 4],sr c41_r0 (.seq (sr c41_r1 (iz 26 (rr c41_r2))) (.seq (sr c41_r3 (Ik 0 c41_l0)) (rr c41_r8)))⟩
def K41 (D:Bi):Prop:=∀a0 a1 r,g41 a0 a1=some r→D 41 ⟨[.agg (Ba a0),.agg (Ba a1)],[]⟩ ⟨.bool r,[],[]⟩
abbrev eA:=fun (r:List (Nat×V))=>(2,.ptr 128 0)::(3,.ptr 192 0)::r
abbrev eC:=fun x0 x1 (r:List (Nat×List V))=>(128,Ba x0)::(192,Ba x1)::r
theorem F41:K41 (FO C c41):=by
 intro a0 a1 r h0
 refine f0 (Az 5 (eA []) (eC a0 a1 []) (Ay 8 (Ao (st (Bn (u:=.ptr 128 1) rfl (fun hg=>(Ax ⟨tv,tv⟩ rfl tv)) (st (Bn (u:=iV a0.next) rfl (fun hg=>(Ax ⟨(fun _=>hg),tv⟩ rfl (nl rfl))) (st (Bn (u:=.ptr 192 1) rfl (fun hg=>(Ax ⟨tv,tv⟩ rfl tv)) (st (Bn (u:=iV a1.next) rfl (fun hg=>(Ax ⟨(fun _=>hg),tv⟩ rfl (nl rfl))) (st (Bn (u:=.bool (a0.next != a1.next)) rfl (fun hg=>(Ax ⟨(fun _=>hg),(fun _=>hg),tv⟩ rfl tv)) (st (Cu rfl rfl rfl tv (fun h=>Rl h) rfl (st (Ca rfl tv (st (Bn (u:=.ptr 128 2) rfl (fun hg=>(Ax ⟨tv,tv⟩ rfl tv)) (st (Bn (u:=Cg a0.Ae) rfl (fun hg=>(Ax ⟨(fun _=>hg),tv⟩ rfl (nl rfl))) (st (Bn (u:=iV (a0.Ae.length:Int)) rfl (fun hg=>(Ml (e:=Ac) (l0:=a0.Ae) rfl rfl (fun _=>hg))) (st (Bn (u:=.ptr 192 2) rfl (fun hg=>(Ax ⟨tv,tv⟩ rfl tv)) (st (Bn (u:=Cg a1.Ae) rfl (fun hg=>(Ax ⟨(fun _=>hg),tv⟩ rfl (nl rfl))) (st (Bn (u:=iV (a1.Ae.length:Int)) rfl (fun hg=>(Ml (e:=Ac) (l0:=a1.Ae) rfl rfl (fun _=>hg))) (st (Bn (u:=.bool ((a0.Ae.length:Int) != (a1.Ae.length:Int))) rfl (fun hg=>(Ax ⟨(fun _=>hg),(fun _=>hg),tv⟩ rfl tv)) ?_)))))))))))))))))))))))))))))))
 refine st (Cu rfl rfl rfl tv (fun h=>Rl h) rfl (Gr (bv h0 fun v1 e2 h0=>Dd ⟨eA [(26,.bool v1)],eC a0 a1 [],[]⟩ (Dv (by subst e2; kernel_rfl)) (Co h0 (fun c3 h0=>?_) (fun c3 h0=>?_)))))
 ·obtain rfl:=sj h0
  exact Cy 4
 ·refine Az 6 (eA [(5,iV 0)]) (eC a0 a1 []) (By (bb h0 fun r30 e31 h0=>Cs (R:=(fun S=>.inl ()=r30∧S=⟨[],[],[]⟩)) (aC a0 a1) (fun s S=>match s with | p12=>S=⟨eA [(5,iV p12)],eC a0 a1 [],[]⟩) e31 _ (Dv (by kernel_rfl)) rfl 0 (fun _=>rfl) ?_ ?_))
  ·rintro S _ hfg ⟨rfl,rfl⟩
   refine Dd _ hfg ?_
   obtain rfl:=sj h0
   exact Cy 4
  ·rintro p12 o1 _ K1 rfl h1 hx1 hK1 hE1 hR1
   refine Ay 5 (Ao (Me rfl (o_ (Az 2 (eA [(5,iV p12),(31,.bool (decide (p12<(a0.Ae.length:Int))))]) (eC a0 a1 []) (Co h1 (fun c22 h1=>?_) (fun c22 h1=>?_))))))
   ·refine Lg 5 (bb h1 fun y23 e24 h1=>bb h1 fun y25 e26 h1=>Ay 3 (Bg (d_ (nU rfl rfl rfl e24 (Ay 4 (Bg (d_ (nU rfl rfl rfl e26 (Ay 3 (bv h1 fun v27 e28 h1=>Dd ⟨eA [(5,iV p12),(44,.bool v27)],eC a0 a1 [],[]⟩ (Dv (by subst e28; kernel_rfl)) (Co h1 (fun c29 h1=>?_) (fun c29 h1=>?_))))))))))))
    ·obtain rfl:=sj h1
     obtain rfl:=hx1 _ rfl
     obtain rfl:=sj h0
     exact cJ 4 hR1
    ·refine Ay 7 ?_
     obtain rfl:=sj h1
     exact kn hK1 rfl rfl
   ·obtain rfl:=sj h1
    obtain rfl:=hx1 _ rfl
    refine Iq rfl ?_
    exact jn hE1 ⟨rfl,rfl⟩

/- loop.example/g00149/laws.sameInts -/
def c52_r0:=[k_ 4 (.bool false)]
def c52_r1:=[m_ 6 0,n_ 7 6,m_ 8 1,n_ 9 8,b_ .neq 10 7 9]
def c52_r2:=[k_ 4 (.bool false)]
def c52_r3:=[i_ 5 0]
def c52_r4:=[m_ 11 5,m_ 12 0,n_ 13 12,b_ .lss 14 11 13]
def c52_r5:=tk [m_ 17 0,m_ 18 5,x_ 19 17 18 1,l_ 20 19 1,m_ 21 1,m_ 22 5,x_ 23 21 22 1,l_ 24 23 1,b_ .neq 25 20 24] .fin
def c52_r6:=[k_ 4 (.bool false)]
def c52_r7:=[m_ 15 5,B_ .add 16 15 1,m_ 5 16]
def c52_l0:IR:=(.seq (sr c52_r4 (.ite (.t 14) .skip (.exit 0))) (.seq (.block 1 (sd c52_r5 (iz 25 (rr c52_r6)))) (.reg c52_r7)))
def c52_r8:=[k_ 4 (.bool true)]
def c52:Dj:=⟨2,26,[.t 4],sr c52_r0 (.seq (sr c52_r1 (iz 10 (rr c52_r2))) (.seq (sr c52_r3 (Ik 0 c52_l0)) (rr c52_r8)))⟩
def K52 (D:Bi):Prop:=∀a0 a1 r,g52 a0 a1=some r→D 52 ⟨[lI a0,lI a1],[]⟩ ⟨.bool r,[],[]⟩
theorem F52:K52 (FO C c52):=by
 intro a0 a1 r h0
 refine f0 (Az 3 [(0,lI a0),(1,lI a1)] [] (Ay 3 (Ao (Me rfl (st (Ca rfl tv (Me rfl (o_ (Az 2 [(0,lI a0),(1,lI a1),(10,.bool ((a0.length:Int) != (a1.length:Int)))] [] (Co h0 (fun c1 h0=>?_) (fun c1 h0=>?_)))))))))))
 ·obtain rfl:=sj h0
  exact Cy 4
 ·refine Az 6 [(0,lI a0),(1,lI a1),(5,iV 0)] [] (By (bb h0 fun r22 e23 h0=>Cs (R:=(fun S=>.inl ()=r22∧S=⟨[],[],[]⟩)) (aE a0 a1) (fun s S=>match s with | p8=>S=⟨[(0,lI a0),(1,lI a1),(5,iV p8)],[],[]⟩) e23 _ (Dv (by kernel_rfl)) rfl 0 (fun _=>rfl) ?_ ?_))
  ·rintro S _ hfg ⟨rfl,rfl⟩
   refine Dd _ hfg ?_
   obtain rfl:=sj h0
   exact Cy 4
  ·rintro p8 o1 _ K1 rfl h1 hx1 hK1 hE1 hR1
   refine Ay 4 (Ao (Me rfl (o_ (Az 2 [(0,lI a0),(1,lI a1),(5,iV p8),(14,.bool (decide (p8<(a0.length:Int))))] [] (Co h1 (fun c16 h1=>?_) (fun c16 h1=>?_))))))
   ·refine Lg 5 (bb h1 fun y17 e18 h1=>bb h1 fun y19 e20 h1=>Ay 2 (Bg (d_ (nU rfl rfl rfl e18 (Ay 3 (Bg (d_ (nU rfl rfl rfl e20 (Az 3 [(0,lI a0),(1,lI a1),(5,iV p8),(25,.bool (y17 != y19))] [] (Co h1 (fun c21 h1=>?_) (fun c21 h1=>?_)))))))))))
    ·obtain rfl:=sj h1
     obtain rfl:=hx1 _ rfl
     obtain rfl:=sj h0
     exact cJ 4 hR1
    ·refine Ay 7 ?_
     obtain rfl:=sj h1
     exact kn hK1 rfl rfl
   ·obtain rfl:=sj h1
    obtain rfl:=hx1 _ rfl
    refine Iq rfl ?_
    exact jn hE1 ⟨rfl,rfl⟩

/- loop.example/g00149/laws.sameVault -/
def XN:=[X_ 2 0,X_ 3 1,k_ 4 (.bool false)]
def XO:List Bv:=[f_ 6 2 0,L_ 7 6 3,f_ 8 3 0,L_ 9 8 3,q_ 10 41 [.t 7,.t 9],N_ 11 10,m_ 12 11,fF 12 13 2 5,lF 12 14 13 1 false,fF 12 15 3 5,lF 12 16 15 1 false,pF 12 17 (.binB .neq (.t 14) (.t 16)),po 18 12 17,m_ 19 18,fF 19 20 2 3,lF 19 21 20 1 false,pF 19 22 (.len (.t 21)),fF 19 23 3 3,lF 19 24 23 1 false,pF 19 25 (.len (.t 24)),pF 19 26 (.bin .neq (.t 22) (.t 25)),po 27 19 26,m_ 28 27,fF 28 29 2 4,lF 28 30 29 1 false,fF 28 31 3 4,lF 28 32 31 1 false,⟨some 33,.call 52 [.t 30,.t 32],some (28,false)⟩,pF 28 34 (.un .not (.t 33)),po 35 28 34]
def XP:=[k_ 4 (.bool false)]
def XQ:=[i_ 5 0]
def XS:=[m_ 36 5,f_ 37 2 3,l_ 38 37 1,n_ 39 38,b_ .lss 40 36 39]
def XT:=tk [f_ 43 2 3,l_ 44 43 1,m_ 45 5,x_ 46 44 45 2,L_ 47 46 2,f_ 48 3 3,l_ 49 48 1,m_ 50 5,x_ 51 49 50 2,L_ 52 51 2,iQ 53 (.eqs true [0,1] (.t 47) (.t 52))] .fin
def XU:=[k_ 4 (.bool false)]
def XV:=[m_ 41 5,B_ .add 42 41 1,m_ 5 42]
def XM:IR:=(.seq (sr XS (.ite (.t 40) .skip (.exit 0))) (.seq (.block 1 (sd XT (iz 53 (rr XU)))) (.reg XV)))
def XW:=[k_ 4 (.bool true)]
def c261:Dj:=⟨2,54,[.t 4],sr XN (.seq (sr XO (iz 35 (rr XP))) (.seq (sr XQ (Ik 0 XM)) (rr XW)))⟩
def K261 (D:Bi):Prop:=∀a0 a1 r,jE a0 a1=some r→D 261 ⟨[.agg (Bc a0),.agg (Bc a1)],[]⟩ ⟨.bool r,[],[]⟩
abbrev Wa:=fun (r:List (Nat×V))=>(2,.ptr 128 0)::(3,.ptr 192 0)::r
abbrev Wb:=fun x0 x1 (r:List (Nat×List V))=>(128,Bc x0)::(192,Bc x1)::r
theorem F261 (H41:K41 C) (H52:K52 C):K261 (FO C c261):=by
 intro a0 a1 r h0
 refine f0 (Az 5 (Wa []) (Wb a0 a1 []) (Ay 6 (Ao (bb h0 fun r1 e2 h0=>Om (H41 a0.Ad a1.Ad r1 e2) (o_ (Ay 2 (Ao (st (Bn (u:=.ptr 128 5) rfl (fun hg=>(Ax ⟨tv,tv⟩ rfl tv)) (st (Bn (u:=.bool a0.Am) rfl (fun hg=>(Ax ⟨(fun _=>hg),tv⟩ rfl (nl rfl))) (st (Bn (u:=.ptr 192 5) rfl (fun hg=>(Ax ⟨tv,tv⟩ rfl tv)) (st (Bn (u:=.bool a1.Am) rfl (fun hg=>(Ax ⟨(fun _=>hg),tv⟩ rfl (nl rfl))) (st (Bn (u:=.bool (!(a0.Am==a1.Am))) rfl (fun hg=>(Ax ⟨(fun _=>hg),(fun _=>hg),tv⟩ rfl tv)) (st (Cu rfl rfl rfl tv (fun h=>Rl h) rfl (st (Ca rfl tv (st (Bn (u:=.ptr 128 3) rfl (fun hg=>(Ax ⟨tv,tv⟩ rfl tv)) (st (Bn (u:=Cj a0.Ab) rfl (fun hg=>(Ax ⟨(fun _=>hg),tv⟩ rfl (nl rfl))) (st (Bn (u:=iV (a0.Ab.length:Int)) rfl (fun hg=>(Ml (e:=Bw) (l0:=a0.Ab) rfl rfl (fun _=>hg))) (st (Bn (u:=.ptr 192 3) rfl (fun hg=>(Ax ⟨tv,tv⟩ rfl tv)) (st (Bn (u:=Cj a1.Ab) rfl (fun hg=>(Ax ⟨(fun _=>hg),tv⟩ rfl (nl rfl))) (st (Bn (u:=iV (a1.Ab.length:Int)) rfl (fun hg=>(Ml (e:=Bw) (l0:=a1.Ab) rfl rfl (fun _=>hg))) (st (Bn (u:=.bool ((a0.Ab.length:Int) != (a1.Ab.length:Int))) rfl (fun hg=>(Ax ⟨(fun _=>hg),(fun _=>hg),tv⟩ rfl tv)) (st (Cu rfl rfl rfl tv (fun h=>Rl h) rfl (st (Ca rfl tv (st (Bn (u:=.ptr 128 4) rfl (fun hg=>(Ax ⟨tv,tv⟩ rfl tv)) (st (Bn (u:=lI a0.Ah) rfl (fun hg=>(Ax ⟨(fun _=>hg),tv⟩ rfl (nl rfl))) (st (Bn (u:=.ptr 192 4) rfl (fun hg=>(Ax ⟨tv,tv⟩ rfl tv)) (st (Bn (u:=lI a1.Ah) rfl (fun hg=>(Ax ⟨(fun _=>hg),tv⟩ rfl (nl rfl))) (bb h0 fun r3 e4 h0=>st (Dy (r:=.bool r3) rfl false (fun hg=>H52 a0.Ah a1.Ah r3 (ip hg e4)) ⟨(fun hg=>hg),(fun hg=>hg),tv⟩ (fun _=>rfl) (fun _=>rfl) (fun _=>rfl) (fun h=>nomatch h) (st (Bn (u:=.bool (!r3)) rfl (fun hg=>(Ax ⟨(fun _=>hg),tv⟩ rfl tv)) (st (Cu rfl rfl rfl tv (fun h=>Rl h) rfl (Gr (bv h0 fun v5 e6 h0=>Dd ⟨Wa [(35,.bool v5)],Wb a0 a1 [],[]⟩ (Dv (by subst e6; kernel_rfl)) (Co h0 (fun c7 h0=>?_) (fun c7 h0=>?_)))))))))))))))))))))))))))))))))))))))))))))))))))))))))
 ·obtain rfl:=sj h0
  exact Cy 4
 ·refine Az 6 (Wa [(5,iV 0)]) (Wb a0 a1 []) (By (bb h0 fun r28 e29 h0=>Cs (R:=(fun S=>.inl ()=r28∧S=⟨[],[],[]⟩)) (Uc a0 a1) (fun s S=>match s with | p14=>S=⟨Wa [(5,iV p14)],Wb a0 a1 [],[]⟩) e29 _ (Dv (by kernel_rfl)) rfl 0 (fun _=>rfl) ?_ ?_))
  ·rintro S _ hfg ⟨rfl,rfl⟩
   refine Dd _ hfg ?_
   obtain rfl:=sj h0
   exact Cy 4
  ·rintro p14 o1 _ K1 rfl h1 hx1 hK1 hE1 hR1
   refine Ay 5 (Ao (Me rfl (o_ (Az 2 (Wa [(5,iV p14),(40,.bool (decide (p14<(a0.Ab.length:Int))))]) (Wb a0 a1 []) (Co h1 (fun c22 h1=>?_) (fun c22 h1=>?_))))))
   ·refine Lg 5 (bb h1 fun y23 e24 h1=>bb h1 fun y25 e26 h1=>Ay 3 (Bg (d_ (nU rfl rfl rfl e24 (Ay 4 (Bg (d_ (nU rfl rfl rfl e26 (Az 3 (Wa [(5,iV p14),(53,.bool (!((y23.Av==y25.Av)&&((y23.Ol==y25.Ol)&&true))))]) (Wb a0 a1 []) (Co h1 (fun c27 h1=>?_) (fun c27 h1=>?_)))))))))))
    ·obtain rfl:=sj h1
     obtain rfl:=hx1 _ rfl
     obtain rfl:=sj h0
     exact cJ 4 hR1
    ·refine Ay 7 ?_
     obtain rfl:=sj h1
     exact kn hK1 rfl rfl
   ·obtain rfl:=sj h1
    obtain rfl:=hx1 _ rfl
    refine Iq rfl ?_
    exact jn hE1 ⟨rfl,rfl⟩

/- loop.example/g00149/impl.isList[loop.example/g00149/impl.VaultAct] -/
def ZK:=[k_ 2 (.bool false)]
def ZL:=[m_ 3 0,n_ 4 3,B_ .leq 5 4 4096,m_ 2 5]
def c455:Dj:=⟨1,6,[.t 2],sr ZK (rr ZL)⟩
def K455 (D:Bi):Prop:=∀a0 r,g455 a0=some r→D 455 ⟨[Cx a0],[]⟩ ⟨.bool r,[],[]⟩
theorem F455:K455 (FO C c455):=by
 intro a0 r h0
 refine f0 (Az 3 [(0,Cx a0)] [] (Bm (Ao (st (Ca rfl tv (Me rfl (o_ ?_)))))))
 obtain rfl:=sj h0
 exact Cy 4

/- slices.IndexFunc[[]loop.example/g00149/impl.VaultAct,loop.example/g00149/impl.VaultAct] -/
def AaO:=[i_ 4 0]
def AaP:=[m_ 6 0,n_ 7 6,i_ 8 0]
def AaQ:=[b_ .lss 9 8 7]
def AaR:=[m_ 10 8,m_ 5 10]
def AaS:List Bv:=[m_ 11 1,m_ 12 0,m_ 13 5,x_ 14 12 13 7,L_ 15 14 7,⟨some 16,.callv (.t 11) [.t 15],none⟩]
def AaT:=[m_ 17 5,m_ 4 17]
def AaU:=[B_ .add 18 8 1,m_ 8 18]
def AaN:IR:=(sr AaQ (.seq (.ite (.t 9) .skip (.exit 0)) (.seq (.block 1 (sr AaR (sr AaS (iz 16 (rr AaT))))) (.reg AaU))))
def AaV:=[i_ 4 (-1)]
def c468:Dj:=⟨2,19,[.t 4],sr AaO (.seq (sr AaP (Ik 0 AaN)) (rr AaV))⟩
def K468 (C:Bi) (D:Bi:=C):Prop:=∀(a0:List Ak) (f1:Nat) (k1:List V) (is1:Ak→Option Bool) (hs1:Ho k1) (hf1:∀(x0:Ak) r,is1 x0=some r→C f1 ⟨.agg (Aq x0)::k1,[]⟩ ⟨.bool r,[],[]⟩) (r:Int),g468 a0 is1=some r→D 468 ⟨[Cx a0,.clo f1 k1],[]⟩ ⟨iV r,[],[]⟩
theorem F468:K468 C (FO C c468):=by
 intro a0 f1 k1 is1 hs1 hf1 r h0
 refine f0 (Az 3 [(0,Cx a0),(1,.clo f1 k1)] [] (Ay 3 (Ao (Me rfl (o_ (Az 2 [(0,Cx a0),(1,.clo f1 k1),(7,iV (a0.length:Int)),(8,iV 0)] [] (By (bb h0 fun r21 e22 h0=>Cs (R:=(fun S=>.inl ()=r21∧S=⟨[],[],[]⟩)) (oY a0 is1) (fun s S=>match s with | p7=>S=⟨[(0,Cx a0),(1,.clo f1 k1),(7,iV (a0.length:Int)),(8,iV p7)],[],[]⟩) e22 _ (Dv (by kernel_rfl)) rfl 0 (fun _=>rfl) ?_ ?_))))))))
 ·rintro S _ hfg ⟨rfl,rfl⟩
  refine Dd _ hfg ?_
  obtain rfl:=sj h0
  exact Cy 4
 ·rintro p7 o1 _ K1 rfl h1 hx1 hK1 hE1 hR1
  refine Az 3 [(0,Cx a0),(1,.clo f1 k1),(7,iV (a0.length:Int)),(8,iV p7),(9,.bool (decide (p7<(a0.length:Int))))] [] (Bm (Co h1 (fun c15 h1=>?_) (fun c15 h1=>?_)))
  ·refine Az 8 [(0,Cx a0),(1,.clo f1 k1),(5,iV p7),(7,iV (a0.length:Int)),(8,iV p7)] [] (Ay 4 (Ao (bb h1 fun y16 e17 h1=>Tc rfl rfl e17 (st (c_ (v:=.agg (Aq y16)) (Ax ⟨tv,tv⟩ rfl (nl rfl)) (bb h1 fun r18 e19 h1=>st (Gb (r:=.bool r18) rfl false (hf1 _ r18 e19) ⟨tv,tv⟩ (Bf rfl hs1.2.2.1) (Bb rfl (hs1.2.1 _ _ _ _ _)) (fun _=>rfl) (o_ (Az 1 [(0,Cx a0),(1,.clo f1 k1),(5,iV p7),(7,iV (a0.length:Int)),(8,iV p7),(16,.bool r18)] [] (Co h1 (fun sV h1=>?_) (fun sV h1=>?_)))))))))))
   ·obtain rfl:=sj h1
    obtain rfl:=hx1 _ rfl
    obtain rfl:=sj h0
    exact cJ 5 hR1
   ·refine Ay 6 ?_
    obtain rfl:=sj h1
    exact kn hK1 rfl rfl
  ·obtain rfl:=sj h1
   obtain rfl:=hx1 _ rfl
   refine Iq rfl ?_
   exact jn hE1 ⟨rfl,rfl⟩

/- slices.ContainsFunc[[]loop.example/g00149/impl.VaultAct,loop.example/g00149/impl.VaultAct] -/
def Aae:=[k_ 4 (.bool false)]
def Aaf:=[m_ 5 0,m_ 6 1,q_ 7 468 [.t 5,.t 6],B_ .geq 8 7 0,m_ 4 8]
def c461:Dj:=⟨2,9,[.t 4],sr Aae (rr Aaf)⟩
def K461 (C:Bi) (D:Bi:=C):Prop:=∀(a0:List Ak) (f1:Nat) (k1:List V) (is1:Ak→Option Bool) (hs1:Ho k1) (hf1:∀(x0:Ak) r,is1 x0=some r→C f1 ⟨.agg (Aq x0)::k1,[]⟩ ⟨.bool r,[],[]⟩) (r:Bool),g461 a0 is1=some r→D 461 ⟨[Cx a0,.clo f1 k1],[]⟩ ⟨.bool r,[],[]⟩
theorem F461 (H468:K468 C):K461 C (FO C c461):=by
 intro a0 f1 k1 is1 hs1 hf1 r h0
 refine f0 (Az 3 [(0,Cx a0),(1,.clo f1 k1)] [] (Ay 3 (Ao (bb h0 fun r1 e2 h0=>st (De (r:=iV r1) false (H468 a0 f1 k1 is1 hs1 hf1 r1 e2) ⟨tv,tv,tv⟩ rfl (Bb rfl (Bb (En hs1) rfl)) (fun _=>rfl) (o_ ?_))))))
 obtain rfl:=sj h0
 exact Cy 4

/- loop.example/g00149/impl.areAll[loop.example/g00149/impl.VaultAct]$1 -/
def Aag:=[X_ 2 0,k_ 3 (.bool false)]
def Aah:List Bv:=[l_ 4 1 1,L_ 5 2 7,⟨some 6,.callv (.t 4) [.t 5],none⟩,N_ 7 6,m_ 3 7]
def c462:Dj:=⟨2,8,[.t 3],sr Aag (rr Aah)⟩
def K462 (C:Bi) (D:Bi:=C):Prop:=∀(a0:Ak) (f1:Nat) (k1:List V) (is1:Ak→Option Bool) (hs1:Ho k1) (hf1:∀(x0:Ak) r,is1 x0=some r→C f1 ⟨.agg (Aq x0)::k1,[]⟩ ⟨.bool r,[],[]⟩) (r:Bool),g462 a0 is1=some r→D 462 ⟨[.agg (Aq a0),.iptr [.clo f1 k1]],[]⟩ ⟨.bool r,[],[]⟩
theorem F462:K462 C (FO C c462):=by
 intro a0 f1 k1 is1 hs1 hf1 r h0
 refine f0 (Az 4 [(1,.iptr [.clo f1 k1]),(2,.ptr 128 0)] [(128,Aq a0)] (Ay 3 (Ao (bb h0 fun r1 e2 h0=>st (Gb (r:=.bool r1) rfl false (hf1 _ r1 e2) ⟨tv,tv⟩ (Bf rfl hs1.2.2.1) (Bb rfl (hs1.2.1 _ _ _ _ _)) (fun _=>rfl) (o_ ?_))))))
 obtain rfl:=sj h0
 exact Cy 4

/- loop.example/g00149/impl.areAll[loop.example/g00149/impl.VaultAct] -/
def ZM:=[X_ 3 1,k_ 4 (.bool false)]
def ZN:=[m_ 5 0,iQ 6 (.fn 462 [.t 3]),q_ 7 461 [.t 5,.t 6],N_ 8 7,m_ 4 8]
def c456:Dj:=⟨2,9,[.t 4],sr ZM (rr ZN)⟩
def K456 (C:Bi) (D:Bi:=C):Prop:=∀(a0:List Ak) (f1:Nat) (k1:List V) (is1:Ak→Option Bool) (hs1:Ho k1) (hf1:∀(x0:Ak) r,is1 x0=some r→C f1 ⟨.agg (Aq x0)::k1,[]⟩ ⟨.bool r,[],[]⟩) (r:Bool),g456 a0 is1=some r→D 456 ⟨[Cx a0,.clo f1 k1],[]⟩ ⟨.bool r,[],[]⟩
theorem F456 (H461:K461 C) (H462:K462 C):K456 C (FO C c456):=by
 intro a0 f1 k1 is1 hs1 hf1 r h0
 refine f0 (Bm (Ao (st (GG (dK hs1) tv rfl (o_ (Az 2 [(0,Cx a0),(3,.ptr 192 0)] [(192,[.clo f1 k1])] (Ay 3 (Ao (bb h0 fun r1 e2 h0=>st (De (r:=.bool r1) false (H461 a0 462 [.iptr [.clo f1 k1]] (fun z462_0=>g462 z462_0 is1) (⟨fun _ _ _ _ _=>rfl,fun _ _ _ _ _=>rfl,rfl,fun _ _ _ n=>by cases n<;>rfl,fun _=>rfl⟩) (fun z462_0 r h=>H462 z462_0 f1 k1 is1 hs1 hf1 r h) r1 e2) ⟨tv,tv,tv⟩ rfl (Bb rfl (Bb (congrArg (fun z=>V.clo 462 [.iptr [.clo f1 z]]) (hs1.2.2.2.1 _ _ _ _)) rfl)) (fun _=>rfl) (o_ ?_)))))))))))
 obtain rfl:=sj h0
 exact Cy 4

/- loop.example/g00149/impl.isList[int] -/
def c87_r0:=[k_ 2 (.bool false)]
def c87_r1:=[m_ 3 0,n_ 4 3,B_ .leq 5 4 4096,m_ 2 5]
def c87:Dj:=⟨1,6,[.t 2],sr c87_r0 (rr c87_r1)⟩
def K87 (D:Bi):Prop:=∀a0 r,g87 a0=some r→D 87 ⟨[lI a0],[]⟩ ⟨.bool r,[],[]⟩
theorem F87:K87 (FO C c87):=by
 intro a0 r h0
 refine f0 (Az 3 [(0,lI a0)] [] (Bm (Ao (st (Ca rfl tv (Me rfl (o_ ?_)))))))
 obtain rfl:=sj h0
 exact Cy 4

/- loop.example/g00149/impl.isFate -/
def c88_r0:=[k_ 2 (.bool false)]
def c88_r1:=[m_ 3 0,q_ 4 63 [.t 3,.c (iV 0),.c (iV 2)],m_ 2 4]
def c88:Dj:=⟨1,5,[.t 2],sr c88_r0 (rr c88_r1)⟩
def K88 (D:Bi):Prop:=∀a0 r,g88 a0=some r→D 88 ⟨[iV a0],[]⟩ ⟨.bool r,[],[]⟩
theorem F88 (H63:K63 C):K88 (FO C c88):=by
 intro a0 r h0
 refine f0 (Az 3 [(0,iV a0)] [] (Bm (Ao (st (Ca rfl tv (bb h0 fun r1 e2 h0=>Om (H63 a0 0 2 r1 e2) (o_ ?_)))))))
 obtain rfl:=sj h0
 exact Cy 3

/- loop.example/g00149/impl.isAct -/
def ZO:=[X_ 1 0,k_ 2 (.bool false)]
def ZP:List Bv:=[f_ 3 1 5,l_ 4 3 1,q_ 5 87 [.t 4],m_ 6 5,fT 6 7 1 5,lT 6 8 7 1 false,⟨some 9,.call 97 [.t 8,.c (.clo 88 [])],some (6,true)⟩,pa 10 6 9,m_ 11 10,fT 11 12 1 6,lT 11 13 12 1 false,⟨some 14,.call 63 [.t 13,.c (iV 0),.c (iV 2)],some (11,true)⟩,pa 15 11 14,m_ 2 15]
def c457:Dj:=⟨1,16,[.t 2],sr ZO (rr ZP)⟩
def FZ (D:Bi):Prop:=∀a0 r,mJ a0=some r→D 457 ⟨[.agg (Aq a0)],[]⟩ ⟨.bool r,[],[]⟩
theorem F457 (H63:K63 C) (H87:K87 C) (H88:K88 C) (H97:K97 C):FZ (FO C c457):=by
 intro a0 r h0
 refine f0 (Az 4 [(1,.ptr 64 0)] [(64,Aq a0)] (Ay 3 (Ao (bb h0 fun r1 e2 h0=>Om (H87 a0.Ce r1 e2) (st (Ca rfl tv (st (Bn (u:=.ptr 64 5) rfl (fun hg=>(Ax ⟨tv,tv⟩ rfl tv)) (st (Bn (u:=lI a0.Ce) rfl (fun hg=>(Ax ⟨(fun _=>hg),tv⟩ rfl (nl rfl))) (bb h0 fun r3 e4 h0=>st (Dy (r:=.bool r3) rfl false (fun hg=>H97 a0.Ce 88 [] (fun z88_0=>g88 z88_0) (⟨fun _ _ _ _ _=>rfl,fun _ _ _ _ _=>rfl,rfl,fun _ _ _ n=>by cases n<;>rfl,fun _=>rfl⟩) (fun z88_0 r h=>H88 z88_0 r h) r3 (ip hg e4)) ⟨(fun hg=>hg),tv,tv⟩ (fun _=>rfl) (fun _=>rfl) (fun _=>rfl) (fun h=>nomatch h) (st (Cu rfl rfl rfl (fun h=>Qm h) tv rfl (st (Ca rfl tv (st (Bn (u:=.ptr 64 6) rfl (fun hg=>(Ax ⟨tv,tv⟩ rfl tv)) (st (Bn (u:=iV a0.stop) rfl (fun hg=>(Ax ⟨(fun _=>hg),tv⟩ rfl (nl rfl))) (bb h0 fun r5 e6 h0=>st (Dy (r:=.bool r5) rfl false (fun hg=>H63 a0.stop 0 2 r5 (ip hg e6)) ⟨(fun hg=>hg),tv,tv,tv⟩ (fun _=>rfl) (fun _=>rfl) (fun _=>rfl) (fun h=>nomatch h) (st (Cu rfl rfl rfl (fun h=>Qm h) tv rfl (o_ ?_)))))))))))))))))))))))))
 obtain rfl:=sj h0
 exact Cy 3

/- loop.example/g00149/impl.emptyVault -/
def ZQ:=[a_ 0 (zV 3 4 5)]
def ZR:List Bv:=[⟨some 1,.p (.build (zT 67) [(1,1,.c (iV 1))]),none⟩,⟨some 2,.p (.build (zV 131 132 133) [(0,3,.t 1)]),none⟩,s_ 0 2 6]
def c458:Dj:=⟨0,3,[.cell 0 6 true],sr ZQ (rr ZR)⟩
def K458 (D:Bi):Prop:=∀r,g458  = some r→D 458 ⟨[],[]⟩ ⟨.agg (Au r (An 0) (An 1) (An 2)),[],[]⟩
theorem F458:K458 (FO C c458):=by
 intro r h0
 refine f0 (Az 3 [(0,.ptr 0 0)] [(0,At 0 0 (An 3) [] (An 4) [] (An 5) [] false)] (Bm (Ao (st (c_ (v:=.agg (Bo 0 1 (An 67) [])) (Ax ⟨tv,tv⟩ rfl ⟨⟨rfl,rfl,nl rfl⟩,tv⟩) (st (c_ (v:=.agg (At 0 1 (An 67) [] (An 132) [] (An 133) [] false)) (Ax ⟨tv,tv⟩ rfl ⟨⟨rfl,rfl,nl rfl⟩,tv⟩) (o_ ?_))))))))
 obtain rfl:=sj h0
 exact Cy 3

/- slices.Clone[[]loop.example/g00149/impl.Lease,loop.example/g00149/impl.Lease] -/
def c66_r0:List Bv:=[⟨some 2,.nilS 4,none⟩]
def c66_r1:List Bv:=[m_ 3 0,⟨some 4,.isnil (.t 3) false,none⟩]
def c66_r2:List Bv:=[⟨some 2,.nilS 4,none⟩]
def c66_r3:List Bv:=[⟨some 5,.mkS 4 [iV 0,iV 0,iV 0,.bool false] 0 [],none⟩,m_ 6 0,⟨some 7,.app 4 32 (.t 5) (.t 6),none⟩,m_ 2 7]
def c66:Dj:=⟨1,8,[.t 2],sr c66_r0 (.seq (sr c66_r1 (iz 4 (rr c66_r2))) (rr c66_r3))⟩
def K66 (D:Bi):Prop:=∀a0 r,g66 a0=some r→D 66 ⟨[Cg a0],[]⟩ ⟨Af 0 r,[],[]⟩
theorem F66:K66 (FO C c66):=by
 intro a0 r h0
 refine f0 ?_
 obtain ⟨hc,h0⟩:=grd h0
 obtain rfl:=sj h0
 refine Az 3 [(0,Cg a0)] [] (Ay 3 (Ao (st (mS (e:=Ac) (l0:=a0) rfl fun b hb=>(Gr (cY (Vw (cb:=b) rfl (fun h=>?_) (fun h=>?_))))))))
 ·obtain rfl:=hb h
  refine Bm (Ao (st (eG (Gr (cY ?_)))))
  refine Lf (Eg rfl rfl rfl rfl rfl tv)
 ·refine Js ?_
  refine Az 0 [(0,Cg a0)] [] (Ay 3 (Ao (st (Je (e:=Ac) (l0:=([]:List Aa)) (l1:=a0) rfl rfl tv rfl (by decide) ?_ ?_))))
  rotate_left
  refine st (Ca rfl tv (Gr (cY ?_)))
  refine Lf (Eg rfl rfl rfl rfl rfl tv)
  have:=Nat.mul_le_mul_right 32 hc
  exact Nat.le_trans this (by decide)

/- (loop.example/g00149/impl.Table).own -/
def JG:=[X_ 1 0,a_ 2 (zT 131)]
def JH:=[f_ 3 1 2,l_ 4 3 1,q_ 5 66 [.t 4],f_ 6 1 2,s_ 6 5 1]
def JI:=[L_ 7 1 3,s_ 2 7 3]
def iK:Dj:=⟨1,8,[.cell 2 3 true],sr JG (sr JH (rr JI))⟩
def iD (D:Bi):Prop:=∀a0 r,fI a0=some r→D 112 ⟨[.agg (Ba a0)],[]⟩ ⟨.agg (Cn r (An 0)),[],[]⟩
theorem F112 (H66:K66 C):iD (FO C iK):=by
 intro a0 r h0
 refine f0 (Az 4 [(1,.ptr 64 0),(2,.ptr 128 0)] [(64,Ba a0),(128,Bo 0 0 (An 131) [])] (Ay 3 (Ao (bb h0 fun r1 e2 h0=>Ti (H66 a0.Ae r1 e2) (af rfl) (o_ ?_)))))
 obtain rfl:=sj h0
 exact Cy 9

/- (loop.example/g00149/impl.Table).revoke -/
def c75_r0:=[X_ 2 0,a_ 4 (zT 259),i_ 5 0]
def c75_r1:=[L_ 10 2 3,m_ 11 1,q_ 12 77 [.t 10,.t 11],m_ 9 12,e_ 13 9 0,e_ 14 9 1,m_ 6 13,m_ 7 14]
def c75_r2:=[m_ 15 7,N_ 16 15]
def c75_r3:=[iQ 17 (.build (zT 1091) []),s_ 4 17 3,i_ 5 5]
def c75_r4:=[L_ 18 2 3,q_ 19 112 [.t 18],a_ 8 (zT 515),s_ 8 19 3]
def c75_r5:List Bv:=[f_ 20 8 2,l_ 21 20 1,m_ 22 6,x_ 23 21 22 4,f_ 24 23 3,⟨none,.store (.t 24) (.c (.bool true)) 1,none⟩]
def c75_r6:=[L_ 25 8 3,s_ 4 25 3,i_ 5 0]
def c75:Dj:=⟨2,26,[.cell 4 3 true,.t 5],sr c75_r0 (sr c75_r1 (.seq (sr c75_r2 (iz 16 (rr c75_r3))) (sr c75_r4 (sr c75_r5 (rr c75_r6)))))⟩
def K75 (D:Bi):Prop:=∀a0 a1 r,g75 a0 a1=some r→D 75 ⟨[.agg (Ba a0),iV a1],[]⟩ ⟨.tup [.agg (Cn r.1 (An 0)),iV r.2],[],[]⟩
theorem F75 (H77:K77 C) (H112:iD C):K75 (FO C c75):=by
 intro a0 a1 r h0
 refine f0 (Az 5 [(1,iV a1),(2,.ptr 128 0),(4,.ptr 256 0)] [(128,Ba a0),(256,Bo 0 0 (An 259) [])] (Ay 3 (Ao (bb h0 fun r1 e2 h0=>Om (H77 a0 a1 r1 e2) (o_ (Az 12 [(2,.ptr 128 0),(4,.ptr 256 0),(6,iV r1.1),(16,.bool (!r1.2))] [(128,Ba a0),(256,Bo 0 0 (An 259) [])] (Co h0 (fun c3 h0=>?_) (fun c3 h0=>?_))))))))
 ·obtain rfl:=sj h0
  exact Cy 6
 ·refine Ay 4 (Ao (bb h0 fun r4 e5 h0=>Ti (H112 a0 r4 e5) (ar (Bf rfl (af rfl))) (o_ (Az 3 [(4,.ptr 256 0),(6,iV r1.1),(8,.ptr 512 0)] [(256,Bo 0 0 (An 259) []),(512,Cn r4 (An 1216))] (Ay 4 (Ao (bb h0 fun y6 e7 h0=>kV rfl rfl e7 (st (c_ (Ax ⟨tv,tv⟩ rfl tv) (bb h0 fun y8 e9 h0=>so_ (Aa.mk y8.id y8.Bl y8.cap true) rfl rfl e9 (o_ ?_)))))))))))
  obtain rfl:=sj h0
  exact Cy 8

/- loop.example/g00149/impl.later -/
def c54_r0:=[i_ 4 0]
def c54_r1:List Bv:=[m_ 5 0,m_ 6 1,⟨some 7,.p (.bin .sub (.c (iV 9223372036854775807)) (.t 6)),none⟩,b_ .gtr 8 5 7]
def c54_r2:=[i_ 4 9223372036854775807]
def c54_r3:=[m_ 9 0,m_ 10 1,b_ .add 11 9 10,m_ 4 11]
def c54:Dj:=⟨2,12,[.t 4],sr c54_r0 (.seq (sr c54_r1 (iz 8 (rr c54_r2))) (rr c54_r3))⟩
def K54 (D:Bi):Prop:=∀a0 a1 r,g54 a0 a1=some r→D 54 ⟨[iV a0,iV a1],[]⟩ ⟨iV r,[],[]⟩
theorem F54:K54 (FO C c54):=by
 intro a0 a1 r h0
 refine f0 (Az 11 [(0,iV a0),(1,iV a1),(8,.bool (decide (a0>(wi (9223372036854775807-a1)))))] [] (Co h0 (fun c1 h0=>?_) (fun c1 h0=>?_)))
 ·obtain rfl:=sj h0
  exact Cy 4
 ·obtain rfl:=sj h0
  exact Cy 9

/- (loop.example/g00149/impl.Table).renew -/
def c80_r0:=[X_ 3 0,a_ 6 (zT 387),i_ 7 0]
def c80_r1:=[L_ 12 3 3,m_ 13 1,q_ 14 77 [.t 12,.t 13],m_ 11 14,e_ 15 11 0,e_ 16 11 1,m_ 8 15,m_ 9 16]
def c80_r2:=[m_ 18 2,B_ .lss 19 18 1,m_ 17 19]
def c80_r3:=[iQ 20 (.build (zT 1283) []),s_ 6 20 3,i_ 7 4]
def c80_r4:=[m_ 22 9,N_ 23 22,m_ 21 23]
def c80_r5:=[iQ 24 (.build (zT 1539) []),s_ 6 24 3,i_ 7 5]
def c80_r6:=[f_ 26 3 2,l_ 27 26 1,m_ 28 8,x_ 29 27 28 4,f_ 30 29 3,l_ 31 30 1,m_ 25 31]
def c80_r7:=[iQ 32 (.build (zT 2051) []),s_ 6 32 3,i_ 7 13]
def c80_r8:=[L_ 33 3 3,q_ 34 112 [.t 33],a_ 10 (zT 643),s_ 10 34 3]
def c80_r9:=tk [f_ 35 10 2,l_ 36 35 1,m_ 37 8,f_ 38 3 0,l_ 39 38 1,m_ 40 2,f_ 42 10 2,l_ 43 42 1,m_ 44 8,x_ 45 43 44 4,f_ 46 45 2,l_ 47 46 1] (.alt [l_ 47 46 1,f_ 46 45 2,x_ 45 43 44 4,m_ 44 8,l_ 43 42 1,f_ 42 10 2,m_ 37 8,l_ 36 35 1,f_ 35 10 2] (q_ 41 54 [.t 39,.t 40]) (tk [iQ 48 (.mn (.t 41) (.t 47)),x_ 49 36 37 4,f_ 50 49 1] (.alt [] (s_ 50 48 1) .fin .stop)) .stop)
def AbS:=[L_ 51 10 3,s_ 6 51 3,i_ 7 0]
def c80:Dj:=⟨3,52,[.cell 6 3 true,.t 7],sr c80_r0 (sr c80_r1 (.seq (.block 0 (sr c80_r2 (.ite (.t 17) (rr c80_r3) (sr c80_r4 (.ite (.t 21) (rr c80_r5) (sr c80_r6 (iz 25 (rr c80_r7)))))))) (sr c80_r8 (sd c80_r9 (rr AbS)))))⟩
def K80 (D:Bi):Prop:=∀a0 a1 a2 r,g80 a0 a1 a2=some r→D 80 ⟨[.agg (Ba a0),iV a1,iV a2],[]⟩ ⟨.tup [.agg (Cn r.1 (An 0)),iV r.2],[],[]⟩
abbrev jV:=fun x0 (r:List (Nat×List V))=>(192,Ba x0)::(384,Bo 0 0 (An 387) [])::r
abbrev jW:=fun x0 (r:List (Nat×V))=>(2,iV x0)::(3,.ptr 192 0)::(6,.ptr 384 0)::r
theorem F80 (H54:K54 C) (H77:K77 C) (H112:iD C):K80 (FO C c80):=by
 intro a0 a1 a2 r h0
 refine f0 (Az 5 (jW a2 [(1,iV a1)]) (jV a0 []) (Ay 3 (Ao (bb h0 fun r1 e2 h0=>Om (H77 a0 a1 r1 e2) (o_ (Az 14 (jW a2 [(8,iV r1.1),(9,.bool r1.2),(17,.bool (decide (a2<1)))]) (jV a0 []) (Co h0 (fun c3 h0=>?_) (fun c3 h0=>?_))))))))
 ·obtain rfl:=sj h0
  exact Cy 6
 ·refine Az 5 (jW a2 [(8,iV r1.1),(21,.bool (!r1.2))]) (jV a0 []) (Co h0 (fun c4 h0=>?_) (fun c4 h0=>?_))
  ·obtain rfl:=sj h0
   exact Cy 6
  ·refine Ay 4 (Ao (bb h0 fun y5 e6 h0=>Tc rfl rfl e6 (o_ (Az 4 (jW a2 [(8,iV r1.1),(25,.bool y5.Ck)]) (jV a0 []) (Co h0 (fun c7 h0=>?_) (fun c7 h0=>?_))))))
   ·obtain rfl:=sj h0
    exact Cy 6
   ·refine Ay 5 (Ao (bb h0 fun r8 e9 h0=>Ti (H112 a0 r8 e9) (ar (Bf rfl (af rfl))) (o_ (Az 3 (jW a2 [(8,iV r1.1),(10,.ptr 640 0)]) (jV a0 [(640,Cn r8 (An 2176))]) (Bm (bb h0 fun y10 e11 h0=>bb h0 fun y12 e13 h0=>bb h0 fun r14 e15 h0=>Ay 9 (Bg (d_ (Xe rfl rfl rfl e11 (Bg (Ag tv (c_ (Ax ⟨tv,tv⟩ rfl tv) (⟨tv,Cb (c_ (Mx rfl rfl e13) (⟨⟨Ct rfl rfl e13 rfl,tv⟩,Bq (De (r:=iV r14) false (H54 a0.clock a2 r14 e15) ⟨tv,tv,tv⟩ rfl rfl (fun _=>rfl) (iZ ⟨[(6,.ptr 384 0),(8,iV r1.1),(10,.ptr 640 0),(35,.ptr 640 2),(36,Af 2176 r8.Ae),(37,iV r1.1),(41,iV r14),(42,.ptr 640 2),(43,Af 2176 r8.Ae),(44,iV r1.1),(45,.optr 2176 4 (0+r1.1.toNat) 0),(46,.optr 2176 4 (0+r1.1.toNat) 2),(47,iV y12.cap)],[(384,Bo 0 0 (An 387) []),(640,Cn r8 (An 2176))],[]⟩ (Dv (by kernel_rfl)) ⟨[iQ 47 (.load (.t 46) 1 false)],⟨⟨.inr (.head _),Ct rfl rfl e13 rfl⟩,⟨.inl tv,Bd (Ax ⟨tv,tv⟩ rfl tv) rfl⟩,⟨.inl tv,Bd (Ja rfl rfl e11) rfl⟩,⟨.inl tv,Bd (Dg (v:=iV r1.1) rfl tv) rfl⟩,⟨.inl tv,Bd (Ax ⟨tv,tv⟩ rfl (nl rfl)) rfl⟩,⟨.inl tv,Bd (Ax ⟨tv,tv⟩ rfl tv) rfl⟩,⟨.inl tv,Bd (Dg (v:=iV r1.1) rfl tv) rfl⟩,⟨.inl tv,Bd (Ax ⟨tv,tv⟩ rfl (nl rfl)) rfl⟩,⟨.inl tv,Bd (Ax ⟨tv,tv⟩ rfl tv) rfl⟩,tv⟩,⟨Ct rfl rfl e13 rfl,tv⟩,Ag tv (c_ (Ax ⟨tv,tv,tv⟩ rfl rfl) (⟨⟨Ct rfl rfl e13 rfl,tv⟩,Ag tv (c_ (Ja rfl rfl e11) (⟨⟨Ct rfl rfl e13 rfl,tv⟩,?_⟩))⟩))⟩)) Aw⟩))⟩)))))))))))))
    refine Ag tv (c_ (Ax ⟨tv,tv⟩ rfl tv) (⟨⟨Ct rfl rfl e13 rfl,tv⟩,Bq (Hk (y':=(Aa.mk y12.id (if y12.cap<r14 then y12.cap else r14) y12.cap y12.Ck)) rfl rfl tv rfl rfl rfl rfl e13 (nl rfl) rfl rfl rfl rfl (d0 tv (Hb (Dd ⟨[(6,.ptr 384 0),(10,.ptr 640 0)],[(384,Bo 0 0 (An 387) []),(640,Bo r8.clock r8.next (An 2176) (r8.Ae.set r1.1.toNat (Aa.mk y12.id (if y12.cap<r14 then y12.cap else r14) y12.cap y12.Ck)))],[]⟩ (fg ⟨rfl,rfl,tv⟩ ⟨rfl,congrArg (fun z=>some (([iV r8.clock,iV r8.next,.own 2176 0 4 z]:List V))) Be,tv⟩) (Ay 5 (bv h0 fun v16 e17 h0=>Dd ⟨[(6,.ptr 384 0),(7,iV 0)],[(384,Bo r8.clock r8.next (An 2176) v16)],[]⟩ (Dv (by subst e17; kernel_rfl)) ?_)))))) Aw⟩))
    obtain rfl:=sj h0
    exact Lf (Eg rfl rfl rfl rfl rfl tv)

/- slices.Clone[[]int,int] -/
def KT:List Bv:=[⟨some 2,.nilS 1,none⟩]
def KU:List Bv:=[m_ 3 0,⟨some 4,.isnil (.t 3) false,none⟩]
def KV:List Bv:=[⟨some 2,.nilS 1,none⟩]
def KW:List Bv:=[⟨some 5,.mkS 1 [iV 0] 0 [],none⟩,m_ 6 0,⟨some 7,.app 1 8 (.t 5) (.t 6),none⟩,m_ 2 7]
def KS:Dj:=⟨1,8,[.t 2],sr KT (.seq (sr KU (iz 4 (rr KV))) (rr KW))⟩
def FT (D:Bi):Prop:=∀a0 r,lQ a0=some r→D 120 ⟨[lI a0],[]⟩ ⟨oI 0 r,[],[]⟩
theorem F120:FT (FO C KS):=by
 intro a0 r h0
 refine f0 ?_
 obtain ⟨hc,h0⟩:=grd h0
 obtain rfl:=sj h0
 refine Az 3 [(0,lI a0)] [] (Ay 3 (Ao (st (mS (e:=eI) (l0:=a0) rfl fun b hb=>(Gr (cY (Vw (cb:=b) rfl (fun h=>?_) (fun h=>?_))))))))
 ·obtain rfl:=hb h
  refine Bm (Ao (st (eG (Gr (cY ?_)))))
  refine Lf (Eg rfl rfl rfl rfl rfl tv)
 ·refine Js ?_
  refine Az 0 [(0,lI a0)] [] (Ay 3 (Ao (st (Je (e:=eI) (l0:=([]:List Int)) (l1:=a0) rfl rfl tv rfl (by decide) ?_ ?_))))
  rotate_left
  refine st (Ca rfl tv (Gr (cY ?_)))
  refine Lf (Eg rfl rfl rfl rfl rfl tv)
  have:=Nat.mul_le_mul_right 8 hc
  exact Nat.le_trans this (by decide)

/- slices.Clone[[]loop.example/g00149/impl.Intent,loop.example/g00149/impl.Intent] -/
def AaW:List Bv:=[⟨some 2,.nilS 2,none⟩]
def AaX:List Bv:=[m_ 3 0,⟨some 4,.isnil (.t 3) false,none⟩]
def AaY:List Bv:=[⟨some 2,.nilS 2,none⟩]
def AaZ:List Bv:=[⟨some 5,.mkS 2 [iV 0,.bool false] 0 [],none⟩,m_ 6 0,⟨some 7,.app 2 16 (.t 5) (.t 6),none⟩,m_ 2 7]
def c469:Dj:=⟨1,8,[.t 2],sr AaW (.seq (sr AaX (iz 4 (rr AaY))) (rr AaZ))⟩
def GB (D:Bi):Prop:=∀a0 r,mK a0=some r→D 469 ⟨[Cj a0],[]⟩ ⟨Bx 0 r,[],[]⟩
theorem F469:GB (FO C c469):=by
 intro a0 r h0
 refine f0 ?_
 obtain ⟨hc,h0⟩:=grd h0
 obtain rfl:=sj h0
 refine Az 3 [(0,Cj a0)] [] (Ay 3 (Ao (st (mS (e:=Bw) (l0:=a0) rfl fun b hb=>(Gr (cY (Vw (cb:=b) rfl (fun h=>?_) (fun h=>?_))))))))
 ·obtain rfl:=hb h
  refine Bm (Ao (st (eG (Gr (cY ?_)))))
  refine Lf (Eg rfl rfl rfl rfl rfl tv)
 ·refine Js ?_
  refine Az 0 [(0,Cj a0)] [] (Ay 3 (Ao (st (Je (e:=Bw) (l0:=([]:List Ai)) (l1:=a0) rfl rfl tv rfl (by decide) ?_ ?_))))
  rotate_left
  refine st (Ca rfl tv (Gr (cY ?_)))
  refine Lf (Eg rfl rfl rfl rfl rfl tv)
  have:=Nat.mul_le_mul_right 16 hc
  exact Nat.le_trans this (by decide)

/- (loop.example/g00149/impl.Vault).own -/
def Aai:=[X_ 1 0,a_ 2 (zV 131 132 133)]
def Aaj:=tk [f_ 3 1 0,L_ 4 3 3,f_ 6 1 3,l_ 7 6 1,f_ 9 1 4,l_ 10 9 1,f_ 12 1 5,l_ 13 12 1] (.alt [l_ 13 12 1,f_ 12 1 5,l_ 10 9 1,f_ 9 1 4,l_ 7 6 1,f_ 6 1 3] (q_ 5 112 [.t 4]) (.alt [l_ 13 12 1,f_ 12 1 5,l_ 10 9 1,f_ 9 1 4] (q_ 8 469 [.t 7]) (.alt [l_ 13 12 1,f_ 12 1 5] (q_ 11 120 [.t 10]) (tk [⟨some 14,.p (.build (zV 899 900 901) [(0,3,.t 5),(3,1,.t 8),(4,1,.t 11),(5,1,.t 13)]),none⟩] (.alt [] (s_ 2 14 6) .fin .stop)) .stop) .stop) .stop)
def c463:Dj:=⟨1,15,[.cell 2 6 true],sr Aai (sd Aaj .ret)⟩
def K463 (D:Bi):Prop:=∀a0 r,g463 a0=some r→D 463 ⟨[.agg (Bc a0)],[]⟩ ⟨.agg (Au r (An 0) (An 1) (An 2)),[],[]⟩
theorem F463 (H112:iD C) (H120:FT C) (H469:GB C):K463 (FO C c463):=by
 intro a0 r h0
 refine f0 (Az 4 [(1,.ptr 64 0),(2,.ptr 128 0)] [(64,Bc a0),(128,At 0 0 (An 131) [] (An 132) [] (An 133) [] false)] (Bm (bb h0 fun r1 e2 h0=>bb h0 fun r3 e4 h0=>bb h0 fun r5 e6 h0=>Ay 8 (Bg (Rq (H112 a0.Ad r1 e2) (ar (Bf rfl (af rfl))) (dw [(1,.ptr 64 0),(2,.ptr 128 0),(5,.agg (Cn r1 (An 320))),(6,.ptr 64 3),(7,Cj a0.Ab),(9,.ptr 64 4),(10,lI a0.Ah),(12,.ptr 64 5),(13,.bool a0.Am)] [(64,Bc a0),(128,At 0 0 (An 131) [] (An 132) [] (An 133) [] false)] hB (Rq (H469 a0.Ab r3 e4) (af rfl) (dw [(1,.ptr 64 0),(2,.ptr 128 0),(5,.agg (Cn r1 (An 320))),(8,Bx 512 r3),(9,.ptr 64 4),(10,lI a0.Ah),(12,.ptr 64 5),(13,.bool a0.Am)] [(64,Bc a0),(128,At 0 0 (An 131) [] (An 132) [] (An 133) [] false)] hB (Rq (H120 a0.Ah r5 e6) (af rfl) (dw [(1,.ptr 64 0),(2,.ptr 128 0),(5,.agg (Cn r1 (An 320))),(8,Bx 512 r3),(11,oI 704 r5),(12,.ptr 64 5),(13,.bool a0.Am)] [(64,Bc a0),(128,At 0 0 (An 131) [] (An 132) [] (An 133) [] false)] hB (Ag tv (c_ (v:=.agg (At r1.clock r1.next (An 320) r1.Ae (An 512) r3 (An 704) r5 a0.Am)) (Ax ⟨tv,tv,tv,tv,tv⟩ rfl ⟨⟨rfl,rfl,nl rfl⟩,⟨rfl,rfl,nl rfl⟩,⟨rfl,rfl,nl rfl⟩,⟨rfl,rfl,nl rfl⟩,tv⟩) (⟨tv,Bq (Ei rfl rfl tv rfl rfl rfl (nl rfl) (d0 tv (d_ (Az 1 [(2,.ptr 128 0)] [(128,At r1.clock r1.next (An 320) r1.Ae (An 512) r3 (An 704) r5 a0.Am)] ?_)))) Aw⟩)))) Aw)) Aw)) Aw)))))
 obtain rfl:=sj h0
 exact Lf (Eg rfl rfl rfl rfl rfl tv)

/- (loop.example/g00149/impl.Vault).refused -/
def Aak:=[X_ 2 0,a_ 4 (zV 259 260 261),a_ 5 [iV 0,iV 0]]
def Aal:List Bv:=[L_ 6 2 6,m_ 7 1,⟨some 8,.p (.build [iV 0,iV 0] [(0,1,.t 7)]),none⟩,s_ 4 6 6,s_ 5 8 2]
def c464:Dj:=⟨2,9,[.cell 4 6 true,.cell 5 2 true],sr Aak (rr Aal)⟩
def sZ (D:Bi):Prop:=∀a0 a1 r,cO a0 a1=some r→D 464 ⟨[.agg (Au a0 (An 1024000) (An 1024001) (An 1024002)),iV a1],[]⟩ ⟨.tup [.agg (Au r.1 (An 0) (An 1) (An 2)),.agg (Ap r.2)],[],[]⟩
theorem F464:sZ (FO C c464):=by
 intro a0 a1 r h0
 refine f0 (Az 5 [(1,iV a1),(2,.ptr 128 0),(4,.ptr 256 0),(5,.ptr 320 0)] [(128,Au a0 (An 1024000) (An 1024001) (An 1024002)),(256,At 0 0 (An 259) [] (An 260) [] (An 261) [] false),(320,[iV 0,iV 0])] (Ay 3 (Ao (st (c_ (v:=.agg [iV a1,iV 0]) (Ax ⟨tv,tv⟩ rfl ⟨⟨rfl,rfl,nl rfl⟩,tv⟩) (o_ ?_))))))
 obtain rfl:=sj h0
 exact Cy 4

/- (loop.example/g00149/impl.Table).grant -/
def c71_r0:=[X_ 3 0,a_ 6 (zT 387),i_ 7 0,i_ 8 0]
def c71_r1:=[m_ 11 1,B_ .lss 12 11 1,m_ 13 12,mF 13 14 2,mF 13 15 1,pF 13 16 (.bin .lss (.t 14) (.t 15)),po 17 13 16,m_ 10 17]
def c71_r2:=[iQ 18 (.build (zT 1155) []),s_ 6 18 3,i_ 7 0,i_ 8 4]
def c71_r3:=[f_ 20 3 0,l_ 21 20 1,B_ .eql 22 21 9223372036854775807,m_ 19 22]
def c71_r4:=[iQ 23 (.build (zT 1475) []),s_ 6 23 3,i_ 7 0,i_ 8 11]
def c71_r5:=[f_ 25 3 2,l_ 26 25 1,n_ 27 26,B_ .eql 28 27 40,m_ 29 28,fF 29 30 3 1,lF 29 31 30 1 false,pF 29 32 (.bin .eql (.t 31) (.c (iV 1000000))),po 33 29 32,m_ 24 33]
def c71_r6:=[iQ 34 (.build (zT 2179) []),s_ 6 34 3,i_ 7 0,i_ 8 9]
def c71_r7:=[L_ 35 3 3,q_ 36 112 [.t 35],a_ 9 (zT 579),s_ 9 36 3]
def c71_r8:=tk [f_ 37 9 2,l_ 38 37 1,f_ 39 3 1,l_ 40 39 1,f_ 41 3 0,l_ 42 41 1,m_ 43 1,f_ 45 3 0,l_ 46 45 1,m_ 47 2] (.alt [m_ 47 2,l_ 46 45 1,f_ 45 3 0,l_ 40 39 1,f_ 39 3 1,l_ 38 37 1,f_ 37 9 2] (q_ 44 54 [.t 42,.t 43]) (.alt [l_ 40 39 1,f_ 39 3 1,l_ 38 37 1,f_ 37 9 2] (q_ 48 54 [.t 46,.t 47]) (tk [⟨some 49,.p (.build [iV 0,iV 0,iV 0,.bool false] [(0,1,.t 40),(1,1,.t 44),(2,1,.t 48)]),none⟩] (.alt [l_ 38 37 1,f_ 37 9 2] ⟨some 50,.mkS 4 [iV 0,iV 0,iV 0,.bool false] 1 [(0,.t 49)],none⟩ (.alt [] ⟨some 51,.app 4 32 (.t 38) (.t 50),none⟩ (tk [f_ 52 9 2] (.alt [] (s_ 52 51 1) .fin .stop)) .stop) .stop)) .stop) .stop)
def c71_r9:=[f_ 53 9 1,l_ 54 53 1,B_ .add 55 54 1,f_ 56 9 1,s_ 56 55 1]
def AbQ:=tk [L_ 57 9 3,f_ 58 3 1,l_ 59 58 1] (.alt [l_ 59 58 1,f_ 58 3 1] (s_ 6 57 3) (tk [m_ 7 59,i_ 8 0] .fin) .stop)
def c71:Dj:=⟨3,60,[.cell 6 3 true,.t 7,.t 8],sr c71_r0 (.seq (.block 0 (sr c71_r1 (.ite (.t 10) (rr c71_r2) (sr c71_r3 (.ite (.t 19) (rr c71_r4) (sr c71_r5 (iz 24 (rr c71_r6)))))))) (sr c71_r7 (sd c71_r8 (sr c71_r9 (sd AbQ .ret)))))⟩
def K71 (D:Bi):Prop:=∀a0 a1 a2 r,g71 a0 a1 a2=some r→D 71 ⟨[.agg (Ba a0),iV a1,iV a2],[]⟩ ⟨.tup [.agg (Cn r.1 (An 0)),iV r.2.1,iV r.2.2],[],[]⟩
abbrev jS:=fun x0 (r:List (Nat×List V))=>(192,Ba x0)::(384,Bo 0 0 (An 387) [])::r
abbrev pN:=fun x0 x1 (r:List (Nat×V))=>(1,iV x0)::(2,iV x1)::(3,.ptr 192 0)::(6,.ptr 384 0)::r
theorem F71 (H54:K54 C) (H112:iD C):K71 (FO C c71):=by
 intro a0 a1 a2 r h0
 refine f0 (rO 19 (pN a1 a2 [(10,.bool (bif (decide (a1<1)) then true else (decide (a2<a1))))]) (jS a0 []) (Co h0 (fun c1 h0=>?_) (fun c1 h0=>?_)))
 ·obtain rfl:=sj h0
  exact Cy 7
 ·refine Az 6 (pN a1 a2 [(19,.bool (a0.clock==9223372036854775807))]) (jS a0 []) (Co h0 (fun c2 h0=>?_) (fun c2 h0=>?_))
  ·obtain rfl:=sj h0
   exact Cy 7
  ·refine Ay 3 (Ao (Me rfl (o_ (cH 8 (bv h0 fun v3 e4 h0=>Dd ⟨pN a1 a2 [(24,.bool v3)],jS a0 [],[]⟩ (Dv (by subst e4; kernel_rfl)) (Co h0 (fun c5 h0=>?_) (fun c5 h0=>?_)))))))
   ·obtain rfl:=sj h0
    exact Cy 7
   ·refine Ay 5 (Ao (bb h0 fun r6 e7 h0=>Ti (H112 a0 r6 e7) (ar (Bf rfl (af rfl))) (o_ (Az 3 (pN a1 a2 [(9,.ptr 576 0)]) (jS a0 [(576,Cn r6 (An 2304))]) (Bm (bb h0 fun r8 e9 h0=>bb h0 fun r10 e11 h0=>gg h0 fun c12 h0=>Ay 10 (Bg (Rq (H54 a0.clock a1 r8 e9) rfl (dw [(2,iV a2),(3,.ptr 192 0),(6,.ptr 384 0),(9,.ptr 576 0),(37,.ptr 576 2),(38,Af 2304 r6.Ae),(39,.ptr 192 1),(40,iV a0.next),(44,iV r8),(45,.ptr 192 0),(46,iV a0.clock),(47,iV a2)] [(192,Ba a0),(384,Bo 0 0 (An 387) []),(576,Cn r6 (An 2304))] hB (Rq (H54 a0.clock a2 r10 e11) rfl (dw [(3,.ptr 192 0),(6,.ptr 384 0),(9,.ptr 576 0),(37,.ptr 576 2),(38,Af 2304 r6.Ae),(39,.ptr 192 1),(40,iV a0.next),(44,iV r8),(48,iV r10)] [(192,Ba a0),(384,Bo 0 0 (An 387) []),(576,Cn r6 (An 2304))] hB (Ag tv (c_ (v:=.agg (oK a0.next r8 r10 false)) (Ax ⟨tv,tv,tv,tv⟩ rfl ⟨⟨rfl,rfl,nl rfl⟩,⟨rfl,rfl,nl rfl⟩,⟨rfl,rfl,nl rfl⟩,tv⟩) (⟨tv,Bq (bF ⟨tv,tv⟩ ⟨⟨nl rfl,rfl,rfl⟩,tv⟩ (d0 hB (Bq (Je (e:=Ac) (l0:=r6.Ae) (l1:=([Aa.mk a0.next r8 r10 false]:List Aa)) rfl rfl tv rfl (by decide) c12 (d0 tv ?_)) Aw))) Aw⟩)))) Aw)) Aw))))))))
    refine Ag tv (c_ (Ax ⟨tv,tv⟩ rfl tv) (⟨tv,Bq (Ei rfl rfl tv rfl rfl rfl (nl rfl) (d0 tv (d_ (Az 9 [(3,.ptr 192 0),(6,.ptr 384 0),(9,.ptr 576 0)] (jS a0 [(576,[iV r6.clock,iV (wi (r6.next+1)),Af 2304 (r6.Ae++([Aa.mk a0.next r8 r10 false]:List Aa))])]) (Ay 4 (Bg (Bq (Ei rfl rfl tv rfl rfl rfl (nl rfl) (d0 hB (d_ (Az 3 [(6,.ptr 384 0),(7,iV a0.next),(8,iV 0)] [(384,[iV r6.clock,iV (wi (r6.next+1)),Af 2304 (r6.Ae++([Aa.mk a0.next r8 r10 false]:List Aa))])] ?_)))) Aw))))))) Aw⟩))
    obtain rfl:=sj h0
    exact Lf (Eg rfl rfl rfl rfl rfl tv)

/- (loop.example/g00149/impl.Vault).crashed -/
def Abb:=[X_ 1 0,a_ 2 (zV 131 132 133),a_ 3 [iV 0,iV 0]]
def Abc:=[f_ 5 1 3,l_ 6 5 1,n_ 7 6,i_ 8 0]
def Abd:=[b_ .lss 9 8 7]
def Abe:=[m_ 10 8,m_ 4 10]
def Abf:List Bv:=[f_ 11 1 3,l_ 12 11 1,m_ 13 4,x_ 14 12 13 2,f_ 15 14 1,⟨none,.store (.t 15) (.c (.bool true)) 1,none⟩]
def Abg:=[B_ .add 16 8 1,m_ 8 16]
def Aba:IR:=(sr Abd (.seq (.ite (.t 9) .skip (.exit 0)) (.seq (.block 1 (sr Abe (.reg Abf))) (.reg Abg))))
def Abh:List Bv:=[f_ 17 1 5,⟨none,.store (.t 17) (.c (.bool true)) 1,none⟩]
def Abi:List Bv:=[L_ 18 1 6,⟨some 19,.p (.build [iV 0,iV 0] [(0,1,.c (iV 15))]),none⟩,s_ 2 18 6,s_ 3 19 2]
def c470:Dj:=⟨1,20,[.cell 2 6 true,.cell 3 2 true],sr Abb (.seq (sr Abc (Ik 0 Aba)) (sr Abh (rr Abi)))⟩
def GC (D:Bi):Prop:=∀a0 r,fR a0=some r→D 470 ⟨[.agg (Au a0 (An 1024000) (An 1024001) (An 1024002))],[]⟩ ⟨.tup [.agg (Au r.1 (An 0) (An 1) (An 2)),.agg (Ap r.2)],[],[]⟩
abbrev Pu:=fun (r:List (Nat×List V))=>(128,At 0 0 (An 131) [] (An 132) [] (An 133) [] false)::(192,[iV 0,iV 0])::r
abbrev Pv:=fun (r:List (Nat×V))=>(1,.ptr 64 0)::(2,.ptr 128 0)::(3,.ptr 192 0)::r
theorem F470:GC (FO C c470):=by
 intro a0 r h0
 refine f0 (Az 5 (Pv []) (Pu [(64,Au a0 (An 1024000) (An 1024001) (An 1024002))]) (Ay 4 (Ao (Yv rfl (o_ (Az 2 (Pv [(7,iV (a0.Ab.length:Int)),(8,iV 0)]) (Pu [(64,Au a0 (An 1024000) (An 1024001) (An 1024002))]) (By (bb h0 fun r21 e22 h0=>Cs (R:=(fun S=>∃p15:List Ai,p15=r21∧S=⟨Pv [],Pu [(64,At a0.Ad.clock a0.Ad.next (An 1024000) a0.Ad.Ae (An 1024001) p15 (An 1024002) a0.Ah a0.Am)],[]⟩)) (Rb a0) (fun s S=>match s with | (p6,p7)=>S=⟨Pv [(7,iV (a0.Ab.length:Int)),(8,iV p6)],Pu [(64,At a0.Ad.clock a0.Ad.next (An 1024000) a0.Ad.Ae (An 1024001) p7 (An 1024002) a0.Ah a0.Am)],[]⟩) e22 _ (Dv (by kernel_rfl)) rfl 0 (fun _=>rfl) ?_ ?_))))))))
 ·rintro S _ hfg ⟨p15,rfl,rfl⟩
  refine Dd _ hfg (Az 4 (Pv []) (Pu [(64,At a0.Ad.clock a0.Ad.next (An 1024000) a0.Ad.Ae (An 1024001) p15 (An 1024002) a0.Ah true)]) (Ay 2 (Ao (st (c_ (v:=.agg [iV 15,iV 0]) (Ax ⟨tv,tv⟩ rfl ⟨⟨rfl,rfl,nl rfl⟩,tv⟩) (o_ ?_))))))
  obtain rfl:=sj h0
  exact Cy 4
 ·rintro ⟨p6,p7⟩ o1 _ K1 rfl h1 hx1 hK1 hE1 hR1
  refine Az 3 (Pv [(7,iV (a0.Ab.length:Int)),(8,iV p6),(9,.bool (decide (p6<(a0.Ab.length:Int))))]) (Pu [(64,At a0.Ad.clock a0.Ad.next (An 1024000) a0.Ad.Ae (An 1024001) p7 (An 1024002) a0.Ah a0.Am)]) (Bm (Co h1 (fun c16 h1=>?_) (fun c16 h1=>?_)))
  ·refine Az 8 (Pv [(4,iV p6),(7,iV (a0.Ab.length:Int)),(8,iV p6)]) (Pu [(64,At a0.Ad.clock a0.Ad.next (An 1024000) a0.Ad.Ae (An 1024001) p7 (An 1024002) a0.Ah a0.Am)]) (Ay 3 (Ao (bb h1 fun y17 e18 h1=>kV rfl rfl e18 (st (c_ (Ax ⟨tv,tv⟩ rfl tv) (bb h1 fun y19 e20 h1=>so_ (Ai.mk y19.Av true) rfl rfl e20 (o_ (Az 2 (Pv [(7,iV (a0.Ab.length:Int)),(8,iV p6)]) (Pu [(64,At a0.Ad.clock a0.Ad.next (An 1024000) a0.Ad.Ae (An 1024001) (p7.set p6.toNat (Ai.mk y19.Av true)) (An 1024002) a0.Ah a0.Am)]) (Ay 3 ?_)))))))))
   obtain rfl:=sj h1
   exact kn hK1 rfl rfl
  ·obtain rfl:=sj h1
   obtain rfl:=hx1 _ rfl
   refine Iq rfl ?_
   exact jn hE1 ⟨_,rfl,rfl⟩

/- cmp.Less[int] -/
def QH:=[k_ 4 (.bool false)]
def QI:List Bv:=[m_ 5 0,q_ 6 136 [.t 5],m_ 7 6,mT 7 8 1,⟨some 9,.call 136 [.t 8],some (7,true)⟩,pT 7 10 (.un .not (.t 9)),pa 11 7 10,m_ 12 11,mF 12 13 0,mF 12 14 1,pF 12 15 (.bin .lss (.t 13) (.t 14)),po 16 12 15,m_ 4 16]
def c140:Dj:=⟨2,17,[.t 4],sr QH (rr QI)⟩
def K140 (D:Bi):Prop:=∀a0 a1 r,g140 a0 a1=some r→D 140 ⟨[iV a0,iV a1],[]⟩ ⟨.bool r,[],[]⟩
theorem F140 (H136:FV C):K140 (FO C c140):=by
 intro a0 a1 r h0
 refine f0 (Az 3 [(0,iV a0),(1,iV a1)] [] (Bm (Ao (st (Ca rfl tv (bb h0 fun r1 e2 h0=>Om (H136 a0 r1 e2) (o_ (cH 2 (Ao (bb h0 fun r3 e4 h0=>st (Dy (r:=.bool r3) rfl false (fun hg=>H136 a1 r3 (ip hg e4)) ⟨(fun hg=>hg),tv⟩ (fun _=>rfl) (fun _=>rfl) (fun _=>rfl) (fun h=>nomatch h) (o_ (cH 9 (bv h0 fun v5 e6 h0=>Dd ⟨[(4,.bool v5)],[],[]⟩ (Dv (by subst e6; kernel_rfl)) ?_))))))))))))))
 obtain rfl:=sj h0
 exact Lf (Eg rfl rfl rfl rfl rfl tv)

/- slices.isNaN[int] -/
def QJ:=[k_ 2 (.bool false)]
def QK:=[m_ 3 0,m_ 4 0,b_ .neq 5 3 4,m_ 2 5]
def c141:Dj:=⟨1,6,[.t 2],sr QJ (rr QK)⟩
def K141 (D:Bi):Prop:=∀a0 r,BQ a0=some r→D 141 ⟨[iV a0],[]⟩ ⟨.bool r,[],[]⟩
theorem F141:K141 (FO C c141):=by
 intro a0 r h0
 refine f0 (?_)
 obtain rfl:=sj h0
 exact Cy 11

/- slices.BinarySearch[[]int,int] -/
def KY:=[i_ 4 0,k_ 5 (.bool false)]
def KZ:=[m_ 10 0,n_ 11 10,m_ 6 11]
def LA:=[m_ 12 6,i_ 7 0,m_ 8 12]
def LC:=[m_ 13 7,m_ 14 8,b_ .lss 15 13 14]
def LD:List Bv:=[m_ 16 7,m_ 17 8,b_ .add 18 16 17,iQ 19 (.conv .u64 (.t 18)),⟨some 20,.p (.bin .shr (.t 19) (.c (.int .u64 1))),none⟩,iQ 21 (.conv .i64 (.t 20)),m_ 9 21]
def LE:=[m_ 22 0,m_ 23 9,x_ 24 22 23 1,l_ 25 24 1,m_ 26 1,q_ 27 140 [.t 25,.t 26]]
def LF:=[m_ 28 9,B_ .add 29 28 1,m_ 7 29]
def LG:=[m_ 30 9,m_ 8 30]
def KX:IR:=(.seq (sr LC (.ite (.t 15) .skip (.exit 0))) (.block 1 (sr LD (sr LE (.ite (.t 27) (.reg LF) (.reg LG))))))
def LH:List Bv:=[m_ 31 7,m_ 32 7,m_ 33 6,b_ .lss 34 32 33,m_ 35 34,mT 35 36 0,mT 35 37 7,xT 35 38 36 37 1,lT 35 39 38 1 false,mT 35 40 1,pT 35 41 (.bin .eql (.t 39) (.t 40)),mT 35 42 41,mF 42 43 0,mF 42 44 7,xF 42 45 43 44 1,lF 42 46 45 1 false,⟨some 47,.call 141 [.t 46],some (42,false)⟩,mF 42 48 47,mT 48 49 1,⟨some 50,.call 141 [.t 49],some (48,true)⟩,⟨some 51,.pick (.t 48) (.t 50) (.c (.bool false)),some (42,false)⟩,⟨some 52,.pick (.t 42) (.c (.bool true)) (.t 51),some (35,true)⟩,pa 53 35 52,m_ 4 31,m_ 5 53]
def qN:Dj:=⟨2,54,[.t 4,.t 5],sr KY (sr KZ (sr LA (.seq (Ik 0 KX) (rr LH))))⟩
def K121 (D:Bi):Prop:=∀a0 a1 r,g121 a0 a1=some r→D 121 ⟨[lI a0,iV a1],[]⟩ ⟨.tup [iV r.1,.bool r.2],[],[]⟩
theorem F121 (H140:K140 C) (H141:K141 C):K121 (FO C qN):=by
 intro a0 a1 r h0
 refine f0 (Az 4 [(0,lI a0),(1,iV a1)] [] (Bm (Ao (st (Ca rfl tv (Me rfl (o_ (Az 8 [(0,lI a0),(1,iV a1),(6,iV (a0.length:Int)),(7,iV 0),(8,iV (a0.length:Int))] [] (Bm (By (bb h0 fun r30 e31 h0=>Cs (R:=(fun S=>∃p21:Int,p21=r30∧S=⟨[(0,lI a0),(1,iV a1),(6,iV (a0.length:Int)),(7,iV p21)],[],[]⟩)) (Xw a0 a1) (fun s S=>match s with | (p9,p10)=>S=⟨[(0,lI a0),(1,iV a1),(6,iV (a0.length:Int)),(7,iV p9),(8,iV p10)],[],[]⟩) e31 _ (Dv (by kernel_rfl)) rfl 0 (fun _=>rfl) ?_ ?_)))))))))))
 ·rintro S _ hfg ⟨p21,rfl,rfl⟩
  refine Dd _ hfg (Ay 6 (Ao (st (Bn (u:=lI a0) rfl (fun hg=>(Dg (v:=lI a0) rfl tv)) (st (Bn (u:=iV p21) rfl (fun hg=>(Dg (v:=iV p21) rfl tv)) (bb h0 fun y32 e33 h0=>st (Bn (u:=.iptr [iV y32]) rfl (fun hg=>(Ob (e:=eI) (y:=y32) rfl rfl (fun _=>hg) rfl rfl (fun _=>hg) (ip hg e33))) (st (Bn (u:=iV y32) rfl (fun hg=>(Ax ⟨(fun _=>hg),tv⟩ rfl (nl rfl))) (st (Bn (u:=iV a1) rfl (fun hg=>(Dg (v:=iV a1) rfl tv)) (st (Bn (u:=.bool (y32==a1)) rfl (fun hg=>(Ax ⟨(fun _=>hg),(fun _=>hg),tv⟩ rfl tv)) (st (Bn (u:=.bool (y32==a1)) rfl (fun hg=>(Dg (v:=.may ((decide (p21<(a0.length:Int)))==true) (.bool (y32==a1))) rfl (fun _=>hg))) (st (Bn (u:=lI a0) rfl (fun hg=>(Dg (v:=lI a0) rfl tv)) (st (Bn (u:=iV p21) rfl (fun hg=>(Dg (v:=iV p21) rfl tv)) (bb h0 fun y34 e35 h0=>st (Bn (u:=.iptr [iV y34]) rfl (fun hg=>(Ob (e:=eI) (y:=y34) rfl rfl (fun _=>hg) rfl rfl (fun _=>hg) (ip hg e35))) (st (Bn (u:=iV y34) rfl (fun hg=>(Ax ⟨(fun _=>hg),tv⟩ rfl (nl rfl))) (bb h0 fun r36 e37 h0=>st (Dy (r:=.bool r36) rfl false (fun hg=>H141 y34 r36 (ip hg e37)) ⟨(fun hg=>hg),tv⟩ (fun _=>rfl) (fun _=>rfl) (fun _=>rfl) (fun h=>nomatch h) (st (Bn (u:=.bool r36) rfl (fun hg=>(Dg (v:=.may (((decide (p21<(a0.length:Int)))==true)&&((y32==a1)==false)) (.bool r36)) rfl (fun _=>hg))) (st (Bn (u:=iV a1) rfl (fun hg=>(Dg (v:=iV a1) rfl tv)) (bb h0 fun r38 e39 h0=>st (Dy (r:=.bool r38) rfl false (fun hg=>H141 a1 r38 (ip hg e39)) ⟨(fun hg=>hg),tv⟩ (fun _=>rfl) (fun _=>rfl) (fun _=>rfl) (fun h=>nomatch h) (st (Nq (u:=.bool (bif r36 then r38 else false)) rfl (fun hg=>Tl rfl rfl (fun _=>hg) rfl rfl (fun h=>Bf hg (Qm h)) tv rfl) (st (Nq (u:=.bool (bif (y32==a1) then true else (bif r36 then r38 else false))) rfl (fun hg=>Tl rfl rfl (fun _=>hg) rfl rfl tv (fun h=>Bf hg (Rl h)) rfl) (st (Cu rfl rfl rfl (fun h=>Qm h) tv rfl (o_ (Ay 3 (bv h0 fun v40 e41 h0=>Dd ⟨[(4,iV p21),(5,.bool v40)],[],[]⟩ (Dv (by subst e41; kernel_rfl)) ?_)))))))))))))))))))))))))))))))))))))))))
  obtain rfl:=sj h0
  exact Lf (Eg rfl rfl rfl rfl rfl tv)
 ·rintro ⟨p9,p10⟩ o1 _ K1 rfl h1 hx1 hK1 hE1 hR1
  refine Az 6 [(0,lI a0),(1,iV a1),(6,iV (a0.length:Int)),(7,iV p9),(8,iV p10),(15,.bool (decide (p9<p10)))] [] (Co h1 (fun c22 h1=>?_) (fun c22 h1=>?_))
  ·refine Ay 8 (Ao (st (c_ (Ax ⟨tv,tv,tv⟩ rfl (by decide)) (o_ (Ay 3 (bv h1 fun v23 e24 h1=>Dd ⟨[(0,lI a0),(1,iV a1),(6,iV (a0.length:Int)),(7,iV p9),(8,iV p10),(9,iV v23)],[],[]⟩ (Dv (by subst e24; kernel_rfl)) (Ay 3 (Ao (bb h1 fun y25 e26 h1=>Tc rfl rfl e26 (o_ (Ay 2 (Ao (bb h1 fun r27 e28 h1=>Om (H140 y25 a1 r27 e28) (o_ (Az 1 [(0,lI a0),(1,iV a1),(6,iV (a0.length:Int)),(7,iV p9),(8,iV p10),(9,iV v23),(27,.bool r27)] [] (Co h1 (fun c29 h1=>?_) (fun c29 h1=>?_)))))))))))))))))
   ·refine Ay 5 ?_
    obtain rfl:=sj h1
    exact kn hK1 rfl rfl
   ·refine Ay 4 ?_
    obtain rfl:=sj h1
    exact kn hK1 rfl rfl
  ·obtain rfl:=sj h1
   obtain rfl:=hx1 _ rfl
   refine Iq rfl ?_
   exact jn hE1 ⟨_,rfl,rfl⟩
end Go.Ev
