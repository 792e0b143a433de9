/- The walks of functions: the code comes to the answers that QgD tells. Written by a program of ours. -/
import Derived.Test.YtnkhjipmmomjoaaGreatQgD
set_option linter.all false
set_option maxHeartbeats 4000000
set_option linter.unusedVariables false
set_option maxRecDepth 100000
namespace Go.Ev
variable {C:Bj}
theorem sj {α:Type} {a b:α} (h:some a=some b):a=b:=Option.some.inj h
abbrev wi:Int→Int:=IntKind.i64.wrap
theorem tv:True:=True.intro
abbrev iQ (n:Nat) (o:PU):Cd:=⟨some n,.p o,none⟩
abbrev iV (n:Int):V:=.int .i64 n
theorem nl {a b:Nat} (h:Nat.ble a b=true):a≤b:=Nat.le_of_ble_eq_true h
theorem t3:True∧True∧True:=⟨trivial,trivial,trivial⟩
abbrev m_ (d s:Nat):Cd:=⟨some d,.p (.mv (.t s)),none⟩
abbrev k_ (d:Nat) (v:V):Cd:=⟨some d,.p (.mv (.c v)),none⟩
abbrev i_ (d:Nat) (n:Int):Cd:=⟨some d,.p (.mv (.c (.int .i64 n))),none⟩
abbrev f_ (d x o:Nat):Cd:=⟨some d,.p (.fieldA (.t x) o),none⟩
abbrev l_ (d x n:Nat):Cd:=⟨some d,.p (.load (.t x) n false),none⟩
abbrev L_ (d x n:Nat):Cd:=⟨some d,.p (.load (.t x) n true),none⟩
abbrev x_ (d x y n:Nat):Cd:=⟨some d,.p (.idxA (.t x) (.t y) n),none⟩
abbrev e_ (d x n:Nat):Cd:=⟨some d,.p (.ext (.t x) n),none⟩
abbrev b_ (o:BinOp) (d x y:Nat):Cd:=⟨some d,.p (.bin o (.t x) (.t y)),none⟩
abbrev B_ (o:BinOp) (d x:Nat) (n:Int):Cd:=⟨some d,.p (.bin o (.t x) (.c (.int .i64 n))),none⟩
abbrev n_ (d x:Nat):Cd:=⟨some d,.p (.len (.t x)),none⟩
abbrev N_ (d x:Nat):Cd:=⟨some d,.p (.un .not (.t x)),none⟩
abbrev s_ (x y n:Nat):Cd:=⟨none,.store (.t x) (.t y) n,none⟩
abbrev a_ (d:Nat) (z:List V):Cd:=⟨some d,.alloc z,none⟩
abbrev X_ (d x:Nat):Cd:=⟨some d,.box (.t x),none⟩
abbrev q_ (d f:Nat) (l:List Ck):Cd:=⟨some d,.call f l,none⟩
abbrev pk (d:Nat) (a b c:Ck):Cd:=⟨some d,.pick a b c,none⟩
abbrev pT (g d:Nat) (o:PU):Cd:=⟨some d,.p o,some (g,true)⟩
abbrev pF (g d:Nat) (o:PU):Cd:=⟨some d,.p o,some (g,false)⟩
abbrev zV (a b c:Nat):List V:=[.int .i64 0,.int .i64 0,.own a 0 4 [],.own b 0 2 [],.own c 0 1 [],.bool false]
abbrev zT (a:Nat):List V:=[.int .i64 0,.int .i64 0,.own a 0 4 []]
abbrev mT (g d s:Nat):Cd:=⟨some d,.p (.mv (.t s)),some (g,true)⟩
abbrev mF (g d s:Nat):Cd:=⟨some d,.p (.mv (.t s)),some (g,false)⟩
abbrev lT (g d x n:Nat) (a:Bool):Cd:=⟨some d,.p (.load (.t x) n a),some (g,true)⟩
abbrev lF (g d x n:Nat) (a:Bool):Cd:=⟨some d,.p (.load (.t x) n a),some (g,false)⟩
abbrev fT (g d x n:Nat):Cd:=⟨some d,.p (.fieldA (.t x) n),some (g,true)⟩
abbrev fF (g d x n:Nat):Cd:=⟨some d,.p (.fieldA (.t x) n),some (g,false)⟩
abbrev xT (g d x y n:Nat):Cd:=⟨some d,.p (.idxA (.t x) (.t y) n),some (g,true)⟩
abbrev xF (g d x y n:Nat):Cd:=⟨some d,.p (.idxA (.t x) (.t y) n),some (g,false)⟩
abbrev pa (d a b:Nat):Cd:=⟨some d,.pick (.t a) (.t b) (.c (.bool false)),none⟩
abbrev po (d a b:Nat):Cd:=⟨some d,.pick (.t a) (.c (.bool true)) (.t b),none⟩
abbrev sr (l:List Cd) (b:IR):IR:=.seq (.reg l) b
abbrev sd (p:DP) (b:IR):IR:=.seq (.draw p) b
abbrev rr (l:List Cd):IR:=.seq (.reg l) .ret
abbrev iz (n:Nat) (a:IR):IR:=.ite (.t n) a .skip
abbrev Ho (n:Nat) (a:IR):IR:=.block n (.loop a)
def tk:List Cd→DP→DP
  | [],p=>p
  | i::l,p=>.take i (tk l p)
abbrev FO (C:Bj) (c:Cz):Bj:=fun _=>hO C c
theorem f0 {C:Bj} {fn:Cz} {args:List V} {bx:List (List V)} {t:Fk} (h:WL C [.c fn.body] (FQ fn.res bx.length t) .normal ⟨Ow args 0,Ox bx Cu,[]⟩) (h0:Nat.ble args.length fn.nt=true:=by kernel_rfl):hO C fn ⟨args,bx⟩ t:=fn_ (Nat.le_of_ble_eq_true h0) h
abbrev Ai (t k:Nat) (l:List (List V)):V:=.own t 0 k l
abbrev u_ (k:Nat) (l:List (List V)):V:=.lst k l
abbrev Bm (l:List Aj):V:=.lst 2 (l.map Bq)
abbrev Bp (l:List Aa):V:=.lst 4 (l.map Ad)
abbrev lI (l:List Int):V:=.lst 1 (l.map eI)
abbrev Bo (t:Nat) (l:List Aj):V:=.own t 0 2 (l.map Bq)
abbrev Ag (t:Nat) (l:List Aa):V:=.own t 0 4 (l.map Ad)
abbrev oI (t:Nat) (l:List Int):V:=.own t 0 1 (l.map eI)
abbrev Xm (x0:Int) (x1:Int) (x2:Int) (x3:Bool):List V:=[iV x0,iV x1,iV x2,.bool x3]
abbrev Br (x0:Int) (x1:Int) (w2:Nat→List (List V)→V) (x2:List Aa):List V:=[iV x0,iV x1,w2 4 (x2.map Ad)]
abbrev Cm (x:Ar) (w2:Nat→List (List V)→V):List V:=[iV x.clock,iV x.next,w2 4 (x.Ae.map Ad)]
abbrev Ao (x0:Int) (x1:Int) (w2:Nat→List (List V)→V) (x2:List Aa) (w3:Nat→List (List V)→V) (x3:List Aj) (w4:Nat→List (List V)→V) (x4:List Int) (x5:Bool):List V:=[iV x0,iV x1,w2 4 (x2.map Ad),w3 2 (x3.map Bq),w4 1 (x4.map eI),.bool x5]
abbrev Al (x:Ap) (w2:Nat→List (List V)→V) (w3:Nat→List (List V)→V) (w4:Nat→List (List V)→V):List V:=[iV x.Ac.clock,iV x.Ac.next,w2 4 (x.Ac.Ae.map Ad),w3 2 (x.Ab.map Bq),w4 1 (x.Ah.map eI),.bool x.An]
abbrev Iu (x0:Int) (x1:Int) (x2:Int) (x3:Int) (x4:Int) (w5:Nat→List (List V)→V) (x5:List Int) (x6:Int):List V:=[iV x0,iV x1,iV x2,iV x3,iV x4,w5 1 (x5.map eI),iV x6]
abbrev Bi (x:Bc) (w5:Nat→List (List V)→V):List V:=[iV x.kind,iV x.id,iV x.ttl,iV x.Dr,iV x.clock,w5 1 (x.Bu.map eI),iV x.stop]
abbrev Cv (x0:Int) (x1:Int) (w2:Nat→List (List V)→V) (x2:List Aa) (w3:Nat→List (List V)→V) (x3:List Aj) (w4:Nat→List (List V)→V) (x4:List Int) (x5:Bool) (x6:Int) (x7:Int) (x8:Int) (x9:Int) (x10:Int) (w11:Nat→List (List V)→V) (x11:List Int) (x12:Int) (x13:Int):List V:=[iV x0,iV x1,w2 4 (x2.map Ad),w3 2 (x3.map Bq),w4 1 (x4.map eI),.bool x5,iV x6,iV x7,iV x8,iV x9,iV x10,w11 1 (x11.map eI),iV x12,iV x13]
abbrev Fm (x:Cx) (w2:Nat→List (List V)→V) (w3:Nat→List (List V)→V) (w4:Nat→List (List V)→V) (w11:Nat→List (List V)→V):List V:=[iV x.v.Ac.clock,iV x.v.Ac.next,w2 4 (x.v.Ac.Ae.map Ad),w3 2 (x.v.Ab.map Bq),w4 1 (x.v.Ah.map eI),.bool x.v.An,iV x.a.kind,iV x.a.id,iV x.a.ttl,iV x.a.Dr,iV x.a.clock,w11 1 (x.a.Bu.map eI),iV x.a.stop,iV x.Gm]

/- loop.example/g00149/laws.szLeaseS -/
def c55_r0:=[i_ 4 0]
def c55_r1:=[m_ 5 1,m_ 6 0,n_ 7 6,b_ .sub 8 5 7,m_ 1 8]
def c55_r2:=[m_ 9 1,B_ .lss 10 9 0]
def c55_r3:=[i_ 4 (-1)]
def c55_r4:=[m_ 11 1,m_ 4 11]
def c55:Cz:=⟨2,12,[.t 4],sr c55_r0 (sr c55_r1 (.seq (sr c55_r2 (iz 10 (rr c55_r3))) (rr c55_r4)))⟩
def K55 (D:Bj):Prop:=∀a0 a1 r,g55 a0 a1=some r→D 55 ⟨[Bp a0,iV a1],[]⟩ ⟨iV r,[],[]⟩
theorem F55:K55 (FO C c55):=by
 intro a0 a1 r h0
 refine f0 (Ba 3 [(0,Bp a0),(1,iV a1)] [] (Ax 3 (As (Jr rfl (o_ (Ba 9 [(1,iV (wi (a1-(a0.length:Int)))),(10,.bool (decide ((wi (a1-(a0.length:Int)))<0)))] [] (Ch h0 (fun c1 h0=>?_) (fun c1 h0=>?_))))))))
 ·obtain rfl:=sj h0
  exact Cn 4
 ·obtain rfl:=sj h0
  exact Cn 7

/- loop.example/g00149/laws.szTable -/
def c17_r0:=[X_ 2 0,i_ 4 0]
def c17_r1:=[f_ 5 2 2,l_ 6 5 1,m_ 7 1,q_ 8 55 [.t 6,.t 7],m_ 1 8]
def c17_r2:=[m_ 9 1,B_ .lss 10 9 0]
def c17_r3:=[i_ 4 (-1)]
def c17_r4:=[m_ 11 1,m_ 4 11]
def oA:Cz:=⟨2,12,[.t 4],sr c17_r0 (sr c17_r1 (.seq (sr c17_r2 (iz 10 (rr c17_r3))) (rr c17_r4)))⟩
def K17 (D:Bj):Prop:=∀a0 a1 r,g17 a0 a1=some r→D 17 ⟨[.agg (Bb a0),iV a1],[]⟩ ⟨iV r,[],[]⟩
theorem F17 (H55:K55 C):K17 (FO C oA):=by
 intro a0 a1 r h0
 refine f0 (Ba 4 [(1,iV a1),(2,.ptr 128 0)] [(128,Bb a0)] (Ax 4 (As (bb h0 fun r1 e2 h0=>Jj (H55 a0.Ae a1 r1 e2) (o_ (Ba 8 [(1,iV r1),(10,.bool (decide (r1<0)))] [] (Ch h0 (fun c3 h0=>?_) (fun c3 h0=>?_))))))))
 ·obtain rfl:=sj h0
  exact Cn 4
 ·obtain rfl:=sj h0
  exact Cn 7

/- loop.example/g00149/laws.szIntentS -/
def c90_r0:=[i_ 4 0]
def c90_r1:=[m_ 5 1,m_ 6 0,n_ 7 6,b_ .sub 8 5 7,m_ 1 8]
def c90_r2:=[m_ 9 1,B_ .lss 10 9 0]
def c90_r3:=[i_ 4 (-1)]
def c90_r4:=[m_ 11 1,m_ 4 11]
def c90:Cz:=⟨2,12,[.t 4],sr c90_r0 (sr c90_r1 (.seq (sr c90_r2 (iz 10 (rr c90_r3))) (rr c90_r4)))⟩
def K90 (D:Bj):Prop:=∀a0 a1 r,g90 a0 a1=some r→D 90 ⟨[Bm a0,iV a1],[]⟩ ⟨iV r,[],[]⟩
theorem F90:K90 (FO C c90):=by
 intro a0 a1 r h0
 refine f0 (Ba 3 [(0,Bm a0),(1,iV a1)] [] (Ax 3 (As (Jr rfl (o_ (Ba 9 [(1,iV (wi (a1-(a0.length:Int)))),(10,.bool (decide ((wi (a1-(a0.length:Int)))<0)))] [] (Ch h0 (fun c1 h0=>?_) (fun c1 h0=>?_))))))))
 ·obtain rfl:=sj h0
  exact Cn 4
 ·obtain rfl:=sj h0
  exact Cn 7

/- loop.example/g00149/laws.szIntS -/
def c91_r0:=[i_ 4 0]
def c91_r1:=[m_ 5 1,m_ 6 0,n_ 7 6,b_ .sub 8 5 7,m_ 1 8]
def c91_r2:=[m_ 9 1,B_ .lss 10 9 0]
def c91_r3:=[i_ 4 (-1)]
def c91_r4:=[m_ 11 1,m_ 4 11]
def c91:Cz:=⟨2,12,[.t 4],sr c91_r0 (sr c91_r1 (.seq (sr c91_r2 (iz 10 (rr c91_r3))) (rr c91_r4)))⟩
def K91 (D:Bj):Prop:=∀a0 a1 r,g91 a0 a1=some r→D 91 ⟨[lI a0,iV a1],[]⟩ ⟨iV r,[],[]⟩
theorem F91:K91 (FO C c91):=by
 intro a0 a1 r h0
 refine f0 (Ba 3 [(0,lI a0),(1,iV a1)] [] (Ax 3 (As (Jr rfl (o_ (Ba 9 [(1,iV (wi (a1-(a0.length:Int)))),(10,.bool (decide ((wi (a1-(a0.length:Int)))<0)))] [] (Ch h0 (fun c1 h0=>?_) (fun c1 h0=>?_))))))))
 ·obtain rfl:=sj h0
  exact Cn 4
 ·obtain rfl:=sj h0
  exact Cn 7

/- loop.example/g00149/laws.szVault -/
def c45_r0:=[X_ 2 0,i_ 4 0]
def c45_r1:=[f_ 5 2 0,L_ 6 5 3,m_ 7 1,q_ 8 17 [.t 6,.t 7],m_ 1 8]
def c45_r2:=[m_ 9 1,B_ .lss 10 9 0]
def c45_r3:=[i_ 4 (-1)]
def c45_r4:=[f_ 11 2 3,l_ 12 11 1,m_ 13 1,q_ 14 90 [.t 12,.t 13],m_ 1 14]
def c45_r5:=[m_ 15 1,B_ .lss 16 15 0]
def c45_r6:=[i_ 4 (-1)]
def c45_r7:=[f_ 17 2 4,l_ 18 17 1,m_ 19 1,q_ 20 91 [.t 18,.t 19],m_ 1 20]
def c45_r8:=[m_ 21 1,B_ .lss 22 21 0]
def c45_r9:=[i_ 4 (-1)]
def Aax:=[m_ 23 1,m_ 4 23]
def oC:Cz:=⟨2,24,[.t 4],sr c45_r0 (sr c45_r1 (.seq (sr c45_r2 (iz 10 (rr c45_r3))) (sr c45_r4 (.seq (sr c45_r5 (iz 16 (rr c45_r6))) (sr c45_r7 (.seq (sr c45_r8 (iz 22 (rr c45_r9))) (rr Aax)))))))⟩
def K45 (D:Bj):Prop:=∀a0 a1 r,g45 a0 a1=some r→D 45 ⟨[.agg (Au a0),iV a1],[]⟩ ⟨iV r,[],[]⟩
theorem F45 (H17:K17 C) (H90:K90 C) (H91:K91 C):K45 (FO C oC):=by
 intro a0 a1 r h0
 refine f0 (Ba 4 [(1,iV a1),(2,.ptr 128 0)] [(128,Au a0)] (Ax 4 (As (bb h0 fun r1 e2 h0=>Jj (H17 a0.Ac a1 r1 e2) (o_ (Ba 8 [(1,iV r1),(2,.ptr 128 0),(10,.bool (decide (r1<0)))] [(128,Au a0)] (Ch h0 (fun c3 h0=>?_) (fun c3 h0=>?_))))))))
 ·obtain rfl:=sj h0
  exact Cn 4
 ·refine Ax 6 (As (bb h0 fun r4 e5 h0=>Jj (H90 a0.Ab r1 r4 e5) (o_ (Ba 8 [(1,iV r4),(2,.ptr 128 0),(16,.bool (decide (r4<0)))] [(128,Au a0)] (Ch h0 (fun c6 h0=>?_) (fun c6 h0=>?_))))))
  ·obtain rfl:=sj h0
   exact Cn 4
  ·refine Ax 6 (As (bb h0 fun r7 e8 h0=>Jj (H91 a0.Ah r4 r7 e8) (o_ (Ba 8 [(1,iV r7),(22,.bool (decide (r7<0)))] [] (Ch h0 (fun c9 h0=>?_) (fun c9 h0=>?_))))))
   ·obtain rfl:=sj h0
    exact Cn 4
   ·obtain rfl:=sj h0
    exact Cn 7

/- loop.example/g00149/laws.toLease -/
def HU:=[X_ 1 0,a_ 2 [iV 0,iV 0,iV 0,.bool false]]
def HV:=[a_ 3 [iV 0,iV 0,iV 0,.bool false]]
def HW:=[f_ 4 1 0,l_ 5 4 1,f_ 6 3 0,s_ 6 5 1]
def HX:=[f_ 7 1 1,l_ 8 7 1,f_ 9 3 1,s_ 9 8 1]
def HY:=[f_ 10 1 2,l_ 11 10 1,f_ 12 3 2,s_ 12 11 1]
def HZ:=[f_ 13 1 3,l_ 14 13 1,f_ 15 3 3,s_ 15 14 1]
def IA:=[L_ 16 3 4,s_ 2 16 4]
def c104:Cz:=⟨1,17,[.cell 2 4 true],sr HU (sr HV (sr HW (sr HX (sr HY (sr HZ (rr IA))))))⟩
def K104 (D:Bj):Prop:=∀a0 r,g104 a0=some r→D 104 ⟨[.agg (Ad a0)],[]⟩ ⟨.agg (Ad r),[],[]⟩
theorem F104:K104 (FO C c104):=by
 intro a0 r h0
 refine f0 (Ba 22 [(1,.ptr 64 0),(2,.ptr 128 0),(3,.ptr 192 0)] [(64,Ad a0),(128,Xm 0 0 0 false),(192,Xm a0.id a0.Bg 0 false)] (Ax 2 (As ?_)))
 refine o_ ?_
 obtain rfl:=sj h0
 exact Cn 17

/- loop.example/g00149/laws.toLeaseS -/
def c57_r0:List Cd:=[⟨some 2,.nilS 4,none⟩]
def c57_r1:List Cd:=[m_ 5 0,n_ 6 5,⟨some 7,.make 4 32 [iV 0,iV 0,iV 0,.bool false] (.t 6) (.t 6),none⟩,m_ 3 7]
def c57_r2:=[i_ 4 0]
def c57_r3:=[m_ 8 4,m_ 9 0,n_ 10 9,b_ .lss 11 8 10]
def c57_r4:=[m_ 14 3,m_ 15 4,m_ 16 0,m_ 17 4,x_ 18 16 17 4,L_ 19 18 4,q_ 20 104 [.t 19],x_ 21 14 15 4,s_ 21 20 4]
def c57_r5:=[m_ 12 4,B_ .add 13 12 1,m_ 4 13]
def c57_l0:IR:=(.seq (sr c57_r3 (.ite (.t 11) .skip (.exit 0))) (.seq (.block 1 (.reg c57_r4)) (.reg c57_r5)))
def c57_r6:=[m_ 22 3,m_ 2 22]
def c57:Cz:=⟨1,23,[.t 2],sr c57_r0 (sr c57_r1 (.seq (sr c57_r2 (Ho 0 c57_l0)) (rr c57_r6)))⟩
def K57 (D:Bj):Prop:=∀a0 r,g57 a0=some r→D 57 ⟨[Bp a0],[]⟩ ⟨Ag 0 r,[],[]⟩
theorem F57 (H104:K104 C):K57 (FO C c57):=by
 intro a0 r h0
 refine f0 (Ba 3 [(0,Bp a0)] [] (Bt (As (st (Cj rfl tv (Jr rfl (gg h0 fun c1 h0=>gg h0 fun c2 h0=>st (DR (e:=Ad) (Aa.mk 0 0 0 false) rfl rfl c1 rfl c2 rfl (o_ (Ba 7 [(0,Bp a0),(3,Ag 448 (List.replicate (a0.length:Int).toNat (Aa.mk 0 0 0 false))),(4,iV 0)] [] (Cc (bb h0 fun r35 e36 h0=>Cr (R:=(fun S=>∃p25:List Aa,p25=r35∧S=⟨[(3,Ag 448 p25)],[],[]⟩)) (Vh a0) (fun s S=>match s with | (p12,p13)=>S=⟨[(0,Bp a0),(3,Ag 448 p12),(4,iV p13)],[],[]⟩) e36 _ (Dw (by kernel_rfl)) rfl 0 (fun _=>rfl) ?_ ?_))))))))))))
 ·rintro S _ hfg ⟨p25,rfl,rfl⟩
  refine Dc _ hfg ?_
  obtain rfl:=sj h0
  exact Cn 5
 ·rintro ⟨p12,p13⟩ o1 _ K1 rfl h1 hx1 hK1 hE1 hR1
  refine Ax 4 (As (Jr rfl (o_ (Ba 2 [(0,Bp a0),(3,Ag 448 p12),(4,iV p13),(11,.bool (decide (p13<(a0.length:Int))))] [] (Ch h1 (fun oB h1=>?_) (fun oB h1=>?_))))))
  ·refine Ax 8 (As (bb h1 fun y27 e28 h1=>Nr rfl rfl e28 (st (c_ (v:=.agg (Ad y27)) (Bl ⟨tv,tv⟩ rfl (nl rfl)) (bb h1 fun r29 e30 h1=>Jj (H104 y27 r29 e30) (bb h1 fun y31 e32 h1=>Wa rfl rfl e32 (bb h1 fun y33 e34 h1=>gQ r29 rfl rfl e34 (o_ (Ba 2 [(0,Bp a0),(3,Ag 448 (p12.set p13.toNat r29)),(4,iV p13)] [] (Ax 4 ?_))))))))))
   obtain rfl:=sj h1
   exact kn hK1 rfl rfl
  ·obtain rfl:=sj h1
   obtain rfl:=hx1 _ rfl
   refine Hq rfl ?_
   exact jn hE1 ⟨_,rfl,rfl⟩

/- loop.example/g00149/laws.toTable -/
def c19_r0:=[X_ 1 0,a_ 2 (zT 131)]
def c19_r1:=[a_ 3 (zT 195)]
def c19_r2:=[f_ 4 1 0,l_ 5 4 1,f_ 6 3 0,s_ 6 5 1]
def c19_r3:=[f_ 7 1 1,l_ 8 7 1,f_ 9 3 1,s_ 9 8 1]
def c19_r4:=[f_ 10 1 2,l_ 11 10 1,q_ 12 57 [.t 11],f_ 13 3 2,s_ 13 12 1]
def c19_r5:=[L_ 14 3 3,s_ 2 14 3]
def yJ:Cz:=⟨1,15,[.cell 2 3 true],sr c19_r0 (sr c19_r1 (sr c19_r2 (sr c19_r3 (sr c19_r4 (rr c19_r5)))))⟩
def K19 (D:Bj):Prop:=∀a0 r,g19 a0=some r→D 19 ⟨[.agg (Bb a0)],[]⟩ ⟨.agg (Cm r (Ai 0)),[],[]⟩
theorem F19 (H57:K57 C):K19 (FO C yJ):=by
 intro a0 r h0
 refine f0 (Ba 22 [(1,.ptr 64 0),(2,.ptr 128 0),(3,.ptr 192 0)] [(64,Bb a0),(128,Br 0 0 (Ai 131) []),(192,Br a0.clock a0.next (Ai 195) [])] (Ax 2 (As ?_)))
 refine st (c_ (Bl ⟨tv,tv⟩ rfl (nl rfl)) (bb h0 fun r1 e2 h0=>Qf (H57 a0.Ae r1 e2) (af rfl) (o_ ?_)))
 obtain rfl:=sj h0
 exact Cn 9

/- loop.example/g00149/laws.toIntS -/
def c43_r0:List Cd:=[⟨some 2,.nilS 1,none⟩]
def c43_r1:List Cd:=[m_ 5 0,n_ 6 5,⟨some 7,.make 1 8 [iV 0] (.t 6) (.t 6),none⟩,m_ 3 7]
def c43_r2:=[i_ 4 0]
def c43_r3:=[m_ 8 4,m_ 9 0,n_ 10 9,b_ .lss 11 8 10]
def c43_r4:=[m_ 14 3,m_ 15 4,m_ 16 0,m_ 17 4,x_ 18 16 17 1,l_ 19 18 1,x_ 20 14 15 1,s_ 20 19 1]
def c43_r5:=[m_ 12 4,B_ .add 13 12 1,m_ 4 13]
def c43_l0:IR:=(.seq (sr c43_r3 (.ite (.t 11) .skip (.exit 0))) (.seq (.block 1 (.reg c43_r4)) (.reg c43_r5)))
def c43_r6:=[m_ 21 3,m_ 2 21]
def c43:Cz:=⟨1,22,[.t 2],sr c43_r0 (sr c43_r1 (.seq (sr c43_r2 (Ho 0 c43_l0)) (rr c43_r6)))⟩
def K43 (D:Bj):Prop:=∀a0 r,g43 a0=some r→D 43 ⟨[lI a0],[]⟩ ⟨oI 0 r,[],[]⟩
theorem F43:K43 (FO C c43):=by
 intro a0 r h0
 refine f0 (Ba 3 [(0,lI a0)] [] (Bt (As (st (Cj rfl tv (Jr rfl (gg h0 fun c1 h0=>gg h0 fun c2 h0=>st (DR (e:=eI) 0 rfl rfl c1 rfl c2 rfl (o_ (Ba 7 [(0,lI a0),(3,oI 448 (List.replicate (a0.length:Int).toNat 0)),(4,iV 0)] [] (Cc (bb h0 fun r29 e30 h0=>Cr (R:=(fun S=>∃p21:List Int,p21=r29∧S=⟨[(3,oI 448 p21)],[],[]⟩)) (Zo a0) (fun s S=>match s with | (p10,p11)=>S=⟨[(0,lI a0),(3,oI 448 p10),(4,iV p11)],[],[]⟩) e30 _ (Dw (by kernel_rfl)) rfl 0 (fun _=>rfl) ?_ ?_))))))))))))
 ·rintro S _ hfg ⟨p21,rfl,rfl⟩
  refine Dc _ hfg ?_
  obtain rfl:=sj h0
  exact Cn 5
 ·rintro ⟨p10,p11⟩ o1 _ K1 rfl h1 hx1 hK1 hE1 hR1
  refine Ax 4 (As (Jr rfl (o_ (Ba 2 [(0,lI a0),(3,oI 448 p10),(4,iV p11),(11,.bool (decide (p11<(a0.length:Int))))] [] (Ch h1 (fun c22 h1=>?_) (fun c22 h1=>?_))))))
  ·refine Ax 8 (As (bb h1 fun y23 e24 h1=>Nr rfl rfl e24 (st (c_ (Bl ⟨tv,tv⟩ rfl (nl rfl)) (bb h1 fun y25 e26 h1=>Wa rfl rfl e26 (bb h1 fun y27 e28 h1=>gQ y23 rfl rfl e28 (o_ (Ba 2 [(0,lI a0),(3,oI 448 (p10.set p11.toNat y23)),(4,iV p11)] [] (Ax 4 ?_)))))))))
   obtain rfl:=sj h1
   exact kn hK1 rfl rfl
  ·obtain rfl:=sj h1
   obtain rfl:=hx1 _ rfl
   refine Hq rfl ?_
   exact jn hE1 ⟨_,rfl,rfl⟩

/- loop.example/g00149/laws.toIntent -/
def MR:=[X_ 1 0,a_ 2 [iV 0,.bool false]]
def MS:=[a_ 3 [iV 0,.bool false]]
def MT:=[f_ 4 1 0,l_ 5 4 1,f_ 6 3 0,s_ 6 5 1]
def MU:=[f_ 7 1 1,l_ 8 7 1,f_ 9 3 1,s_ 9 8 1]
def MV:=[L_ 10 3 2,s_ 2 10 2]
def c125:Cz:=⟨1,11,[.cell 2 2 true],sr MR (sr MS (sr MT (sr MU (rr MV))))⟩
def K125 (D:Bj):Prop:=∀a0 r,g125 a0=some r→D 125 ⟨[.agg (Bq a0)],[]⟩ ⟨.agg (Bq r),[],[]⟩
theorem F125:K125 (FO C c125):=by
 intro a0 r h0
 refine f0 (Ba 22 [(2,.ptr 128 0),(3,.ptr 192 0)] [(128,[iV 0,.bool false]),(192,Bq a0)] (Ax 2 (As ?_)))
 refine o_ ?_
 obtain rfl:=sj h0
 exact Cn 3

/- loop.example/g00149/laws.toIntentS -/
def c94_r0:List Cd:=[⟨some 2,.nilS 2,none⟩]
def c94_r1:List Cd:=[m_ 5 0,n_ 6 5,⟨some 7,.make 2 16 [iV 0,.bool false] (.t 6) (.t 6),none⟩,m_ 3 7]
def c94_r2:=[i_ 4 0]
def c94_r3:=[m_ 8 4,m_ 9 0,n_ 10 9,b_ .lss 11 8 10]
def c94_r4:=[m_ 14 3,m_ 15 4,m_ 16 0,m_ 17 4,x_ 18 16 17 2,L_ 19 18 2,q_ 20 125 [.t 19],x_ 21 14 15 2,s_ 21 20 2]
def c94_r5:=[m_ 12 4,B_ .add 13 12 1,m_ 4 13]
def c94_l0:IR:=(.seq (sr c94_r3 (.ite (.t 11) .skip (.exit 0))) (.seq (.block 1 (.reg c94_r4)) (.reg c94_r5)))
def c94_r6:=[m_ 22 3,m_ 2 22]
def c94:Cz:=⟨1,23,[.t 2],sr c94_r0 (sr c94_r1 (.seq (sr c94_r2 (Ho 0 c94_l0)) (rr c94_r6)))⟩
def K94 (D:Bj):Prop:=∀a0 r,g94 a0=some r→D 94 ⟨[Bm a0],[]⟩ ⟨Bo 0 r,[],[]⟩
theorem F94 (H125:K125 C):K94 (FO C c94):=by
 intro a0 r h0
 refine f0 (Ba 3 [(0,Bm a0)] [] (Bt (As (st (Cj rfl tv (Jr rfl (gg h0 fun c1 h0=>gg h0 fun c2 h0=>st (DR (e:=Bq) (Aj.mk 0 false) rfl rfl c1 rfl c2 rfl (o_ (Ba 7 [(0,Bm a0),(3,Bo 448 (List.replicate (a0.length:Int).toNat (Aj.mk 0 false))),(4,iV 0)] [] (Cc (bb h0 fun r35 e36 h0=>Cr (R:=(fun S=>∃p25:List Aj,p25=r35∧S=⟨[(3,Bo 448 p25)],[],[]⟩)) (Vn a0) (fun s S=>match s with | (p12,p13)=>S=⟨[(0,Bm a0),(3,Bo 448 p12),(4,iV p13)],[],[]⟩) e36 _ (Dw (by kernel_rfl)) rfl 0 (fun _=>rfl) ?_ ?_))))))))))))
 ·rintro S _ hfg ⟨p25,rfl,rfl⟩
  refine Dc _ hfg ?_
  obtain rfl:=sj h0
  exact Cn 5
 ·rintro ⟨p12,p13⟩ o1 _ K1 rfl h1 hx1 hK1 hE1 hR1
  refine Ax 4 (As (Jr rfl (o_ (Ba 2 [(0,Bm a0),(3,Bo 448 p12),(4,iV p13),(11,.bool (decide (p13<(a0.length:Int))))] [] (Ch h1 (fun oB h1=>?_) (fun oB h1=>?_))))))
  ·refine Ax 8 (As (bb h1 fun y27 e28 h1=>Nr rfl rfl e28 (st (c_ (v:=.agg (Bq y27)) (Bl ⟨tv,tv⟩ rfl (nl rfl)) (bb h1 fun r29 e30 h1=>Jj (H125 y27 r29 e30) (bb h1 fun y31 e32 h1=>Wa rfl rfl e32 (bb h1 fun y33 e34 h1=>gQ r29 rfl rfl e34 (o_ (Ba 2 [(0,Bm a0),(3,Bo 448 (p12.set p13.toNat r29)),(4,iV p13)] [] (Ax 4 ?_))))))))))
   obtain rfl:=sj h1
   exact kn hK1 rfl rfl
  ·obtain rfl:=sj h1
   obtain rfl:=hx1 _ rfl
   refine Hq rfl ?_
   exact jn hE1 ⟨_,rfl,rfl⟩

/- loop.example/g00149/laws.toVault -/
def c47_r0:=[X_ 1 0,a_ 2 (zV 131 132 133)]
def c47_r1:=[a_ 3 (zV 195 196 197)]
def c47_r2:=[f_ 4 1 0,L_ 5 4 3,q_ 6 19 [.t 5],f_ 7 3 0,s_ 7 6 3]
def c47_r3:=[f_ 8 1 3,l_ 9 8 1,q_ 10 94 [.t 9],f_ 11 3 3,s_ 11 10 1]
def c47_r4:=[f_ 12 1 4,l_ 13 12 1,q_ 14 43 [.t 13],f_ 15 3 4,s_ 15 14 1]
def c47_r5:=[f_ 16 1 5,l_ 17 16 1,f_ 18 3 5,s_ 18 17 1]
def c47_r6:=[L_ 19 3 6,s_ 2 19 6]
def c47:Cz:=⟨1,20,[.cell 2 6 true],sr c47_r0 (sr c47_r1 (sr c47_r2 (sr c47_r3 (sr c47_r4 (sr c47_r5 (rr c47_r6))))))⟩
def K47 (D:Bj):Prop:=∀a0 r,g47 a0=some r→D 47 ⟨[.agg (Au a0)],[]⟩ ⟨.agg (Al r (Ai 0) (Ai 1) (Ai 2)),[],[]⟩
abbrev EA:=fun x0 (r:List (Nat×List V))=>(64,Au x0)::(128,Ao 0 0 (Ai 131) [] (Ai 132) [] (Ai 133) [] false)::r
theorem F47 (H19:K19 C) (H43:K43 C) (H94:K94 C):K47 (FO C c47):=by
 intro a0 r h0
 refine f0 (Ba 8 [(1,.ptr 64 0),(2,.ptr 128 0),(3,.ptr 192 0)] (EA a0 [(192,Ao 0 0 (Ai 195) [] (Ai 196) [] (Ai 197) [] false)]) (Ax 3 (As (bb h0 fun r1 e2 h0=>Qf (H19 a0.Ac r1 e2) (ar (At rfl (af rfl))) (o_ (Ba 3 [(1,.ptr 64 0),(2,.ptr 128 0),(3,.ptr 192 0)] (EA a0 [(192,Ao r1.clock r1.next (Ai 384) r1.Ae (Ai 196) [] (Ai 197) [] false)]) (Ax 3 (As (bb h0 fun r3 e4 h0=>Qf (H94 a0.Ab r3 e4) (af rfl) (o_ (Ba 3 [(1,.ptr 64 0),(2,.ptr 128 0),(3,.ptr 192 0)] (EA a0 [(192,Ao r1.clock r1.next (Ai 384) r1.Ae (Ai 640) r3 (Ai 197) [] false)]) (Ax 3 (As (bb h0 fun r5 e6 h0=>Qf (H43 a0.Ah r5 e6) (af rfl) (o_ ?_)))))))))))))))
 obtain rfl:=sj h0
 exact Cn 16

/- loop.example/g00149/laws.eqLease -/
def IG:=[X_ 2 0,X_ 3 1,k_ 4 (.bool false)]
def IH:=[f_ 5 2 0,l_ 6 5 1,f_ 7 3 0,l_ 8 7 1,b_ .neq 9 6 8]
def II:=[k_ 4 (.bool false)]
def IJ:=[f_ 10 2 1,l_ 11 10 1,f_ 12 3 1,l_ 13 12 1,b_ .neq 14 11 13]
def IK:=[k_ 4 (.bool false)]
def IL:=[f_ 15 2 2,l_ 16 15 1,f_ 17 3 2,l_ 18 17 1,b_ .neq 19 16 18]
def IM:=[k_ 4 (.bool false)]
def IN:=[f_ 20 2 3,l_ 21 20 1,f_ 22 3 3,l_ 23 22 1,iQ 24 (.binB .neq (.t 21) (.t 23))]
def IP:=[k_ 4 (.bool false)]
def IQ:=[k_ 4 (.bool true)]
def IF:Cz:=⟨2,25,[.t 4],sr IG (.seq (sr IH (iz 9 (rr II))) (.seq (sr IJ (iz 14 (rr IK))) (.seq (sr IL (iz 19 (rr IM))) (.seq (sr IN (iz 24 (rr IP))) (rr IQ)))))⟩
def K107 (D:Bj):Prop:=∀a0 a1 r,AcJ a0 a1=some r→D 107 ⟨[.agg (Ad a0),.agg (Ad a1)],[]⟩ ⟨.bool r,[],[]⟩
theorem F107:K107 (FO C IF):=by
 intro a0 a1 r h0
 refine f0 (Ba 14 [(2,.ptr 128 0),(3,.ptr 192 0),(9,.bool (a0.id != a1.id))] [(128,Ad a0),(192,Ad a1)] (Ch h0 (fun c1 h0=>?_) (fun c1 h0=>?_)))
 ·obtain rfl:=sj h0
  exact Cn 4
 ·refine Ba 10 [(2,.ptr 128 0),(3,.ptr 192 0),(14,.bool (a0.Bg != a1.Bg))] [(128,Ad a0),(192,Ad a1)] (Ch h0 (fun c2 h0=>?_) (fun c2 h0=>?_))
  ·obtain rfl:=sj h0
   exact Cn 4
  ·refine Ba 10 [(2,.ptr 128 0),(3,.ptr 192 0),(19,.bool (a0.cap != a1.cap))] [(128,Ad a0),(192,Ad a1)] (Ch h0 (fun c3 h0=>?_) (fun c3 h0=>?_))
   ·obtain rfl:=sj h0
    exact Cn 4
   ·refine Ba 10 [(24,.bool (!(a0.Bz==a1.Bz)))] [] (Ch h0 (fun c4 h0=>?_) (fun c4 h0=>?_))
    ·obtain rfl:=sj h0
     exact Cn 4
    ·obtain rfl:=sj h0
     exact Cn 6

/- loop.example/g00149/laws.eqLeaseS -/
def c64_r0:=[k_ 4 (.bool false)]
def c64_r1:=[m_ 6 0,n_ 7 6,m_ 8 1,n_ 9 8,b_ .neq 10 7 9]
def c64_r2:=[k_ 4 (.bool false)]
def c64_r3:=[i_ 5 0]
def c64_r4:=[m_ 11 5,m_ 12 0,n_ 13 12,b_ .lss 14 11 13]
def c64_r5:=tk [m_ 17 0,m_ 18 5,x_ 19 17 18 4,L_ 20 19 4,m_ 21 1,m_ 22 5,x_ 23 21 22 4,L_ 24 23 4] (.alt [] (q_ 25 107 [.t 20,.t 24]) (tk [N_ 26 25] .fin) .stop)
def c64_r6:=[k_ 4 (.bool false)]
def c64_r7:=[m_ 15 5,B_ .add 16 15 1,m_ 5 16]
def c64_l0:IR:=(.seq (sr c64_r4 (.ite (.t 14) .skip (.exit 0))) (.seq (.block 1 (sd c64_r5 (iz 26 (rr c64_r6)))) (.reg c64_r7)))
def c64_r8:=[k_ 4 (.bool true)]
def c64:Cz:=⟨2,27,[.t 4],sr c64_r0 (.seq (sr c64_r1 (iz 10 (rr c64_r2))) (.seq (sr c64_r3 (Ho 0 c64_l0)) (rr c64_r8)))⟩
def K64 (D:Bj):Prop:=∀a0 a1 r,g64 a0 a1=some r→D 64 ⟨[Bp a0,Bp a1],[]⟩ ⟨.bool r,[],[]⟩
theorem F64 (H107:K107 C):K64 (FO C c64):=by
 intro a0 a1 r h0
 refine f0 (Ba 3 [(0,Bp a0),(1,Bp a1)] [] (Ax 3 (As (Jr rfl (st (Cj rfl tv (Jr rfl (o_ (Ba 2 [(0,Bp a0),(1,Bp a1),(10,.bool ((a0.length:Int) != (a1.length:Int)))] [] (Ch h0 (fun c1 h0=>?_) (fun c1 h0=>?_)))))))))))
 ·obtain rfl:=sj h0
  exact Cn 4
 ·refine Ba 6 [(0,Bp a0),(1,Bp a1),(5,iV 0)] [] (Cc (bb h0 fun r28 e29 h0=>Cr (R:=(fun S=>.inl ()=r28∧S=⟨[],[],[]⟩)) (Zr a0 a1) (fun s S=>match s with | p10=>S=⟨[(0,Bp a0),(1,Bp a1),(5,iV p10)],[],[]⟩) e29 _ (Dw (by kernel_rfl)) rfl 0 (fun _=>rfl) ?_ ?_))
  ·rintro S _ hfg ⟨rfl,rfl⟩
   refine Dc _ hfg ?_
   obtain rfl:=sj h0
   exact Cn 4
  ·rintro p10 o1 _ K1 rfl h1 hx1 hK1 hE1 hR1
   refine Ax 4 (As (Jr rfl (o_ (Ba 2 [(0,Bp a0),(1,Bp a1),(5,iV p10),(14,.bool (decide (p10<(a0.length:Int))))] [] (Ch h1 (fun kP h1=>?_) (fun kP h1=>?_))))))
   ·refine Lr 5 (bb h1 fun y21 e22 h1=>bb h1 fun y23 e24 h1=>bb h1 fun r25 e26 h1=>Ax 2 (Bd (d_ (sI rfl rfl rfl e22 (Ax 3 (Bd (d_ (sI rfl rfl rfl e24 (Bd (Ak tv (c_ (v:=.agg (Ad y23)) (Bl ⟨tv,tv⟩ rfl (nl rfl)) (⟨tv,Gh (H107 y21 y23 r25 e26) rfl (dw [(0,Bp a0),(1,Bp a1),(5,iV p10),(25,.bool r25)] [] tv (d_ (Ba 2 [(0,Bp a0),(1,Bp a1),(5,iV p10),(26,.bool (!r25))] [] (Ch h1 (fun cP h1=>?_) (fun cP h1=>?_))))) Aq⟩))))))))))))
    ·obtain rfl:=sj h1
     obtain rfl:=hx1 _ rfl
     obtain rfl:=sj h0
     exact Wv 4 hR1
    ·refine Ax 7 ?_
     obtain rfl:=sj h1
     exact kn hK1 rfl rfl
   ·obtain rfl:=sj h1
    obtain rfl:=hx1 _ rfl
    refine Hq rfl ?_
    exact jn hE1 ⟨rfl,rfl⟩

/- loop.example/g00149/laws.eqTable -/
def c21_r0:=[X_ 2 0,X_ 3 1,k_ 4 (.bool false)]
def c21_r1:=[f_ 5 2 0,l_ 6 5 1,f_ 7 3 0,l_ 8 7 1,b_ .neq 9 6 8]
def c21_r2:=[k_ 4 (.bool false)]
def c21_r3:=[f_ 10 2 1,l_ 11 10 1,f_ 12 3 1,l_ 13 12 1,b_ .neq 14 11 13]
def c21_r4:=[k_ 4 (.bool false)]
def c21_r5:=[f_ 15 2 2,l_ 16 15 1,f_ 17 3 2,l_ 18 17 1,q_ 19 64 [.t 16,.t 18],N_ 20 19]
def c21_r6:=[k_ 4 (.bool false)]
def c21_r7:=[k_ 4 (.bool true)]
def c21:Cz:=⟨2,21,[.t 4],sr c21_r0 (.seq (sr c21_r1 (iz 9 (rr c21_r2))) (.seq (sr c21_r3 (iz 14 (rr c21_r4))) (.seq (sr c21_r5 (iz 20 (rr c21_r6))) (rr c21_r7))))⟩
def K21 (D:Bj):Prop:=∀a0 a1 r,g21 a0 a1=some r→D 21 ⟨[.agg (Bb a0),.agg (Bb a1)],[]⟩ ⟨.bool r,[],[]⟩
theorem F21 (H64:K64 C):K21 (FO C c21):=by
 intro a0 a1 r h0
 refine f0 (Ba 14 [(2,.ptr 128 0),(3,.ptr 192 0),(9,.bool (a0.clock != a1.clock))] [(128,Bb a0),(192,Bb a1)] (Ch h0 (fun c1 h0=>?_) (fun c1 h0=>?_)))
 ·obtain rfl:=sj h0
  exact Cn 4
 ·refine Ba 10 [(2,.ptr 128 0),(3,.ptr 192 0),(14,.bool (a0.next != a1.next))] [(128,Bb a0),(192,Bb a1)] (Ch h0 (fun c2 h0=>?_) (fun c2 h0=>?_))
  ·obtain rfl:=sj h0
   exact Cn 4
  ·refine Ax 8 (As (bb h0 fun r3 e4 h0=>Jj (H64 a0.Ae a1.Ae r3 e4) (o_ (Ba 2 [(20,.bool (!r3))] [] (Ch h0 (fun c5 h0=>?_) (fun c5 h0=>?_))))))
   ·obtain rfl:=sj h0
    exact Cn 4
   ·obtain rfl:=sj h0
    exact Cn 6

/- loop.example/g00149/laws.eqIntS -/
def c36_r0:=[k_ 4 (.bool false)]
def c36_r1:=[m_ 6 0,n_ 7 6,m_ 8 1,n_ 9 8,b_ .neq 10 7 9]
def c36_r2:=[k_ 4 (.bool false)]
def c36_r3:=[i_ 5 0]
def c36_r4:=[m_ 11 5,m_ 12 0,n_ 13 12,b_ .lss 14 11 13]
def c36_r5:=tk [m_ 17 0,m_ 18 5,x_ 19 17 18 1,l_ 20 19 1,m_ 21 1,m_ 22 5,x_ 23 21 22 1,l_ 24 23 1,b_ .neq 25 20 24] .fin
def c36_r6:=[k_ 4 (.bool false)]
def c36_r7:=[m_ 15 5,B_ .add 16 15 1,m_ 5 16]
def c36_l0:IR:=(.seq (sr c36_r4 (.ite (.t 14) .skip (.exit 0))) (.seq (.block 1 (sd c36_r5 (iz 25 (rr c36_r6)))) (.reg c36_r7)))
def c36_r8:=[k_ 4 (.bool true)]
def sP:Cz:=⟨2,26,[.t 4],sr c36_r0 (.seq (sr c36_r1 (iz 10 (rr c36_r2))) (.seq (sr c36_r3 (Ho 0 c36_l0)) (rr c36_r8)))⟩
def K36 (D:Bj):Prop:=∀a0 a1 r,g36 a0 a1=some r→D 36 ⟨[lI a0,lI a1],[]⟩ ⟨.bool r,[],[]⟩
theorem F36:K36 (FO C sP):=by
 intro a0 a1 r h0
 refine f0 (Ba 3 [(0,lI a0),(1,lI a1)] [] (Ax 3 (As (Jr rfl (st (Cj rfl tv (Jr rfl (o_ (Ba 2 [(0,lI a0),(1,lI a1),(10,.bool ((a0.length:Int) != (a1.length:Int)))] [] (Ch h0 (fun c1 h0=>?_) (fun c1 h0=>?_)))))))))))
 ·obtain rfl:=sj h0
  exact Cn 4
 ·refine Ba 6 [(0,lI a0),(1,lI a1),(5,iV 0)] [] (Cc (bb h0 fun r22 e23 h0=>Cr (R:=(fun S=>.inl ()=r22∧S=⟨[],[],[]⟩)) (Zm a0 a1) (fun s S=>match s with | p8=>S=⟨[(0,lI a0),(1,lI a1),(5,iV p8)],[],[]⟩) e23 _ (Dw (by kernel_rfl)) rfl 0 (fun _=>rfl) ?_ ?_))
  ·rintro S _ hfg ⟨rfl,rfl⟩
   refine Dc _ hfg ?_
   obtain rfl:=sj h0
   exact Cn 4
  ·rintro p8 o1 _ K1 rfl h1 hx1 hK1 hE1 hR1
   refine Ax 4 (As (Jr rfl (o_ (Ba 2 [(0,lI a0),(1,lI a1),(5,iV p8),(14,.bool (decide (p8<(a0.length:Int))))] [] (Ch h1 (fun c16 h1=>?_) (fun c16 h1=>?_))))))
   ·refine Lr 5 (bb h1 fun y17 e18 h1=>bb h1 fun y19 e20 h1=>Ax 2 (Bd (d_ (sI rfl rfl rfl e18 (Ax 3 (Bd (d_ (sI rfl rfl rfl e20 (Ba 3 [(0,lI a0),(1,lI a1),(5,iV p8),(25,.bool (y17 != y19))] [] (Ch h1 (fun c21 h1=>?_) (fun c21 h1=>?_)))))))))))
    ·obtain rfl:=sj h1
     obtain rfl:=hx1 _ rfl
     obtain rfl:=sj h0
     exact Wv 4 hR1
    ·refine Ax 7 ?_
     obtain rfl:=sj h1
     exact kn hK1 rfl rfl
   ·obtain rfl:=sj h1
    obtain rfl:=hx1 _ rfl
    refine Hq rfl ?_
    exact jn hE1 ⟨rfl,rfl⟩

/- loop.example/g00149/laws.eqIntent -/
def NZ:=[X_ 2 0,X_ 3 1,k_ 4 (.bool false)]
def OA:=[f_ 5 2 0,l_ 6 5 1,f_ 7 3 0,l_ 8 7 1,b_ .neq 9 6 8]
def OB:=[k_ 4 (.bool false)]
def OC:=[f_ 10 2 1,l_ 11 10 1,f_ 12 3 1,l_ 13 12 1,iQ 14 (.binB .neq (.t 11) (.t 13))]
def OD:=[k_ 4 (.bool false)]
def OE:=[k_ 4 (.bool true)]
def c131:Cz:=⟨2,15,[.t 4],sr NZ (.seq (sr OA (iz 9 (rr OB))) (.seq (sr OC (iz 14 (rr OD))) (rr OE)))⟩
def K131 (D:Bj):Prop:=∀a0 a1 r,CE a0 a1=some r→D 131 ⟨[.agg (Bq a0),.agg (Bq a1)],[]⟩ ⟨.bool r,[],[]⟩
theorem F131:K131 (FO C c131):=by
 intro a0 a1 r h0
 refine f0 (Ba 14 [(2,.ptr 128 0),(3,.ptr 192 0),(9,.bool (a0.Ay != a1.Ay))] [(128,Bq a0),(192,Bq a1)] (Ch h0 (fun c1 h0=>?_) (fun c1 h0=>?_)))
 ·obtain rfl:=sj h0
  exact Cn 4
 ·refine Ba 10 [(14,.bool (!(a0.Ji==a1.Ji)))] [] (Ch h0 (fun c2 h0=>?_) (fun c2 h0=>?_))
  ·obtain rfl:=sj h0
   exact Cn 4
  ·obtain rfl:=sj h0
   exact Cn 6

/- loop.example/g00149/laws.eqIntentS -/
def c99_r0:=[k_ 4 (.bool false)]
def c99_r1:=[m_ 6 0,n_ 7 6,m_ 8 1,n_ 9 8,b_ .neq 10 7 9]
def c99_r2:=[k_ 4 (.bool false)]
def c99_r3:=[i_ 5 0]
def c99_r4:=[m_ 11 5,m_ 12 0,n_ 13 12,b_ .lss 14 11 13]
def c99_r5:=tk [m_ 17 0,m_ 18 5,x_ 19 17 18 2,L_ 20 19 2,m_ 21 1,m_ 22 5,x_ 23 21 22 2,L_ 24 23 2] (.alt [] (q_ 25 131 [.t 20,.t 24]) (tk [N_ 26 25] .fin) .stop)
def c99_r6:=[k_ 4 (.bool false)]
def c99_r7:=[m_ 15 5,B_ .add 16 15 1,m_ 5 16]
def c99_l0:IR:=(.seq (sr c99_r4 (.ite (.t 14) .skip (.exit 0))) (.seq (.block 1 (sd c99_r5 (iz 26 (rr c99_r6)))) (.reg c99_r7)))
def c99_r8:=[k_ 4 (.bool true)]
def c99:Cz:=⟨2,27,[.t 4],sr c99_r0 (.seq (sr c99_r1 (iz 10 (rr c99_r2))) (.seq (sr c99_r3 (Ho 0 c99_l0)) (rr c99_r8)))⟩
def K99 (D:Bj):Prop:=∀a0 a1 r,g99 a0 a1=some r→D 99 ⟨[Bm a0,Bm a1],[]⟩ ⟨.bool r,[],[]⟩
theorem F99 (H131:K131 C):K99 (FO C c99):=by
 intro a0 a1 r h0
 refine f0 (Ba 3 [(0,Bm a0),(1,Bm a1)] [] (Ax 3 (As (Jr rfl (st (Cj rfl tv (Jr rfl (o_ (Ba 2 [(0,Bm a0),(1,Bm a1),(10,.bool ((a0.length:Int) != (a1.length:Int)))] [] (Ch h0 (fun c1 h0=>?_) (fun c1 h0=>?_)))))))))))
 ·obtain rfl:=sj h0
  exact Cn 4
 ·refine Ba 6 [(0,Bm a0),(1,Bm a1),(5,iV 0)] [] (Cc (bb h0 fun r28 e29 h0=>Cr (R:=(fun S=>.inl ()=r28∧S=⟨[],[],[]⟩)) (Zy a0 a1) (fun s S=>match s with | p10=>S=⟨[(0,Bm a0),(1,Bm a1),(5,iV p10)],[],[]⟩) e29 _ (Dw (by kernel_rfl)) rfl 0 (fun _=>rfl) ?_ ?_))
  ·rintro S _ hfg ⟨rfl,rfl⟩
   refine Dc _ hfg ?_
   obtain rfl:=sj h0
   exact Cn 4
  ·rintro p10 o1 _ K1 rfl h1 hx1 hK1 hE1 hR1
   refine Ax 4 (As (Jr rfl (o_ (Ba 2 [(0,Bm a0),(1,Bm a1),(5,iV p10),(14,.bool (decide (p10<(a0.length:Int))))] [] (Ch h1 (fun kP h1=>?_) (fun kP h1=>?_))))))
   ·refine Lr 5 (bb h1 fun y21 e22 h1=>bb h1 fun y23 e24 h1=>bb h1 fun r25 e26 h1=>Ax 2 (Bd (d_ (sI rfl rfl rfl e22 (Ax 3 (Bd (d_ (sI rfl rfl rfl e24 (Bd (Ak tv (c_ (v:=.agg (Bq y23)) (Bl ⟨tv,tv⟩ rfl (nl rfl)) (⟨tv,Gh (H131 y21 y23 r25 e26) rfl (dw [(0,Bm a0),(1,Bm a1),(5,iV p10),(25,.bool r25)] [] tv (d_ (Ba 2 [(0,Bm a0),(1,Bm a1),(5,iV p10),(26,.bool (!r25))] [] (Ch h1 (fun cP h1=>?_) (fun cP h1=>?_))))) Aq⟩))))))))))))
    ·obtain rfl:=sj h1
     obtain rfl:=hx1 _ rfl
     obtain rfl:=sj h0
     exact Wv 4 hR1
    ·refine Ax 7 ?_
     obtain rfl:=sj h1
     exact kn hK1 rfl rfl
   ·obtain rfl:=sj h1
    obtain rfl:=hx1 _ rfl
    refine Hq rfl ?_
    exact jn hE1 ⟨rfl,rfl⟩

/- loop.example/g00149/laws.eqVault -/
def c49_r0:=[X_ 2 0,X_ 3 1,k_ 4 (.bool false)]
def c49_r1:=[f_ 5 2 0,L_ 6 5 3,f_ 7 3 0,L_ 8 7 3,q_ 9 21 [.t 6,.t 8],N_ 10 9]
def c49_r2:=[k_ 4 (.bool false)]
def c49_r3:=[f_ 11 2 3,l_ 12 11 1,f_ 13 3 3,l_ 14 13 1,q_ 15 99 [.t 12,.t 14],N_ 16 15]
def c49_r4:=[k_ 4 (.bool false)]
def c49_r5:=[f_ 17 2 4,l_ 18 17 1,f_ 19 3 4,l_ 20 19 1,q_ 21 36 [.t 18,.t 20],N_ 22 21]
def c49_r6:=[k_ 4 (.bool false)]
def c49_r7:=[f_ 23 2 5,l_ 24 23 1,f_ 25 3 5,l_ 26 25 1,iQ 27 (.binB .neq (.t 24) (.t 26))]
def c49_r8:=[k_ 4 (.bool false)]
def c49_r9:=[k_ 4 (.bool true)]
def c49:Cz:=⟨2,28,[.t 4],sr c49_r0 (.seq (sr c49_r1 (iz 10 (rr c49_r2))) (.seq (sr c49_r3 (iz 16 (rr c49_r4))) (.seq (sr c49_r5 (iz 22 (rr c49_r6))) (.seq (sr c49_r7 (iz 27 (rr c49_r8))) (rr c49_r9)))))⟩
def K49 (D:Bj):Prop:=∀a0 a1 r,g49 a0 a1=some r→D 49 ⟨[.agg (Au a0),.agg (Au a1)],[]⟩ ⟨.bool r,[],[]⟩
theorem F49 (H21:K21 C) (H36:K36 C) (H99:K99 C):K49 (FO C c49):=by
 intro a0 a1 r h0
 refine f0 (Ba 5 [(2,.ptr 128 0),(3,.ptr 192 0)] [(128,Au a0),(192,Au a1)] (Ax 6 (As (bb h0 fun r1 e2 h0=>Jj (H21 a0.Ac a1.Ac r1 e2) (o_ (Ba 2 [(2,.ptr 128 0),(3,.ptr 192 0),(10,.bool (!r1))] [(128,Au a0),(192,Au a1)] (Ch h0 (fun c3 h0=>?_) (fun c3 h0=>?_))))))))
 ·obtain rfl:=sj h0
  exact Cn 4
 ·refine Ax 8 (As (bb h0 fun r4 e5 h0=>Jj (H99 a0.Ab a1.Ab r4 e5) (o_ (Ba 2 [(2,.ptr 128 0),(3,.ptr 192 0),(16,.bool (!r4))] [(128,Au a0),(192,Au a1)] (Ch h0 (fun c6 h0=>?_) (fun c6 h0=>?_))))))
  ·obtain rfl:=sj h0
   exact Cn 4
  ·refine Ax 8 (As (bb h0 fun r7 e8 h0=>Jj (H36 a0.Ah a1.Ah r7 e8) (o_ (Ba 2 [(2,.ptr 128 0),(3,.ptr 192 0),(22,.bool (!r7))] [(128,Au a0),(192,Au a1)] (Ch h0 (fun c9 h0=>?_) (fun c9 h0=>?_))))))
   ·obtain rfl:=sj h0
    exact Cn 4
   ·refine Ba 10 [(27,.bool (!(a0.An==a1.An)))] [] (Ch h0 (fun c10 h0=>?_) (fun c10 h0=>?_))
    ·obtain rfl:=sj h0
     exact Cn 4
    ·obtain rfl:=sj h0
     exact Cn 6

/- loop.example/g00149/laws.markLeaseS -/
def c72_r0:=[i_ 4 0]
def c72_r1:=[i_ 5 0]
def c72_r2:=[m_ 6 5,m_ 7 0,n_ 8 7,b_ .lss 9 6 8]
def c72_r3:=[m_ 12 0,m_ 13 5,m_ 14 1,x_ 15 12 13 4,f_ 16 15 0,s_ 16 14 1]
def c72_r4:=[m_ 17 1,B_ .add 18 17 1,m_ 1 18]
def c72_r5:=[m_ 19 0,m_ 20 5,m_ 21 1,x_ 22 19 20 4,f_ 23 22 1,s_ 23 21 1]
def c72_r6:=[m_ 24 1,B_ .add 25 24 1,m_ 1 25]
def c72_r7:=[m_ 26 0,m_ 27 5,m_ 28 1,x_ 29 26 27 4,f_ 30 29 2,s_ 30 28 1]
def c72_r8:=[m_ 31 1,B_ .add 32 31 1,m_ 1 32]
def c72_r9:=[m_ 33 0,m_ 34 5,m_ 35 1,B_ .rem 36 35 3,B_ .eql 37 36 0,x_ 38 33 34 4,f_ 39 38 3,s_ 39 37 1]
def AbY:=[m_ 40 1,B_ .add 41 40 1,m_ 1 41]
def AbZ:=[m_ 10 5,B_ .add 11 10 1,m_ 5 11]
def c72_l0:IR:=(.seq (sr c72_r2 (.ite (.t 9) .skip (.exit 0))) (.seq (.block 1 (sr c72_r3 (sr c72_r4 (sr c72_r5 (sr c72_r6 (sr c72_r7 (sr c72_r8 (sr c72_r9 (.reg AbY))))))))) (.reg AbZ)))
def Aca:=[m_ 42 1,m_ 4 42]
def c72:Cz:=⟨2,43,[.t 4],sr c72_r0 (.seq (sr c72_r1 (Ho 0 c72_l0)) (rr Aca))⟩
def K72 (D:Bj):Prop:=∀a0 a1 r,g72 a0 a1=some r→D 72 ⟨[Ag 2097152 a0,iV a1],[]⟩ ⟨iV r.1,[],[(0,4,r.2.map Ad)]⟩
theorem F72:K72 (FO C c72):=by
 intro a0 a1 r h0
 refine f0 (Ba 8 [(0,Ag 2097152 a0),(1,iV a1),(5,iV 0)] [] (Cc (bb h0 fun r84 e85 h0=>Cr (R:=(fun S=>∃p57:List Aa,∃p58:Int,(p57,p58)=r84∧S=⟨[(0,Ag 2097152 p57),(1,iV p58)],[],[]⟩)) (Vi) (fun s S=>match s with | (p26,p27,p28)=>S=⟨[(0,Ag 2097152 p26),(1,iV p27),(5,iV p28)],[],[]⟩) e85 _ (Dw (by kernel_rfl)) rfl 0 (fun _=>rfl) ?_ ?_)))
 ·rintro S _ hfg ⟨p57,p58,rfl,rfl⟩
  refine Dc _ hfg (Ba 4 [(0,Ag 2097152 p57),(4,iV p58)] [] ?_)
  obtain rfl:=sj h0
  exact Ka (Dx rfl rfl rfl rfl rfl ⟨⟨rfl,Ip (fun _=>rfl)⟩,tv⟩)
 ·rintro ⟨p26,p27,p28⟩ o1 _ K1 rfl h1 hx1 hK1 hE1 hR1
  refine Ax 4 (As (Xf rfl (o_ (Ba 2 [(0,Ag 2097152 p26),(1,iV p27),(5,iV p28),(9,.bool (decide (p28<(p26.length:Int))))] [] (Ch h1 (fun c59 h1=>?_) (fun c59 h1=>?_))))))
  ·refine Ax 8 (As (bb h1 fun y60 e61 h1=>Wa rfl rfl e61 (st (c_ (Bl ⟨tv,tv⟩ rfl tv) (bb h1 fun y62 e63 h1=>gQ (Aa.mk p27 y62.Bg y62.cap y62.Bz) rfl rfl e63 (o_ (Ba 7 [(0,Ag 2097152 (p26.set p28.toNat (Aa.mk p27 y62.Bg y62.cap y62.Bz))),(1,iV (wi (p27+1))),(5,iV p28)] [] (Ax 4 (As (bb h1 fun y64 e65 h1=>Wa rfl rfl e65 (st (c_ (Bl ⟨tv,tv⟩ rfl tv) (bb h1 fun y66 e67 h1=>gQ (Aa.mk y66.id (wi (p27+1)) y66.cap y66.Bz) rfl rfl e67 (o_ (Ba 1 [(0,Ag 2097152 ((p26.set p28.toNat (Aa.mk p27 y62.Bg y62.cap y62.Bz)).set p28.toNat (Aa.mk y66.id (wi (p27+1)) y66.cap y66.Bz))),(1,iV (wi (p27+1))),(5,iV p28)] [] (Ax 5 (bv h1 fun v68 e69 h1=>Dc ⟨[(0,Ag 2097152 v68),(1,iV (wi ((wi (p27+1))+1))),(5,iV p28)],[],[]⟩ (Dw (by subst e69; kernel_rfl)) (Ax 4 (As (bb h1 fun y70 e71 h1=>Wa rfl rfl e71 (st (c_ (Bl ⟨tv,tv⟩ rfl tv) (bb h1 fun y72 e73 h1=>gQ (Aa.mk y72.id y72.Bg (wi ((wi (p27+1))+1)) y72.Bz) rfl rfl e73 (o_ (Ba 1 [(0,.own 2097152 0 4 ((v68.set p28.toNat (Aa.mk y72.id y72.Bg (wi ((wi (p27+1))+1)) y72.Bz)).map Ad)),(1,iV (wi ((wi (p27+1))+1))),(5,iV p28)] [] (Ax 5 (bv h1 fun v74 e75 h1=>bv h1 fun v76 e77 h1=>Dc ⟨[(0,Ag 2097152 v74),(1,iV v76),(5,iV p28)],[],[]⟩ (Dw (by subst e75 e77; kernel_rfl)) (Ax 4 (As (st (c_ (Bl ⟨tv,tv,tv⟩ rfl (by decide)) (st (c_ (Bl t3 rfl tv) (bb h1 fun y78 e79 h1=>Wa rfl rfl e79 (st (c_ (Bl ⟨tv,tv⟩ rfl tv) (bb h1 fun y80 e81 h1=>gQ (Aa.mk y80.id y80.Bg y80.cap (((v76).tmod 3)==0)) rfl rfl e81 (o_ (Ba 1 [(0,.own 2097152 0 4 ((v74.set p28.toNat (Aa.mk y80.id y80.Bg y80.cap (((v76).tmod 3)==0))).map Ad)),(1,iV v76),(5,iV p28)] [] (Ax 5 (bv h1 fun v82 e83 h1=>Dc ⟨[(0,Ag 2097152 v82),(1,iV (wi (v76+1))),(5,iV p28)],[],[]⟩ (Dw (by subst e83; kernel_rfl)) (Ax 4 ?_))))))))))))))))))))))))))))))))))))))))))
   obtain rfl:=sj h1
   exact kn hK1 rfl rfl
  ·obtain rfl:=sj h1
   obtain rfl:=hx1 _ rfl
   refine Hq rfl ?_
   exact jn hE1 ⟨_,_,rfl,rfl⟩

/- loop.example/g00149/laws.markTable -/
def c26_r0:=[X_ 2 0,i_ 4 0]
def c26_r1:=[f_ 5 2 2,l_ 6 5 1,m_ 7 1,q_ 8 72 [.t 6,.t 7],m_ 1 8]
def c26_r2:=[m_ 9 1,m_ 4 9]
def oB:Cz:=⟨2,10,[.t 4],sr c26_r0 (sr c26_r1 (rr c26_r2))⟩
def K26 (D:Bj):Prop:=∀a0 a1 r,g26 a0 a1=some r→D 26 ⟨[.agg (Cm a0 (Ai 2097152)),iV a1],[]⟩ ⟨iV r.1,[],[(0,4,r.2.map Ad)]⟩
theorem F26 (H72:K72 C):K26 (FO C oB):=by
 intro a0 a1 r h0
 refine f0 (Ba 4 [(0,.agg (Cm a0 (Ai 2097152))),(1,iV a1),(2,.ptr 128 0)] [(128,Cm a0 (Ai 2097152))] (Ax 4 (As (bb h0 fun r1 e2 h0=>gg h0 fun c3 h0=>Xd [] [2097152] [] (H72 a0.Ae a1 r1 e2) (ar (At (Wi (fun _=>rfl)) rfl)) (sw ⟨[(0,.agg (Br a0.clock a0.next (Ai 2097152) r1.2)),(8,iV r1.1)],[],[]⟩ (fg ⟨congrArg (fun z=>some ((.agg [iV a0.clock,iV a0.next,z]:V))) (Ep c3),rfl,tv⟩ tv) (Cj rfl tv (o_ (Ba 6 [(0,.agg (Br a0.clock a0.next (Ai 2097152) r1.2)),(4,iV r1.1)] [] ?_))))))))
 obtain rfl:=sj h0
 exact Ka (Dx rfl rfl rfl rfl rfl ⟨⟨rfl,Ip (fun _=>rfl)⟩,tv⟩)

/- loop.example/g00149/laws.markIntS -/
def c37_r0:=[i_ 4 0]
def c37_r1:=[i_ 5 0]
def c37_r2:=[m_ 6 5,m_ 7 0,n_ 8 7,b_ .lss 9 6 8]
def c37_r3:=[m_ 12 0,m_ 13 5,m_ 14 1,x_ 15 12 13 1,s_ 15 14 1]
def c37_r4:=[m_ 16 1,B_ .add 17 16 1,m_ 1 17]
def c37_r5:=[m_ 10 5,B_ .add 11 10 1,m_ 5 11]
def c37_l0:IR:=(.seq (sr c37_r2 (.ite (.t 9) .skip (.exit 0))) (.seq (.block 1 (sr c37_r3 (.reg c37_r4))) (.reg c37_r5)))
def c37_r6:=[m_ 18 1,m_ 4 18]
def c37:Cz:=⟨2,19,[.t 4],sr c37_r0 (.seq (sr c37_r1 (Ho 0 c37_l0)) (rr c37_r6))⟩
def K37 (D:Bj):Prop:=∀a0 a1 r,g37 a0 a1=some r→D 37 ⟨[oI 2097152 a0,iV a1],[]⟩ ⟨iV r.1,[],[(0,1,r.2.map eI)]⟩
theorem F37:K37 (FO C c37):=by
 intro a0 a1 r h0
 refine f0 (Ba 8 [(0,oI 2097152 a0),(1,iV a1),(5,iV 0)] [] (Cc (bb h0 fun r24 e25 h0=>Cr (R:=(fun S=>∃p17:List Int,∃p18:Int,(p17,p18)=r24∧S=⟨[(0,oI 2097152 p17),(1,iV p18)],[],[]⟩)) (Zn) (fun s S=>match s with | (p6,p7,p8)=>S=⟨[(0,oI 2097152 p6),(1,iV p7),(5,iV p8)],[],[]⟩) e25 _ (Dw (by kernel_rfl)) rfl 0 (fun _=>rfl) ?_ ?_)))
 ·rintro S _ hfg ⟨p17,p18,rfl,rfl⟩
  refine Dc _ hfg (Ba 4 [(0,oI 2097152 p17),(4,iV p18)] [] ?_)
  obtain rfl:=sj h0
  exact Ka (Dx rfl rfl rfl rfl rfl ⟨⟨rfl,Ip (fun _=>rfl)⟩,tv⟩)
 ·rintro ⟨p6,p7,p8⟩ o1 _ K1 rfl h1 hx1 hK1 hE1 hR1
  refine Ax 4 (As (Xf rfl (o_ (Ba 2 [(0,oI 2097152 p6),(1,iV p7),(5,iV p8),(9,.bool (decide (p8<(p6.length:Int))))] [] (Ch h1 (fun yJ h1=>?_) (fun yJ h1=>?_))))))
  ·refine Ax 8 (As (bb h1 fun y20 e21 h1=>Wa rfl rfl e21 (bb h1 fun y22 e23 h1=>gQ p7 rfl rfl e23 (o_ (Ba 7 [(0,oI 2097152 (p6.set p8.toNat p7)),(1,iV (wi (p7+1))),(5,iV p8)] [] (Ax 4 ?_))))))
   obtain rfl:=sj h1
   exact kn hK1 rfl rfl
  ·obtain rfl:=sj h1
   obtain rfl:=hx1 _ rfl
   refine Hq rfl ?_
   exact jn hE1 ⟨_,_,rfl,rfl⟩

/- loop.example/g00149/laws.markIntentS -/
def XO:=[i_ 4 0]
def XP:=[i_ 5 0]
def XQ:=[m_ 6 5,m_ 7 0,n_ 8 7,b_ .lss 9 6 8]
def XS:=[m_ 12 0,m_ 13 5,m_ 14 1,x_ 15 12 13 2,f_ 16 15 0,s_ 16 14 1]
def XT:=[m_ 17 1,B_ .add 18 17 1,m_ 1 18]
def XU:=[m_ 19 0,m_ 20 5,m_ 21 1,B_ .rem 22 21 3,B_ .eql 23 22 0,x_ 24 19 20 2,f_ 25 24 1,s_ 25 23 1]
def XV:=[m_ 26 1,B_ .add 27 26 1,m_ 1 27]
def XW:=[m_ 10 5,B_ .add 11 10 1,m_ 5 11]
def XN:IR:=(.seq (sr XQ (.ite (.t 9) .skip (.exit 0))) (.seq (.block 1 (sr XS (sr XT (sr XU (.reg XV))))) (.reg XW)))
def XX:=[m_ 28 1,m_ 4 28]
def c315:Cz:=⟨2,29,[.t 4],sr XO (.seq (sr XP (Ho 0 XN)) (rr XX))⟩
def K315 (D:Bj):Prop:=∀a0 a1 r,Adt a0 a1=some r→D 315 ⟨[Bo 2097152 a0,iV a1],[]⟩ ⟨iV r.1,[],[(0,2,r.2.map Bq)]⟩
theorem F315:K315 (FO C c315):=by
 intro a0 a1 r h0
 refine f0 (Ba 8 [(0,Bo 2097152 a0),(1,iV a1),(5,iV 0)] [] (Cc (bb h0 fun r42 e43 h0=>Cr (R:=(fun S=>∃p29:List Aj,∃p30:Int,(p29,p30)=r42∧S=⟨[(0,Bo 2097152 p29),(1,iV p30)],[],[]⟩)) (Tr) (fun s S=>match s with | (p12,p13,p14)=>S=⟨[(0,Bo 2097152 p12),(1,iV p13),(5,iV p14)],[],[]⟩) e43 _ (Dw (by kernel_rfl)) rfl 0 (fun _=>rfl) ?_ ?_)))
 ·rintro S _ hfg ⟨p29,p30,rfl,rfl⟩
  refine Dc _ hfg (Ba 4 [(0,Bo 2097152 p29),(4,iV p30)] [] ?_)
  obtain rfl:=sj h0
  exact Ka (Dx rfl rfl rfl rfl rfl ⟨⟨rfl,Ip (fun _=>rfl)⟩,tv⟩)
 ·rintro ⟨p12,p13,p14⟩ o1 _ K1 rfl h1 hx1 hK1 hE1 hR1
  refine Ax 4 (As (Xf rfl (o_ (Ba 2 [(0,Bo 2097152 p12),(1,iV p13),(5,iV p14),(9,.bool (decide (p14<(p12.length:Int))))] [] (Ch h1 (fun c31 h1=>?_) (fun c31 h1=>?_))))))
  ·refine Ax 8 (As (bb h1 fun y32 e33 h1=>Wa rfl rfl e33 (st (c_ (Bl ⟨tv,tv⟩ rfl tv) (bb h1 fun y34 e35 h1=>gQ (Aj.mk p13 y34.Ji) rfl rfl e35 (o_ (Ba 7 [(0,Bo 2097152 (p12.set p14.toNat (Aj.mk p13 y34.Ji))),(1,iV (wi (p13+1))),(5,iV p14)] [] (Ax 4 (As (st (c_ (Bl ⟨tv,tv,tv⟩ rfl (by decide)) (st (c_ (Bl t3 rfl tv) (bb h1 fun y36 e37 h1=>Wa rfl rfl e37 (st (c_ (Bl ⟨tv,tv⟩ rfl tv) (bb h1 fun y38 e39 h1=>gQ (Aj.mk y38.Ay ((((wi (p13+1))).tmod 3)==0)) rfl rfl e39 (o_ (Ba 1 [(0,.own 2097152 0 2 (((p12.set p14.toNat (Aj.mk p13 y34.Ji)).set p14.toNat (Aj.mk y38.Ay ((((wi (p13+1))).tmod 3)==0))).map Bq)),(1,iV (wi (p13+1))),(5,iV p14)] [] (Ax 5 (bv h1 fun v40 e41 h1=>Dc ⟨[(0,Bo 2097152 v40),(1,iV (wi ((wi (p13+1))+1))),(5,iV p14)],[],[]⟩ (Dw (by subst e41; kernel_rfl)) (Ax 4 ?_))))))))))))))))))))))
   obtain rfl:=sj h1
   exact kn hK1 rfl rfl
  ·obtain rfl:=sj h1
   obtain rfl:=hx1 _ rfl
   refine Hq rfl ?_
   exact jn hE1 ⟨_,_,rfl,rfl⟩

/- loop.example/g00149/laws.markVault -/
def WX:=[X_ 2 0,i_ 4 0]
def WY:=[f_ 5 2 0,L_ 6 5 3,m_ 7 1,q_ 8 26 [.t 6,.t 7],m_ 1 8]
def WZ:=[f_ 9 2 3,l_ 10 9 1,m_ 11 1,q_ 12 315 [.t 10,.t 11],m_ 1 12]
def XA:=[f_ 13 2 4,l_ 14 13 1,m_ 15 1,q_ 16 37 [.t 14,.t 15],m_ 1 16]
def XC:=[m_ 17 1,m_ 4 17]
def c252:Cz:=⟨2,18,[.t 4],sr WX (sr WY (sr WZ (sr XA (rr XC))))⟩
def K252 (D:Bj):Prop:=∀a0 a1 r,iY a0 a1=some r→D 252 ⟨[.agg (Al a0 (Ai 2097152) (Ai 2097153) (Ai 2097154)),iV a1],[]⟩ ⟨iV r.1,[],[(0,4,r.2.1.map Ad),(0,2,r.2.2.1.map Bq),(0,1,r.2.2.2.map eI)]⟩
theorem F252 (H26:K26 C) (H37:K37 C) (H315:K315 C):K252 (FO C c252):=by
 intro a0 a1 r h0
 refine f0 (Ba 4 [(0,.agg (Al a0 (Ai 2097152) (Ai 2097153) (Ai 2097154))),(1,iV a1),(2,.ptr 128 0)] [(128,Al a0 (Ai 2097152) (Ai 2097153) (Ai 2097154))] (Ax 4 (As (bb h0 fun r1 e2 h0=>gg h0 fun c3 h0=>Xd [] [2097152] [] (H26 a0.Ac a1 r1 e2) (ar (At (Wi (fun _=>rfl)) rfl)) (sw ⟨[(0,.agg (Ao a0.Ac.clock a0.Ac.next (Ai 2097152) r1.2 (Ai 2097153) a0.Ab (Ai 2097154) a0.Ah a0.An)),(2,.ptr 128 0),(8,iV r1.1)],[(128,Ao a0.Ac.clock a0.Ac.next (Ai 2097152) r1.2 (Ai 2097153) a0.Ab (Ai 2097154) a0.Ah a0.An)],[]⟩ (fg ⟨congrArg (fun z=>some ((.agg [iV a0.Ac.clock,iV a0.Ac.next,z,Bo 2097153 a0.Ab,oI 2097154 a0.Ah,.bool a0.An]:V))) (Ep c3),rfl,rfl,tv⟩ ⟨congrArg (fun z=>some (([iV a0.Ac.clock,iV a0.Ac.next,z,Bo 2097153 a0.Ab,oI 2097154 a0.Ah,.bool a0.An]:List V))) (Ep c3),tv⟩) (Cj rfl tv (o_ (Ba 1 [(0,.agg (Ao a0.Ac.clock a0.Ac.next (Ai 2097152) r1.2 (Ai 2097153) a0.Ab (Ai 2097154) a0.Ah a0.An)),(1,iV r1.1),(2,.ptr 128 0)] [(128,Ao a0.Ac.clock a0.Ac.next (Ai 2097152) r1.2 (Ai 2097153) a0.Ab (Ai 2097154) a0.Ah a0.An)] (Ax 4 (As (bb h0 fun r4 e5 h0=>gg h0 fun c6 h0=>Xd [] [2097153] [] (H315 a0.Ab r1.1 r4 e5) (ar (At (Wi (fun _=>rfl)) rfl)) (sw ⟨[(0,.agg (Ao a0.Ac.clock a0.Ac.next (Ai 2097152) r1.2 (Ai 2097153) r4.2 (Ai 2097154) a0.Ah a0.An)),(2,.ptr 128 0),(12,iV r4.1)],[(128,Ao a0.Ac.clock a0.Ac.next (Ai 2097152) r1.2 (Ai 2097153) r4.2 (Ai 2097154) a0.Ah a0.An)],[]⟩ (fg ⟨congrArg (fun z=>some ((.agg [iV a0.Ac.clock,iV a0.Ac.next,Ag 2097152 r1.2,z,oI 2097154 a0.Ah,.bool a0.An]:V))) (Ep c6),rfl,rfl,tv⟩ ⟨congrArg (fun z=>some (([iV a0.Ac.clock,iV a0.Ac.next,Ag 2097152 r1.2,z,oI 2097154 a0.Ah,.bool a0.An]:List V))) (Ep c6),tv⟩) (Cj rfl tv (o_ (Ba 1 [(0,.agg (Ao a0.Ac.clock a0.Ac.next (Ai 2097152) r1.2 (Ai 2097153) r4.2 (Ai 2097154) a0.Ah a0.An)),(1,iV r4.1),(2,.ptr 128 0)] [(128,Ao a0.Ac.clock a0.Ac.next (Ai 2097152) r1.2 (Ai 2097153) r4.2 (Ai 2097154) a0.Ah a0.An)] (Ax 4 (As (bb h0 fun r7 e8 h0=>gg h0 fun c9 h0=>Xd [] [2097154] [] (H37 a0.Ah r4.1 r7 e8) (ar (At (Wi (fun _=>rfl)) rfl)) (sw ⟨[(0,.agg (Ao a0.Ac.clock a0.Ac.next (Ai 2097152) r1.2 (Ai 2097153) r4.2 (Ai 2097154) r7.2 a0.An)),(16,iV r7.1)],[],[]⟩ (fg ⟨congrArg (fun z=>some ((.agg [iV a0.Ac.clock,iV a0.Ac.next,Ag 2097152 r1.2,Bo 2097153 r4.2,z,.bool a0.An]:V))) (Ep c9),rfl,tv⟩ tv) (Cj rfl tv (o_ (Ba 6 [(0,.agg (Ao a0.Ac.clock a0.Ac.next (Ai 2097152) r1.2 (Ai 2097153) r4.2 (Ai 2097154) r7.2 a0.An)),(4,iV r7.1)] [] ?_))))))))))))))))))))))
 obtain rfl:=sj h0
 exact Ka (Dx rfl rfl rfl rfl rfl ⟨⟨rfl,Ip (fun _=>rfl)⟩,⟨⟨rfl,Ip (fun _=>rfl)⟩,⟨⟨rfl,Ip (fun _=>rfl)⟩,tv⟩⟩⟩)

/- loop.example/g00149/laws.heldLeaseS -/
def c73_r0:=[i_ 4 0]
def c73_r1:=[i_ 5 0]
def c73_r2:=[m_ 6 5,m_ 7 0,n_ 8 7,b_ .lss 9 6 8]
def c73_r3:=[m_ 12 0,m_ 13 5,x_ 14 12 13 4,f_ 15 14 0,l_ 16 15 1,m_ 17 1,b_ .neq 18 16 17]
def c73_r4:=[i_ 4 (-1)]
def c73_r5:=[m_ 19 1,B_ .add 20 19 1,m_ 1 20]
def c73_r6:=[m_ 21 0,m_ 22 5,x_ 23 21 22 4,f_ 24 23 1,l_ 25 24 1,m_ 26 1,b_ .neq 27 25 26]
def c73_r7:=[i_ 4 (-1)]
def c73_r8:=[m_ 28 1,B_ .add 29 28 1,m_ 1 29]
def c73_r9:=[m_ 30 0,m_ 31 5,x_ 32 30 31 4,f_ 33 32 2,l_ 34 33 1,m_ 35 1,b_ .neq 36 34 35]
def Acb:=[i_ 4 (-1)]
def Acc:=[m_ 37 1,B_ .add 38 37 1,m_ 1 38]
def Acd:=[m_ 39 0,m_ 40 5,x_ 41 39 40 4,f_ 42 41 3,l_ 43 42 1,m_ 44 1,B_ .rem 45 44 3,B_ .eql 46 45 0,iQ 47 (.binB .neq (.t 43) (.t 46))]
def Ace:=[i_ 4 (-1)]
def Acf:=[m_ 48 1,B_ .add 49 48 1,m_ 1 49]
def Acg:=[m_ 10 5,B_ .add 11 10 1,m_ 5 11]
def c73_l0:IR:=(.seq (sr c73_r2 (.ite (.t 9) .skip (.exit 0))) (.seq (.block 1 (.seq (sr c73_r3 (iz 18 (rr c73_r4))) (sr c73_r5 (.seq (sr c73_r6 (iz 27 (rr c73_r7))) (sr c73_r8 (.seq (sr c73_r9 (iz 36 (rr Acb))) (sr Acc (.seq (sr Acd (iz 47 (rr Ace))) (.reg Acf))))))))) (.reg Acg)))
def Ach:=[m_ 50 1,m_ 4 50]
def c73:Cz:=⟨2,51,[.t 4],sr c73_r0 (.seq (sr c73_r1 (Ho 0 c73_l0)) (rr Ach))⟩
def K73 (D:Bj):Prop:=∀a0 a1 r,g73 a0 a1=some r→D 73 ⟨[Bp a0,iV a1],[]⟩ ⟨iV r,[],[]⟩
abbrev Rn:=fun x0 x1 (r:List (Nat×V))=>(0,Bp x0)::(5,iV x1)::r
theorem F73:K73 (FO C c73):=by
 intro a0 a1 r h0
 refine f0 (Ba 8 [(0,Bp a0),(1,iV a1),(5,iV 0)] [] (Cc (bb h0 fun r51 e52 h0=>Cr (R:=(fun S=>∃p35:Int,.inl p35=r51∧S=⟨[(1,iV p35)],[],[]⟩)) (Vj a0) (fun s S=>match s with | (p16,p17)=>S=⟨Rn a0 p17 [(1,iV p16)],[],[]⟩) e52 _ (Dw (by kernel_rfl)) rfl 0 (fun _=>rfl) ?_ ?_)))
 ·rintro S _ hfg ⟨p35,rfl,rfl⟩
  refine Dc _ hfg ?_
  obtain rfl:=sj h0
  exact Cn 5
 ·rintro ⟨p16,p17⟩ o1 _ K1 rfl h1 hx1 hK1 hE1 hR1
  refine Ax 4 (As (Jr rfl (o_ (Ba 2 (Rn a0 p17 [(1,iV p16),(9,.bool (decide (p17<(a0.length:Int))))]) [] (Ch h1 (fun sP h1=>?_) (fun sP h1=>?_))))))
  ·refine Ax 8 (As (bb h1 fun y37 e38 h1=>Nr rfl rfl e38 (o_ (Ba 5 (Rn a0 p17 [(1,iV p16),(18,.bool (y37.id != p16))]) [] (Ch h1 (fun c39 h1=>?_) (fun c39 h1=>?_))))))
   ·obtain rfl:=sj h1
    obtain rfl:=hx1 _ rfl
    obtain rfl:=sj h0
    exact Wv 4 hR1
   ·refine Ba 7 (Rn a0 p17 [(1,iV (wi (p16+1)))]) [] (Ax 4 (As (bb h1 fun y40 e41 h1=>Nr rfl rfl e41 (o_ (Ba 5 (Rn a0 p17 [(1,iV (wi (p16+1))),(27,.bool (y40.Bg != (wi (p16+1))))]) [] (Ch h1 (fun c42 h1=>?_) (fun c42 h1=>?_)))))))
    ·obtain rfl:=sj h1
     obtain rfl:=hx1 _ rfl
     obtain rfl:=sj h0
     exact Wv 4 hR1
    ·refine Ba 7 (Rn a0 p17 [(1,iV (wi ((wi (p16+1))+1)))]) [] (Ax 4 (As (bb h1 fun y43 e44 h1=>Nr rfl rfl e44 (o_ (Ba 5 (Rn a0 p17 [(1,iV (wi ((wi (p16+1))+1))),(36,.bool (y43.cap != (wi ((wi (p16+1))+1))))]) [] (Ch h1 (fun oC h1=>?_) (fun oC h1=>?_)))))))
     ·obtain rfl:=sj h1
      obtain rfl:=hx1 _ rfl
      obtain rfl:=sj h0
      exact Wv 4 hR1
     ·refine Ax 7 (bv h1 fun v46 e47 h1=>Dc ⟨Rn a0 p17 [(1,iV v46)],[],[]⟩ (Dw (by subst e47; kernel_rfl)) (Ax 4 (As (bb h1 fun y48 e49 h1=>Nr rfl rfl e49 (o_ (Ax 3 (As (st (c_ (Bl ⟨tv,tv,tv⟩ rfl (by decide)) (o_ (Ba 3 (Rn a0 p17 [(1,iV v46),(47,.bool (!(y48.Bz==(((v46).tmod 3)==0))))]) [] (Ch h1 (fun c50 h1=>?_) (fun c50 h1=>?_)))))))))))))
      ·obtain rfl:=sj h1
       obtain rfl:=hx1 _ rfl
       obtain rfl:=sj h0
       exact Wv 4 hR1
      ·refine Ba 7 (Rn a0 p17 [(1,iV (wi (v46+1)))]) [] (Ax 4 ?_)
       obtain rfl:=sj h1
       exact kn hK1 rfl rfl
  ·obtain rfl:=sj h1
   obtain rfl:=hx1 _ rfl
   refine Hq rfl ?_
   exact jn hE1 ⟨_,rfl,rfl⟩

/- loop.example/g00149/laws.heldTable -/
def c27_r0:=[X_ 2 0,i_ 4 0]
def c27_r1:=[f_ 5 2 2,l_ 6 5 1,m_ 7 1,q_ 8 73 [.t 6,.t 7],m_ 1 8]
def c27_r2:=[m_ 9 1,B_ .lss 10 9 0]
def c27_r3:=[i_ 4 (-1)]
def c27_r4:=[m_ 11 1,m_ 4 11]
def cP:Cz:=⟨2,12,[.t 4],sr c27_r0 (sr c27_r1 (.seq (sr c27_r2 (iz 10 (rr c27_r3))) (rr c27_r4)))⟩
def K27 (D:Bj):Prop:=∀a0 a1 r,g27 a0 a1=some r→D 27 ⟨[.agg (Bb a0),iV a1],[]⟩ ⟨iV r,[],[]⟩
theorem F27 (H73:K73 C):K27 (FO C cP):=by
 intro a0 a1 r h0
 refine f0 (Ba 4 [(1,iV a1),(2,.ptr 128 0)] [(128,Bb a0)] (Ax 4 (As (bb h0 fun r1 e2 h0=>Jj (H73 a0.Ae a1 r1 e2) (o_ (Ba 8 [(1,iV r1),(10,.bool (decide (r1<0)))] [] (Ch h0 (fun c3 h0=>?_) (fun c3 h0=>?_))))))))
 ·obtain rfl:=sj h0
  exact Cn 4
 ·obtain rfl:=sj h0
  exact Cn 7

/- loop.example/g00149/laws.heldIntS -/
def c38_r0:=[i_ 4 0]
def c38_r1:=[i_ 5 0]
def c38_r2:=[m_ 6 5,m_ 7 0,n_ 8 7,b_ .lss 9 6 8]
def c38_r3:=[m_ 12 0,m_ 13 5,x_ 14 12 13 1,l_ 15 14 1,m_ 16 1,b_ .neq 17 15 16]
def c38_r4:=[i_ 4 (-1)]
def c38_r5:=[m_ 18 1,B_ .add 19 18 1,m_ 1 19]
def c38_r6:=[m_ 10 5,B_ .add 11 10 1,m_ 5 11]
def c38_l0:IR:=(.seq (sr c38_r2 (.ite (.t 9) .skip (.exit 0))) (.seq (.block 1 (.seq (sr c38_r3 (iz 17 (rr c38_r4))) (.reg c38_r5))) (.reg c38_r6)))
def c38_r7:=[m_ 20 1,m_ 4 20]
def c38:Cz:=⟨2,21,[.t 4],sr c38_r0 (.seq (sr c38_r1 (Ho 0 c38_l0)) (rr c38_r7))⟩
def K38 (D:Bj):Prop:=∀a0 a1 r,g38 a0 a1=some r→D 38 ⟨[lI a0,iV a1],[]⟩ ⟨iV r,[],[]⟩
theorem F38:K38 (FO C c38):=by
 intro a0 a1 r h0
 refine f0 (Ba 8 [(0,lI a0),(1,iV a1),(5,iV 0)] [] (Cc (bb h0 fun r18 e19 h0=>Cr (R:=(fun S=>∃p13:Int,.inl p13=r18∧S=⟨[(1,iV p13)],[],[]⟩)) (Vg a0) (fun s S=>match s with | (p5,p6)=>S=⟨[(0,lI a0),(1,iV p5),(5,iV p6)],[],[]⟩) e19 _ (Dw (by kernel_rfl)) rfl 0 (fun _=>rfl) ?_ ?_)))
 ·rintro S _ hfg ⟨p13,rfl,rfl⟩
  refine Dc _ hfg ?_
  obtain rfl:=sj h0
  exact Cn 5
 ·rintro ⟨p5,p6⟩ o1 _ K1 rfl h1 hx1 hK1 hE1 hR1
  refine Ax 4 (As (Jr rfl (o_ (Ba 2 [(0,lI a0),(1,iV p5),(5,iV p6),(9,.bool (decide (p6<(a0.length:Int))))] [] (Ch h1 (fun c14 h1=>?_) (fun c14 h1=>?_))))))
  ·refine Ax 8 (As (bb h1 fun y15 e16 h1=>Nr rfl rfl e16 (o_ (Ba 4 [(0,lI a0),(1,iV p5),(5,iV p6),(17,.bool (y15 != p5))] [] (Ch h1 (fun oA h1=>?_) (fun oA h1=>?_))))))
   ·obtain rfl:=sj h1
    obtain rfl:=hx1 _ rfl
    obtain rfl:=sj h0
    exact Wv 4 hR1
   ·refine Ba 7 [(0,lI a0),(1,iV (wi (p5+1))),(5,iV p6)] [] (Ax 4 ?_)
    obtain rfl:=sj h1
    exact kn hK1 rfl rfl
  ·obtain rfl:=sj h1
   obtain rfl:=hx1 _ rfl
   refine Hq rfl ?_
   exact jn hE1 ⟨_,rfl,rfl⟩

/- loop.example/g00149/laws.heldIntentS -/
def XZ:=[i_ 4 0]
def YA:=[i_ 5 0]
def YB:=[m_ 6 5,m_ 7 0,n_ 8 7,b_ .lss 9 6 8]
def YC:=[m_ 12 0,m_ 13 5,x_ 14 12 13 2,f_ 15 14 0,l_ 16 15 1,m_ 17 1,b_ .neq 18 16 17]
def YD:=[i_ 4 (-1)]
def YE:=[m_ 19 1,B_ .add 20 19 1,m_ 1 20]
def YF:=[m_ 21 0,m_ 22 5,x_ 23 21 22 2,f_ 24 23 1,l_ 25 24 1,m_ 26 1,B_ .rem 27 26 3,B_ .eql 28 27 0,iQ 29 (.binB .neq (.t 25) (.t 28))]
def YG:=[i_ 4 (-1)]
def YH:=[m_ 30 1,B_ .add 31 30 1,m_ 1 31]
def YI:=[m_ 10 5,B_ .add 11 10 1,m_ 5 11]
def XY:IR:=(.seq (sr YB (.ite (.t 9) .skip (.exit 0))) (.seq (.block 1 (.seq (sr YC (iz 18 (rr YD))) (sr YE (.seq (sr YF (iz 29 (rr YG))) (.reg YH))))) (.reg YI)))
def yL:=[m_ 32 1,m_ 4 32]
def c324:Cz:=⟨2,33,[.t 4],sr XZ (.seq (sr YA (Ho 0 XY)) (rr yL))⟩
def K324 (D:Bj):Prop:=∀a0 a1 r,Adu a0 a1=some r→D 324 ⟨[Bm a0,iV a1],[]⟩ ⟨iV r,[],[]⟩
theorem F324:K324 (FO C c324):=by
 intro a0 a1 r h0
 refine f0 (Ba 8 [(0,Bm a0),(1,iV a1),(5,iV 0)] [] (Cc (bb h0 fun r27 e28 h0=>Cr (R:=(fun S=>∃p19:Int,.inl p19=r27∧S=⟨[(1,iV p19)],[],[]⟩)) (Qs a0) (fun s S=>match s with | (p8,p9)=>S=⟨[(0,Bm a0),(1,iV p8),(5,iV p9)],[],[]⟩) e28 _ (Dw (by kernel_rfl)) rfl 0 (fun _=>rfl) ?_ ?_)))
 ·rintro S _ hfg ⟨p19,rfl,rfl⟩
  refine Dc _ hfg ?_
  obtain rfl:=sj h0
  exact Cn 5
 ·rintro ⟨p8,p9⟩ o1 _ K1 rfl h1 hx1 hK1 hE1 hR1
  refine Ax 4 (As (Jr rfl (o_ (Ba 2 [(0,Bm a0),(1,iV p8),(5,iV p9),(9,.bool (decide (p9<(a0.length:Int))))] [] (Ch h1 (fun kP h1=>?_) (fun kP h1=>?_))))))
  ·refine Ax 8 (As (bb h1 fun y21 e22 h1=>Nr rfl rfl e22 (o_ (Ba 5 [(0,Bm a0),(1,iV p8),(5,iV p9),(18,.bool (y21.Ay != p8))] [] (Ch h1 (fun c23 h1=>?_) (fun c23 h1=>?_))))))
   ·obtain rfl:=sj h1
    obtain rfl:=hx1 _ rfl
    obtain rfl:=sj h0
    exact Wv 4 hR1
   ·refine Ba 7 [(0,Bm a0),(1,iV (wi (p8+1))),(5,iV p9)] [] (Ax 4 (As (bb h1 fun y24 e25 h1=>Nr rfl rfl e25 (o_ (Ax 3 (As (st (c_ (Bl ⟨tv,tv,tv⟩ rfl (by decide)) (o_ (Ba 3 [(0,Bm a0),(1,iV (wi (p8+1))),(5,iV p9),(29,.bool (!(y24.Ji==((((wi (p8+1))).tmod 3)==0))))] [] (Ch h1 (fun oB h1=>?_) (fun oB h1=>?_))))))))))))
    ·obtain rfl:=sj h1
     obtain rfl:=hx1 _ rfl
     obtain rfl:=sj h0
     exact Wv 4 hR1
    ·refine Ba 7 [(0,Bm a0),(1,iV (wi ((wi (p8+1))+1))),(5,iV p9)] [] (Ax 4 ?_)
     obtain rfl:=sj h1
     exact kn hK1 rfl rfl
  ·obtain rfl:=sj h1
   obtain rfl:=hx1 _ rfl
   refine Hq rfl ?_
   exact jn hE1 ⟨_,rfl,rfl⟩

/- loop.example/g00149/laws.heldVault -/
def XD:=[X_ 2 0,i_ 4 0]
def XE:=[f_ 5 2 0,L_ 6 5 3,m_ 7 1,q_ 8 27 [.t 6,.t 7],m_ 1 8]
def XF:=[m_ 9 1,B_ .lss 10 9 0]
def XG:=[i_ 4 (-1)]
def XH:=[f_ 11 2 3,l_ 12 11 1,m_ 13 1,q_ 14 324 [.t 12,.t 13],m_ 1 14]
def XI:=[m_ 15 1,B_ .lss 16 15 0]
def XJ:=[i_ 4 (-1)]
def XK:=[f_ 17 2 4,l_ 18 17 1,m_ 19 1,q_ 20 38 [.t 18,.t 19],m_ 1 20]
def XL:=[m_ 21 1,B_ .lss 22 21 0]
def XM:=[i_ 4 (-1)]
def yK:=[m_ 23 1,m_ 4 23]
def c259:Cz:=⟨2,24,[.t 4],sr XD (sr XE (.seq (sr XF (iz 10 (rr XG))) (sr XH (.seq (sr XI (iz 16 (rr XJ))) (sr XK (.seq (sr XL (iz 22 (rr XM))) (rr yK)))))))⟩
def K259 (D:Bj):Prop:=∀a0 a1 r,CK a0 a1=some r→D 259 ⟨[.agg (Au a0),iV a1],[]⟩ ⟨iV r,[],[]⟩
theorem F259 (H27:K27 C) (H38:K38 C) (H324:K324 C):K259 (FO C c259):=by
 intro a0 a1 r h0
 refine f0 (Ba 4 [(1,iV a1),(2,.ptr 128 0)] [(128,Au a0)] (Ax 4 (As (bb h0 fun r1 e2 h0=>Jj (H27 a0.Ac a1 r1 e2) (o_ (Ba 8 [(1,iV r1),(2,.ptr 128 0),(10,.bool (decide (r1<0)))] [(128,Au a0)] (Ch h0 (fun c3 h0=>?_) (fun c3 h0=>?_))))))))
 ·obtain rfl:=sj h0
  exact Cn 4
 ·refine Ax 6 (As (bb h0 fun r4 e5 h0=>Jj (H324 a0.Ab r1 r4 e5) (o_ (Ba 8 [(1,iV r4),(2,.ptr 128 0),(16,.bool (decide (r4<0)))] [(128,Au a0)] (Ch h0 (fun c6 h0=>?_) (fun c6 h0=>?_))))))
  ·obtain rfl:=sj h0
   exact Cn 4
  ·refine Ax 6 (As (bb h0 fun r7 e8 h0=>Jj (H38 a0.Ah r4 r7 e8) (o_ (Ba 8 [(1,iV r7),(22,.bool (decide (r7<0)))] [] (Ch h0 (fun c9 h0=>?_) (fun c9 h0=>?_))))))
   ·obtain rfl:=sj h0
    exact Cn 4
   ·obtain rfl:=sj h0
    exact Cn 7

/- loop.example/g00149/impl.within -/
def c63_r0:=[k_ 6 (.bool false)]
def c63_r1:=[m_ 7 1,m_ 8 0,b_ .leq 9 7 8,m_ 10 9,mT 10 11 0,mT 10 12 2,pT 10 13 (.bin .leq (.t 11) (.t 12)),pa 14 10 13,m_ 6 14]
def c63:Cz:=⟨3,15,[.t 6],sr c63_r0 (rr c63_r1)⟩
def K63 (D:Bj):Prop:=∀a0 a1 a2 r,rD a0 a1 a2=some r→D 63 ⟨[iV a0,iV a1,iV a2],[]⟩ ⟨.bool r,[],[]⟩
theorem F63:K63 (FO C c63):=by
 intro a0 a1 a2 r h0
 refine f0 (Ba 3 [(0,iV a0),(1,iV a1),(2,iV a2)] [] (bS 9 (As (o_ ?_))))
 obtain rfl:=sj h0
 exact Cn 3

/- loop.example/g00149/impl.isSerial -/
def c58_r0:=[k_ 2 (.bool false)]
def c58_r1:=[m_ 3 0,q_ 4 63 [.t 3,.c (iV 1),.c (iV 1000000)],m_ 2 4]
def c58:Cz:=⟨1,5,[.t 2],sr c58_r0 (rr c58_r1)⟩
def K58 (D:Bj):Prop:=∀a0 r,g58 a0=some r→D 58 ⟨[iV a0],[]⟩ ⟨.bool r,[],[]⟩
theorem F58 (H63:K63 C):K58 (FO C c58):=by
 intro a0 r h0
 refine f0 (Ba 3 [(0,iV a0)] [] (Bt (As (st (Cj rfl tv (bb h0 fun r1 e2 h0=>Jj (H63 a0 1 1000000 r1 e2) (o_ ?_)))))))
 obtain rfl:=sj h0
 exact Cn 3

/- loop.example/g00149/impl.rises -/
def c59_r0:=[k_ 6 (.bool false)]
def c59_r1:=[m_ 9 0,n_ 10 9,i_ 11 0]
def c59_r2:=[b_ .lss 12 11 10]
def c59_r3:=[m_ 13 11,x_ 14 9 11 1,l_ 15 14 1,m_ 7 13,m_ 8 15]
def c59_r4:List Cd:=[m_ 16 8,m_ 17 1,m_ 18 2,q_ 19 63 [.t 16,.t 17,.t 18],N_ 20 19,m_ 21 20,mF 21 22 7,pF 21 23 (.bin .gtr (.t 22) (.c (iV 0))),mF 21 24 23,mT 24 25 0,mT 24 26 7,pT 24 27 (.bin .sub (.t 26) (.c (iV 1))),xT 24 28 25 27 1,lT 24 29 28 1 false,mT 24 30 8,pT 24 31 (.bin .geq (.t 29) (.t 30)),⟨some 32,.pick (.t 24) (.t 31) (.c (.bool false)),some (21,false)⟩,po 33 21 32]
def c59_r5:=[k_ 6 (.bool false)]
def c59_r6:=[B_ .add 34 11 1,m_ 11 34]
def c59_l0:IR:=(sr c59_r2 (.seq (.ite (.t 12) .skip (.exit 0)) (.seq (.block 1 (sr c59_r3 (sr c59_r4 (iz 33 (rr c59_r5))))) (.reg c59_r6))))
def c59_r7:=[k_ 6 (.bool true)]
def c59:Cz:=⟨3,35,[.t 6],sr c59_r0 (.seq (sr c59_r1 (Ho 0 c59_l0)) (rr c59_r7))⟩
def K59 (D:Bj):Prop:=∀a0 a1 a2 r,g59 a0 a1 a2=some r→D 59 ⟨[lI a0,iV a1,iV a2],[]⟩ ⟨.bool r,[],[]⟩
abbrev jJ:=fun x0 x1 x2 (r:List (Nat×V))=>(0,lI x0)::(1,iV x1)::(2,iV x2)::(9,lI x0)::r
theorem F59 (H63:K63 C):K59 (FO C c59):=by
 intro a0 a1 a2 r h0
 refine f0 (Ba 3 [(0,lI a0),(1,iV a1),(2,iV a2)] [] (Ax 3 (As (Jr rfl (o_ (Ba 2 (jJ a0 a1 a2 [(10,iV (a0.length:Int)),(11,iV 0)]) [] (Cc (bb h0 fun r33 e34 h0=>Cr (R:=(fun S=>.inl ()=r33∧S=⟨[],[],[]⟩)) (Zq a0 a1 a2) (fun s S=>match s with | p11=>S=⟨jJ a0 a1 a2 [(10,iV (a0.length:Int)),(11,iV p11)],[],[]⟩) e34 _ (Dw (by kernel_rfl)) rfl 0 (fun _=>rfl) ?_ ?_))))))))
 ·rintro S _ hfg ⟨rfl,rfl⟩
  refine Dc _ hfg ?_
  obtain rfl:=sj h0
  exact Cn 4
 ·rintro p11 o1 _ K1 rfl h1 hx1 hK1 hE1 hR1
  refine Ba 3 (jJ a0 a1 a2 [(10,iV (a0.length:Int)),(11,iV p11),(12,.bool (decide (p11<(a0.length:Int))))]) [] (Bt (Ch h1 (fun c23 h1=>?_) (fun c23 h1=>?_)))
  ·refine Ax 6 (As (bb h1 fun y24 e25 h1=>Nr rfl rfl e25 (o_ (Ba 4 (jJ a0 a1 a2 [(7,iV p11),(8,iV y24),(10,iV (a0.length:Int)),(11,iV p11)]) [] (Ax 4 (As (bb h1 fun r26 e27 h1=>Jj (H63 y24 a1 a2 r26 e27) (o_ (Ax 2 (As (st (Bv (u:=iV p11) rfl (fun hg=>(Dm (v:=iV p11) rfl tv)) (st (Bv (u:=.bool (decide (p11>0))) rfl (fun hg=>(Bl ⟨(fun _=>hg),tv,tv⟩ rfl tv)) (st (Bv (u:=.bool (decide (p11>0))) rfl (fun hg=>(Dm (v:=.may ((!r26)==false) (.bool (decide (p11>0)))) rfl (fun _=>hg))) (st (Bv (u:=lI a0) rfl (fun hg=>(Dm (v:=lI a0) rfl tv)) (st (Bv (u:=iV p11) rfl (fun hg=>(Dm (v:=iV p11) rfl tv)) (st (Bv (u:=iV (wi (p11-1))) rfl (fun hg=>(Bl ⟨(fun _=>hg),tv,tv⟩ rfl tv)) (bb h1 fun y28 e29 h1=>st (Bv (u:=.iptr [iV y28]) rfl (fun hg=>(Nw (e:=eI) (y:=y28) rfl rfl (fun _=>hg) rfl rfl (fun _=>hg) (ip hg e29))) (st (Bv (u:=iV y28) rfl (fun hg=>(Bl ⟨(fun _=>hg),tv⟩ rfl (nl rfl))) (st (Bv (u:=iV y24) rfl (fun hg=>(Dm (v:=iV y24) rfl tv)) (st (Bv (u:=.bool (decide (y28≥y24))) rfl (fun hg=>(Bl ⟨(fun _=>hg),(fun _=>hg),tv⟩ rfl tv)) (st (Nk (u:=.bool (bif (decide (p11>0)) then (decide (y28≥y24)) else false)) rfl (fun hg=>Sz rfl rfl (fun _=>hg) rfl rfl (fun h=>At hg (Ta h)) tv rfl) (st (Dh rfl rfl rfl tv (fun h=>Uw h) rfl (Ha (bv h1 fun v30 e31 h1=>Dc ⟨jJ a0 a1 a2 [(10,iV (a0.length:Int)),(11,iV p11),(33,.bool v30)],[],[]⟩ (Dw (by subst e31; kernel_rfl)) (Ch h1 (fun c32 h1=>?_) (fun c32 h1=>?_))))))))))))))))))))))))))))))))))))))
   ·obtain rfl:=sj h1
    obtain rfl:=hx1 _ rfl
    obtain rfl:=sj h0
    exact Wv 4 hR1
   ·refine Ax 6 ?_
    obtain rfl:=sj h1
    exact kn hK1 rfl rfl
  ·obtain rfl:=sj h1
   obtain rfl:=hx1 _ rfl
   refine Hq rfl ?_
   exact jn hE1 ⟨rfl,rfl⟩

/- (loop.example/g00149/impl.Table).ids -/
def c60_r0:List Cd:=[X_ 1 0,⟨some 2,.nilS 1,none⟩]
def c60_r1:List Cd:=[⟨some 3,.nilS 1,none⟩]
def c60_r2:=[f_ 6 1 2,l_ 7 6 1,n_ 8 7,i_ 9 0]
def c60_r3:=[b_ .lss 10 9 8]
def c60_r4:=[x_ 11 7 9 4,L_ 12 11 4,a_ 5 [iV 0,iV 0,iV 0,.bool false],s_ 5 12 4]
def c60_r5:List Cd:=[m_ 13 3,f_ 14 5 0,l_ 15 14 1,⟨some 16,.mkS 1 [iV 0] 1 [(0,.t 15)],none⟩,⟨some 17,.app 1 8 (.t 13) (.t 16),none⟩,m_ 3 17]
def c60_r6:=[B_ .add 18 9 1,m_ 9 18]
def c60_l0:IR:=(sr c60_r3 (.seq (.ite (.t 10) .skip (.exit 0)) (.seq (.block 1 (sr c60_r4 (.reg c60_r5))) (.reg c60_r6))))
def c60_r7:=[m_ 19 3,m_ 2 19]
def c60:Cz:=⟨1,20,[.t 2],sr c60_r0 (sr c60_r1 (.seq (sr c60_r2 (Ho 0 c60_l0)) (rr c60_r7)))⟩
def K60 (D:Bj):Prop:=∀a0 r,g60 a0=some r→D 60 ⟨[.agg (Bb a0)],[]⟩ ⟨oI 0 r,[],[]⟩
theorem F60:K60 (FO C c60):=by
 intro a0 r h0
 refine f0 (Ba 8 [(1,.ptr 64 0),(3,.own 192 0 1 ([].map eI))] [(64,Bb a0)] (Ax 4 (As (Jr rfl (o_ (Ba 2 [(3,.own 192 0 1 ([].map eI)),(7,Bp a0.Ae),(8,iV (a0.Ae.length:Int)),(9,iV 0)] [] (Cc (bb h0 fun r18 e19 h0=>Cr (R:=(fun S=>∃p13:List Int,p13=r18∧S=⟨[(3,oI 192 p13)],[],[]⟩)) (Na a0) (fun s S=>match s with | (p5,p6)=>S=⟨[(3,oI 192 p5),(7,Bp a0.Ae),(8,iV (a0.Ae.length:Int)),(9,iV p6)],[],[]⟩) e19 _ (Dw (by kernel_rfl)) rfl 0 (fun _=>rfl) ?_ ?_))))))))
 ·rintro S _ hfg ⟨p13,rfl,rfl⟩
  refine Dc _ hfg ?_
  obtain rfl:=sj h0
  exact Cn 5
 ·rintro ⟨p5,p6⟩ o1 _ K1 rfl h1 hx1 hK1 hE1 hR1
  refine Ba 3 [(3,oI 192 p5),(7,Bp a0.Ae),(8,iV (a0.Ae.length:Int)),(9,iV p6),(10,.bool (decide (p6<(a0.Ae.length:Int))))] [] (Bt (Ch h1 (fun c14 h1=>?_) (fun c14 h1=>?_)))
  ·refine Lr 5 (As (bb h1 fun y15 e16 h1=>Nr rfl rfl e16 (o_ (Ba 4 [(3,oI 192 p5),(5,.ptr 320 0),(7,Bp a0.Ae),(8,iV (a0.Ae.length:Int)),(9,iV p6)] [(320,Ad y15)] (Ax 4 (As (gg h1 fun oA h1=>st (Kk (e:=eI) (l0:=p5) (l1:=([y15.id]:List Int)) rfl rfl tv rfl (by decide) oA (o_ (Ba 3 [(3,oI 192 (p5++([y15.id]:List Int))),(7,Bp a0.Ae),(8,iV (a0.Ae.length:Int)),(9,iV p6)] [] (Ax 3 ?_)))))))))))
   obtain rfl:=sj h1
   exact kn hK1 rfl rfl
  ·obtain rfl:=sj h1
   obtain rfl:=hx1 _ rfl
   refine Hq rfl ?_
   exact jn hE1 ⟨_,rfl,rfl⟩

/- slices.IndexFunc[[]loop.example/g00149/impl.Lease,loop.example/g00149/impl.Lease] -/
def IU:=[i_ 4 0]
def IV:=[m_ 6 0,n_ 7 6,i_ 8 0]
def IW:=[b_ .lss 9 8 7]
def IX:=[m_ 10 8,m_ 5 10]
def IY:List Cd:=[m_ 11 1,m_ 12 0,m_ 13 5,x_ 14 12 13 4,L_ 15 14 4,⟨some 16,.callv (.t 11) [.t 15],none⟩]
def IZ:=[m_ 17 5,m_ 4 17]
def JA:=[B_ .add 18 8 1,m_ 8 18]
def IT:IR:=(sr IW (.seq (.ite (.t 9) .skip (.exit 0)) (.seq (.block 1 (sr IX (sr IY (iz 16 (rr IZ))))) (.reg JA))))
def JB:=[i_ 4 (-1)]
def IS:Cz:=⟨2,19,[.t 4],sr IU (.seq (sr IV (Ho 0 IT)) (rr JB))⟩
def K108 (C:Bj) (D:Bj:=C):Prop:=∀(a0:List Aa) (f1:Nat) (k1:List V) (is1:Aa→Option Bool) (hs1:Io k1) (hf1:∀(x0:Aa) r,is1 x0=some r→C f1 ⟨.agg (Ad x0)::k1,[]⟩ ⟨.bool r,[],[]⟩) (r:Int),CA a0 is1=some r→D 108 ⟨[Bp a0,.clo f1 k1],[]⟩ ⟨iV r,[],[]⟩
theorem F108:K108 C (FO C IS):=by
 intro a0 f1 k1 is1 hs1 hf1 r h0
 refine f0 (Ba 3 [(0,Bp a0),(1,.clo f1 k1)] [] (Ax 3 (As (Jr rfl (o_ (Ba 2 [(0,Bp a0),(1,.clo f1 k1),(7,iV (a0.length:Int)),(8,iV 0)] [] (Cc (bb h0 fun r21 e22 h0=>Cr (R:=(fun S=>.inl ()=r21∧S=⟨[],[],[]⟩)) (Ql a0 is1) (fun s S=>match s with | p7=>S=⟨[(0,Bp a0),(1,.clo f1 k1),(7,iV (a0.length:Int)),(8,iV p7)],[],[]⟩) e22 _ (Dw (by kernel_rfl)) rfl 0 (fun _=>rfl) ?_ ?_))))))))
 ·rintro S _ hfg ⟨rfl,rfl⟩
  refine Dc _ hfg ?_
  obtain rfl:=sj h0
  exact Cn 4
 ·rintro p7 o1 _ K1 rfl h1 hx1 hK1 hE1 hR1
  refine Ba 3 [(0,Bp a0),(1,.clo f1 k1),(7,iV (a0.length:Int)),(8,iV p7),(9,.bool (decide (p7<(a0.length:Int))))] [] (Bt (Ch h1 (fun c15 h1=>?_) (fun c15 h1=>?_)))
  ·refine Ba 8 [(0,Bp a0),(1,.clo f1 k1),(5,iV p7),(7,iV (a0.length:Int)),(8,iV p7)] [] (Ax 4 (As (bb h1 fun y16 e17 h1=>Nr rfl rfl e17 (st (c_ (v:=.agg (Ad y16)) (Bl ⟨tv,tv⟩ rfl (nl rfl)) (bb h1 fun r18 e19 h1=>st (Gt (r:=.bool r18) rfl false (hf1 _ r18 e19) ⟨tv,tv⟩ (At rfl hs1.2.2.1) (Be rfl (hs1.2.1 _ _ _ _ _)) (fun _=>rfl) (o_ (Ba 1 [(0,Bp a0),(1,.clo f1 k1),(5,iV p7),(7,iV (a0.length:Int)),(8,iV p7),(16,.bool r18)] [] (Ch h1 (fun kP h1=>?_) (fun kP h1=>?_)))))))))))
   ·obtain rfl:=sj h1
    obtain rfl:=hx1 _ rfl
    obtain rfl:=sj h0
    exact Wv 5 hR1
   ·refine Ax 6 ?_
    obtain rfl:=sj h1
    exact kn hK1 rfl rfl
  ·obtain rfl:=sj h1
   obtain rfl:=hx1 _ rfl
   refine Hq rfl ?_
   exact jn hE1 ⟨rfl,rfl⟩

/- slices.ContainsFunc[[]loop.example/g00149/impl.Lease,loop.example/g00149/impl.Lease] -/
def IB:=[k_ 4 (.bool false)]
def IC:=[m_ 5 0,m_ 6 1,q_ 7 108 [.t 5,.t 6],B_ .geq 8 7 0,m_ 4 8]
def c105:Cz:=⟨2,9,[.t 4],sr IB (rr IC)⟩
def K105 (C:Bj) (D:Bj:=C):Prop:=∀(a0:List Aa) (f1:Nat) (k1:List V) (is1:Aa→Option Bool) (hs1:Io k1) (hf1:∀(x0:Aa) r,is1 x0=some r→C f1 ⟨.agg (Ad x0)::k1,[]⟩ ⟨.bool r,[],[]⟩) (r:Bool),g105 a0 is1=some r→D 105 ⟨[Bp a0,.clo f1 k1],[]⟩ ⟨.bool r,[],[]⟩
theorem F105 (H108:K108 C):K105 C (FO C c105):=by
 intro a0 f1 k1 is1 hs1 hf1 r h0
 refine f0 (Ba 3 [(0,Bp a0),(1,.clo f1 k1)] [] (Ax 3 (As (bb h0 fun r1 e2 h0=>st (Ci (r:=iV r1) false (H108 a0 f1 k1 is1 hs1 hf1 r1 e2) ⟨tv,tv,tv⟩ rfl (Be rfl (Be (Eo hs1) rfl)) (fun _=>rfl) (o_ ?_))))))
 obtain rfl:=sj h0
 exact Cn 4

/- loop.example/g00149/impl.areAll[loop.example/g00149/impl.Lease]$1 -/
def ID:=[X_ 2 0,k_ 3 (.bool false)]
def IE:List Cd:=[l_ 4 1 1,L_ 5 2 4,⟨some 6,.callv (.t 4) [.t 5],none⟩,N_ 7 6,m_ 3 7]
def c106:Cz:=⟨2,8,[.t 3],sr ID (rr IE)⟩
def K106 (C:Bj) (D:Bj:=C):Prop:=∀(a0:Aa) (f1:Nat) (k1:List V) (is1:Aa→Option Bool) (hs1:Io k1) (hf1:∀(x0:Aa) r,is1 x0=some r→C f1 ⟨.agg (Ad x0)::k1,[]⟩ ⟨.bool r,[],[]⟩) (r:Bool),BZ a0 is1=some r→D 106 ⟨[.agg (Ad a0),.iptr [.clo f1 k1]],[]⟩ ⟨.bool r,[],[]⟩
theorem F106:K106 C (FO C c106):=by
 intro a0 f1 k1 is1 hs1 hf1 r h0
 refine f0 (Ba 4 [(1,.iptr [.clo f1 k1]),(2,.ptr 128 0)] [(128,Ad a0)] (Ax 3 (As (bb h0 fun r1 e2 h0=>st (Gt (r:=.bool r1) rfl false (hf1 _ r1 e2) ⟨tv,tv⟩ (At rfl hs1.2.2.1) (Be rfl (hs1.2.1 _ _ _ _ _)) (fun _=>rfl) (o_ ?_))))))
 obtain rfl:=sj h0
 exact Cn 4

/- loop.example/g00149/impl.areAll[loop.example/g00149/impl.Lease] -/
def c61_r0:=[X_ 3 1,k_ 4 (.bool false)]
def c61_r1:=[m_ 5 0,iQ 6 (.fn 106 [.t 3]),q_ 7 105 [.t 5,.t 6],N_ 8 7,m_ 4 8]
def c61:Cz:=⟨2,9,[.t 4],sr c61_r0 (rr c61_r1)⟩
def K61 (C:Bj) (D:Bj:=C):Prop:=∀(a0:List Aa) (f1:Nat) (k1:List V) (is1:Aa→Option Bool) (hs1:Io k1) (hf1:∀(x0:Aa) r,is1 x0=some r→C f1 ⟨.agg (Ad x0)::k1,[]⟩ ⟨.bool r,[],[]⟩) (r:Bool),g61 a0 is1=some r→D 61 ⟨[Bp a0,.clo f1 k1],[]⟩ ⟨.bool r,[],[]⟩
theorem F61 (H105:K105 C) (H106:K106 C):K61 C (FO C c61):=by
 intro a0 f1 k1 is1 hs1 hf1 r h0
 refine f0 (Bt (As (st (box_ (iR hs1) tv rfl (o_ (Ba 2 [(0,Bp a0),(3,.ptr 192 0)] [(192,[.clo f1 k1])] (Ax 3 (As (bb h0 fun r1 e2 h0=>st (Ci (r:=.bool r1) false (H105 a0 106 [.iptr [.clo f1 k1]] (fun z106_0=>BZ z106_0 is1) (⟨fun _ _ _ _ _=>rfl,fun _ _ _ _ _=>rfl,rfl,fun _ _ _ n=>by cases n<;>rfl,fun _=>rfl⟩) (fun z106_0 r h=>H106 z106_0 f1 k1 is1 hs1 hf1 r h) r1 e2) ⟨tv,tv,tv⟩ rfl (Be rfl (Be (congrArg (fun z=>V.clo 106 [.iptr [.clo f1 z]]) (hs1.2.2.2.1 _ _ _ _)) rfl)) (fun _=>rfl) (o_ ?_)))))))))))
 obtain rfl:=sj h0
 exact Cn 4

/- loop.example/g00149/impl.TableOK$1 -/
def c62_r0:=[X_ 2 0,k_ 3 (.bool false)]
def c62_r1:List Cd:=[f_ 4 2 1,l_ 5 4 1,f_ 6 2 2,l_ 7 6 1,q_ 8 63 [.t 5,.c (iV 0),.t 7],m_ 9 8,fT 9 10 2 3,lT 9 11 10 1 false,mT 9 12 11,fF 12 13 2 1,lF 12 14 13 1 false,fF 12 15 1 0,lF 12 16 15 1 false,pF 12 17 (.bin .gtr (.t 14) (.t 16)),⟨some 18,.pick (.t 12) (.c (.bool true)) (.t 17),some (9,true)⟩,pa 19 9 18,m_ 3 19]
def c62:Cz:=⟨2,20,[.t 3],sr c62_r0 (rr c62_r1)⟩
def K62 (D:Bj):Prop:=∀a0 a1 r,g62 a0 a1=some r→D 62 ⟨[.agg (Ad a0),.iptr (Bb a1)],[]⟩ ⟨.bool r,[],[]⟩
theorem F62 (H63:K63 C):K62 (FO C c62):=by
 intro a0 a1 r h0
 refine f0 (Ba 4 [(1,.iptr (Bb a1)),(2,.ptr 128 0)] [(128,Ad a0)] (Ax 5 (As (bb h0 fun r1 e2 h0=>Jj (H63 a0.Bg 0 a0.cap r1 e2) (o_ (bS 9 (As (st (Nk (u:=.bool (bif a0.Bz then true else (decide (a0.Bg>a1.clock)))) rfl (fun hg=>Sz rfl rfl (fun _=>hg) rfl rfl tv (fun h=>At hg (Uw h)) rfl) (o_ (bS 3 (bv h0 fun v3 e4 h0=>Dc ⟨[(3,.bool v3)],[],[]⟩ (Dw (by subst e4; kernel_rfl)) ?_))))))))))))
 obtain rfl:=sj h0
 exact Ka (Dx rfl rfl rfl rfl rfl tv)

/- loop.example/g00149/impl.TableOK -/
def c20_r0:=[X_ 1 0,k_ 2 (.bool false)]
def c20_r1:=tk [f_ 3 1 0,l_ 4 3 1,B_ .geq 5 4 0,m_ 6 5,fT 6 7 1 1,lT 6 8 7 1 false] (.alt [] ⟨some 9,.call 58 [.t 8],some (6,true)⟩ (tk [pa 10 6 9,m_ 11 10,fT 11 12 1 2,lT 11 13 12 1 false,pT 11 14 (.len (.t 13)),pT 11 15 (.bin .leq (.t 14) (.c (iV 40))),pa 16 11 15,m_ 17 16,lT 17 18 1 3 true,fT 17 20 1 1,lT 17 21 20 1 false,pT 17 22 (.bin .sub (.t 21) (.c (iV 1)))] (.alt [pT 17 22 (.bin .sub (.t 21) (.c (iV 1))),lT 17 21 20 1 false,fT 17 20 1 1] ⟨some 19,.call 60 [.t 18],some (17,true)⟩ (.alt [] ⟨some 23,.call 59 [.t 19,.c (iV 1),.t 22],some (17,true)⟩ (tk [pa 24 17 23,m_ 25 24,fT 25 26 1 2,lT 25 27 26 1 false,pT 25 28 (.fn 62 [.t 1])] (.alt [] ⟨some 29,.call 61 [.t 27,.t 28],some (25,true)⟩ (tk [pa 30 25 29,m_ 2 30] .fin) .stop)) .stop) .stop)) .stop)
def kP:Cz:=⟨1,31,[.t 2],sr c20_r0 (sd c20_r1 .ret)⟩
def K20 (D:Bj):Prop:=∀a0 r,g20 a0=some r→D 20 ⟨[.agg (Bb a0)],[]⟩ ⟨.bool r,[],[]⟩
theorem F20 (H58:K58 C) (H59:K59 C) (H60:K60 C) (H61:K61 C) (H62:K62 C):K20 (FO C kP):=by
 intro a0 r h0
 refine f0 (Ba 4 [(1,.ptr 64 0)] [(64,Bb a0)] (Bt (bb h0 fun r1 e2 h0=>bb h0 fun r3 e4 h0=>bb h0 fun r5 e6 h0=>bb h0 fun r7 e8 h0=>Ax 4 (Bd (Ak tv (Bv (u:=.ptr 64 1) rfl (fun hg=>(Bl ⟨tv,tv⟩ rfl tv)) (⟨tv,Ak tv (Bv (u:=iV a0.next) rfl (fun hg=>(Bl ⟨(fun _=>hg),tv⟩ rfl (nl rfl))) (⟨tv,Az (Eh (r:=.bool r1) rfl false (fun hg=>H58 a0.next r1 (ip hg e2)) ⟨(fun hg=>hg),tv⟩ (fun _=>rfl) (fun _=>rfl) (fun _=>rfl) (fun h=>nomatch h) (dw [(1,.ptr 64 0),(6,.bool (decide (a0.clock≥0))),(9,.may ((decide (a0.clock≥0))==true) (.bool r1))] [(64,Bb a0)] tv (Ak tv (Dh rfl rfl rfl (fun h=>Ta h) tv rfl (⟨tv,Ak tv (Cj rfl tv (⟨tv,Ak tv (Bv (u:=.ptr 64 2) rfl (fun hg=>(Bl ⟨tv,tv⟩ rfl tv)) (⟨tv,Ak tv (Bv (u:=Bp a0.Ae) rfl (fun hg=>(Bl ⟨(fun _=>hg),tv⟩ rfl (nl rfl))) (⟨tv,Ak tv (Bv (u:=iV (a0.Ae.length:Int)) rfl (fun hg=>(Wf (e:=Ad) (l0:=a0.Ae) rfl rfl (fun _=>hg))) (⟨tv,Ak tv (Bv (u:=.bool (decide ((a0.Ae.length:Int)≤40))) rfl (fun hg=>(Bl ⟨(fun _=>hg),tv,tv⟩ rfl tv)) (⟨tv,Ak tv (Dh rfl rfl rfl (fun h=>Ta h) tv rfl (⟨tv,Ak tv (Cj rfl tv (⟨tv,?_⟩))⟩))⟩))⟩))⟩))⟩))⟩))⟩))))) Aq⟩))⟩)))))))
 refine Ak tv (Bv (u:=.agg (Bb a0)) rfl (fun hg=>(Bl ⟨tv,tv⟩ rfl (nl rfl))) (⟨tv,Ak tv (Bv (u:=.ptr 64 1) rfl (fun hg=>(Bl ⟨tv,tv⟩ rfl tv)) (⟨tv,Ak tv (Bv (u:=iV a0.next) rfl (fun hg=>(Bl ⟨(fun _=>hg),tv⟩ rfl (nl rfl))) (⟨tv,Ak tv (Bv (u:=iV (wi (a0.next-1))) rfl (fun hg=>(Bl ⟨(fun _=>hg),tv,tv⟩ rfl tv)) (⟨tv,Az (Eh (r:=oI 0 r3) rfl false (fun hg=>H60 a0 r3 (ip hg e4)) ⟨(fun hg=>hg),tv⟩ (fun _=>rfl) (fun _=>rfl) (fun _=>(af rfl)) (fun h=>nomatch h) (dw [(1,.ptr 64 0),(17,.bool (bif (bif (decide (a0.clock≥0)) then r1 else false) then (decide ((a0.Ae.length:Int)≤40)) else false)),(19,.may ((bif (bif (decide (a0.clock≥0)) then r1 else false) then (decide ((a0.Ae.length:Int)≤40)) else false)==true) (lI r3)),(20,.may ((bif (bif (decide (a0.clock≥0)) then r1 else false) then (decide ((a0.Ae.length:Int)≤40)) else false)==true) (.ptr 64 1)),(21,.may ((bif (bif (decide (a0.clock≥0)) then r1 else false) then (decide ((a0.Ae.length:Int)≤40)) else false)==true) (iV a0.next)),(22,.may ((bif (bif (decide (a0.clock≥0)) then r1 else false) then (decide ((a0.Ae.length:Int)≤40)) else false)==true) (iV (wi (a0.next-1))))] [(64,Bb a0)] ⟨⟨.inl tv,Bw (v:=iV (wi (a0.next-1))) rfl (fun hg=>(Bl ⟨(fun _=>hg),tv,tv⟩ rfl tv)) rfl⟩,⟨.inl tv,Bw (v:=iV a0.next) rfl (fun hg=>(Bl ⟨(fun _=>hg),tv⟩ rfl (nl rfl))) rfl⟩,⟨.inl tv,Bw (v:=.ptr 64 1) rfl (fun hg=>(Bl ⟨tv,tv⟩ rfl tv)) rfl⟩,tv⟩ (Az (Eh (r:=.bool r5) rfl false (fun hg=>H59 r3 1 (wi (a0.next-1)) r5 (ip hg e6)) ⟨(fun hg=>hg),tv,(fun hg=>hg),tv⟩ (fun _=>rfl) (fun _=>rfl) (fun _=>rfl) (fun h=>nomatch h) (dw [(1,.ptr 64 0),(17,.bool (bif (bif (decide (a0.clock≥0)) then r1 else false) then (decide ((a0.Ae.length:Int)≤40)) else false)),(23,.may ((bif (bif (decide (a0.clock≥0)) then r1 else false) then (decide ((a0.Ae.length:Int)≤40)) else false)==true) (.bool r5))] [(64,Bb a0)] tv (Ak tv (Dh rfl rfl rfl (fun h=>Ta h) tv rfl (⟨tv,Ak tv (Cj rfl tv (⟨tv,Ak tv (Bv (u:=.ptr 64 2) rfl (fun hg=>(Bl ⟨tv,tv⟩ rfl tv)) (⟨tv,Ak tv (Bv (u:=Bp a0.Ae) rfl (fun hg=>(Bl ⟨(fun _=>hg),tv⟩ rfl (nl rfl))) (⟨tv,Ak tv (Bv (u:=.clo 62 [.ptr 64 0]) rfl (fun hg=>(Bl ⟨tv,tv⟩ rfl rfl)) (⟨tv,Az (Eh (r:=.bool r7) rfl false (fun hg=>H61 a0.Ae 62 [.iptr (Bb a0)] (fun z62_0=>g62 z62_0 a0) (⟨fun _ _ _ _ _=>rfl,fun _ _ _ _ _=>rfl,rfl,fun _ _ _ n=>by cases n<;>rfl,fun _=>rfl⟩) (fun z62_0 r h=>H62 z62_0 a0 r h) r7 (ip hg e8)) ⟨(fun hg=>hg),(fun hg=>hg),tv⟩ (fun _=>rfl) (fun _=>rfl) (fun _=>rfl) (fun h=>nomatch h) (dw [(25,.bool (bif (bif (bif (decide (a0.clock≥0)) then r1 else false) then (decide ((a0.Ae.length:Int)≤40)) else false) then r5 else false)),(29,.may ((bif (bif (bif (decide (a0.clock≥0)) then r1 else false) then (decide ((a0.Ae.length:Int)≤40)) else false) then r5 else false)==true) (.bool r7))] [] tv (Ak tv (Dh rfl rfl rfl (fun h=>Ta h) tv rfl (⟨tv,d_ (Ax 2 (bv h0 fun v9 e10 h0=>Dc ⟨[(2,.bool v9)],[],[]⟩ (Dw (by subst e10; kernel_rfl)) ?_))⟩))))) Aq⟩))⟩))⟩))⟩))⟩))))) Aq))) Aq⟩))⟩))⟩))⟩))
 obtain rfl:=sj h0
 exact Ka (Dx rfl rfl rfl rfl rfl tv)

/- loop.example/g00149/impl.leases -/
def c95_r0:List Cd:=[⟨some 2,.nilS 1,none⟩]
def c95_r1:List Cd:=[⟨some 3,.nilS 1,none⟩]
def c95_r2:=[m_ 6 0,n_ 7 6,i_ 8 0]
def c95_r3:=[b_ .lss 9 8 7]
def c95_r4:=[x_ 10 6 8 2,L_ 11 10 2,a_ 5 [iV 0,.bool false],s_ 5 11 2]
def c95_r5:List Cd:=[m_ 12 3,f_ 13 5 0,l_ 14 13 1,⟨some 15,.mkS 1 [iV 0] 1 [(0,.t 14)],none⟩,⟨some 16,.app 1 8 (.t 12) (.t 15),none⟩,m_ 3 16]
def c95_r6:=[B_ .add 17 8 1,m_ 8 17]
def c95_l0:IR:=(sr c95_r3 (.seq (.ite (.t 9) .skip (.exit 0)) (.seq (.block 1 (sr c95_r4 (.reg c95_r5))) (.reg c95_r6))))
def c95_r7:=[m_ 18 3,m_ 2 18]
def c95:Cz:=⟨1,19,[.t 2],sr c95_r0 (sr c95_r1 (.seq (sr c95_r2 (Ho 0 c95_l0)) (rr c95_r7)))⟩
def K95 (D:Bj):Prop:=∀a0 r,g95 a0=some r→D 95 ⟨[Bm a0],[]⟩ ⟨oI 0 r,[],[]⟩
theorem F95:K95 (FO C c95):=by
 intro a0 r h0
 refine f0 (Ba 7 [(0,Bm a0),(3,.own 192 0 1 ([].map eI))] [] (Ax 3 (As (Jr rfl (o_ (Ba 2 [(3,.own 192 0 1 ([].map eI)),(6,Bm a0),(7,iV (a0.length:Int)),(8,iV 0)] [] (Cc (bb h0 fun r18 e19 h0=>Cr (R:=(fun S=>∃p13:List Int,p13=r18∧S=⟨[(3,oI 192 p13)],[],[]⟩)) (Zx a0) (fun s S=>match s with | (p5,p6)=>S=⟨[(3,oI 192 p5),(6,Bm a0),(7,iV (a0.length:Int)),(8,iV p6)],[],[]⟩) e19 _ (Dw (by kernel_rfl)) rfl 0 (fun _=>rfl) ?_ ?_))))))))
 ·rintro S _ hfg ⟨p13,rfl,rfl⟩
  refine Dc _ hfg ?_
  obtain rfl:=sj h0
  exact Cn 5
 ·rintro ⟨p5,p6⟩ o1 _ K1 rfl h1 hx1 hK1 hE1 hR1
  refine Ba 3 [(3,oI 192 p5),(6,Bm a0),(7,iV (a0.length:Int)),(8,iV p6),(9,.bool (decide (p6<(a0.length:Int))))] [] (Bt (Ch h1 (fun c14 h1=>?_) (fun c14 h1=>?_)))
  ·refine Lr 5 (As (bb h1 fun y15 e16 h1=>Nr rfl rfl e16 (o_ (Ba 4 [(3,oI 192 p5),(5,.ptr 320 0),(6,Bm a0),(7,iV (a0.length:Int)),(8,iV p6)] [(320,Bq y15)] (Ax 4 (As (gg h1 fun oA h1=>st (Kk (e:=eI) (l0:=p5) (l1:=([y15.Ay]:List Int)) rfl rfl tv rfl (by decide) oA (o_ (Ba 3 [(3,oI 192 (p5++([y15.Ay]:List Int))),(6,Bm a0),(7,iV (a0.length:Int)),(8,iV p6)] [] (Ax 3 ?_)))))))))))
   obtain rfl:=sj h1
   exact kn hK1 rfl rfl
  ·obtain rfl:=sj h1
   obtain rfl:=hx1 _ rfl
   refine Hq rfl ?_
   exact jn hE1 ⟨_,rfl,rfl⟩

/- slices.Grow[[]int,int] -/
def QI:List Cd:=[⟨some 4,.nilS 1,none⟩]
def QJ:=[m_ 5 1,B_ .lss 6 5 0]
def QK:List Cd:=[⟨some 7,.bad,none⟩,⟨none,.bad,none⟩]
def QL:List Cd:=[m_ 8 1,m_ 9 0,⟨some 10,.cap (.t 9),none⟩,m_ 11 0,n_ 12 11,b_ .sub 13 10 12,b_ .sub 14 8 13,m_ 1 14]
def QM:=[m_ 15 1,B_ .gtr 16 15 0]
def QN:List Cd:=[m_ 17 0,m_ 18 0,⟨some 19,.cap (.t 18),none⟩,⟨some 20,.p (.slice (.t 17) none (some (.t 19)) 1),none⟩,m_ 21 1,⟨some 22,.appz 1 8 [iV 0] (.t 20) (.t 21),none⟩,m_ 23 0,n_ 24 23,⟨some 25,.p (.slice (.t 22) none (some (.t 24)) 1),none⟩,m_ 0 25]
def QO:=[m_ 26 0,m_ 4 26]
def QH:Cz:=⟨2,27,[.t 4],sr QI (.seq (sr QJ (iz 6 (.reg QK))) (.seq (sr QL (sr QM (iz 16 (.reg QN)))) (rr QO)))⟩
def K144 (D:Bj):Prop:=∀a0 a1 r,AcY a0 a1=some r→D 144 ⟨[oI 1024000 a0,iV a1],[]⟩ ⟨oI 0 r,[],[]⟩
theorem F144:K144 (FO C QH):=by
 intro a0 a1 r h0
 refine fnc_ (nl rfl) fun f hf=>?_
 obtain ⟨⟨hb,hl⟩,h0⟩:=grd h0
 obtain rfl:=sj h0
 obtain ⟨n,rfl⟩:=Int.eq_ofNat_of_zero_le hb
 have hn:a0.length+n≤17592186044416:=by omega
 have hbyte:(a0.length+n)*8≤140737488355328:=Nat.le_trans (Nat.mul_le_mul_right 8 hn) (by decide)
 obtain ⟨hc1,hc2⟩:=hf 0 1024000 0 1 (a0.map eI) rfl (by decide)
 rw [List.length_map] at hc1
 have hc2:=hc2 rfl
 have w1:wi ((f 0:Int)-(a0.length:Int))=(f 0:Int)-(a0.length:Int):=wrapI (by omega) (by omega)
 have w2:wi ((n:Int)-((f 0:Int)-(a0.length:Int)))=(n:Int)-((f 0:Int)-(a0.length:Int)):=wrapI (by omega) (by omega)
 refine Bt (As (st (dU (Ha (Dc ⟨[(0,oI 1024000 a0),(1,iV n)],[],[(0,Em+(f 0:Int))]⟩ (BT ⟨rfl,rfl,tv⟩ tv ⟨.inl ⟨_,rfl,.inl rfl⟩,tv⟩) (Ax 5 (Dc ⟨[(6,.bool (decide ((n:Int)<0))),(0,oI 1024000 a0),(1,iV n)],[],[(0,Em+(f 0:Int))]⟩ (BT ⟨rfl,rfl,rfl,tv⟩ tv ⟨.inl ⟨_,rfl,.inl rfl⟩,tv⟩) (Vq (cb:=decide ((n:Int)<0)) rfl (fun h=>absurd (of_decide_eq_true h) (by omega)) (fun _=>(Lc (Dc ⟨[(0,oI 1024000 a0),(1,iV n)],[],[(0,Em+(f 0:Int))]⟩ (BT ⟨rfl,rfl,tv⟩ tv ⟨.inl ⟨_,rfl,.inl rfl⟩,tv⟩) (Ax 4 (As (st (cap_ (e:=eI) (l0:=a0) rfl fun c _ _ hc=>?_)))))))))))))))
 have hcf:(c:Int)=(f 0:Int):=by have:=hc _ rfl (by omega); omega
 refine st (Cj rfl tv (Xf rfl (st (c_ (Bl (v:=iV ((f 0:Int)-(a0.length:Int))) ⟨tv,tv,tv⟩ (congrArg (fun z=>some (True,V.int .i64 z)) ((congrArg (fun z=>wi (z-(a0.length:Int))) hcf).trans w1)) tv) (st (c_ (Bl (v:=iV ((n:Int)-((f 0:Int)-(a0.length:Int)))) ⟨tv,tv,tv⟩ (congrArg (fun z=>some (True,V.int .i64 z)) w2) tv) (st (Cj rfl tv (Ha (Dc ⟨[(0,oI 1024000 a0),(1,iV ((n:Int)-((f 0:Int)-(a0.length:Int))))],[],[(0,Em+(f 0:Int))]⟩ (BT ⟨rfl,rfl,tv⟩ tv ⟨.inl ⟨_,rfl,.inl rfl⟩,tv⟩) (Ax 4 (Dc ⟨[(16,.bool (decide ((n:Int)-((f 0:Int)-(a0.length:Int))>0))),(0,oI 1024000 a0),(1,iV ((n:Int)-((f 0:Int)-(a0.length:Int))))],[],[(0,Em+(f 0:Int))]⟩ (BT ⟨rfl,rfl,rfl,tv⟩ tv ⟨.inl ⟨_,rfl,.inl rfl⟩,tv⟩) (Vq (cb:=decide ((n:Int)-((f 0:Int)-(a0.length:Int))>0)) rfl (fun hgt=>?_) (fun _=>?_))))))))))))))
 ·have hgt':f 0<a0.length+n:=by have:=of_decide_eq_true hgt; omega
  obtain ⟨m,hm⟩:∃m:Nat,(n:Int)-((f 0:Int)-(a0.length:Int))=(m:Int):=⟨a0.length+n-f 0,by omega⟩
  rw [hm]
  refine Ax 2 (As (st (cap_ (e:=eI) (l0:=a0) rfl fun c2 _ _ hc3=>?_)))
  have hcf2:c2=f 0:=by have:=hc3 _ rfl (by omega); omega
  subst hcf2
  refine st (c_ (pP (e:=eI) (l0:=a0) (t:=1024000) (sz:=1) (H:=f 0) (c:=Em+(f 0:Int)) rfl rfl hc1 (show (0:Nat)<1 by decide) rfl (by rw [aK]; omega)) (st (Cj rfl tv (st (tA (e:=eo eI 1) (l0:=a0.map some++List.replicate (f 0-a0.length) none) (c:=Em+(f 0:Int)-0) (t:=1024000) (some (default:Int)) rfl rfl rfl (by decide) (Int.natCast_nonneg _) ?_ rfl (by omega) ?_ ?_)))))
  ·have e1:(a0.map some++List.replicate (f 0-a0.length) none).length+m=a0.length+n:=by simp; omega
   have:=Int.ofNat_le.2 hbyte
   rw [Int.natCast_mul] at this
   rw [←Int.natCast_add,e1]
   exact this
  ·have e1:(a0.map some++List.replicate (f 0-a0.length) none).length=f 0:=by simp; omega
   rw [e1]; omega
  refine st (Cj rfl tv (Xf rfl ?_))
  have hk:((a0.map some++List.replicate (f 0-a0.length) none)++List.replicate ((m:Int)).toNat (some (default:Int))).take a0.length=a0.map some:=by
   rw [List.append_assoc,List.take_append_of_le_length (by simp),List.take_of_length_le (by simp)]
  have hlen:a0.length≤((a0.map some++List.replicate (f 0-a0.length) none)++List.replicate ((m:Int)).toNat (some (default:Int))).length:=by simp only [List.length_append,List.length_map]; omega
  generalize (a0.map some++List.replicate (f 0-a0.length) none)++List.replicate ((m:Int)).toNat (some (default:Int))=R at hk hlen
  refine st (c_ (Ew (e:=eo eI 1) (y:=a0.map some) rfl rfl tv ⟨tv,tv⟩ rfl rfl (by rw [show (none:Option Int).getD 0=((0:Nat):Int) from rfl]; exact (slcN R 0 a0.length (by omega) hlen).trans (congrArg some hk))) (st (Cj rfl tv (Ha ?_))))
  rw [←Xo]
  refine Ba 0 [(0,oI 1408 a0)] [] (Ax 5 ?_)
  exact Ka (Dx rfl rfl rfl rfl rfl tv)
 ·refine Lc ?_
  refine Ba 0 [(0,oI 1024000 a0)] [] (Ax 5 ?_)
  exact Ka (Dx rfl rfl rfl rfl rfl tv)


/- slices.Concat[[]int,int] -/
def MY:List Cd:=[⟨some 2,.nilS 1,none⟩]
def MZ:=[i_ 3 0]
def NA:=[m_ 9 0,n_ 10 9,i_ 11 0]
def NC:=[b_ .lss 12 11 10]
def ND:=[x_ 13 9 11 1,l_ 14 13 1,m_ 5 14]
def NE:=[m_ 15 3,m_ 16 5,n_ 17 16,b_ .add 18 15 17,m_ 3 18]
def NF:=[m_ 19 3,B_ .lss 20 19 0]
def NG:List Cd:=[⟨some 21,.bad,none⟩,⟨none,.bad,none⟩]
def NH:=[B_ .add 22 11 1,m_ 11 22]
def MW:IR:=(sr NC (.seq (.ite (.t 12) .skip (.exit 0)) (.seq (.block 1 (sr ND (sr NE (sr NF (iz 20 (.reg NG)))))) (.reg NH))))
def NI:=[m_ 23 3,q_ 24 144 [.c (.own 1048575 0 1 []),.t 23],m_ 6 24]
def uP:=[m_ 25 0,n_ 26 25,i_ 27 0]
def uQ:=[b_ .lss 28 27 26]
def uR:=[x_ 29 25 27 1,l_ 30 29 1,m_ 8 30]
def uS:List Cd:=[m_ 31 6,m_ 32 8,⟨some 33,.app 1 8 (.t 31) (.t 32),none⟩,m_ 6 33]
def uT:=[B_ .add 34 27 1,m_ 27 34]
def MX:IR:=(sr uQ (.seq (.ite (.t 28) .skip (.exit 2)) (.seq (.block 3 (sr uR (.reg uS))) (.reg uT))))
def uU:=[m_ 35 6,m_ 2 35]
def c126:Cz:=⟨1,36,[.t 2],sr MY (sr MZ (.seq (sr NA (Ho 0 MW)) (sr NI (.seq (sr uP (Ho 2 MX)) (rr uU)))))⟩
def K126 (D:Bj):Prop:=∀a0 r,AcR a0=some r→D 126 ⟨[.lst 1 (a0.map (eL 1 eI))],[]⟩ ⟨oI 0 r,[],[]⟩
theorem F126 (H144:K144 C):K126 (FO C c126):=by
 intro a0 r h0
 refine f0 (Ba 7 [(0,.lst 1 (a0.map (eL 1 eI))),(3,iV 0)] [] (Ax 3 (As (Jr rfl (o_ (Ba 2 [(0,.lst 1 (a0.map (eL 1 eI))),(3,iV 0),(9,.lst 1 (a0.map (eL 1 eI))),(10,iV (a0.length:Int)),(11,iV 0)] [] (Cc (bb h0 fun r25 e26 h0=>Cr (R:=(fun S=>∃p15:Int,p15=r25∧S=⟨[(0,.lst 1 (a0.map (eL 1 eI))),(3,iV p15)],[],[]⟩)) (Lk a0) (fun s S=>match s with | (p6,p7)=>S=⟨[(0,.lst 1 (a0.map (eL 1 eI))),(3,iV p6),(9,.lst 1 (a0.map (eL 1 eI))),(10,iV (a0.length:Int)),(11,iV p7)],[],[]⟩) e26 _ (Dw (by kernel_rfl)) rfl 0 (fun _=>rfl) ?_ ?_))))))))
 ·rintro S _ hfg ⟨p15,rfl,rfl⟩
  refine Dc _ hfg (Bt (As (st (Cj rfl tv (bb h0 fun r27 e28 h0=>Xd [] [] [1048575] (H144 ([]:List Int) p15 r27 e28) (At (af rfl) rfl) (o_ (Ba 2 [(0,.lst 1 (a0.map (eL 1 eI))),(6,oI 1536 r27)] [] (Ax 3 (As (Jr rfl (o_ (Ba 2 [(6,oI 1536 r27),(25,.lst 1 (a0.map (eL 1 eI))),(26,iV (a0.length:Int)),(27,iV 0)] [] (Cc (bb h0 fun r46 e47 h0=>Cr (R:=(fun S=>∃p41:List Int,p41=r46∧S=⟨[(6,oI 1536 p41)],[],[]⟩)) (Ll a0) (fun s S=>match s with | (p33,p34)=>S=⟨[(6,oI 1536 p33),(25,.lst 1 (a0.map (eL 1 eI))),(26,iV (a0.length:Int)),(27,iV p34)],[],[]⟩) e47 _ (Dw (by kernel_rfl)) rfl 2 (fun _=>rfl) ?_ ?_))))))))))))))
  ·rintro S _ hfg ⟨p41,rfl,rfl⟩
   refine Dc _ hfg ?_
   obtain rfl:=sj h0
   exact Cn 5
  ·rintro ⟨p33,p34⟩ o1 _ K1 rfl h1 hx1 hK1 hE1 hR1
   refine Ba 3 [(6,oI 1536 p33),(25,.lst 1 (a0.map (eL 1 eI))),(26,iV (a0.length:Int)),(27,iV p34),(28,.bool (decide (p34<(a0.length:Int))))] [] (Bt (Ch h1 (fun c42 h1=>?_) (fun c42 h1=>?_)))
   ·refine Lr 5 (As (bb h1 fun y43 e44 h1=>Nr rfl rfl e44 (o_ (Ba 3 [(6,oI 1536 p33),(8,lI y43),(25,.lst 1 (a0.map (eL 1 eI))),(26,iV (a0.length:Int)),(27,iV p34)] [] (Ax 2 (As (gg h1 fun oC h1=>st (Kk (e:=eI) (l0:=p33) (l1:=y43) rfl rfl tv rfl (by decide) oC (o_ (Ba 3 [(6,oI 1536 (p33++y43)),(25,.lst 1 (a0.map (eL 1 eI))),(26,iV (a0.length:Int)),(27,iV p34)] [] (Ax 3 ?_)))))))))))
    obtain rfl:=sj h1
    exact kn hK1 rfl rfl
   ·obtain rfl:=sj h1
    obtain rfl:=hx1 _ rfl
    refine Hq rfl ?_
    exact jn hE1 ⟨_,rfl,rfl⟩
 ·rintro ⟨p6,p7⟩ o1 _ K1 rfl h1 hx1 hK1 hE1 hR1
  refine Ba 3 [(0,.lst 1 (a0.map (eL 1 eI))),(3,iV p6),(9,.lst 1 (a0.map (eL 1 eI))),(10,iV (a0.length:Int)),(11,iV p7),(12,.bool (decide (p7<(a0.length:Int))))] [] (Bt (Ch h1 (fun c16 h1=>?_) (fun c16 h1=>?_)))
  ·refine Lr 3 (Jk (fun S=>∃p20:Int,S=⟨[(0,.lst 1 (a0.map (eL 1 eI))),(3,iV p20),(9,.lst 1 (a0.map (eL 1 eI))),(10,iV (a0.length:Int)),(11,iV p7)],[],[]⟩∧Xt p7 p20=some o1) ?_ (fun J21=>?_))
   ·rintro _ ⟨p20,rfl,h1⟩
    refine Ax 4 ?_
    obtain rfl:=sj h1
    exact kn hK1 rfl rfl
   ·refine Bt ?_
    refine As (bb h1 fun y22 e23 h1=>Nr rfl rfl e23 (o_ (Ba 3 [(0,.lst 1 (a0.map (eL 1 eI))),(3,iV p6),(5,lI y22),(9,.lst 1 (a0.map (eL 1 eI))),(10,iV (a0.length:Int)),(11,iV p7)] [] (Ax 3 (As (Jr rfl (o_ (Ba 8 [(0,.lst 1 (a0.map (eL 1 eI))),(3,iV (wi (p6+(y22.length:Int)))),(9,.lst 1 (a0.map (eL 1 eI))),(10,iV (a0.length:Int)),(11,iV p7),(20,.bool (decide ((wi (p6+(y22.length:Int)))<0)))] [] (Ch h1 (fun c24 h1=>?_) (fun c24 h1=>?_))))))))))
    ·refine As ?_
     cases h1
    ·refine Lc (Su ?_)
     exact jn J21 ⟨_,rfl,h1⟩
  ·obtain rfl:=sj h1
   obtain rfl:=hx1 _ rfl
   refine Hq rfl ?_
   exact jn hE1 ⟨_,rfl,rfl⟩

/- slices.IndexFunc[[]int,int] -/
def NK:=[i_ 4 0]
def NL:=[m_ 6 0,n_ 7 6,i_ 8 0]
def NM:=[b_ .lss 9 8 7]
def NN:=[m_ 10 8,m_ 5 10]
def NO:List Cd:=[m_ 11 1,m_ 12 0,m_ 13 5,x_ 14 12 13 1,l_ 15 14 1,⟨some 16,.callv (.t 11) [.t 15],none⟩]
def NP:=[m_ 17 5,m_ 4 17]
def NQ:=[B_ .add 18 8 1,m_ 8 18]
def NJ:IR:=(sr NM (.seq (.ite (.t 9) .skip (.exit 0)) (.seq (.block 1 (sr NN (sr NO (iz 16 (rr NP))))) (.reg NQ))))
def NS:=[i_ 4 (-1)]
def c127:Cz:=⟨2,19,[.t 4],sr NK (.seq (sr NL (Ho 0 NJ)) (rr NS))⟩
def GL (C:Bj) (D:Bj:=C):Prop:=∀(a0:List Int) (f1:Nat) (k1:List V) (is1:Int→Option Bool) (hs1:Io k1) (hf1:∀(x0:Int) r,is1 x0=some r→C f1 ⟨iV x0::k1,[]⟩ ⟨.bool r,[],[]⟩) (r:Int),AcS a0 is1=some r→D 127 ⟨[lI a0,.clo f1 k1],[]⟩ ⟨iV r,[],[]⟩
theorem F127:GL C (FO C c127):=by
 intro a0 f1 k1 is1 hs1 hf1 r h0
 refine f0 (Ba 3 [(0,lI a0),(1,.clo f1 k1)] [] (Ax 3 (As (Jr rfl (o_ (Ba 2 [(0,lI a0),(1,.clo f1 k1),(7,iV (a0.length:Int)),(8,iV 0)] [] (Cc (bb h0 fun r21 e22 h0=>Cr (R:=(fun S=>.inl ()=r21∧S=⟨[],[],[]⟩)) (oK a0 is1) (fun s S=>match s with | p7=>S=⟨[(0,lI a0),(1,.clo f1 k1),(7,iV (a0.length:Int)),(8,iV p7)],[],[]⟩) e22 _ (Dw (by kernel_rfl)) rfl 0 (fun _=>rfl) ?_ ?_))))))))
 ·rintro S _ hfg ⟨rfl,rfl⟩
  refine Dc _ hfg ?_
  obtain rfl:=sj h0
  exact Cn 4
 ·rintro p7 o1 _ K1 rfl h1 hx1 hK1 hE1 hR1
  refine Ba 3 [(0,lI a0),(1,.clo f1 k1),(7,iV (a0.length:Int)),(8,iV p7),(9,.bool (decide (p7<(a0.length:Int))))] [] (Bt (Ch h1 (fun c15 h1=>?_) (fun c15 h1=>?_)))
  ·refine Ba 8 [(0,lI a0),(1,.clo f1 k1),(5,iV p7),(7,iV (a0.length:Int)),(8,iV p7)] [] (Ax 4 (As (bb h1 fun y16 e17 h1=>Nr rfl rfl e17 (st (c_ (Bl ⟨tv,tv⟩ rfl (nl rfl)) (bb h1 fun r18 e19 h1=>st (Gt (r:=.bool r18) rfl false (hf1 _ r18 e19) ⟨tv,tv⟩ (At rfl hs1.2.2.1) (Be rfl (hs1.2.1 _ _ _ _ _)) (fun _=>rfl) (o_ (Ba 1 [(0,lI a0),(1,.clo f1 k1),(5,iV p7),(7,iV (a0.length:Int)),(8,iV p7),(16,.bool r18)] [] (Ch h1 (fun kP h1=>?_) (fun kP h1=>?_)))))))))))
   ·obtain rfl:=sj h1
    obtain rfl:=hx1 _ rfl
    obtain rfl:=sj h0
    exact Wv 5 hR1
   ·refine Ax 6 ?_
    obtain rfl:=sj h1
    exact kn hK1 rfl rfl
  ·obtain rfl:=sj h1
   obtain rfl:=hx1 _ rfl
   refine Hq rfl ?_
   exact jn hE1 ⟨rfl,rfl⟩

/- (loop.example/g00149/impl.Vault).stray$1 -/
def NT:=[k_ 3 (.bool false)]
def NU:=[l_ 4 1 1,m_ 5 0,iQ 6 (.mget (.t 4) (.t 5)),N_ 7 6,m_ 3 7]
def c128:Cz:=⟨2,8,[.t 3],sr NT (rr NU)⟩
def K128 (D:Bj):Prop:=∀a0 a1 r,CD a0 a1=some r→D 128 ⟨[iV a0,.iptr [.lst 0 (fZ a1)]],[]⟩ ⟨.bool r,[],[]⟩
theorem F128:K128 (FO C c128):=by
 intro a0 a1 r h0
 refine f0 (Ba 3 [(0,iV a0),(1,.iptr [.lst 0 (fZ a1)])] [] (Ax 3 (As (st (c_ (cmgetL rfl rfl) (o_ ?_))))))
 obtain rfl:=sj h0
 exact Cn 4

/- (loop.example/g00149/impl.Vault).stray -/
def c96_r0:=[X_ 1 0,i_ 2 0,k_ 3 (.bool false)]
def c96_r1:List Cd:=[⟨some 8,.mkM,none⟩,a_ 4 [.undef],s_ 4 8 1]
def c96_r2:=tk [f_ 9 1 0,L_ 10 9 3,f_ 12 1 3,l_ 13 12 1,i_ 18 0] (.alt [i_ 18 0,l_ 13 12 1,f_ 12 1 3] (q_ 11 60 [.t 10]) (.alt [i_ 18 0] (q_ 14 95 [.t 13]) (.alt [i_ 18 0] ⟨some 15,.mkS 1 [.lst 1 []] 2 [(0,.t 11),(1,.t 14)],none⟩ (.alt [i_ 18 0] (q_ 16 126 [.t 15]) (tk [n_ 17 16] .fin) .stop) .stop) .stop) .stop)
def c96_r3:=[b_ .lss 19 18 17]
def c96_r4:=[x_ 20 16 18 1,l_ 21 20 1,m_ 6 21]
def c96_r5:List Cd:=[l_ 22 4 1,m_ 23 6,⟨none,.mset (.t 22) (.t 23) (.c (.bool true)),none⟩]
def c96_r6:=[B_ .add 24 18 1,m_ 18 24]
def c96_l0:IR:=(sr c96_r3 (.seq (.ite (.t 19) .skip (.exit 0)) (.seq (.block 1 (sr c96_r4 (.reg c96_r5))) (.reg c96_r6))))
def c96_r7:=[f_ 25 1 4,l_ 26 25 1,iQ 27 (.fn 128 [.t 4]),q_ 28 127 [.t 26,.t 27],m_ 7 28]
def c96_r8:=[m_ 29 7,B_ .lss 30 29 0]
def c96_r9:=[i_ 2 0,k_ 3 (.bool false)]
def AcC:=[f_ 31 1 4,l_ 32 31 1,m_ 33 7,x_ 34 32 33 1,l_ 35 34 1,m_ 2 35,k_ 3 (.bool true)]
def c96:Cz:=⟨1,36,[.t 2,.t 3],sr c96_r0 (sr c96_r1 (.seq (sd c96_r2 (Ho 0 c96_l0)) (sr c96_r7 (.seq (sr c96_r8 (iz 30 (rr c96_r9))) (rr AcC)))))⟩
def K96 (D:Bj):Prop:=∀a0 r,g96 a0=some r→D 96 ⟨[.agg (Au a0)],[]⟩ ⟨.tup [iV r.1,.bool r.2],[],[]⟩
abbrev dS:=fun (r:List (Nat×V))=>(1,.ptr 64 0)::(4,.ptr 256 0)::r
theorem F96 (H60:K60 C) (H95:K95 C) (H126:K126 C) (H127:GL C) (H128:K128 C):K96 (FO C c96):=by
 intro a0 r h0
 refine f0 (Ba 5 [(1,.ptr 64 0)] [(64,Au a0)] (Bt (As (st (mkM_ (o_ (Ba 3 (dS []) [(64,Au a0),(256,[.own 512 0 0 (fZ ([]:List (Int×Bool)))])] (Bt (Bt (bb h0 fun r1 e2 h0=>bb h0 fun r3 e4 h0=>bb h0 fun r5 e6 h0=>Ax 5 (Bd (Gh (H60 a0.Ac r1 e2) (af rfl) (dw [(1,.ptr 64 0),(4,.ptr 256 0),(11,oI 704 r1),(12,.ptr 64 3),(13,Bm a0.Ab),(18,iV 0)] [(64,Au a0),(256,[.own 512 0 0 (fZ ([]:List (Int×Bool)))])] hB (Gh (H95 a0.Ab r3 e4) (af rfl) (dw [(1,.ptr 64 0),(4,.ptr 256 0),(11,oI 704 r1),(14,oI 896 r3),(18,iV 0)] [(64,Au a0),(256,[.own 512 0 0 (fZ ([]:List (Int×Bool)))])] hB (Az (gB ⟨tv,tv,tv⟩ ⟨⟨nl rfl,rfl,rfl⟩,⟨nl rfl,rfl,rfl⟩,tv⟩ (d0 hB (Gh (H126 ([r1,r3]:List (List Int)) r5 e6) (af rfl) (dw [(1,.ptr 64 0),(4,.ptr 256 0),(16,oI 1024 r5),(18,iV 0)] [(64,Au a0),(256,[.own 512 0 0 (fZ ([]:List (Int×Bool)))])] hB (Ak tv (c_ (clenO (e:=eI) (l0:=r5) rfl rfl tv) (⟨tv,d_ (Ba 1 (dS [(16,oI 1024 r5),(17,iV (r5.length:Int)),(18,iV 0)]) [(64,Au a0),(256,[.own 512 0 0 (fZ ([]:List (Int×Bool)))])] (Cc (bb h0 fun r27 e28 h0=>Cr (R:=(fun S=>∃p21:List (Int×Bool),p21=r27∧S=⟨dS [],[(64,Au a0),(256,[.own 512 0 0 (fZ p21)])],[]⟩)) (Vo r5) (fun s S=>match s with | (p12,p13)=>S=⟨dS [(16,oI 1024 r5),(17,iV (r5.length:Int)),(18,iV p12)],[(64,Au a0),(256,[.own 512 0 0 (fZ p13)])],[]⟩) e28 _ (Dw (by kernel_rfl)) rfl 0 (fun _=>rfl) ?_ ?_)))⟩)))) Aq))) Aq)) Aq)) Aq))))))))))))
 ·rintro S _ hfg ⟨p21,rfl,rfl⟩
  refine Dc _ hfg (Ax 4 (As (bb h0 fun r29 e30 h0=>st (Ci (r:=iV r29) false (H127 a0.Ah 128 [.iptr [.lst 0 (fZ p21)]] (fun z128_0=>CD z128_0 p21) (⟨fun _ _ _ _ _=>rfl,fun _ _ _ _ _=>rfl,rfl,fun _ _ _ n=>by cases n<;>rfl,fun _=>rfl⟩) (fun z128_0 r h=>H128 z128_0 p21 r h) r29 e30) ⟨tv,tv,tv⟩ rfl rfl (fun _=>rfl) (o_ (Ba 8 [(1,.ptr 64 0),(7,iV r29),(30,.bool (decide (r29<0)))] [(64,Au a0)] (Ch h0 (fun c31 h0=>?_) (fun c31 h0=>?_))))))))
  ·obtain rfl:=sj h0
   exact Cn 5
  ·refine Ax 6 (As (bb h0 fun y32 e33 h0=>Nr rfl rfl e33 (o_ ?_)))
   obtain rfl:=sj h0
   exact Cn 5
 ·rintro ⟨p12,p13⟩ o1 _ K1 rfl h1 hx1 hK1 hE1 hR1
  refine Ba 3 (dS [(16,oI 1024 r5),(17,iV (r5.length:Int)),(18,iV p12),(19,.bool (decide (p12<(r5.length:Int))))]) [(64,Au a0),(256,[.own 512 0 0 (fZ p13)])] (Bt (Ch h1 (fun c22 h1=>?_) (fun c22 h1=>?_)))
  ·refine Lr 5 (As (bb h1 fun y23 e24 h1=>Wa rfl rfl e24 (bb h1 fun y25 e26 h1=>lo_ rfl rfl e26 (o_ (Ba 2 (dS [(6,iV y25),(16,oI 1024 r5),(17,iV (r5.length:Int)),(18,iV p12)]) [(64,Au a0),(256,[.own 512 0 0 (fZ p13)])] (Ax 2 (As (st (mset_ rfl rfl rfl (Ha (Su (Dc ⟨[(1,.ptr 64 0),(4,.ptr 256 0),(16,oI 1024 r5),(17,iV (r5.length:Int)),(18,iV p12)],[(64,Au a0),(256,[.own 512 0 0 (fZ (Rm p13 y25 true))])],[]⟩ (fg ⟨rfl,rfl,rfl,rfl,rfl,tv⟩ ⟨rfl,congrArg (fun z=>some (([.own 512 0 0 z]:List V))) DW,tv⟩) (Ax 3 ?_)))))))))))))
   obtain rfl:=sj h1
   exact kn hK1 rfl rfl
  ·obtain rfl:=sj h1
   obtain rfl:=hx1 _ rfl
   refine Hq rfl ?_
   exact jn hE1 ⟨_,rfl,rfl⟩

/- slices.ContainsFunc[[]int,int] -/
def NV:=[k_ 4 (.bool false)]
def NW:=[m_ 5 0,m_ 6 1,q_ 7 127 [.t 5,.t 6],B_ .geq 8 7 0,m_ 4 8]
def c129:Cz:=⟨2,9,[.t 4],sr NV (rr NW)⟩
def K129 (C:Bj) (D:Bj:=C):Prop:=∀(a0:List Int) (f1:Nat) (k1:List V) (is1:Int→Option Bool) (hs1:Io k1) (hf1:∀(x0:Int) r,is1 x0=some r→C f1 ⟨iV x0::k1,[]⟩ ⟨.bool r,[],[]⟩) (r:Bool),AcT a0 is1=some r→D 129 ⟨[lI a0,.clo f1 k1],[]⟩ ⟨.bool r,[],[]⟩
theorem F129 (H127:GL C):K129 C (FO C c129):=by
 intro a0 f1 k1 is1 hs1 hf1 r h0
 refine f0 (Ba 3 [(0,lI a0),(1,.clo f1 k1)] [] (Ax 3 (As (bb h0 fun r1 e2 h0=>st (Ci (r:=iV r1) false (H127 a0 f1 k1 is1 hs1 hf1 r1 e2) ⟨tv,tv,tv⟩ rfl (Be rfl (Be (Eo hs1) rfl)) (fun _=>rfl) (o_ ?_))))))
 obtain rfl:=sj h0
 exact Cn 4

/- loop.example/g00149/impl.areAll[int]$1 -/
def NX:=[k_ 3 (.bool false)]
def NY:List Cd:=[l_ 4 1 1,m_ 5 0,⟨some 6,.callv (.t 4) [.t 5],none⟩,N_ 7 6,m_ 3 7]
def c130:Cz:=⟨2,8,[.t 3],sr NX (rr NY)⟩
def K130 (C:Bj) (D:Bj:=C):Prop:=∀(a0:Int) (f1:Nat) (k1:List V) (is1:Int→Option Bool) (hs1:Io k1) (hf1:∀(x0:Int) r,is1 x0=some r→C f1 ⟨iV x0::k1,[]⟩ ⟨.bool r,[],[]⟩) (r:Bool),AcV a0 is1=some r→D 130 ⟨[iV a0,.iptr [.clo f1 k1]],[]⟩ ⟨.bool r,[],[]⟩
theorem F130:K130 C (FO C c130):=by
 intro a0 f1 k1 is1 hs1 hf1 r h0
 refine f0 (Ba 3 [(0,iV a0),(1,.iptr [.clo f1 k1])] [] (Ax 3 (As (bb h0 fun r1 e2 h0=>st (Gt (r:=.bool r1) rfl false (hf1 _ r1 e2) ⟨tv,tv⟩ (At rfl hs1.2.2.1) (Be rfl (hs1.2.1 _ _ _ _ _)) (fun _=>rfl) (o_ ?_))))))
 obtain rfl:=sj h0
 exact Cn 4

/- loop.example/g00149/impl.areAll[int] -/
def c97_r0:=[X_ 3 1,k_ 4 (.bool false)]
def c97_r1:=[m_ 5 0,iQ 6 (.fn 130 [.t 3]),q_ 7 129 [.t 5,.t 6],N_ 8 7,m_ 4 8]
def c97:Cz:=⟨2,9,[.t 4],sr c97_r0 (rr c97_r1)⟩
def K97 (C:Bj) (D:Bj:=C):Prop:=∀(a0:List Int) (f1:Nat) (k1:List V) (is1:Int→Option Bool) (hs1:Io k1) (hf1:∀(x0:Int) r,is1 x0=some r→C f1 ⟨iV x0::k1,[]⟩ ⟨.bool r,[],[]⟩) (r:Bool),g97 a0 is1=some r→D 97 ⟨[lI a0,.clo f1 k1],[]⟩ ⟨.bool r,[],[]⟩
theorem F97 (H129:K129 C) (H130:K130 C):K97 C (FO C c97):=by
 intro a0 f1 k1 is1 hs1 hf1 r h0
 refine f0 (Bt (As (st (box_ (iR hs1) tv rfl (o_ (Ba 2 [(0,lI a0),(3,.ptr 192 0)] [(192,[.clo f1 k1])] (Ax 3 (As (bb h0 fun r1 e2 h0=>st (Ci (r:=.bool r1) false (H129 a0 130 [.iptr [.clo f1 k1]] (fun z130_0=>AcV z130_0 is1) (⟨fun _ _ _ _ _=>rfl,fun _ _ _ _ _=>rfl,rfl,fun _ _ _ n=>by cases n<;>rfl,fun _=>rfl⟩) (fun z130_0 r h=>H130 z130_0 f1 k1 is1 hs1 hf1 r h) r1 e2) ⟨tv,tv,tv⟩ rfl (Be rfl (Be (congrArg (fun z=>V.clo 130 [.iptr [.clo f1 z]]) (hs1.2.2.2.1 _ _ _ _)) rfl)) (fun _=>rfl) (o_ ?_)))))))))))
 obtain rfl:=sj h0
 exact Cn 4

/- slices.BinarySearchFunc[[]loop.example/g00149/impl.Lease,loop.example/g00149/impl.Lease,int] -/
def KD:=[i_ 6 0,k_ 7 (.bool false)]
def KE:=[m_ 12 0,n_ 13 12,m_ 8 13]
def KF:=[m_ 14 8,i_ 9 0,m_ 10 14]
def KG:=[m_ 15 9,m_ 16 10,b_ .lss 17 15 16]
def KH:List Cd:=[m_ 18 9,m_ 19 10,b_ .add 20 18 19,iQ 21 (.conv .u64 (.t 20)),⟨some 22,.p (.bin .shr (.t 21) (.c (.int .u64 1))),none⟩,iQ 23 (.conv .i64 (.t 22)),m_ 11 23]
def KI:List Cd:=[m_ 24 2,m_ 25 0,m_ 26 11,x_ 27 25 26 4,L_ 28 27 4,m_ 29 1,⟨some 30,.callv (.t 24) [.t 28,.t 29],none⟩,B_ .lss 31 30 0]
def KJ:=[m_ 32 11,B_ .add 33 32 1,m_ 9 33]
def KK:=[m_ 34 11,m_ 10 34]
def KC:IR:=(.seq (sr KG (.ite (.t 17) .skip (.exit 0))) (.block 1 (sr KH (sr KI (.ite (.t 31) (.reg KJ) (.reg KK))))))
def KL:List Cd:=[m_ 35 9,m_ 36 9,m_ 37 8,b_ .lss 38 36 37,m_ 39 38,mT 39 40 2,mT 39 41 0,mT 39 42 9,xT 39 43 41 42 4,lT 39 44 43 4 true,mT 39 45 1,⟨some 46,.callv (.t 40) [.t 44,.t 45],some (39,true)⟩,pT 39 47 (.bin .eql (.t 46) (.c (iV 0))),pa 48 39 47,m_ 6 35,m_ 7 48]
def c113:Cz:=⟨3,49,[.t 6,.t 7],sr KD (sr KE (sr KF (.seq (Ho 0 KC) (rr KL))))⟩
def K113 (C:Bj) (D:Bj:=C):Prop:=∀(a0:List Aa) (a1:Int) (f2:Nat) (k2:List V) (is2:Aa→Int→Option Int) (hs2:Io k2) (hf2:∀(x0:Aa) (x1:Int) r,is2 x0 x1=some r→C f2 ⟨.agg (Ad x0)::iV x1::k2,[]⟩ ⟨iV r,[],[]⟩) (r:Int×Bool),g113 a0 a1 is2=some r→D 113 ⟨[Bp a0,iV a1,.clo f2 k2],[]⟩ ⟨.tup [iV r.1,.bool r.2],[],[]⟩
abbrev Sj:=fun x0 x1 x2 x3 (r:List (Nat×V))=>(0,Bp x0)::(1,iV x1)::(2,.clo x2 x3)::r
theorem F113:K113 C (FO C c113):=by
 intro a0 a1 f2 k2 is2 hs2 hf2 r h0
 refine f0 (Ba 4 (Sj a0 a1 f2 k2 []) [] (Bt (As (st (Cj rfl tv (Jr rfl (o_ (Ba 8 (Sj a0 a1 f2 k2 [(8,iV (a0.length:Int)),(9,iV 0),(10,iV (a0.length:Int))]) [] (Bt (Cc (bb h0 fun r30 e31 h0=>Cr (R:=(fun S=>∃p21:Int,p21=r30∧S=⟨Sj a0 a1 f2 k2 [(8,iV (a0.length:Int)),(9,iV p21)],[],[]⟩)) (Xq a0 a1 is2) (fun s S=>match s with | (p9,p10)=>S=⟨Sj a0 a1 f2 k2 [(8,iV (a0.length:Int)),(9,iV p9),(10,iV p10)],[],[]⟩) e31 _ (Dw (by kernel_rfl)) rfl 0 (fun _=>rfl) ?_ ?_)))))))))))
 ·rintro S _ hfg ⟨p21,rfl,rfl⟩
  refine Dc ⟨Sj a0 a1 f2 k2 [(8,iV (a0.length:Int)),(9,iV p21)],[],[]⟩ (sQ hfg ⟨rfl,rfl,rfl,rfl,rfl,tv⟩ tv) (bS 9 (As (bb h0 fun y32 e33 h0=>st (Bv (u:=.iptr (Ad y32)) rfl (fun hg=>(Nw (e:=Ad) (y:=y32) rfl rfl (fun _=>hg) rfl rfl (fun _=>hg) (ip hg e33))) (o_ (bS 2 (As (bb h0 fun r34 e35 h0=>st (Ie (r:=iV r34) rfl rfl rfl (fun hg=>hg) false (fun hg=>hf2 _ _ r34 (ip hg e35)) ⟨(fun hg=>hg),(fun hg=>hg),tv⟩ (fun _=>(ar (At rfl hs2.2.2.1))) (fun _=>(Be rfl (Be rfl (hs2.2.1 _ _ _ _ _)))) (fun _=>rfl) (fun h=>nomatch h) (o_ (bS 2 (As (o_ ?_)))))))))))))
  obtain rfl:=sj h0
  exact Cn 4
 ·rintro ⟨p9,p10⟩ o1 _ K1 rfl h1 hx1 hK1 hE1 hR1
  refine Ba 6 (Sj a0 a1 f2 k2 [(8,iV (a0.length:Int)),(9,iV p9),(10,iV p10),(17,.bool (decide (p9<p10)))]) [] (Ch h1 (fun c22 h1=>?_) (fun c22 h1=>?_))
  ·refine Ax 8 (As (st (c_ (Bl ⟨tv,tv,tv⟩ rfl (by decide)) (o_ (Ax 3 (bv h1 fun v23 e24 h1=>Dc ⟨[(0,Bp a0),(1,iV a1),(2,.clo f2 k2),(8,iV (a0.length:Int)),(9,iV p9),(10,iV p10),(11,iV v23)],[],[]⟩ (fg ⟨(by subst e24; rfl),(by subst e24; rfl),(by subst e24; rfl),(by subst e24; rfl),(by subst e24; rfl),(by subst e24; rfl),(by subst e24; rfl),tv⟩ tv) (Ax 4 (As (bb h1 fun y25 e26 h1=>Nr rfl rfl e26 (o_ (Ax 2 (As (bb h1 fun r27 e28 h1=>st (Gt (r:=iV r27) rfl false (hf2 _ _ r27 e28) ⟨tv,tv,tv⟩ (ar (At rfl hs2.2.2.1)) (Be rfl (Be rfl (hs2.2.1 _ _ _ _ _))) (fun _=>rfl) (o_ (Ba 2 (Sj a0 a1 f2 k2 [(8,iV (a0.length:Int)),(9,iV p9),(10,iV p10),(11,iV v23),(31,.bool (decide (r27<0)))]) [] (Ch h1 (fun c29 h1=>?_) (fun c29 h1=>?_))))))))))))))))))
   ·refine Ax 5 ?_
    obtain rfl:=sj h1
    exact kn hK1 rfl rfl
   ·refine Ax 4 ?_
    obtain rfl:=sj h1
    exact kn hK1 rfl rfl
  ·obtain rfl:=sj h1
   obtain rfl:=hx1 _ rfl
   refine Hq rfl ?_
   exact jn hE1 ⟨_,rfl,rfl⟩

/- cmp.isNaN[int] -/
def PL:=[k_ 2 (.bool false)]
def PM:=[m_ 3 0,m_ 4 0,b_ .neq 5 3 4,m_ 2 5]
def c136:Cz:=⟨1,6,[.t 2],sr PL (rr PM)⟩
def GM (D:Bj):Prop:=∀a0 r,iX a0=some r→D 136 ⟨[iV a0],[]⟩ ⟨.bool r,[],[]⟩
theorem F136:GM (FO C c136):=by
 intro a0 r h0
 refine f0 (?_)
 obtain rfl:=sj h0
 exact Cn 11

/- cmp.Compare[int] -/
def JM:=[i_ 4 0]
def JN:=[m_ 7 0,q_ 8 136 [.t 7],m_ 5 8]
def JO:=[m_ 9 1,q_ 10 136 [.t 9],m_ 6 10]
def JP:=[m_ 11 5]
def JQ:=[m_ 12 6]
def JR:=[i_ 4 0]
def JS:=[i_ 4 (-1)]
def JT:=[m_ 13 6]
def JU:=[i_ 4 1]
def JV:=[m_ 14 0,m_ 15 1,b_ .lss 16 14 15]
def uA:=[i_ 4 (-1)]
def uB:=[m_ 17 0,m_ 18 1,b_ .gtr 19 17 18]
def uC:=[i_ 4 1]
def uD:=[i_ 4 0]
def c110:Cz:=⟨2,20,[.t 4],sr JM (sr JN (sr JO (.seq (sr JP (iz 11 (.seq (sr JQ (iz 12 (rr JR))) (rr JS)))) (.seq (sr JT (iz 13 (rr JU))) (.seq (sr JV (iz 16 (rr uA))) (.seq (sr uB (iz 19 (rr uC))) (rr uD)))))))⟩
def GJ (D:Bj):Prop:=∀a0 a1 r,qS a0 a1=some r→D 110 ⟨[iV a0,iV a1],[]⟩ ⟨iV r,[],[]⟩
theorem F110 (H136:GM C):GJ (FO C c110):=by
 intro a0 a1 r h0
 refine f0 (Ba 3 [(0,iV a0),(1,iV a1)] [] (Bt (As (st (Cj rfl tv (bb h0 fun r1 e2 h0=>Jj (H136 a0 r1 e2) (o_ (Ba 2 [(0,iV a0),(1,iV a1),(5,.bool r1)] [] (Bt (As (st (Cj rfl tv (bb h0 fun r3 e4 h0=>Jj (H136 a1 r3 e4) (o_ (Ba 7 [(0,iV a0),(1,iV a1),(6,.bool r3),(11,.bool r1)] [] (Ch h0 (fun c5 h0=>?_) (fun c5 h0=>?_)))))))))))))))))
 ·refine Ba 4 [(12,.bool r3)] [] (Ch h0 (fun c6 h0=>?_) (fun c6 h0=>?_))
  ·obtain rfl:=sj h0
   exact Cn 4
  ·obtain rfl:=sj h0
   exact Cn 6
 ·refine Ba 6 [(0,iV a0),(1,iV a1),(13,.bool r3)] [] (Ch h0 (fun c7 h0=>?_) (fun c7 h0=>?_))
  ·obtain rfl:=sj h0
   exact Cn 4
  ·refine Ba 8 [(0,iV a0),(1,iV a1),(16,.bool (decide (a0<a1)))] [] (Ch h0 (fun c8 h0=>?_) (fun c8 h0=>?_))
   ·obtain rfl:=sj h0
    exact Cn 4
   ·refine Ba 8 [(19,.bool (decide (a0>a1)))] [] (Ch h0 (fun c9 h0=>?_) (fun c9 h0=>?_))
    ·obtain rfl:=sj h0
     exact Cn 4
    ·obtain rfl:=sj h0
     exact Cn 6

/- (loop.example/g00149/impl.Table).find$1 -/
def KM:=[X_ 2 0,i_ 4 0]
def KN:=[f_ 5 2 0,l_ 6 5 1,m_ 7 1,q_ 8 110 [.t 6,.t 7],m_ 4 8]
def c114:Cz:=⟨2,9,[.t 4],sr KM (rr KN)⟩
def K114 (D:Bj):Prop:=∀a0 a1 r,qT a0 a1=some r→D 114 ⟨[.agg (Ad a0),iV a1],[]⟩ ⟨iV r,[],[]⟩
theorem F114 (H110:GJ C):K114 (FO C c114):=by
 intro a0 a1 r h0
 refine f0 (Ba 4 [(1,iV a1),(2,.ptr 128 0)] [(128,Ad a0)] (Ax 4 (As (bb h0 fun r1 e2 h0=>Jj (H110 a0.id a1 r1 e2) (o_ ?_)))))
 obtain rfl:=sj h0
 exact Cn 3

/- (loop.example/g00149/impl.Table).find -/
def c77_r0:=[X_ 2 0,i_ 4 0,k_ 5 (.bool false)]
def c77_r1:=[f_ 6 2 2,l_ 7 6 1,m_ 8 1,q_ 9 113 [.t 7,.t 8,.c (.clo 114 [])],e_ 10 9 0,e_ 11 9 1,m_ 4 10,m_ 5 11]
def c77:Cz:=⟨2,12,[.t 4,.t 5],sr c77_r0 (rr c77_r1)⟩
def K77 (D:Bj):Prop:=∀a0 a1 r,GF a0 a1=some r→D 77 ⟨[.agg (Bb a0),iV a1],[]⟩ ⟨.tup [iV r.1,.bool r.2],[],[]⟩
theorem F77 (H113:K113 C) (H114:K114 C):K77 (FO C c77):=by
 intro a0 a1 r h0
 refine f0 (Ba 5 [(1,iV a1),(2,.ptr 128 0)] [(128,Bb a0)] (Ax 4 (As (bb h0 fun r1 e2 h0=>st (Ci (r:=.tup [iV r1.1,.bool r1.2]) false (H113 a0.Ae a1 114 [] (fun z114_0 z114_1=>qT z114_0 z114_1) (⟨fun _ _ _ _ _=>rfl,fun _ _ _ _ _=>rfl,rfl,fun _ _ _ n=>by cases n<;>rfl,fun _=>rfl⟩) (fun z114_0 z114_1 r h=>H114 z114_0 z114_1 r h) r1 e2) ⟨tv,tv,tv,tv⟩ rfl rfl (fun _=>rfl) (o_ ?_))))))
 obtain rfl:=sj h0
 exact Cn 6

/- loop.example/g00149/impl.VaultOK$1 -/
def c98_r0:=[k_ 3 (.bool false)]
def c98_r1:=[f_ 7 1 0,L_ 8 7 3,m_ 9 0,q_ 10 77 [.t 8,.t 9],m_ 6 10,e_ 11 6 0,e_ 12 6 1,m_ 4 11,m_ 5 12]
def c98_r2:=[m_ 13 5,N_ 14 13,m_ 3 14]
def c98:Cz:=⟨2,15,[.t 3],sr c98_r0 (sr c98_r1 (rr c98_r2))⟩
def K98 (D:Bj):Prop:=∀a0 a1 r,g98 a0 a1=some r→D 98 ⟨[iV a0,.iptr (Au a1)],[]⟩ ⟨.bool r,[],[]⟩
theorem F98 (H77:K77 C):K98 (FO C c98):=by
 intro a0 a1 r h0
 refine f0 (Ba 3 [(0,iV a0),(1,.iptr (Au a1))] [] (Ax 4 (As (bb h0 fun r1 e2 h0=>Jj (H77 a1.Ac a0 r1 e2) (o_ ?_)))))
 obtain rfl:=sj h0
 exact Cn 13

/- loop.example/g00149/impl.VaultOK -/
def c48_r0:=[X_ 1 0,k_ 2 (.bool false)]
def c48_r1:=tk [f_ 5 1 0,L_ 6 5 3] (.alt [] (q_ 7 20 [.t 6]) (tk [N_ 8 7,m_ 9 8,fF 9 10 1 3,lF 9 11 10 1 false,pF 9 12 (.len (.t 11)),pF 9 13 (.bin .gtr (.t 12) (.c (iV 40))),po 14 9 13,m_ 15 14,fF 15 16 1 3,lF 15 17 16 1 false,fF 15 19 1 0,fF 15 20 19 1,lF 15 21 20 1 false,pF 15 22 (.bin .sub (.t 21) (.c (iV 1)))] (.alt [pF 15 22 (.bin .sub (.t 21) (.c (iV 1))),lF 15 21 20 1 false,fF 15 20 19 1,fF 15 19 1 0] ⟨some 18,.call 95 [.t 17],some (15,false)⟩ (.alt [] ⟨some 23,.call 59 [.t 18,.c (iV 1),.t 22],some (15,false)⟩ (tk [pF 15 24 (.un .not (.t 23)),po 25 15 24,m_ 26 25,fF 26 27 1 4,lF 26 28 27 1 false,pF 26 29 (.len (.t 28)),pF 26 30 (.bin .gtr (.t 29) (.c (iV 80))),po 31 26 30,m_ 32 31,fF 32 33 1 4,lF 32 34 33 1 false,fF 32 35 1 0,fF 32 36 35 1,lF 32 37 36 1 false,pF 32 38 (.bin .sub (.t 37) (.c (iV 1)))] (.alt [] ⟨some 39,.call 59 [.t 34,.c (iV 1),.t 38],some (32,false)⟩ (tk [pF 32 40 (.un .not (.t 39)),po 41 32 40] .fin) .stop)) .stop) .stop)) .stop)
def c48_r2:=[k_ 2 (.bool false)]
def c48_r3:=[L_ 43 1 6,q_ 44 96 [.t 43],m_ 42 44,e_ 45 42 0,e_ 46 42 1,m_ 3 45,m_ 4 46]
def c48_r4:List Cd:=[m_ 47 4,N_ 48 47,m_ 49 48,fT 49 50 1 3,lT 49 51 50 1 false,⟨some 52,.call 95 [.t 51],some (49,true)⟩,pT 49 53 (.fn 98 [.t 1]),⟨some 54,.call 97 [.t 52,.t 53],some (49,true)⟩,pa 55 49 54,m_ 2 55]
def c48:Cz:=⟨1,56,[.t 2],sr c48_r0 (.seq (sd c48_r1 (iz 41 (rr c48_r2))) (sr c48_r3 (rr c48_r4)))⟩
def K48 (D:Bj):Prop:=∀a0 r,g48 a0=some r→D 48 ⟨[.agg (Au a0)],[]⟩ ⟨.bool r,[],[]⟩
theorem F48 (H20:K20 C) (H59:K59 C) (H95:K95 C) (H96:K96 C) (H97:K97 C) (H98:K98 C):K48 (FO C c48):=by
 intro a0 r h0
 refine f0 (Ba 4 [(1,.ptr 64 0)] [(64,Au a0)] (Bt (Bt (bb h0 fun r1 e2 h0=>bb h0 fun r3 e4 h0=>bb h0 fun r5 e6 h0=>bb h0 fun r7 e8 h0=>Ax 2 (Bd (Gh (H20 a0.Ac r1 e2) rfl (dw [(1,.ptr 64 0),(7,.bool r1)] [(64,Au a0)] tv (d_ (Ax 2 (Bd (Ak tv (Bv (u:=.ptr 64 3) rfl (fun hg=>(Bl ⟨tv,tv⟩ rfl tv)) (⟨tv,Ak tv (Bv (u:=Bm a0.Ab) rfl (fun hg=>(Bl ⟨(fun _=>hg),tv⟩ rfl (nl rfl))) (⟨tv,Ak tv (Bv (u:=iV (a0.Ab.length:Int)) rfl (fun hg=>(Wf (e:=Bq) (l0:=a0.Ab) rfl rfl (fun _=>hg))) (⟨tv,Ak tv (Bv (u:=.bool (decide ((a0.Ab.length:Int)>40))) rfl (fun hg=>(Bl ⟨(fun _=>hg),tv,tv⟩ rfl tv)) (⟨tv,Ak tv (Dh rfl rfl rfl tv (fun h=>Uw h) rfl (⟨tv,Ak tv (Cj rfl tv (⟨tv,Ak tv (Bv (u:=.ptr 64 3) rfl (fun hg=>(Bl ⟨tv,tv⟩ rfl tv)) (⟨tv,Ak tv (Bv (u:=Bm a0.Ab) rfl (fun hg=>(Bl ⟨(fun _=>hg),tv⟩ rfl (nl rfl))) (⟨tv,Ak tv (Bv (u:=.ptr 64 0) rfl (fun hg=>(Bl ⟨tv,tv⟩ rfl tv)) (⟨tv,Ak tv (Bv (u:=.ptr 64 1) rfl (fun hg=>(Bl ⟨(fun _=>hg),tv⟩ rfl tv)) (⟨tv,?_⟩))⟩))⟩))⟩))⟩))⟩))⟩))⟩))⟩))⟩))))))) Aq))))))
 refine Ak tv (Bv (u:=iV a0.Ac.next) rfl (fun hg=>(Bl ⟨(fun _=>hg),tv⟩ rfl (nl rfl))) (⟨tv,Ak tv (Bv (u:=iV (wi (a0.Ac.next-1))) rfl (fun hg=>(Bl ⟨(fun _=>hg),tv,tv⟩ rfl tv)) (⟨tv,Az (Eh (r:=oI 0 r3) rfl false (fun hg=>H95 a0.Ab r3 (ip hg e4)) ⟨(fun hg=>hg),tv⟩ (fun _=>rfl) (fun _=>rfl) (fun _=>(af rfl)) (fun h=>nomatch h) (dw [(1,.ptr 64 0),(15,.bool (bif (!r1) then true else (decide ((a0.Ab.length:Int)>40)))),(18,.may ((bif (!r1) then true else (decide ((a0.Ab.length:Int)>40)))==false) (lI r3)),(19,.may ((bif (!r1) then true else (decide ((a0.Ab.length:Int)>40)))==false) (.ptr 64 0)),(20,.may ((bif (!r1) then true else (decide ((a0.Ab.length:Int)>40)))==false) (.ptr 64 1)),(21,.may ((bif (!r1) then true else (decide ((a0.Ab.length:Int)>40)))==false) (iV a0.Ac.next)),(22,.may ((bif (!r1) then true else (decide ((a0.Ab.length:Int)>40)))==false) (iV (wi (a0.Ac.next-1))))] [(64,Au a0)] ⟨⟨.inl tv,Bw (v:=iV (wi (a0.Ac.next-1))) rfl (fun hg=>(Bl ⟨(fun _=>hg),tv,tv⟩ rfl tv)) rfl⟩,⟨.inl tv,Bw (v:=iV a0.Ac.next) rfl (fun hg=>(Bl ⟨(fun _=>hg),tv⟩ rfl (nl rfl))) rfl⟩,⟨.inl tv,Bw (v:=.ptr 64 1) rfl (fun hg=>(Bl ⟨(fun _=>hg),tv⟩ rfl tv)) rfl⟩,⟨.inl tv,Bw (v:=.ptr 64 0) rfl (fun hg=>(Bl ⟨tv,tv⟩ rfl tv)) rfl⟩,tv⟩ (Az (Eh (r:=.bool r5) rfl false (fun hg=>H59 r3 1 (wi (a0.Ac.next-1)) r5 (ip hg e6)) ⟨(fun hg=>hg),tv,(fun hg=>hg),tv⟩ (fun _=>rfl) (fun _=>rfl) (fun _=>rfl) (fun h=>nomatch h) (dw [(1,.ptr 64 0),(15,.bool (bif (!r1) then true else (decide ((a0.Ab.length:Int)>40)))),(23,.may ((bif (!r1) then true else (decide ((a0.Ab.length:Int)>40)))==false) (.bool r5))] [(64,Au a0)] tv (Ak tv (Bv (u:=.bool (!r5)) rfl (fun hg=>(Bl ⟨(fun _=>hg),tv⟩ rfl tv)) (⟨tv,Ak tv (Dh rfl rfl rfl tv (fun h=>Uw h) rfl (⟨tv,Ak tv (Cj rfl tv (⟨tv,Ak tv (Bv (u:=.ptr 64 4) rfl (fun hg=>(Bl ⟨tv,tv⟩ rfl tv)) (⟨tv,Ak tv (Bv (u:=lI a0.Ah) rfl (fun hg=>(Bl ⟨(fun _=>hg),tv⟩ rfl (nl rfl))) (⟨tv,Ak tv (Bv (u:=iV (a0.Ah.length:Int)) rfl (fun hg=>(Wf (e:=eI) (l0:=a0.Ah) rfl rfl (fun _=>hg))) (⟨tv,Ak tv (Bv (u:=.bool (decide ((a0.Ah.length:Int)>80))) rfl (fun hg=>(Bl ⟨(fun _=>hg),tv,tv⟩ rfl tv)) (⟨tv,Ak tv (Dh rfl rfl rfl tv (fun h=>Uw h) rfl (⟨tv,Ak tv (Cj rfl tv (⟨tv,Ak tv (Bv (u:=.ptr 64 4) rfl (fun hg=>(Bl ⟨tv,tv⟩ rfl tv)) (⟨tv,Ak tv (Bv (u:=lI a0.Ah) rfl (fun hg=>(Bl ⟨(fun _=>hg),tv⟩ rfl (nl rfl))) (⟨tv,Ak tv (Bv (u:=.ptr 64 0) rfl (fun hg=>(Bl ⟨tv,tv⟩ rfl tv)) ?_)⟩))⟩))⟩))⟩))⟩))⟩))⟩))⟩))⟩))⟩))⟩))))) Aq))) Aq⟩))⟩))
 refine ⟨tv,Ak tv (Bv (u:=.ptr 64 1) rfl (fun hg=>(Bl ⟨(fun _=>hg),tv⟩ rfl tv)) (⟨tv,Ak tv (Bv (u:=iV a0.Ac.next) rfl (fun hg=>(Bl ⟨(fun _=>hg),tv⟩ rfl (nl rfl))) (⟨tv,Ak tv (Bv (u:=iV (wi (a0.Ac.next-1))) rfl (fun hg=>(Bl ⟨(fun _=>hg),tv,tv⟩ rfl tv)) (⟨tv,Az (Eh (r:=.bool r7) rfl false (fun hg=>H59 a0.Ah 1 (wi (a0.Ac.next-1)) r7 (ip hg e8)) ⟨(fun hg=>hg),tv,(fun hg=>hg),tv⟩ (fun _=>rfl) (fun _=>rfl) (fun _=>rfl) (fun h=>nomatch h) (dw [(1,.ptr 64 0),(32,.bool (bif (bif (bif (!r1) then true else (decide ((a0.Ab.length:Int)>40))) then true else (!r5)) then true else (decide ((a0.Ah.length:Int)>80)))),(39,.may ((bif (bif (bif (!r1) then true else (decide ((a0.Ab.length:Int)>40))) then true else (!r5)) then true else (decide ((a0.Ah.length:Int)>80)))==false) (.bool r7))] [(64,Au a0)] tv (Ak tv (Bv (u:=.bool (!r7)) rfl (fun hg=>(Bl ⟨(fun _=>hg),tv⟩ rfl tv)) (⟨tv,Ak tv (Dh rfl rfl rfl tv (fun h=>Uw h) rfl (⟨tv,Hc (bv h0 fun v9 e10 h0=>Dc ⟨[(1,.ptr 64 0),(41,.bool v9)],[(64,Au a0)],[]⟩ (Dw (by subst e10; kernel_rfl)) (Ch h0 (fun c11 h0=>?_) (fun c11 h0=>?_)))⟩))⟩))))) Aq⟩))⟩))⟩))⟩
 ·obtain rfl:=sj h0
  exact Cn 4
 ·refine Ax 4 (As (bb h0 fun r12 e13 h0=>Jj (H96 a0 r12 e13) (o_ (Ba 6 [(1,.ptr 64 0),(4,.bool r12.2)] [(64,Au a0)] (Ax 4 (As (st (Bv (u:=.ptr 64 3) rfl (fun hg=>(Bl ⟨tv,tv⟩ rfl tv)) (st (Bv (u:=Bm a0.Ab) rfl (fun hg=>(Bl ⟨(fun _=>hg),tv⟩ rfl (nl rfl))) (bb h0 fun r14 e15 h0=>st (Eh (r:=oI 0 r14) rfl false (fun hg=>H95 a0.Ab r14 (ip hg e15)) ⟨(fun hg=>hg),tv⟩ (fun _=>rfl) (fun _=>rfl) (fun _=>(af rfl)) (fun h=>nomatch h) (st (Bv (u:=.clo 98 [.ptr 64 0]) rfl (fun hg=>(Bl ⟨tv,tv⟩ rfl rfl)) (bb h0 fun r16 e17 h0=>st (Eh (r:=.bool r16) rfl false (fun hg=>H97 r14 98 [.iptr (Au a0)] (fun z98_0=>g98 z98_0 a0) (⟨fun _ _ _ _ _=>rfl,fun _ _ _ _ _=>rfl,rfl,fun _ _ _ n=>by cases n<;>rfl,fun _=>rfl⟩) (fun z98_0 r h=>H98 z98_0 a0 r h) r16 (ip hg e17)) ⟨(fun hg=>hg),(fun hg=>hg),tv⟩ (fun _=>rfl) (fun _=>rfl) (fun _=>rfl) (fun h=>nomatch h) (st (Dh rfl rfl rfl (fun h=>Ta h) tv rfl (o_ ?_)))))))))))))))))))
  obtain rfl:=sj h0
  exact Cn 3

/- loop.example/g00149/impl.isList[int] -/
def c87_r0:=[k_ 2 (.bool false)]
def c87_r1:=[m_ 3 0,n_ 4 3,B_ .leq 5 4 4096,m_ 2 5]
def c87:Cz:=⟨1,6,[.t 2],sr c87_r0 (rr c87_r1)⟩
def K87 (D:Bj):Prop:=∀a0 r,g87 a0=some r→D 87 ⟨[lI a0],[]⟩ ⟨.bool r,[],[]⟩
theorem F87:K87 (FO C c87):=by
 intro a0 r h0
 refine f0 (Ba 3 [(0,lI a0)] [] (Bt (As (st (Cj rfl tv (Jr rfl (o_ ?_)))))))
 obtain rfl:=sj h0
 exact Cn 4

/- loop.example/g00149/impl.isFate -/
def c88_r0:=[k_ 2 (.bool false)]
def c88_r1:=[m_ 3 0,q_ 4 63 [.t 3,.c (iV 0),.c (iV 2)],m_ 2 4]
def c88:Cz:=⟨1,5,[.t 2],sr c88_r0 (rr c88_r1)⟩
def K88 (D:Bj):Prop:=∀a0 r,g88 a0=some r→D 88 ⟨[iV a0],[]⟩ ⟨.bool r,[],[]⟩
theorem F88 (H63:K63 C):K88 (FO C c88):=by
 intro a0 r h0
 refine f0 (Ba 3 [(0,iV a0)] [] (Bt (As (st (Cj rfl tv (bb h0 fun r1 e2 h0=>Jj (H63 a0 0 2 r1 e2) (o_ ?_)))))))
 obtain rfl:=sj h0
 exact Cn 3

/- loop.example/g00149/impl.isAct -/
def Aal:=[X_ 1 0,k_ 2 (.bool false)]
def Aam:List Cd:=[f_ 3 1 5,l_ 4 3 1,q_ 5 87 [.t 4],m_ 6 5,fT 6 7 1 5,lT 6 8 7 1 false,⟨some 9,.call 97 [.t 8,.c (.clo 88 [])],some (6,true)⟩,pa 10 6 9,m_ 11 10,fT 11 12 1 6,lT 11 13 12 1 false,⟨some 14,.call 63 [.t 13,.c (iV 0),.c (iV 2)],some (11,true)⟩,pa 15 11 14,m_ 2 15]
def c457:Cz:=⟨1,16,[.t 2],sr Aal (rr Aam)⟩
def K457 (D:Bj):Prop:=∀a0 r,Adz a0=some r→D 457 ⟨[.agg (Am a0)],[]⟩ ⟨.bool r,[],[]⟩
theorem F457 (H63:K63 C) (H87:K87 C) (H88:K88 C) (H97:K97 C):K457 (FO C c457):=by
 intro a0 r h0
 refine f0 (Ba 4 [(1,.ptr 64 0)] [(64,Am a0)] (Ax 3 (As (bb h0 fun r1 e2 h0=>Jj (H87 a0.Bu r1 e2) (st (Cj rfl tv (st (Bv (u:=.ptr 64 5) rfl (fun hg=>(Bl ⟨tv,tv⟩ rfl tv)) (st (Bv (u:=lI a0.Bu) rfl (fun hg=>(Bl ⟨(fun _=>hg),tv⟩ rfl (nl rfl))) (bb h0 fun r3 e4 h0=>st (Eh (r:=.bool r3) rfl false (fun hg=>H97 a0.Bu 88 [] (fun z88_0=>g88 z88_0) (⟨fun _ _ _ _ _=>rfl,fun _ _ _ _ _=>rfl,rfl,fun _ _ _ n=>by cases n<;>rfl,fun _=>rfl⟩) (fun z88_0 r h=>H88 z88_0 r h) r3 (ip hg e4)) ⟨(fun hg=>hg),tv,tv⟩ (fun _=>rfl) (fun _=>rfl) (fun _=>rfl) (fun h=>nomatch h) (st (Dh rfl rfl rfl (fun h=>Ta h) tv rfl (st (Cj rfl tv (st (Bv (u:=.ptr 64 6) rfl (fun hg=>(Bl ⟨tv,tv⟩ rfl tv)) (st (Bv (u:=iV a0.stop) rfl (fun hg=>(Bl ⟨(fun _=>hg),tv⟩ rfl (nl rfl))) (bb h0 fun r5 e6 h0=>st (Eh (r:=.bool r5) rfl false (fun hg=>H63 a0.stop 0 2 r5 (ip hg e6)) ⟨(fun hg=>hg),tv,tv,tv⟩ (fun _=>rfl) (fun _=>rfl) (fun _=>rfl) (fun h=>nomatch h) (st (Dh rfl rfl rfl (fun h=>Ta h) tv rfl (o_ ?_)))))))))))))))))))))))))
 obtain rfl:=sj h0
 exact Cn 3

/- slices.Clone[[]loop.example/g00149/impl.Lease,loop.example/g00149/impl.Lease] -/
def c66_r0:List Cd:=[⟨some 2,.nilS 4,none⟩]
def c66_r1:List Cd:=[m_ 3 0,⟨some 4,.isnil (.t 3) false,none⟩]
def c66_r2:List Cd:=[⟨some 2,.nilS 4,none⟩]
def c66_r3:List Cd:=[⟨some 5,.mkS 4 [iV 0,iV 0,iV 0,.bool false] 0 [],none⟩,m_ 6 0,⟨some 7,.app 4 32 (.t 5) (.t 6),none⟩,m_ 2 7]
def c66:Cz:=⟨1,8,[.t 2],sr c66_r0 (.seq (sr c66_r1 (iz 4 (rr c66_r2))) (rr c66_r3))⟩
def K66 (D:Bj):Prop:=∀a0 r,g66 a0=some r→D 66 ⟨[Bp a0],[]⟩ ⟨Ag 0 r,[],[]⟩
theorem F66:K66 (FO C c66):=by
 intro a0 r h0
 refine f0 ?_
 obtain ⟨hc,h0⟩:=grd h0
 obtain rfl:=sj h0
 refine Ba 3 [(0,Bp a0)] [] (Ax 3 (As (st (mL (e:=Ad) (l0:=a0) rfl fun b hb=>(Ha (eF (Vq (cb:=b) rfl (fun h=>?_) (fun h=>?_))))))))
 ·obtain rfl:=hb h
  refine Bt (As (st (dU (Ha (eF ?_)))))
  refine Ka (Dx rfl rfl rfl rfl rfl tv)
 ·refine Lc ?_
  refine Ba 0 [(0,Bp a0)] [] (Ax 3 (As (st (Kk (e:=Ad) (l0:=([]:List Aa)) (l1:=a0) rfl rfl tv rfl (by decide) ?_ ?_))))
  rotate_left
  refine st (Cj rfl tv (Ha (eF ?_)))
  refine Ka (Dx rfl rfl rfl rfl rfl tv)
  have:=Nat.mul_le_mul_right 32 hc
  exact Nat.le_trans this (by decide)

/- (loop.example/g00149/impl.Table).own -/
def JZ:=[X_ 1 0,a_ 2 (zT 131)]
def KA:=[f_ 3 1 2,l_ 4 3 1,q_ 5 66 [.t 4],f_ 6 1 2,s_ 6 5 1]
def KB:=[L_ 7 1 3,s_ 2 7 3]
def iE:Cz:=⟨1,8,[.cell 2 3 true],sr JZ (sr KA (rr KB))⟩
def hP (D:Bj):Prop:=∀a0 r,eY a0=some r→D 112 ⟨[.agg (Bb a0)],[]⟩ ⟨.agg (Cm r (Ai 0)),[],[]⟩
theorem F112 (H66:K66 C):hP (FO C iE):=by
 intro a0 r h0
 refine f0 (Ba 4 [(1,.ptr 64 0),(2,.ptr 128 0)] [(64,Bb a0),(128,Br 0 0 (Ai 131) [])] (Ax 3 (As (bb h0 fun r1 e2 h0=>Qf (H66 a0.Ae r1 e2) (af rfl) (o_ ?_)))))
 obtain rfl:=sj h0
 exact Cn 9

/- (loop.example/g00149/impl.Table).revoke -/
def c75_r0:=[X_ 2 0,a_ 4 (zT 259),i_ 5 0]
def c75_r1:=[L_ 10 2 3,m_ 11 1,q_ 12 77 [.t 10,.t 11],m_ 9 12,e_ 13 9 0,e_ 14 9 1,m_ 6 13,m_ 7 14]
def c75_r2:=[m_ 15 7,N_ 16 15]
def c75_r3:=[iQ 17 (.build (zT 1091) []),s_ 4 17 3,i_ 5 5]
def c75_r4:=[L_ 18 2 3,q_ 19 112 [.t 18],a_ 8 (zT 515),s_ 8 19 3]
def c75_r5:List Cd:=[f_ 20 8 2,l_ 21 20 1,m_ 22 6,x_ 23 21 22 4,f_ 24 23 3,⟨none,.store (.t 24) (.c (.bool true)) 1,none⟩]
def c75_r6:=[L_ 25 8 3,s_ 4 25 3,i_ 5 0]
def c75:Cz:=⟨2,26,[.cell 4 3 true,.t 5],sr c75_r0 (sr c75_r1 (.seq (sr c75_r2 (iz 16 (rr c75_r3))) (sr c75_r4 (sr c75_r5 (rr c75_r6)))))⟩
def K75 (D:Bj):Prop:=∀a0 a1 r,g75 a0 a1=some r→D 75 ⟨[.agg (Bb a0),iV a1],[]⟩ ⟨.tup [.agg (Cm r.1 (Ai 0)),iV r.2],[],[]⟩
theorem F75 (H77:K77 C) (H112:hP C):K75 (FO C c75):=by
 intro a0 a1 r h0
 refine f0 (Ba 5 [(1,iV a1),(2,.ptr 128 0),(4,.ptr 256 0)] [(128,Bb a0),(256,Br 0 0 (Ai 259) [])] (Ax 3 (As (bb h0 fun r1 e2 h0=>Jj (H77 a0 a1 r1 e2) (o_ (Ba 12 [(2,.ptr 128 0),(4,.ptr 256 0),(6,iV r1.1),(16,.bool (!r1.2))] [(128,Bb a0),(256,Br 0 0 (Ai 259) [])] (Ch h0 (fun c3 h0=>?_) (fun c3 h0=>?_))))))))
 ·obtain rfl:=sj h0
  exact Cn 6
 ·refine Ax 4 (As (bb h0 fun r4 e5 h0=>Qf (H112 a0 r4 e5) (ar (At rfl (af rfl))) (o_ (Ba 3 [(4,.ptr 256 0),(6,iV r1.1),(8,.ptr 512 0)] [(256,Br 0 0 (Ai 259) []),(512,Cm r4 (Ai 1216))] (Ax 4 (As (bb h0 fun y6 e7 h0=>Wa rfl rfl e7 (st (c_ (Bl ⟨tv,tv⟩ rfl tv) (bb h0 fun y8 e9 h0=>gQ (Aa.mk y8.id y8.Bg y8.cap true) rfl rfl e9 (o_ ?_)))))))))))
  obtain rfl:=sj h0
  exact Cn 8

/- loop.example/g00149/impl.later -/
def c54_r0:=[i_ 4 0]
def c54_r1:List Cd:=[m_ 5 0,m_ 6 1,⟨some 7,.p (.bin .sub (.c (iV 9223372036854775807)) (.t 6)),none⟩,b_ .gtr 8 5 7]
def c54_r2:=[i_ 4 9223372036854775807]
def c54_r3:=[m_ 9 0,m_ 10 1,b_ .add 11 9 10,m_ 4 11]
def c54:Cz:=⟨2,12,[.t 4],sr c54_r0 (.seq (sr c54_r1 (iz 8 (rr c54_r2))) (rr c54_r3))⟩
def K54 (D:Bj):Prop:=∀a0 a1 r,g54 a0 a1=some r→D 54 ⟨[iV a0,iV a1],[]⟩ ⟨iV r,[],[]⟩
theorem F54:K54 (FO C c54):=by
 intro a0 a1 r h0
 refine f0 (Ba 11 [(0,iV a0),(1,iV a1),(8,.bool (decide (a0>(wi (9223372036854775807-a1)))))] [] (Ch h0 (fun c1 h0=>?_) (fun c1 h0=>?_)))
 ·obtain rfl:=sj h0
  exact Cn 4
 ·obtain rfl:=sj h0
  exact Cn 9

/- (loop.example/g00149/impl.Table).renew -/
def c80_r0:=[X_ 3 0,a_ 6 (zT 387),i_ 7 0]
def c80_r1:=[L_ 12 3 3,m_ 13 1,q_ 14 77 [.t 12,.t 13],m_ 11 14,e_ 15 11 0,e_ 16 11 1,m_ 8 15,m_ 9 16]
def c80_r2:=[m_ 18 2,B_ .lss 19 18 1,m_ 17 19]
def c80_r3:=[iQ 20 (.build (zT 1283) []),s_ 6 20 3,i_ 7 4]
def c80_r4:=[m_ 22 9,N_ 23 22,m_ 21 23]
def c80_r5:=[iQ 24 (.build (zT 1539) []),s_ 6 24 3,i_ 7 5]
def c80_r6:=[f_ 26 3 2,l_ 27 26 1,m_ 28 8,x_ 29 27 28 4,f_ 30 29 3,l_ 31 30 1,m_ 25 31]
def c80_r7:=[iQ 32 (.build (zT 2051) []),s_ 6 32 3,i_ 7 13]
def c80_r8:=[L_ 33 3 3,q_ 34 112 [.t 33],a_ 10 (zT 643),s_ 10 34 3]
def c80_r9:=tk [f_ 35 10 2,l_ 36 35 1,m_ 37 8,f_ 38 3 0,l_ 39 38 1,m_ 40 2,f_ 42 10 2,l_ 43 42 1,m_ 44 8,x_ 45 43 44 4,f_ 46 45 2,l_ 47 46 1] (.alt [l_ 47 46 1,f_ 46 45 2,x_ 45 43 44 4,m_ 44 8,l_ 43 42 1,f_ 42 10 2,m_ 37 8,l_ 36 35 1,f_ 35 10 2] (q_ 41 54 [.t 39,.t 40]) (tk [iQ 48 (.mn (.t 41) (.t 47)),x_ 49 36 37 4,f_ 50 49 1] (.alt [] (s_ 50 48 1) .fin .stop)) .stop)
def Acj:=[L_ 51 10 3,s_ 6 51 3,i_ 7 0]
def c80:Cz:=⟨3,52,[.cell 6 3 true,.t 7],sr c80_r0 (sr c80_r1 (.seq (.block 0 (sr c80_r2 (.ite (.t 17) (rr c80_r3) (sr c80_r4 (.ite (.t 21) (rr c80_r5) (sr c80_r6 (iz 25 (rr c80_r7)))))))) (sr c80_r8 (sd c80_r9 (rr Acj)))))⟩
def K80 (D:Bj):Prop:=∀a0 a1 a2 r,g80 a0 a1 a2=some r→D 80 ⟨[.agg (Bb a0),iV a1,iV a2],[]⟩ ⟨.tup [.agg (Cm r.1 (Ai 0)),iV r.2],[],[]⟩
abbrev jO:=fun x0 (r:List (Nat×List V))=>(192,Bb x0)::(384,Br 0 0 (Ai 387) [])::r
abbrev jP:=fun x0 (r:List (Nat×V))=>(2,iV x0)::(3,.ptr 192 0)::(6,.ptr 384 0)::r
theorem F80 (H54:K54 C) (H77:K77 C) (H112:hP C):K80 (FO C c80):=by
 intro a0 a1 a2 r h0
 refine f0 (Ba 5 (jP a2 [(1,iV a1)]) (jO a0 []) (Ax 3 (As (bb h0 fun r1 e2 h0=>Jj (H77 a0 a1 r1 e2) (o_ (Ba 14 (jP a2 [(8,iV r1.1),(9,.bool r1.2),(17,.bool (decide (a2<1)))]) (jO a0 []) (Ch h0 (fun c3 h0=>?_) (fun c3 h0=>?_))))))))
 ·obtain rfl:=sj h0
  exact Cn 6
 ·refine Ba 5 (jP a2 [(8,iV r1.1),(21,.bool (!r1.2))]) (jO a0 []) (Ch h0 (fun c4 h0=>?_) (fun c4 h0=>?_))
  ·obtain rfl:=sj h0
   exact Cn 6
  ·refine Ax 4 (As (bb h0 fun y5 e6 h0=>Nr rfl rfl e6 (o_ (Ba 4 (jP a2 [(8,iV r1.1),(25,.bool y5.Bz)]) (jO a0 []) (Ch h0 (fun c7 h0=>?_) (fun c7 h0=>?_))))))
   ·obtain rfl:=sj h0
    exact Cn 6
   ·refine Ax 5 (As (bb h0 fun r8 e9 h0=>Qf (H112 a0 r8 e9) (ar (At rfl (af rfl))) (o_ (Ba 3 (jP a2 [(8,iV r1.1),(10,.ptr 640 0)]) (jO a0 [(640,Cm r8 (Ai 2176))]) (Bt (bb h0 fun y10 e11 h0=>bb h0 fun y12 e13 h0=>bb h0 fun r14 e15 h0=>Ax 9 (Bd (d_ (Yq rfl rfl rfl e11 (Bd (Ak tv (c_ (Bl ⟨tv,tv⟩ rfl tv) (⟨tv,Cf (c_ (Ny rfl rfl e13) (⟨⟨Cy rfl rfl e13 rfl,tv⟩,Az (Ci (r:=iV r14) false (H54 a0.clock a2 r14 e15) ⟨tv,tv,tv⟩ rfl rfl (fun _=>rfl) (iP ⟨[(6,.ptr 384 0),(8,iV r1.1),(10,.ptr 640 0),(35,.ptr 640 2),(36,Ag 2176 r8.Ae),(37,iV r1.1),(41,iV r14),(42,.ptr 640 2),(43,Ag 2176 r8.Ae),(44,iV r1.1),(45,.optr 2176 4 (0+r1.1.toNat) 0),(46,.optr 2176 4 (0+r1.1.toNat) 2),(47,iV y12.cap)],[(384,Br 0 0 (Ai 387) []),(640,Cm r8 (Ai 2176))],[]⟩ (Dw (by kernel_rfl)) ⟨[iQ 47 (.load (.t 46) 1 false)],⟨⟨.inr (.head _),Cy rfl rfl e13 rfl⟩,⟨.inl tv,Bs (Bl ⟨tv,tv⟩ rfl tv) rfl⟩,⟨.inl tv,Bs (Kc rfl rfl e11) rfl⟩,⟨.inl tv,Bs (Dm (v:=iV r1.1) rfl tv) rfl⟩,⟨.inl tv,Bs (Bl ⟨tv,tv⟩ rfl (nl rfl)) rfl⟩,⟨.inl tv,Bs (Bl ⟨tv,tv⟩ rfl tv) rfl⟩,⟨.inl tv,Bs (Dm (v:=iV r1.1) rfl tv) rfl⟩,⟨.inl tv,Bs (Bl ⟨tv,tv⟩ rfl (nl rfl)) rfl⟩,⟨.inl tv,Bs (Bl ⟨tv,tv⟩ rfl tv) rfl⟩,tv⟩,⟨Cy rfl rfl e13 rfl,tv⟩,Ak tv (c_ (Bl ⟨tv,tv,tv⟩ rfl rfl) (⟨⟨Cy rfl rfl e13 rfl,tv⟩,Ak tv (c_ (Kc rfl rfl e11) (⟨⟨Cy rfl rfl e13 rfl,tv⟩,?_⟩))⟩))⟩)) Aq⟩))⟩)))))))))))))
    refine Ak tv (c_ (Bl ⟨tv,tv⟩ rfl tv) (⟨⟨Cy rfl rfl e13 rfl,tv⟩,Az (He (y':=(Aa.mk y12.id (if y12.cap<r14 then y12.cap else r14) y12.cap y12.Bz)) rfl rfl tv rfl rfl rfl rfl e13 (nl rfl) rfl rfl rfl rfl (d0 tv (Hc (Dc ⟨[(6,.ptr 384 0),(10,.ptr 640 0)],[(384,Br 0 0 (Ai 387) []),(640,Br r8.clock r8.next (Ai 2176) (r8.Ae.set r1.1.toNat (Aa.mk y12.id (if y12.cap<r14 then y12.cap else r14) y12.cap y12.Bz)))],[]⟩ (fg ⟨rfl,rfl,tv⟩ ⟨rfl,congrArg (fun z=>some (([iV r8.clock,iV r8.next,.own 2176 0 4 z]:List V))) Bf,tv⟩) (Ax 5 (bv h0 fun v16 e17 h0=>Dc ⟨[(6,.ptr 384 0),(7,iV 0)],[(384,Br r8.clock r8.next (Ai 2176) v16)],[]⟩ (Dw (by subst e17; kernel_rfl)) ?_)))))) Aq⟩))
    obtain rfl:=sj h0
    exact Ka (Dx rfl rfl rfl rfl rfl tv)

/- slices.Clone[[]int,int] -/
def KZ:List Cd:=[⟨some 2,.nilS 1,none⟩]
def LA:List Cd:=[m_ 3 0,⟨some 4,.isnil (.t 3) false,none⟩]
def LC:List Cd:=[⟨some 2,.nilS 1,none⟩]
def LD:List Cd:=[⟨some 5,.mkS 1 [iV 0] 0 [],none⟩,m_ 6 0,⟨some 7,.app 1 8 (.t 5) (.t 6),none⟩,m_ 2 7]
def KY:Cz:=⟨1,8,[.t 2],sr KZ (.seq (sr LA (iz 4 (rr LC))) (rr LD))⟩
def GK (D:Bj):Prop:=∀a0 r,lK a0=some r→D 120 ⟨[lI a0],[]⟩ ⟨oI 0 r,[],[]⟩
theorem F120:GK (FO C KY):=by
 intro a0 r h0
 refine f0 ?_
 obtain ⟨hc,h0⟩:=grd h0
 obtain rfl:=sj h0
 refine Ba 3 [(0,lI a0)] [] (Ax 3 (As (st (mL (e:=eI) (l0:=a0) rfl fun b hb=>(Ha (eF (Vq (cb:=b) rfl (fun h=>?_) (fun h=>?_))))))))
 ·obtain rfl:=hb h
  refine Bt (As (st (dU (Ha (eF ?_)))))
  refine Ka (Dx rfl rfl rfl rfl rfl tv)
 ·refine Lc ?_
  refine Ba 0 [(0,lI a0)] [] (Ax 3 (As (st (Kk (e:=eI) (l0:=([]:List Int)) (l1:=a0) rfl rfl tv rfl (by decide) ?_ ?_))))
  rotate_left
  refine st (Cj rfl tv (Ha (eF ?_)))
  refine Ka (Dx rfl rfl rfl rfl rfl tv)
  have:=Nat.mul_le_mul_right 8 hc
  exact Nat.le_trans this (by decide)

/- slices.Clone[[]loop.example/g00149/impl.Intent,loop.example/g00149/impl.Intent] -/
def Abd:List Cd:=[⟨some 2,.nilS 2,none⟩]
def Abe:List Cd:=[m_ 3 0,⟨some 4,.isnil (.t 3) false,none⟩]
def Abf:List Cd:=[⟨some 2,.nilS 2,none⟩]
def Abg:List Cd:=[⟨some 5,.mkS 2 [iV 0,.bool false] 0 [],none⟩,m_ 6 0,⟨some 7,.app 2 16 (.t 5) (.t 6),none⟩,m_ 2 7]
def c469:Cz:=⟨1,8,[.t 2],sr Abd (.seq (sr Abe (iz 4 (rr Abf))) (rr Abg))⟩
def GQ (D:Bj):Prop:=∀a0 r,mC a0=some r→D 469 ⟨[Bm a0],[]⟩ ⟨Bo 0 r,[],[]⟩
theorem F469:GQ (FO C c469):=by
 intro a0 r h0
 refine f0 ?_
 obtain ⟨hc,h0⟩:=grd h0
 obtain rfl:=sj h0
 refine Ba 3 [(0,Bm a0)] [] (Ax 3 (As (st (mL (e:=Bq) (l0:=a0) rfl fun b hb=>(Ha (eF (Vq (cb:=b) rfl (fun h=>?_) (fun h=>?_))))))))
 ·obtain rfl:=hb h
  refine Bt (As (st (dU (Ha (eF ?_)))))
  refine Ka (Dx rfl rfl rfl rfl rfl tv)
 ·refine Lc ?_
  refine Ba 0 [(0,Bm a0)] [] (Ax 3 (As (st (Kk (e:=Bq) (l0:=([]:List Aj)) (l1:=a0) rfl rfl tv rfl (by decide) ?_ ?_))))
  rotate_left
  refine st (Cj rfl tv (Ha (eF ?_)))
  refine Ka (Dx rfl rfl rfl rfl rfl tv)
  have:=Nat.mul_le_mul_right 16 hc
  exact Nat.le_trans this (by decide)

/- (loop.example/g00149/impl.Vault).own -/
def Aay:=[X_ 1 0,a_ 2 (zV 131 132 133)]
def Aaz:=tk [f_ 3 1 0,L_ 4 3 3,f_ 6 1 3,l_ 7 6 1,f_ 9 1 4,l_ 10 9 1,f_ 12 1 5,l_ 13 12 1] (.alt [l_ 13 12 1,f_ 12 1 5,l_ 10 9 1,f_ 9 1 4,l_ 7 6 1,f_ 6 1 3] (q_ 5 112 [.t 4]) (.alt [l_ 13 12 1,f_ 12 1 5,l_ 10 9 1,f_ 9 1 4] (q_ 8 469 [.t 7]) (.alt [l_ 13 12 1,f_ 12 1 5] (q_ 11 120 [.t 10]) (tk [⟨some 14,.p (.build (zV 899 900 901) [(0,3,.t 5),(3,1,.t 8),(4,1,.t 11),(5,1,.t 13)]),none⟩] (.alt [] (s_ 2 14 6) .fin .stop)) .stop) .stop) .stop)
def c463:Cz:=⟨1,15,[.cell 2 6 true],sr Aay (sd Aaz .ret)⟩
def K463 (D:Bj):Prop:=∀a0 r,AdA a0=some r→D 463 ⟨[.agg (Au a0)],[]⟩ ⟨.agg (Al r (Ai 0) (Ai 1) (Ai 2)),[],[]⟩
theorem F463 (H112:hP C) (H120:GK C) (H469:GQ C):K463 (FO C c463):=by
 intro a0 r h0
 refine f0 (Ba 4 [(1,.ptr 64 0),(2,.ptr 128 0)] [(64,Au a0),(128,Ao 0 0 (Ai 131) [] (Ai 132) [] (Ai 133) [] false)] (Bt (bb h0 fun r1 e2 h0=>bb h0 fun r3 e4 h0=>bb h0 fun r5 e6 h0=>Ax 8 (Bd (Gh (H112 a0.Ac r1 e2) (ar (At rfl (af rfl))) (dw [(1,.ptr 64 0),(2,.ptr 128 0),(5,.agg (Cm r1 (Ai 320))),(6,.ptr 64 3),(7,Bm a0.Ab),(9,.ptr 64 4),(10,lI a0.Ah),(12,.ptr 64 5),(13,.bool a0.An)] [(64,Au a0),(128,Ao 0 0 (Ai 131) [] (Ai 132) [] (Ai 133) [] false)] hB (Gh (H469 a0.Ab r3 e4) (af rfl) (dw [(1,.ptr 64 0),(2,.ptr 128 0),(5,.agg (Cm r1 (Ai 320))),(8,Bo 512 r3),(9,.ptr 64 4),(10,lI a0.Ah),(12,.ptr 64 5),(13,.bool a0.An)] [(64,Au a0),(128,Ao 0 0 (Ai 131) [] (Ai 132) [] (Ai 133) [] false)] hB (Gh (H120 a0.Ah r5 e6) (af rfl) (dw [(1,.ptr 64 0),(2,.ptr 128 0),(5,.agg (Cm r1 (Ai 320))),(8,Bo 512 r3),(11,oI 704 r5),(12,.ptr 64 5),(13,.bool a0.An)] [(64,Au a0),(128,Ao 0 0 (Ai 131) [] (Ai 132) [] (Ai 133) [] false)] hB (Ak tv (c_ (v:=.agg (Ao r1.clock r1.next (Ai 320) r1.Ae (Ai 512) r3 (Ai 704) r5 a0.An)) (Bl ⟨tv,tv,tv,tv,tv⟩ rfl ⟨⟨rfl,rfl,nl rfl⟩,⟨rfl,rfl,nl rfl⟩,⟨rfl,rfl,nl rfl⟩,⟨rfl,rfl,nl rfl⟩,tv⟩) (⟨tv,Az (Cl rfl rfl tv rfl rfl rfl (nl rfl) (d0 tv (d_ (Ba 1 [(2,.ptr 128 0)] [(128,Ao r1.clock r1.next (Ai 320) r1.Ae (Ai 512) r3 (Ai 704) r5 a0.An)] ?_)))) Aq⟩)))) Aq)) Aq)) Aq)))))
 obtain rfl:=sj h0
 exact Ka (Dx rfl rfl rfl rfl rfl tv)

/- (loop.example/g00149/impl.Vault).refused -/
def AaA:=[X_ 2 0,a_ 4 (zV 259 260 261),a_ 5 [iV 0,iV 0]]
def AaB:List Cd:=[L_ 6 2 6,m_ 7 1,⟨some 8,.p (.build [iV 0,iV 0] [(0,1,.t 7)]),none⟩,s_ 4 6 6,s_ 5 8 2]
def c464:Cz:=⟨2,9,[.cell 4 6 true,.cell 5 2 true],sr AaA (rr AaB)⟩
def sU (D:Bj):Prop:=∀a0 a1 r,bX a0 a1=some r→D 464 ⟨[.agg (Al a0 (Ai 1024000) (Ai 1024001) (Ai 1024002)),iV a1],[]⟩ ⟨.tup [.agg (Al r.1 (Ai 0) (Ai 1) (Ai 2)),.agg (Af r.2)],[],[]⟩
theorem F464:sU (FO C c464):=by
 intro a0 a1 r h0
 refine f0 (Ba 5 [(1,iV a1),(2,.ptr 128 0),(4,.ptr 256 0),(5,.ptr 320 0)] [(128,Al a0 (Ai 1024000) (Ai 1024001) (Ai 1024002)),(256,Ao 0 0 (Ai 259) [] (Ai 260) [] (Ai 261) [] false),(320,[iV 0,iV 0])] (Ax 3 (As (st (c_ (v:=.agg [iV a1,iV 0]) (Bl ⟨tv,tv⟩ rfl ⟨⟨rfl,rfl,nl rfl⟩,tv⟩) (o_ ?_))))))
 obtain rfl:=sj h0
 exact Cn 4

/- (loop.example/g00149/impl.Table).grant -/
def c71_r0:=[X_ 3 0,a_ 6 (zT 387),i_ 7 0,i_ 8 0]
def c71_r1:=[m_ 11 1,B_ .lss 12 11 1,m_ 13 12,mF 13 14 2,mF 13 15 1,pF 13 16 (.bin .lss (.t 14) (.t 15)),po 17 13 16,m_ 10 17]
def c71_r2:=[iQ 18 (.build (zT 1155) []),s_ 6 18 3,i_ 7 0,i_ 8 4]
def c71_r3:=[f_ 20 3 0,l_ 21 20 1,B_ .eql 22 21 9223372036854775807,m_ 19 22]
def c71_r4:=[iQ 23 (.build (zT 1475) []),s_ 6 23 3,i_ 7 0,i_ 8 11]
def c71_r5:=[f_ 25 3 2,l_ 26 25 1,n_ 27 26,B_ .eql 28 27 40,m_ 29 28,fF 29 30 3 1,lF 29 31 30 1 false,pF 29 32 (.bin .eql (.t 31) (.c (iV 1000000))),po 33 29 32,m_ 24 33]
def c71_r6:=[iQ 34 (.build (zT 2179) []),s_ 6 34 3,i_ 7 0,i_ 8 9]
def c71_r7:=[L_ 35 3 3,q_ 36 112 [.t 35],a_ 9 (zT 579),s_ 9 36 3]
def c71_r8:=tk [f_ 37 9 2,l_ 38 37 1,f_ 39 3 1,l_ 40 39 1,f_ 41 3 0,l_ 42 41 1,m_ 43 1,f_ 45 3 0,l_ 46 45 1,m_ 47 2] (.alt [m_ 47 2,l_ 46 45 1,f_ 45 3 0,l_ 40 39 1,f_ 39 3 1,l_ 38 37 1,f_ 37 9 2] (q_ 44 54 [.t 42,.t 43]) (.alt [l_ 40 39 1,f_ 39 3 1,l_ 38 37 1,f_ 37 9 2] (q_ 48 54 [.t 46,.t 47]) (tk [⟨some 49,.p (.build [iV 0,iV 0,iV 0,.bool false] [(0,1,.t 40),(1,1,.t 44),(2,1,.t 48)]),none⟩] (.alt [l_ 38 37 1,f_ 37 9 2] ⟨some 50,.mkS 4 [iV 0,iV 0,iV 0,.bool false] 1 [(0,.t 49)],none⟩ (.alt [] ⟨some 51,.app 4 32 (.t 38) (.t 50),none⟩ (tk [f_ 52 9 2] (.alt [] (s_ 52 51 1) .fin .stop)) .stop) .stop)) .stop) .stop)
def c71_r9:=[f_ 53 9 1,l_ 54 53 1,B_ .add 55 54 1,f_ 56 9 1,s_ 56 55 1]
def AbX:=tk [L_ 57 9 3,f_ 58 3 1,l_ 59 58 1] (.alt [l_ 59 58 1,f_ 58 3 1] (s_ 6 57 3) (tk [m_ 7 59,i_ 8 0] .fin) .stop)
def c71:Cz:=⟨3,60,[.cell 6 3 true,.t 7,.t 8],sr c71_r0 (.seq (.block 0 (sr c71_r1 (.ite (.t 10) (rr c71_r2) (sr c71_r3 (.ite (.t 19) (rr c71_r4) (sr c71_r5 (iz 24 (rr c71_r6)))))))) (sr c71_r7 (sd c71_r8 (sr c71_r9 (sd AbX .ret)))))⟩
def K71 (D:Bj):Prop:=∀a0 a1 a2 r,g71 a0 a1 a2=some r→D 71 ⟨[.agg (Bb a0),iV a1,iV a2],[]⟩ ⟨.tup [.agg (Cm r.1 (Ai 0)),iV r.2.1,iV r.2.2],[],[]⟩
abbrev jL:=fun x0 (r:List (Nat×List V))=>(192,Bb x0)::(384,Br 0 0 (Ai 387) [])::r
abbrev pD:=fun x0 x1 (r:List (Nat×V))=>(1,iV x0)::(2,iV x1)::(3,.ptr 192 0)::(6,.ptr 384 0)::r
theorem F71 (H54:K54 C) (H112:hP C):K71 (FO C c71):=by
 intro a0 a1 a2 r h0
 refine f0 (sR 19 (pD a1 a2 [(10,.bool (bif (decide (a1<1)) then true else (decide (a2<a1))))]) (jL a0 []) (Ch h0 (fun c1 h0=>?_) (fun c1 h0=>?_)))
 ·obtain rfl:=sj h0
  exact Cn 7
 ·refine Ba 6 (pD a1 a2 [(19,.bool (a0.clock==9223372036854775807))]) (jL a0 []) (Ch h0 (fun c2 h0=>?_) (fun c2 h0=>?_))
  ·obtain rfl:=sj h0
   exact Cn 7
  ·refine Ax 3 (As (Jr rfl (o_ (bS 8 (bv h0 fun v3 e4 h0=>Dc ⟨pD a1 a2 [(24,.bool v3)],jL a0 [],[]⟩ (Dw (by subst e4; kernel_rfl)) (Ch h0 (fun c5 h0=>?_) (fun c5 h0=>?_)))))))
   ·obtain rfl:=sj h0
    exact Cn 7
   ·refine Ax 5 (As (bb h0 fun r6 e7 h0=>Qf (H112 a0 r6 e7) (ar (At rfl (af rfl))) (o_ (Ba 3 (pD a1 a2 [(9,.ptr 576 0)]) (jL a0 [(576,Cm r6 (Ai 2304))]) (Bt (bb h0 fun r8 e9 h0=>bb h0 fun r10 e11 h0=>gg h0 fun c12 h0=>Ax 10 (Bd (Gh (H54 a0.clock a1 r8 e9) rfl (dw [(2,iV a2),(3,.ptr 192 0),(6,.ptr 384 0),(9,.ptr 576 0),(37,.ptr 576 2),(38,Ag 2304 r6.Ae),(39,.ptr 192 1),(40,iV a0.next),(44,iV r8),(45,.ptr 192 0),(46,iV a0.clock),(47,iV a2)] [(192,Bb a0),(384,Br 0 0 (Ai 387) []),(576,Cm r6 (Ai 2304))] hB (Gh (H54 a0.clock a2 r10 e11) rfl (dw [(3,.ptr 192 0),(6,.ptr 384 0),(9,.ptr 576 0),(37,.ptr 576 2),(38,Ag 2304 r6.Ae),(39,.ptr 192 1),(40,iV a0.next),(44,iV r8),(48,iV r10)] [(192,Bb a0),(384,Br 0 0 (Ai 387) []),(576,Cm r6 (Ai 2304))] hB (Ak tv (c_ (v:=.agg (Xm a0.next r8 r10 false)) (Bl ⟨tv,tv,tv,tv⟩ rfl ⟨⟨rfl,rfl,nl rfl⟩,⟨rfl,rfl,nl rfl⟩,⟨rfl,rfl,nl rfl⟩,tv⟩) (⟨tv,Az (gB ⟨tv,tv⟩ ⟨⟨nl rfl,rfl,rfl⟩,tv⟩ (d0 hB (Az (Kk (e:=Ad) (l0:=r6.Ae) (l1:=([Aa.mk a0.next r8 r10 false]:List Aa)) rfl rfl tv rfl (by decide) c12 (d0 tv ?_)) Aq))) Aq⟩)))) Aq)) Aq))))))))
    refine Ak tv (c_ (Bl ⟨tv,tv⟩ rfl tv) (⟨tv,Az (Cl rfl rfl tv rfl rfl rfl (nl rfl) (d0 tv (d_ (Ba 9 [(3,.ptr 192 0),(6,.ptr 384 0),(9,.ptr 576 0)] (jL a0 [(576,[iV r6.clock,iV (wi (r6.next+1)),Ag 2304 (r6.Ae++([Aa.mk a0.next r8 r10 false]:List Aa))])]) (Ax 4 (Bd (Az (Cl rfl rfl tv rfl rfl rfl (nl rfl) (d0 hB (d_ (Ba 3 [(6,.ptr 384 0),(7,iV a0.next),(8,iV 0)] [(384,[iV r6.clock,iV (wi (r6.next+1)),Ag 2304 (r6.Ae++([Aa.mk a0.next r8 r10 false]:List Aa))])] ?_)))) Aq))))))) Aq⟩))
    obtain rfl:=sj h0
    exact Ka (Dx rfl rfl rfl rfl rfl tv)

/- (loop.example/g00149/impl.Vault).crashed -/
def Abi:=[X_ 1 0,a_ 2 (zV 131 132 133),a_ 3 [iV 0,iV 0]]
def Abj:=[f_ 5 1 3,l_ 6 5 1,n_ 7 6,i_ 8 0]
def Abk:=[b_ .lss 9 8 7]
def Abl:=[m_ 10 8,m_ 4 10]
def Abm:List Cd:=[f_ 11 1 3,l_ 12 11 1,m_ 13 4,x_ 14 12 13 2,f_ 15 14 1,⟨none,.store (.t 15) (.c (.bool true)) 1,none⟩]
def Abn:=[B_ .add 16 8 1,m_ 8 16]
def Abh:IR:=(sr Abk (.seq (.ite (.t 9) .skip (.exit 0)) (.seq (.block 1 (sr Abl (.reg Abm))) (.reg Abn))))
def Abo:List Cd:=[f_ 17 1 5,⟨none,.store (.t 17) (.c (.bool true)) 1,none⟩]
def Abp:List Cd:=[L_ 18 1 6,⟨some 19,.p (.build [iV 0,iV 0] [(0,1,.c (iV 15))]),none⟩,s_ 2 18 6,s_ 3 19 2]
def c470:Cz:=⟨1,20,[.cell 2 6 true,.cell 3 2 true],sr Abi (.seq (sr Abj (Ho 0 Abh)) (sr Abo (rr Abp)))⟩
def GR (D:Bj):Prop:=∀a0 r,fJ a0=some r→D 470 ⟨[.agg (Al a0 (Ai 1024000) (Ai 1024001) (Ai 1024002))],[]⟩ ⟨.tup [.agg (Al r.1 (Ai 0) (Ai 1) (Ai 2)),.agg (Af r.2)],[],[]⟩
abbrev Pr:=fun (r:List (Nat×List V))=>(128,Ao 0 0 (Ai 131) [] (Ai 132) [] (Ai 133) [] false)::(192,[iV 0,iV 0])::r
abbrev Ps:=fun (r:List (Nat×V))=>(1,.ptr 64 0)::(2,.ptr 128 0)::(3,.ptr 192 0)::r
theorem F470:GR (FO C c470):=by
 intro a0 r h0
 refine f0 (Ba 5 (Ps []) (Pr [(64,Al a0 (Ai 1024000) (Ai 1024001) (Ai 1024002))]) (Ax 4 (As (Xf rfl (o_ (Ba 2 (Ps [(7,iV (a0.Ab.length:Int)),(8,iV 0)]) (Pr [(64,Al a0 (Ai 1024000) (Ai 1024001) (Ai 1024002))]) (Cc (bb h0 fun r21 e22 h0=>Cr (R:=(fun S=>∃p15:List Aj,p15=r21∧S=⟨Ps [],Pr [(64,Ao a0.Ac.clock a0.Ac.next (Ai 1024000) a0.Ac.Ae (Ai 1024001) p15 (Ai 1024002) a0.Ah a0.An)],[]⟩)) (Qw a0) (fun s S=>match s with | (p6,p7)=>S=⟨Ps [(7,iV (a0.Ab.length:Int)),(8,iV p6)],Pr [(64,Ao a0.Ac.clock a0.Ac.next (Ai 1024000) a0.Ac.Ae (Ai 1024001) p7 (Ai 1024002) a0.Ah a0.An)],[]⟩) e22 _ (Dw (by kernel_rfl)) rfl 0 (fun _=>rfl) ?_ ?_))))))))
 ·rintro S _ hfg ⟨p15,rfl,rfl⟩
  refine Dc _ hfg (Ba 4 (Ps []) (Pr [(64,Ao a0.Ac.clock a0.Ac.next (Ai 1024000) a0.Ac.Ae (Ai 1024001) p15 (Ai 1024002) a0.Ah true)]) (Ax 2 (As (st (c_ (v:=.agg [iV 15,iV 0]) (Bl ⟨tv,tv⟩ rfl ⟨⟨rfl,rfl,nl rfl⟩,tv⟩) (o_ ?_))))))
  obtain rfl:=sj h0
  exact Cn 4
 ·rintro ⟨p6,p7⟩ o1 _ K1 rfl h1 hx1 hK1 hE1 hR1
  refine Ba 3 (Ps [(7,iV (a0.Ab.length:Int)),(8,iV p6),(9,.bool (decide (p6<(a0.Ab.length:Int))))]) (Pr [(64,Ao a0.Ac.clock a0.Ac.next (Ai 1024000) a0.Ac.Ae (Ai 1024001) p7 (Ai 1024002) a0.Ah a0.An)]) (Bt (Ch h1 (fun c16 h1=>?_) (fun c16 h1=>?_)))
  ·refine Ba 8 (Ps [(4,iV p6),(7,iV (a0.Ab.length:Int)),(8,iV p6)]) (Pr [(64,Ao a0.Ac.clock a0.Ac.next (Ai 1024000) a0.Ac.Ae (Ai 1024001) p7 (Ai 1024002) a0.Ah a0.An)]) (Ax 3 (As (bb h1 fun y17 e18 h1=>Wa rfl rfl e18 (st (c_ (Bl ⟨tv,tv⟩ rfl tv) (bb h1 fun y19 e20 h1=>gQ (Aj.mk y19.Ay true) rfl rfl e20 (o_ (Ba 2 (Ps [(7,iV (a0.Ab.length:Int)),(8,iV p6)]) (Pr [(64,Ao a0.Ac.clock a0.Ac.next (Ai 1024000) a0.Ac.Ae (Ai 1024001) (p7.set p6.toNat (Aj.mk y19.Ay true)) (Ai 1024002) a0.Ah a0.An)]) (Ax 3 ?_)))))))))
   obtain rfl:=sj h1
   exact kn hK1 rfl rfl
  ·obtain rfl:=sj h1
   obtain rfl:=hx1 _ rfl
   refine Hq rfl ?_
   exact jn hE1 ⟨_,rfl,rfl⟩
end Go.Ev
