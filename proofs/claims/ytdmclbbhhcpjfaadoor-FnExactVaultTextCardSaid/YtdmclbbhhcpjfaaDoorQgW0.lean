/- The walks of functions: the code comes to the answers that QgD tells. Written by a program of ours. -/
import Derived.Test.YtdmclbbhhcpjfaaDoorQgD
set_option linter.all false
set_option maxHeartbeats 4000000
set_option linter.unusedVariables false
set_option maxRecDepth 100000
namespace Go.Ev
variable {C:At}
theorem sj {α:Type} {a b:α} (h:some a=some b):a=b:=Option.some.inj h
abbrev wi:Int→Int:=IntKind.i64.wrap
theorem tv:True:=True.intro
abbrev iQ (n:Nat) (o:PU):Bg:=⟨some n,.p o,none⟩
abbrev iV (n:Int):V:=.int .i64 n
theorem nl {a b:Nat} (h:Nat.ble a b=true):a≤b:=Nat.le_of_ble_eq_true h
theorem t3:True∧True∧True:=⟨trivial,trivial,trivial⟩
abbrev m_ (d s:Nat):Bg:=⟨some d,.p (.mv (.t s)),none⟩
abbrev k_ (d:Nat) (v:V):Bg:=⟨some d,.p (.mv (.c v)),none⟩
abbrev i_ (d:Nat) (n:Int):Bg:=⟨some d,.p (.mv (.c (.int .i64 n))),none⟩
abbrev f_ (d x o:Nat):Bg:=⟨some d,.p (.fieldA (.t x) o),none⟩
abbrev l_ (d x n:Nat):Bg:=⟨some d,.p (.load (.t x) n false),none⟩
abbrev L_ (d x n:Nat):Bg:=⟨some d,.p (.load (.t x) n true),none⟩
abbrev x_ (d x y n:Nat):Bg:=⟨some d,.p (.idxA (.t x) (.t y) n),none⟩
abbrev e_ (d x n:Nat):Bg:=⟨some d,.p (.ext (.t x) n),none⟩
abbrev b_ (o:BinOp) (d x y:Nat):Bg:=⟨some d,.p (.bin o (.t x) (.t y)),none⟩
abbrev B_ (o:BinOp) (d x:Nat) (n:Int):Bg:=⟨some d,.p (.bin o (.t x) (.c (.int .i64 n))),none⟩
abbrev n_ (d x:Nat):Bg:=⟨some d,.p (.len (.t x)),none⟩
abbrev N_ (d x:Nat):Bg:=⟨some d,.p (.un .not (.t x)),none⟩
abbrev s_ (x y n:Nat):Bg:=⟨none,.store (.t x) (.t y) n,none⟩
abbrev a_ (d:Nat) (z:List V):Bg:=⟨some d,.alloc z,none⟩
abbrev X_ (d x:Nat):Bg:=⟨some d,.box (.t x),none⟩
abbrev q_ (d f:Nat) (l:List Av):Bg:=⟨some d,.call f l,none⟩
abbrev pk (d:Nat) (a b c:Av):Bg:=⟨some d,.pick a b c,none⟩
abbrev pT (g d:Nat) (o:PU):Bg:=⟨some d,.p o,some (g,true)⟩
abbrev pF (g d:Nat) (o:PU):Bg:=⟨some d,.p o,some (g,false)⟩
abbrev zV (a b c:Nat):List V:=[.int .i64 0,.int .i64 0,.own a 0 4 [],.own b 0 2 [],.own c 0 1 [],.bool false]
abbrev zT (a:Nat):List V:=[.int .i64 0,.int .i64 0,.own a 0 4 []]
abbrev mT (g d s:Nat):Bg:=⟨some d,.p (.mv (.t s)),some (g,true)⟩
abbrev mF (g d s:Nat):Bg:=⟨some d,.p (.mv (.t s)),some (g,false)⟩
abbrev lT (g d x n:Nat) (a:Bool):Bg:=⟨some d,.p (.load (.t x) n a),some (g,true)⟩
abbrev lF (g d x n:Nat) (a:Bool):Bg:=⟨some d,.p (.load (.t x) n a),some (g,false)⟩
abbrev fT (g d x n:Nat):Bg:=⟨some d,.p (.fieldA (.t x) n),some (g,true)⟩
abbrev fF (g d x n:Nat):Bg:=⟨some d,.p (.fieldA (.t x) n),some (g,false)⟩
abbrev xT (g d x y n:Nat):Bg:=⟨some d,.p (.idxA (.t x) (.t y) n),some (g,true)⟩
abbrev xF (g d x y n:Nat):Bg:=⟨some d,.p (.idxA (.t x) (.t y) n),some (g,false)⟩
abbrev pa (d a b:Nat):Bg:=⟨some d,.pick (.t a) (.t b) (.c (.bool false)),none⟩
abbrev po (d a b:Nat):Bg:=⟨some d,.pick (.t a) (.c (.bool true)) (.t b),none⟩
abbrev sr (l:List Bg) (b:IR):IR:=.seq (.reg l) b
abbrev sd (p:DP) (b:IR):IR:=.seq (.draw p) b
abbrev rr (l:List Bg):IR:=.seq (.reg l) .ret
abbrev iz (n:Nat) (a:IR):IR:=.ite (.t n) a .skip
abbrev Om (n:Nat) (a:IR):IR:=.block n (.loop a)
def tk:List Bg→DP→DP
  | [],p=>p
  | i::l,p=>.take i (tk l p)
abbrev FO (C:At) (c:Dn):At:=fun _=>Xc C c
theorem f0 {C:At} {fn:Dn} {args:List V} {bx:List (List V)} {t:Dj} (h:WL C [.c fn.body] (FQ fn.res bx.length t) .normal ⟨Kn args 0,Ko bx As,[]⟩) (h0:Nat.ble args.length fn.nt=true:=by kernel_rfl):Xc C fn ⟨args,bx⟩ t:=PY (Nat.le_of_ble_eq_true h0) h
abbrev Ge (t k:Nat) (l:List (List V)):V:=.own t 0 k l
abbrev u_ (k:Nat) (l:List (List V)):V:=.lst k l
abbrev Am (l:List An):V:=.lst 2 (l.map Az)
abbrev Al (l:List Ah):V:=.lst 4 (l.map Aj)
abbrev lI (l:List Int):V:=.lst 1 (l.map eI)
abbrev Ip (t:Nat) (l:List An):V:=.own t 0 2 (l.map Az)
abbrev Ly (t:Nat) (l:List Ah):V:=.own t 0 4 (l.map Aj)
abbrev oI (t:Nat) (l:List Int):V:=.own t 0 1 (l.map eI)
abbrev aT (x0:Int) (x1:Int) (x2:Int) (x3:Bool):List V:=[iV x0,iV x1,iV x2,.bool x3]
abbrev aU (x0:Int) (x1:Int) (w2:Nat→List (List V)→V) (x2:List Ah):List V:=[iV x0,iV x1,w2 4 (x2.map Aj)]
abbrev sY (x:Bn) (w2:Nat→List (List V)→V):List V:=[iV x.clock,iV x.next,w2 4 (x.Ae.map Aj)]
abbrev Qj (x0:Int) (x1:Int) (w2:Nat→List (List V)→V) (x2:List Ah) (w3:Nat→List (List V)→V) (x3:List An) (w4:Nat→List (List V)→V) (x4:List Int) (x5:Bool):List V:=[iV x0,iV x1,w2 4 (x2.map Aj),w3 2 (x3.map Az),w4 1 (x4.map eI),.bool x5]
abbrev Ef (x:Aw) (w2:Nat→List (List V)→V) (w3:Nat→List (List V)→V) (w4:Nat→List (List V)→V):List V:=[iV x.table.clock,iV x.table.next,w2 4 (x.table.Ae.map Aj),w3 2 (x.Ab.map Az),w4 1 (x.Ac.map eI),.bool x.Fa]

/- loop.example/g00149/laws.szLeaseS -/
def zR:=[i_ 4 0]
def zS:=[m_ 5 1,m_ 6 0,n_ 7 6,b_ .sub 8 5 7,m_ 1 8]
def zU:=[m_ 9 1,B_ .lss 10 9 0]
def zW:=[i_ 4 (-1)]
def zX:=[m_ 11 1,m_ 4 11]
def NT:Dn:=⟨2,12,[.t 4],sr zR (sr zS (.seq (sr zU (iz 10 (rr zW))) (rr zX)))⟩
def MB (D:At):Prop:=∀a0 a1 r,KB a0 a1=some r→D 55 ⟨[Al a0,iV a1],[]⟩ ⟨iV r,[],[]⟩
theorem OZ:MB (FO C NT):=by
 intro a0 a1 r h0
 refine f0 (Bj 3 [(0,Al a0),(1,iV a1)] [] (Cd 3 (Ai (Mc rfl (o_ (Bj 9 [(1,iV (wi (a1-(a0.length:Int)))),(10,.bool (decide ((wi (a1-(a0.length:Int)))<0)))] [] (Ej h0 (fun c1 h0=>?_) (fun c1 h0=>?_))))))))
 ·obtain rfl:=sj h0
  exact De 4
 ·obtain rfl:=sj h0
  exact De 7

/- loop.example/g00149/laws.szTable -/
def vZ:=[X_ 2 0,i_ 4 0]
def wA:=[f_ 5 2 2,l_ 6 5 1,m_ 7 1,q_ 8 55 [.t 6,.t 7],m_ 1 8]
def wB:=[m_ 9 1,B_ .lss 10 9 0]
def wC:=[i_ 4 (-1)]
def wD:=[m_ 11 1,m_ 4 11]
def kO:Dn:=⟨2,12,[.t 4],sr vZ (sr wA (.seq (sr wB (iz 10 (rr wC))) (rr wD)))⟩
def LO (D:At):Prop:=∀a0 a1 r,JQ a0 a1=some r→D 17 ⟨[.agg (Ay a0),iV a1],[]⟩ ⟨iV r,[],[]⟩
theorem ON (H55:MB C):LO (FO C kO):=by
 intro a0 a1 r h0
 refine f0 (Bj 4 [(1,iV a1),(2,.ptr 128 0)] [(128,Ay a0)] (Cd 4 (Ai (bb h0 fun r1 e2 h0=>Tm (H55 a0.Ae a1 r1 e2) (o_ (Bj 8 [(1,iV r1),(10,.bool (decide (r1<0)))] [] (Ej h0 (fun c3 h0=>?_) (fun c3 h0=>?_))))))))
 ·obtain rfl:=sj h0
  exact De 4
 ·obtain rfl:=sj h0
  exact De 7

/- loop.example/g00149/laws.szIntentS -/
def CC:=[i_ 4 0]
def CD:=[m_ 5 1,m_ 6 0,n_ 7 6,b_ .sub 8 5 7,m_ 1 8]
def CE:=[m_ 9 1,B_ .lss 10 9 0]
def CF:=[i_ 4 (-1)]
def CG:=[m_ 11 1,m_ 4 11]
def OA:Dn:=⟨2,12,[.t 4],sr CC (sr CD (.seq (sr CE (iz 10 (rr CF))) (rr CG)))⟩
def MJ (D:At):Prop:=∀a0 a1 r,MV a0 a1=some r→D 90 ⟨[Am a0,iV a1],[]⟩ ⟨iV r,[],[]⟩
theorem PL:MJ (FO C OA):=by
 intro a0 a1 r h0
 refine f0 (Bj 3 [(0,Am a0),(1,iV a1)] [] (Cd 3 (Ai (Mc rfl (o_ (Bj 9 [(1,iV (wi (a1-(a0.length:Int)))),(10,.bool (decide ((wi (a1-(a0.length:Int)))<0)))] [] (Ej h0 (fun c1 h0=>?_) (fun c1 h0=>?_))))))))
 ·obtain rfl:=sj h0
  exact De 4
 ·obtain rfl:=sj h0
  exact De 7

/- loop.example/g00149/laws.szIntS -/
def CH:=[i_ 4 0]
def CI:=[m_ 5 1,m_ 6 0,n_ 7 6,b_ .sub 8 5 7,m_ 1 8]
def CJ:=[m_ 9 1,B_ .lss 10 9 0]
def CK:=[i_ 4 (-1)]
def CL:=[m_ 11 1,m_ 4 11]
def OB:Dn:=⟨2,12,[.t 4],sr CH (sr CI (.seq (sr CJ (iz 10 (rr CK))) (rr CL)))⟩
def MK (D:At):Prop:=∀a0 a1 r,MW a0 a1=some r→D 91 ⟨[lI a0,iV a1],[]⟩ ⟨iV r,[],[]⟩
theorem PM:MK (FO C OB):=by
 intro a0 a1 r h0
 refine f0 (Bj 3 [(0,lI a0),(1,iV a1)] [] (Cd 3 (Ai (Mc rfl (o_ (Bj 9 [(1,iV (wi (a1-(a0.length:Int)))),(10,.bool (decide ((wi (a1-(a0.length:Int)))<0)))] [] (Ej h0 (fun c1 h0=>?_) (fun c1 h0=>?_))))))))
 ·obtain rfl:=sj h0
  exact De 4
 ·obtain rfl:=sj h0
  exact De 7

/- loop.example/g00149/laws.szVault -/
def xZ:=[X_ 2 0,i_ 4 0]
def yA:=[f_ 5 2 0,L_ 6 5 3,m_ 7 1,q_ 8 17 [.t 6,.t 7],m_ 1 8]
def yB:=[m_ 9 1,B_ .lss 10 9 0]
def yC:=[i_ 4 (-1)]
def yD:=[f_ 11 2 3,l_ 12 11 1,m_ 13 1,q_ 14 90 [.t 12,.t 13],m_ 1 14]
def yE:=[m_ 15 1,B_ .lss 16 15 0]
def yF:=[i_ 4 (-1)]
def yG:=[f_ 17 2 4,l_ 18 17 1,m_ 19 1,q_ 20 91 [.t 18,.t 19],m_ 1 20]
def yH:=[m_ 21 1,B_ .lss 22 21 0]
def yI:=[i_ 4 (-1)]
def pZ:=[m_ 23 1,m_ 4 23]
def GM:Dn:=⟨2,24,[.t 4],sr xZ (sr yA (.seq (sr yB (iz 10 (rr yC))) (sr yD (.seq (sr yE (iz 16 (rr yF))) (sr yG (.seq (sr yH (iz 22 (rr yI))) (rr pZ)))))))⟩
def LW (D:At):Prop:=∀a0 a1 r,JX a0 a1=some r→D 45 ⟨[.agg (Aa a0),iV a1],[]⟩ ⟨iV r,[],[]⟩
theorem OU (H17:LO C) (H90:MJ C) (H91:MK C):LW (FO C GM):=by
 intro a0 a1 r h0
 refine f0 (Bj 4 [(1,iV a1),(2,.ptr 128 0)] [(128,Aa a0)] (Cd 4 (Ai (bb h0 fun r1 e2 h0=>Tm (H17 a0.table a1 r1 e2) (o_ (Bj 8 [(1,iV r1),(2,.ptr 128 0),(10,.bool (decide (r1<0)))] [(128,Aa a0)] (Ej h0 (fun c3 h0=>?_) (fun c3 h0=>?_))))))))
 ·obtain rfl:=sj h0
  exact De 4
 ·refine Cd 6 (Ai (bb h0 fun r4 e5 h0=>Tm (H90 a0.Ab r1 r4 e5) (o_ (Bj 8 [(1,iV r4),(2,.ptr 128 0),(16,.bool (decide (r4<0)))] [(128,Aa a0)] (Ej h0 (fun c6 h0=>?_) (fun c6 h0=>?_))))))
  ·obtain rfl:=sj h0
   exact De 4
  ·refine Cd 6 (Ai (bb h0 fun r7 e8 h0=>Tm (H91 a0.Ac r4 r7 e8) (o_ (Bj 8 [(1,iV r7),(22,.bool (decide (r7<0)))] [] (Ej h0 (fun c9 h0=>?_) (fun c9 h0=>?_))))))
   ·obtain rfl:=sj h0
    exact De 4
   ·obtain rfl:=sj h0
    exact De 7

/- loop.example/g00149/laws.toLease -/
def kX:=[X_ 1 0,a_ 2 [iV 0,iV 0,iV 0,.bool false]]
def kY:=[a_ 3 [iV 0,iV 0,iV 0,.bool false]]
def kZ:=[f_ 4 1 0,l_ 5 4 1,f_ 6 3 0,s_ 6 5 1]
def lA:=[f_ 7 1 1,l_ 8 7 1,f_ 9 3 1,s_ 9 8 1]
def lB:=[f_ 10 1 2,l_ 11 10 1,f_ 12 3 2,s_ 12 11 1]
def lC:=[f_ 13 1 3,l_ 14 13 1,f_ 15 3 3,s_ 15 14 1]
def lD:=[L_ 16 3 4,s_ 2 16 4]
def HK:Dn:=⟨1,17,[.cell 2 4 true],sr kX (sr kY (sr kZ (sr lA (sr lB (sr lC (rr lD))))))⟩
def uV (D:At):Prop:=∀a0 r,EZ a0=some r→D 104 ⟨[.agg (Aj a0)],[]⟩ ⟨.agg (Aj r),[],[]⟩
theorem KN:uV (FO C HK):=by
 intro a0 r h0
 refine f0 (Bj 22 [(1,.ptr 64 0),(2,.ptr 128 0),(3,.ptr 192 0)] [(64,Aj a0),(128,aT 0 0 0 false),(192,aT a0.id a0.Bl 0 false)] (Cd 2 (Ai ?_)))
 refine o_ ?_
 obtain rfl:=sj h0
 exact De 17

/- loop.example/g00149/laws.toLeaseS -/
def AB:List Bg:=[⟨some 2,.nilS 4,none⟩]
def AC:List Bg:=[m_ 5 0,n_ 6 5,⟨some 7,.make 4 32 [iV 0,iV 0,iV 0,.bool false] (.t 6) (.t 6),none⟩,m_ 3 7]
def AD:=[i_ 4 0]
def AE:=[m_ 8 4,m_ 9 0,n_ 10 9,b_ .lss 11 8 10]
def AF:=[m_ 14 3,m_ 15 4,m_ 16 0,m_ 17 4,x_ 18 16 17 4,L_ 19 18 4,q_ 20 104 [.t 19],x_ 21 14 15 4,s_ 21 20 4]
def AG:=[m_ 12 4,B_ .add 13 12 1,m_ 4 13]
def AA:IR:=(.seq (sr AE (.ite (.t 11) .skip (.exit 0))) (.seq (.block 1 (.reg AF)) (.reg AG)))
def AH:=[m_ 22 3,m_ 2 22]
def NU:Dn:=⟨1,23,[.t 2],sr AB (sr AC (.seq (sr AD (Om 0 AA)) (rr AH)))⟩
def MC (D:At):Prop:=∀a0 r,KC a0=some r→D 57 ⟨[Al a0],[]⟩ ⟨Ly 0 r,[],[]⟩
theorem PB (H104:uV C):MC (FO C NU):=by
 intro a0 r h0
 refine f0 (Bj 3 [(0,Al a0)] [] (Ar (Ai (st (Cv rfl tv (Mc rfl (gg h0 fun c1 h0=>gg h0 fun c2 h0=>st (hO (e:=Aj) (Ah.mk 0 0 0 false) rfl rfl c1 rfl c2 rfl (o_ (Bj 7 [(0,Al a0),(3,Ly 448 (List.replicate (a0.length:Int).toNat (Ah.mk 0 0 0 false))),(4,iV 0)] [] (Bp (bb h0 fun r35 e36 h0=>Dd (R:=(fun S=>∃p25:List Ah,p25=r35∧S=⟨[(3,Ly 448 p25)],[],[]⟩)) (Oz a0) (fun s S=>match s with | (p12,p13)=>S=⟨[(0,Al a0),(3,Ly 448 p12),(4,iV p13)],[],[]⟩) e36 _ (Be (by kernel_rfl)) rfl 0 (fun _=>rfl) ?_ ?_))))))))))))
 ·rintro S _ hfg ⟨p25,rfl,rfl⟩
  refine Ce _ hfg ?_
  obtain rfl:=sj h0
  exact De 5
 ·rintro ⟨p12,p13⟩ o1 _ K1 rfl h1 hx1 hK1 hE1 hR1
  refine Cd 4 (Ai (Mc rfl (o_ (Bj 2 [(0,Al a0),(3,Ly 448 p12),(4,iV p13),(11,.bool (decide (p13<(a0.length:Int))))] [] (Ej h1 (fun c26 h1=>?_) (fun c26 h1=>?_))))))
  ·refine Cd 8 (Ai (bb h1 fun y27 e28 h1=>Xb rfl rfl e28 (st (c_ (v:=.agg (Aj y27)) (Ak ⟨tv,tv⟩ rfl (nl rfl)) (bb h1 fun r29 e30 h1=>Tm (H104 y27 r29 e30) (bb h1 fun y31 e32 h1=>KM rfl rfl e32 (bb h1 fun y33 e34 h1=>NG r29 rfl rfl e34 (o_ (Bj 2 [(0,Al a0),(3,Ly 448 (p12.set p13.toNat r29)),(4,iV p13)] [] (Cd 4 ?_))))))))))
   obtain rfl:=sj h1
   exact kn hK1 rfl rfl
  ·obtain rfl:=sj h1
   obtain rfl:=hx1 _ rfl
   refine Ow rfl ?_
   exact jn hE1 ⟨_,rfl,rfl⟩

/- loop.example/g00149/laws.toTable -/
def wP:=[X_ 1 0,a_ 2 (zT 131)]
def wQ:=[a_ 3 (zT 195)]
def wR:=[f_ 4 1 0,l_ 5 4 1,f_ 6 3 0,s_ 6 5 1]
def wS:=[f_ 7 1 1,l_ 8 7 1,f_ 9 3 1,s_ 9 8 1]
def wT:=[f_ 10 1 2,l_ 11 10 1,q_ 12 57 [.t 11],f_ 13 3 2,s_ 13 12 1]
def wU:=[L_ 14 3 3,s_ 2 14 3]
def NM:Dn:=⟨1,15,[.cell 2 3 true],sr wP (sr wQ (sr wR (sr wS (sr wT (rr wU)))))⟩
def LQ (D:At):Prop:=∀a0 r,JS a0=some r→D 19 ⟨[.agg (Ay a0)],[]⟩ ⟨.agg (sY r (Ge 0)),[],[]⟩
theorem OP (H57:MC C):LQ (FO C NM):=by
 intro a0 r h0
 refine f0 (Bj 22 [(1,.ptr 64 0),(2,.ptr 128 0),(3,.ptr 192 0)] [(64,Ay a0),(128,aU 0 0 (Ge 131) []),(192,aU a0.clock a0.next (Ge 195) [])] (Cd 2 (Ai ?_)))
 refine st (c_ (Ak ⟨tv,tv⟩ rfl (nl rfl)) (bb h0 fun r1 e2 h0=>IG (H57 a0.Ae r1 e2) (af rfl) (o_ ?_)))
 obtain rfl:=sj h0
 exact De 9

/- loop.example/g00149/laws.toIntS -/
def xR:List Bg:=[⟨some 2,.nilS 1,none⟩]
def xS:List Bg:=[m_ 5 0,n_ 6 5,⟨some 7,.make 1 8 [iV 0] (.t 6) (.t 6),none⟩,m_ 3 7]
def xU:=[i_ 4 0]
def xV:=[m_ 8 4,m_ 9 0,n_ 10 9,b_ .lss 11 8 10]
def xW:=[m_ 14 3,m_ 15 4,m_ 16 0,m_ 17 4,x_ 18 16 17 1,l_ 19 18 1,x_ 20 14 15 1,s_ 20 19 1]
def xX:=[m_ 12 4,B_ .add 13 12 1,m_ 4 13]
def xQ:IR:=(.seq (sr xV (.ite (.t 11) .skip (.exit 0))) (.seq (.block 1 (.reg xW)) (.reg xX)))
def xY:=[m_ 21 3,m_ 2 21]
def NN:Dn:=⟨1,22,[.t 2],sr xR (sr xS (.seq (sr xU (Om 0 xQ)) (rr xY)))⟩
def LV (D:At):Prop:=∀a0 r,JW a0=some r→D 43 ⟨[lI a0],[]⟩ ⟨oI 0 r,[],[]⟩
theorem OT:LV (FO C NN):=by
 intro a0 r h0
 refine f0 (Bj 3 [(0,lI a0)] [] (Ar (Ai (st (Cv rfl tv (Mc rfl (gg h0 fun c1 h0=>gg h0 fun c2 h0=>st (hO (e:=eI) 0 rfl rfl c1 rfl c2 rfl (o_ (Bj 7 [(0,lI a0),(3,oI 448 (List.replicate (a0.length:Int).toNat 0)),(4,iV 0)] [] (Bp (bb h0 fun r29 e30 h0=>Dd (R:=(fun S=>∃p21:List Int,p21=r29∧S=⟨[(3,oI 448 p21)],[],[]⟩)) (Ru a0) (fun s S=>match s with | (p10,p11)=>S=⟨[(0,lI a0),(3,oI 448 p10),(4,iV p11)],[],[]⟩) e30 _ (Be (by kernel_rfl)) rfl 0 (fun _=>rfl) ?_ ?_))))))))))))
 ·rintro S _ hfg ⟨p21,rfl,rfl⟩
  refine Ce _ hfg ?_
  obtain rfl:=sj h0
  exact De 5
 ·rintro ⟨p10,p11⟩ o1 _ K1 rfl h1 hx1 hK1 hE1 hR1
  refine Cd 4 (Ai (Mc rfl (o_ (Bj 2 [(0,lI a0),(3,oI 448 p10),(4,iV p11),(11,.bool (decide (p11<(a0.length:Int))))] [] (Ej h1 (fun c22 h1=>?_) (fun c22 h1=>?_))))))
  ·refine Cd 8 (Ai (bb h1 fun y23 e24 h1=>Xb rfl rfl e24 (st (c_ (Ak ⟨tv,tv⟩ rfl (nl rfl)) (bb h1 fun y25 e26 h1=>KM rfl rfl e26 (bb h1 fun y27 e28 h1=>NG y23 rfl rfl e28 (o_ (Bj 2 [(0,lI a0),(3,oI 448 (p10.set p11.toNat y23)),(4,iV p11)] [] (Cd 4 ?_)))))))))
   obtain rfl:=sj h1
   exact kn hK1 rfl rfl
  ·obtain rfl:=sj h1
   obtain rfl:=hx1 _ rfl
   refine Ow rfl ?_
   exact jn hE1 ⟨_,rfl,rfl⟩

/- loop.example/g00149/laws.toIntent -/
def nK:=[X_ 1 0,a_ 2 [iV 0,.bool false]]
def nL:=[a_ 3 [iV 0,.bool false]]
def nM:=[f_ 4 1 0,l_ 5 4 1,f_ 6 3 0,s_ 6 5 1]
def nN:=[f_ 7 1 1,l_ 8 7 1,f_ 9 3 1,s_ 9 8 1]
def nO:=[L_ 10 3 2,s_ 2 10 2]
def cF:Dn:=⟨1,11,[.cell 2 2 true],sr nK (sr nL (sr nM (sr nN (rr nO))))⟩
def vE (D:At):Prop:=∀a0 r,FC a0=some r→D 125 ⟨[.agg (Az a0)],[]⟩ ⟨.agg (Az r),[],[]⟩
theorem KW:vE (FO C cF):=by
 intro a0 r h0
 refine f0 (Bj 22 [(2,.ptr 128 0),(3,.ptr 192 0)] [(128,[iV 0,.bool false]),(192,Az a0)] (Cd 2 (Ai ?_)))
 refine o_ ?_
 obtain rfl:=sj h0
 exact De 3

/- loop.example/g00149/laws.toIntentS -/
def DE:List Bg:=[⟨some 2,.nilS 2,none⟩]
def DF:List Bg:=[m_ 5 0,n_ 6 5,⟨some 7,.make 2 16 [iV 0,.bool false] (.t 6) (.t 6),none⟩,m_ 3 7]
def DG:=[i_ 4 0]
def DH:=[m_ 8 4,m_ 9 0,n_ 10 9,b_ .lss 11 8 10]
def DI:=[m_ 14 3,m_ 15 4,m_ 16 0,m_ 17 4,x_ 18 16 17 2,L_ 19 18 2,q_ 20 125 [.t 19],x_ 21 14 15 2,s_ 21 20 2]
def DJ:=[m_ 12 4,B_ .add 13 12 1,m_ 4 13]
def DD:IR:=(.seq (sr DH (.ite (.t 11) .skip (.exit 0))) (.seq (.block 1 (.reg DI)) (.reg DJ)))
def DK:=[m_ 22 3,m_ 2 22]
def OE:Dn:=⟨1,23,[.t 2],sr DE (sr DF (.seq (sr DG (Om 0 DD)) (rr DK)))⟩
def MM (D:At):Prop:=∀a0 r,KG a0=some r→D 94 ⟨[Am a0],[]⟩ ⟨Ip 0 r,[],[]⟩
theorem PP (H125:vE C):MM (FO C OE):=by
 intro a0 r h0
 refine f0 (Bj 3 [(0,Am a0)] [] (Ar (Ai (st (Cv rfl tv (Mc rfl (gg h0 fun c1 h0=>gg h0 fun c2 h0=>st (hO (e:=Az) (An.mk 0 false) rfl rfl c1 rfl c2 rfl (o_ (Bj 7 [(0,Am a0),(3,Ip 448 (List.replicate (a0.length:Int).toNat (An.mk 0 false))),(4,iV 0)] [] (Bp (bb h0 fun r35 e36 h0=>Dd (R:=(fun S=>∃p25:List An,p25=r35∧S=⟨[(3,Ip 448 p25)],[],[]⟩)) (Pa a0) (fun s S=>match s with | (p12,p13)=>S=⟨[(0,Am a0),(3,Ip 448 p12),(4,iV p13)],[],[]⟩) e36 _ (Be (by kernel_rfl)) rfl 0 (fun _=>rfl) ?_ ?_))))))))))))
 ·rintro S _ hfg ⟨p25,rfl,rfl⟩
  refine Ce _ hfg ?_
  obtain rfl:=sj h0
  exact De 5
 ·rintro ⟨p12,p13⟩ o1 _ K1 rfl h1 hx1 hK1 hE1 hR1
  refine Cd 4 (Ai (Mc rfl (o_ (Bj 2 [(0,Am a0),(3,Ip 448 p12),(4,iV p13),(11,.bool (decide (p13<(a0.length:Int))))] [] (Ej h1 (fun c26 h1=>?_) (fun c26 h1=>?_))))))
  ·refine Cd 8 (Ai (bb h1 fun y27 e28 h1=>Xb rfl rfl e28 (st (c_ (v:=.agg (Az y27)) (Ak ⟨tv,tv⟩ rfl (nl rfl)) (bb h1 fun r29 e30 h1=>Tm (H125 y27 r29 e30) (bb h1 fun y31 e32 h1=>KM rfl rfl e32 (bb h1 fun y33 e34 h1=>NG r29 rfl rfl e34 (o_ (Bj 2 [(0,Am a0),(3,Ip 448 (p12.set p13.toNat r29)),(4,iV p13)] [] (Cd 4 ?_))))))))))
   obtain rfl:=sj h1
   exact kn hK1 rfl rfl
  ·obtain rfl:=sj h1
   obtain rfl:=hx1 _ rfl
   refine Ow rfl ?_
   exact jn hE1 ⟨_,rfl,rfl⟩

/- loop.example/g00149/laws.toVault -/
def yU:=[X_ 1 0,a_ 2 (zV 131 132 133)]
def yV:=[a_ 3 (zV 195 196 197)]
def yW:=[f_ 4 1 0,L_ 5 4 3,q_ 6 19 [.t 5],f_ 7 3 0,s_ 7 6 3]
def yX:=[f_ 8 1 3,l_ 9 8 1,q_ 10 94 [.t 9],f_ 11 3 3,s_ 11 10 1]
def yY:=[f_ 12 1 4,l_ 13 12 1,q_ 14 43 [.t 13],f_ 15 3 4,s_ 15 14 1]
def yZ:=[f_ 16 1 5,l_ 17 16 1,f_ 18 3 5,s_ 18 17 1]
def zA:=[L_ 19 3 6,s_ 2 19 6]
def NP:Dn:=⟨1,20,[.cell 2 6 true],sr yU (sr yV (sr yW (sr yX (sr yY (sr yZ (rr zA))))))⟩
def LY (D:At):Prop:=∀a0 r,GT a0=some r→D 47 ⟨[.agg (Aa a0)],[]⟩ ⟨.agg (Ef r (Ge 0) (Ge 1) (Ge 2)),[],[]⟩
abbrev iG:=fun x0 (r:List (Nat×List V))=>(64,Aa x0)::(128,Qj 0 0 (Ge 131) [] (Ge 132) [] (Ge 133) [] false)::r
theorem OW (H19:LQ C) (H43:LV C) (H94:MM C):LY (FO C NP):=by
 intro a0 r h0
 refine f0 (Bj 8 [(1,.ptr 64 0),(2,.ptr 128 0),(3,.ptr 192 0)] (iG a0 [(192,Qj 0 0 (Ge 195) [] (Ge 196) [] (Ge 197) [] false)]) (Cd 3 (Ai (bb h0 fun r1 e2 h0=>IG (H19 a0.table r1 e2) (ar (Ea rfl (af rfl))) (o_ (Bj 3 [(1,.ptr 64 0),(2,.ptr 128 0),(3,.ptr 192 0)] (iG a0 [(192,Qj r1.clock r1.next (Ge 384) r1.Ae (Ge 196) [] (Ge 197) [] false)]) (Cd 3 (Ai (bb h0 fun r3 e4 h0=>IG (H94 a0.Ab r3 e4) (af rfl) (o_ (Bj 3 [(1,.ptr 64 0),(2,.ptr 128 0),(3,.ptr 192 0)] (iG a0 [(192,Qj r1.clock r1.next (Ge 384) r1.Ae (Ge 640) r3 (Ge 197) [] false)]) (Cd 3 (Ai (bb h0 fun r5 e6 h0=>IG (H43 a0.Ac r5 e6) (af rfl) (o_ ?_)))))))))))))))
 obtain rfl:=sj h0
 exact De 16

/- loop.example/g00149/laws.eqLease -/
def lK:=[X_ 2 0,X_ 3 1,k_ 4 (.bool false)]
def lL:=[f_ 5 2 0,l_ 6 5 1,f_ 7 3 0,l_ 8 7 1,b_ .neq 9 6 8]
def lM:=[k_ 4 (.bool false)]
def lN:=[f_ 10 2 1,l_ 11 10 1,f_ 12 3 1,l_ 13 12 1,b_ .neq 14 11 13]
def lO:=[k_ 4 (.bool false)]
def lP:=[f_ 15 2 2,l_ 16 15 1,f_ 17 3 2,l_ 18 17 1,b_ .neq 19 16 18]
def lQ:=[k_ 4 (.bool false)]
def lR:=[f_ 20 2 3,l_ 21 20 1,f_ 22 3 3,l_ 23 22 1,iQ 24 (.binB .neq (.t 21) (.t 23))]
def lS:=[k_ 4 (.bool false)]
def lU:=[k_ 4 (.bool true)]
def HN:Dn:=⟨2,25,[.t 4],sr lK (.seq (sr lL (iz 9 (rr lM))) (.seq (sr lN (iz 14 (rr lO))) (.seq (sr lP (iz 19 (rr lQ))) (.seq (sr lR (iz 24 (rr lS))) (rr lU)))))⟩
def uY (D:At):Prop:=∀a0 a1 r,sB a0 a1=some r→D 107 ⟨[.agg (Aj a0),.agg (Aj a1)],[]⟩ ⟨.bool r,[],[]⟩
theorem KQ:uY (FO C HN):=by
 intro a0 a1 r h0
 refine f0 (Bj 14 [(2,.ptr 128 0),(3,.ptr 192 0),(9,.bool (a0.id != a1.id))] [(128,Aj a0),(192,Aj a1)] (Ej h0 (fun c1 h0=>?_) (fun c1 h0=>?_)))
 ·obtain rfl:=sj h0
  exact De 4
 ·refine Bj 10 [(2,.ptr 128 0),(3,.ptr 192 0),(14,.bool (a0.Bl != a1.Bl))] [(128,Aj a0),(192,Aj a1)] (Ej h0 (fun c2 h0=>?_) (fun c2 h0=>?_))
  ·obtain rfl:=sj h0
   exact De 4
  ·refine Bj 10 [(2,.ptr 128 0),(3,.ptr 192 0),(19,.bool (a0.cap != a1.cap))] [(128,Aj a0),(192,Aj a1)] (Ej h0 (fun c3 h0=>?_) (fun c3 h0=>?_))
   ·obtain rfl:=sj h0
    exact De 4
   ·refine Bj 10 [(24,.bool (!(a0.Cs==a1.Cs)))] [] (Ej h0 (fun c4 h0=>?_) (fun c4 h0=>?_))
    ·obtain rfl:=sj h0
     exact De 4
    ·obtain rfl:=sj h0
     exact De 6

/- loop.example/g00149/laws.eqLeaseS -/
def BJ:=[k_ 4 (.bool false)]
def BK:=[m_ 6 0,n_ 7 6,m_ 8 1,n_ 9 8,b_ .neq 10 7 9]
def BL:=[k_ 4 (.bool false)]
def BM:=[i_ 5 0]
def BN:=[m_ 11 5,m_ 12 0,n_ 13 12,b_ .lss 14 11 13]
def BO:=tk [m_ 17 0,m_ 18 5,x_ 19 17 18 4,L_ 20 19 4,m_ 21 1,m_ 22 5,x_ 23 21 22 4,L_ 24 23 4] (.alt [] (q_ 25 107 [.t 20,.t 24]) (tk [N_ 26 25] .fin) .stop)
def BP:=[k_ 4 (.bool false)]
def BQ:=[m_ 15 5,B_ .add 16 15 1,m_ 5 16]
def BI:IR:=(.seq (sr BN (.ite (.t 14) .skip (.exit 0))) (.seq (.block 1 (sd BO (iz 26 (rr BP)))) (.reg BQ)))
def BR:=[k_ 4 (.bool true)]
def GP:Dn:=⟨2,27,[.t 4],sr BJ (.seq (sr BK (iz 10 (rr BL))) (.seq (sr BM (Om 0 BI)) (rr BR)))⟩
def MG (D:At):Prop:=∀a0 a1 r,IQ a0 a1=some r→D 64 ⟨[Al a0,Al a1],[]⟩ ⟨.bool r,[],[]⟩
theorem PI (H107:uY C):MG (FO C GP):=by
 intro a0 a1 r h0
 refine f0 (Bj 3 [(0,Al a0),(1,Al a1)] [] (Cd 3 (Ai (Mc rfl (st (Cv rfl tv (Mc rfl (o_ (Bj 2 [(0,Al a0),(1,Al a1),(10,.bool ((a0.length:Int) != (a1.length:Int)))] [] (Ej h0 (fun c1 h0=>?_) (fun c1 h0=>?_)))))))))))
 ·obtain rfl:=sj h0
  exact De 4
 ·refine Bj 6 [(0,Al a0),(1,Al a1),(5,iV 0)] [] (Bp (bb h0 fun r28 e29 h0=>Dd (R:=(fun S=>.inl ()=r28∧S=⟨[],[],[]⟩)) (Rz a0 a1) (fun s S=>match s with | p10=>S=⟨[(0,Al a0),(1,Al a1),(5,iV p10)],[],[]⟩) e29 _ (Be (by kernel_rfl)) rfl 0 (fun _=>rfl) ?_ ?_))
  ·rintro S _ hfg ⟨rfl,rfl⟩
   refine Ce _ hfg ?_
   obtain rfl:=sj h0
   exact De 4
  ·rintro p10 o1 _ K1 rfl h1 hx1 hK1 hE1 hR1
   refine Cd 4 (Ai (Mc rfl (o_ (Bj 2 [(0,Al a0),(1,Al a1),(5,iV p10),(14,.bool (decide (p10<(a0.length:Int))))] [] (Ej h1 (fun kP h1=>?_) (fun kP h1=>?_))))))
   ·refine kS 5 (bb h1 fun y21 e22 h1=>bb h1 fun y23 e24 h1=>bb h1 fun r25 e26 h1=>Cd 2 (Cz (d_ (uU rfl rfl rfl e22 (Cd 3 (Cz (d_ (uU rfl rfl rfl e24 (Cz (Af tv (c_ (v:=.agg (Aj y23)) (Ak ⟨tv,tv⟩ rfl (nl rfl)) (⟨tv,rT (H107 y21 y23 r25 e26) rfl (dw [(0,Al a0),(1,Al a1),(5,iV p10),(25,.bool r25)] [] tv (d_ (Bj 2 [(0,Al a0),(1,Al a1),(5,iV p10),(26,.bool (!r25))] [] (Ej h1 (fun c27 h1=>?_) (fun c27 h1=>?_))))) Co⟩))))))))))))
    ·obtain rfl:=sj h1
     obtain rfl:=hx1 _ rfl
     obtain rfl:=sj h0
     exact dC 4 hR1
    ·refine Cd 7 ?_
     obtain rfl:=sj h1
     exact kn hK1 rfl rfl
   ·obtain rfl:=sj h1
    obtain rfl:=hx1 _ rfl
    refine Ow rfl ?_
    exact jn hE1 ⟨rfl,rfl⟩

/- loop.example/g00149/laws.eqTable -/
def wX:=[X_ 2 0,X_ 3 1,k_ 4 (.bool false)]
def wY:=[f_ 5 2 0,l_ 6 5 1,f_ 7 3 0,l_ 8 7 1,b_ .neq 9 6 8]
def wZ:=[k_ 4 (.bool false)]
def xA:=[f_ 10 2 1,l_ 11 10 1,f_ 12 3 1,l_ 13 12 1,b_ .neq 14 11 13]
def xB:=[k_ 4 (.bool false)]
def xC:=[f_ 15 2 2,l_ 16 15 1,f_ 17 3 2,l_ 18 17 1,q_ 19 64 [.t 16,.t 18],N_ 20 19]
def xD:=[k_ 4 (.bool false)]
def xE:=[k_ 4 (.bool true)]
def JO:Dn:=⟨2,21,[.t 4],sr wX (.seq (sr wY (iz 9 (rr wZ))) (.seq (sr xA (iz 14 (rr xB))) (.seq (sr xC (iz 20 (rr xD))) (rr xE))))⟩
def LT (D:At):Prop:=∀a0 a1 r,JU a0 a1=some r→D 21 ⟨[.agg (Ay a0),.agg (Ay a1)],[]⟩ ⟨.bool r,[],[]⟩
theorem OR (H64:MG C):LT (FO C JO):=by
 intro a0 a1 r h0
 refine f0 (Bj 14 [(2,.ptr 128 0),(3,.ptr 192 0),(9,.bool (a0.clock != a1.clock))] [(128,Ay a0),(192,Ay a1)] (Ej h0 (fun c1 h0=>?_) (fun c1 h0=>?_)))
 ·obtain rfl:=sj h0
  exact De 4
 ·refine Bj 10 [(2,.ptr 128 0),(3,.ptr 192 0),(14,.bool (a0.next != a1.next))] [(128,Ay a0),(192,Ay a1)] (Ej h0 (fun c2 h0=>?_) (fun c2 h0=>?_))
  ·obtain rfl:=sj h0
   exact De 4
  ·refine Cd 8 (Ai (bb h0 fun r3 e4 h0=>Tm (H64 a0.Ae a1.Ae r3 e4) (o_ (Bj 2 [(20,.bool (!r3))] [] (Ej h0 (fun c5 h0=>?_) (fun c5 h0=>?_))))))
   ·obtain rfl:=sj h0
    exact De 4
   ·obtain rfl:=sj h0
    exact De 6

/- loop.example/g00149/laws.eqIntS -/
def xH:=[k_ 4 (.bool false)]
def xI:=[m_ 6 0,n_ 7 6,m_ 8 1,n_ 9 8,b_ .neq 10 7 9]
def xJ:=[k_ 4 (.bool false)]
def xK:=[i_ 5 0]
def xL:=[m_ 11 5,m_ 12 0,n_ 13 12,b_ .lss 14 11 13]
def xM:=tk [m_ 17 0,m_ 18 5,x_ 19 17 18 1,l_ 20 19 1,m_ 21 1,m_ 22 5,x_ 23 21 22 1,l_ 24 23 1,b_ .neq 25 20 24] .fin
def xN:=[k_ 4 (.bool false)]
def xO:=[m_ 15 5,B_ .add 16 15 1,m_ 5 16]
def xG:IR:=(.seq (sr xL (.ite (.t 14) .skip (.exit 0))) (.seq (.block 1 (sd xM (iz 25 (rr xN)))) (.reg xO)))
def xP:=[k_ 4 (.bool true)]
def JP:Dn:=⟨2,26,[.t 4],sr xH (.seq (sr xI (iz 10 (rr xJ))) (.seq (sr xK (Om 0 xG)) (rr xP)))⟩
def LU (D:At):Prop:=∀a0 a1 r,JV a0 a1=some r→D 36 ⟨[lI a0,lI a1],[]⟩ ⟨.bool r,[],[]⟩
theorem OS:LU (FO C JP):=by
 intro a0 a1 r h0
 refine f0 (Bj 3 [(0,lI a0),(1,lI a1)] [] (Cd 3 (Ai (Mc rfl (st (Cv rfl tv (Mc rfl (o_ (Bj 2 [(0,lI a0),(1,lI a1),(10,.bool ((a0.length:Int) != (a1.length:Int)))] [] (Ej h0 (fun c1 h0=>?_) (fun c1 h0=>?_)))))))))))
 ·obtain rfl:=sj h0
  exact De 4
 ·refine Bj 6 [(0,lI a0),(1,lI a1),(5,iV 0)] [] (Bp (bb h0 fun r22 e23 h0=>Dd (R:=(fun S=>.inl ()=r22∧S=⟨[],[],[]⟩)) (Rt a0 a1) (fun s S=>match s with | p8=>S=⟨[(0,lI a0),(1,lI a1),(5,iV p8)],[],[]⟩) e23 _ (Be (by kernel_rfl)) rfl 0 (fun _=>rfl) ?_ ?_))
  ·rintro S _ hfg ⟨rfl,rfl⟩
   refine Ce _ hfg ?_
   obtain rfl:=sj h0
   exact De 4
  ·rintro p8 o1 _ K1 rfl h1 hx1 hK1 hE1 hR1
   refine Cd 4 (Ai (Mc rfl (o_ (Bj 2 [(0,lI a0),(1,lI a1),(5,iV p8),(14,.bool (decide (p8<(a0.length:Int))))] [] (Ej h1 (fun c16 h1=>?_) (fun c16 h1=>?_))))))
   ·refine kS 5 (bb h1 fun y17 e18 h1=>bb h1 fun y19 e20 h1=>Cd 2 (Cz (d_ (uU rfl rfl rfl e18 (Cd 3 (Cz (d_ (uU rfl rfl rfl e20 (Bj 3 [(0,lI a0),(1,lI a1),(5,iV p8),(25,.bool (y17 != y19))] [] (Ej h1 (fun JO h1=>?_) (fun JO h1=>?_)))))))))))
    ·obtain rfl:=sj h1
     obtain rfl:=hx1 _ rfl
     obtain rfl:=sj h0
     exact dC 4 hR1
    ·refine Cd 7 ?_
     obtain rfl:=sj h1
     exact kn hK1 rfl rfl
   ·obtain rfl:=sj h1
    obtain rfl:=hx1 _ rfl
    refine Ow rfl ?_
    exact jn hE1 ⟨rfl,rfl⟩

/- loop.example/g00149/laws.eqIntent -/
def oR:=[X_ 2 0,X_ 3 1,k_ 4 (.bool false)]
def oS:=[f_ 5 2 0,l_ 6 5 1,f_ 7 3 0,l_ 8 7 1,b_ .neq 9 6 8]
def oT:=[k_ 4 (.bool false)]
def oU:=[f_ 10 2 1,l_ 11 10 1,f_ 12 3 1,l_ 13 12 1,iQ 14 (.binB .neq (.t 11) (.t 13))]
def oV:=[k_ 4 (.bool false)]
def oW:=[k_ 4 (.bool true)]
def HX:Dn:=⟨2,15,[.t 4],sr oR (.seq (sr oS (iz 9 (rr oT))) (.seq (sr oU (iz 14 (rr oV))) (rr oW)))⟩
def vJ (D:At):Prop:=∀a0 a1 r,gK a0 a1=some r→D 131 ⟨[.agg (Az a0),.agg (Az a1)],[]⟩ ⟨.bool r,[],[]⟩
theorem LD:vJ (FO C HX):=by
 intro a0 a1 r h0
 refine f0 (Bj 14 [(2,.ptr 128 0),(3,.ptr 192 0),(9,.bool (a0.Ap != a1.Ap))] [(128,Az a0),(192,Az a1)] (Ej h0 (fun c1 h0=>?_) (fun c1 h0=>?_)))
 ·obtain rfl:=sj h0
  exact De 4
 ·refine Bj 10 [(14,.bool (!(a0.Qd==a1.Qd)))] [] (Ej h0 (fun c2 h0=>?_) (fun c2 h0=>?_))
  ·obtain rfl:=sj h0
   exact De 4
  ·obtain rfl:=sj h0
   exact De 6

/- loop.example/g00149/laws.eqIntentS -/
def EM:=[k_ 4 (.bool false)]
def EN:=[m_ 6 0,n_ 7 6,m_ 8 1,n_ 9 8,b_ .neq 10 7 9]
def EO:=[k_ 4 (.bool false)]
def EP:=[i_ 5 0]
def EQ:=[m_ 11 5,m_ 12 0,n_ 13 12,b_ .lss 14 11 13]
def ER:=tk [m_ 17 0,m_ 18 5,x_ 19 17 18 2,L_ 20 19 2,m_ 21 1,m_ 22 5,x_ 23 21 22 2,L_ 24 23 2] (.alt [] (q_ 25 131 [.t 20,.t 24]) (tk [N_ 26 25] .fin) .stop)
def ES:=[k_ 4 (.bool false)]
def ET:=[m_ 15 5,B_ .add 16 15 1,m_ 5 16]
def EL:IR:=(.seq (sr EQ (.ite (.t 14) .skip (.exit 0))) (.seq (.block 1 (sd ER (iz 26 (rr ES)))) (.reg ET)))
def EU:=[k_ 4 (.bool true)]
def OJ:Dn:=⟨2,27,[.t 4],sr EM (.seq (sr EN (iz 10 (rr EO))) (.seq (sr EP (Om 0 EL)) (rr EU)))⟩
def MQ (D:At):Prop:=∀a0 a1 r,KJ a0 a1=some r→D 99 ⟨[Am a0,Am a1],[]⟩ ⟨.bool r,[],[]⟩
theorem PV (H131:vJ C):MQ (FO C OJ):=by
 intro a0 a1 r h0
 refine f0 (Bj 3 [(0,Am a0),(1,Am a1)] [] (Cd 3 (Ai (Mc rfl (st (Cv rfl tv (Mc rfl (o_ (Bj 2 [(0,Am a0),(1,Am a1),(10,.bool ((a0.length:Int) != (a1.length:Int)))] [] (Ej h0 (fun c1 h0=>?_) (fun c1 h0=>?_)))))))))))
 ·obtain rfl:=sj h0
  exact De 4
 ·refine Bj 6 [(0,Am a0),(1,Am a1),(5,iV 0)] [] (Bp (bb h0 fun r28 e29 h0=>Dd (R:=(fun S=>.inl ()=r28∧S=⟨[],[],[]⟩)) (Sc a0 a1) (fun s S=>match s with | p10=>S=⟨[(0,Am a0),(1,Am a1),(5,iV p10)],[],[]⟩) e29 _ (Be (by kernel_rfl)) rfl 0 (fun _=>rfl) ?_ ?_))
  ·rintro S _ hfg ⟨rfl,rfl⟩
   refine Ce _ hfg ?_
   obtain rfl:=sj h0
   exact De 4
  ·rintro p10 o1 _ K1 rfl h1 hx1 hK1 hE1 hR1
   refine Cd 4 (Ai (Mc rfl (o_ (Bj 2 [(0,Am a0),(1,Am a1),(5,iV p10),(14,.bool (decide (p10<(a0.length:Int))))] [] (Ej h1 (fun kP h1=>?_) (fun kP h1=>?_))))))
   ·refine kS 5 (bb h1 fun y21 e22 h1=>bb h1 fun y23 e24 h1=>bb h1 fun r25 e26 h1=>Cd 2 (Cz (d_ (uU rfl rfl rfl e22 (Cd 3 (Cz (d_ (uU rfl rfl rfl e24 (Cz (Af tv (c_ (v:=.agg (Az y23)) (Ak ⟨tv,tv⟩ rfl (nl rfl)) (⟨tv,rT (H131 y21 y23 r25 e26) rfl (dw [(0,Am a0),(1,Am a1),(5,iV p10),(25,.bool r25)] [] tv (d_ (Bj 2 [(0,Am a0),(1,Am a1),(5,iV p10),(26,.bool (!r25))] [] (Ej h1 (fun c27 h1=>?_) (fun c27 h1=>?_))))) Co⟩))))))))))))
    ·obtain rfl:=sj h1
     obtain rfl:=hx1 _ rfl
     obtain rfl:=sj h0
     exact dC 4 hR1
    ·refine Cd 7 ?_
     obtain rfl:=sj h1
     exact kn hK1 rfl rfl
   ·obtain rfl:=sj h1
    obtain rfl:=hx1 _ rfl
    refine Ow rfl ?_
    exact jn hE1 ⟨rfl,rfl⟩

/- loop.example/g00149/laws.eqVault -/
def zH:=[X_ 2 0,X_ 3 1,k_ 4 (.bool false)]
def zI:=[f_ 5 2 0,L_ 6 5 3,f_ 7 3 0,L_ 8 7 3,q_ 9 21 [.t 6,.t 8],N_ 10 9]
def zJ:=[k_ 4 (.bool false)]
def zK:=[f_ 11 2 3,l_ 12 11 1,f_ 13 3 3,l_ 14 13 1,q_ 15 99 [.t 12,.t 14],N_ 16 15]
def zL:=[k_ 4 (.bool false)]
def zM:=[f_ 17 2 4,l_ 18 17 1,f_ 19 3 4,l_ 20 19 1,q_ 21 36 [.t 18,.t 20],N_ 22 21]
def zN:=[k_ 4 (.bool false)]
def zO:=[f_ 23 2 5,l_ 24 23 1,f_ 25 3 5,l_ 26 25 1,iQ 27 (.binB .neq (.t 24) (.t 26))]
def zP:=[k_ 4 (.bool false)]
def zQ:=[k_ 4 (.bool true)]
def NS:Dn:=⟨2,28,[.t 4],sr zH (.seq (sr zI (iz 10 (rr zJ))) (.seq (sr zK (iz 16 (rr zL))) (.seq (sr zM (iz 22 (rr zN))) (.seq (sr zO (iz 27 (rr zP))) (rr zQ)))))⟩
def MA (D:At):Prop:=∀a0 a1 r,KA a0 a1=some r→D 49 ⟨[.agg (Aa a0),.agg (Aa a1)],[]⟩ ⟨.bool r,[],[]⟩
theorem OY (H21:LT C) (H36:LU C) (H99:MQ C):MA (FO C NS):=by
 intro a0 a1 r h0
 refine f0 (Bj 5 [(2,.ptr 128 0),(3,.ptr 192 0)] [(128,Aa a0),(192,Aa a1)] (Cd 6 (Ai (bb h0 fun r1 e2 h0=>Tm (H21 a0.table a1.table r1 e2) (o_ (Bj 2 [(2,.ptr 128 0),(3,.ptr 192 0),(10,.bool (!r1))] [(128,Aa a0),(192,Aa a1)] (Ej h0 (fun c3 h0=>?_) (fun c3 h0=>?_))))))))
 ·obtain rfl:=sj h0
  exact De 4
 ·refine Cd 8 (Ai (bb h0 fun r4 e5 h0=>Tm (H99 a0.Ab a1.Ab r4 e5) (o_ (Bj 2 [(2,.ptr 128 0),(3,.ptr 192 0),(16,.bool (!r4))] [(128,Aa a0),(192,Aa a1)] (Ej h0 (fun c6 h0=>?_) (fun c6 h0=>?_))))))
  ·obtain rfl:=sj h0
   exact De 4
  ·refine Cd 8 (Ai (bb h0 fun r7 e8 h0=>Tm (H36 a0.Ac a1.Ac r7 e8) (o_ (Bj 2 [(2,.ptr 128 0),(3,.ptr 192 0),(22,.bool (!r7))] [(128,Aa a0),(192,Aa a1)] (Ej h0 (fun c9 h0=>?_) (fun c9 h0=>?_))))))
   ·obtain rfl:=sj h0
    exact De 4
   ·refine Bj 10 [(27,.bool (!(a0.Fa==a1.Fa)))] [] (Ej h0 (fun c10 h0=>?_) (fun c10 h0=>?_))
    ·obtain rfl:=sj h0
     exact De 4
    ·obtain rfl:=sj h0
     exact De 6

/- loop.example/g00149/spec.l01In -/
def zY:=[k_ 6 (.bool false)]
def zZ:=[m_ 7 0,m_ 8 1,b_ .geq 9 7 8,m_ 10 9,mT 10 11 0,mT 10 12 2,pT 10 13 (.bin .leq (.t 11) (.t 12)),pa 14 10 13,m_ 6 14]
def GN:Dn:=⟨3,15,[.t 6],sr zY (rr zZ)⟩
def HD (D:At):Prop:=∀a0 a1 a2 r,FK a0 a1 a2=some r→D 56 ⟨[iV a0,iV a1,iV a2],[]⟩ ⟨.bool r,[],[]⟩
theorem PA:HD (FO C GN):=by
 intro a0 a1 a2 r h0
 refine f0 (Bj 3 [(0,iV a0),(1,iV a1),(2,iV a2)] [] (uF 9 (Ai (o_ ?_))))
 obtain rfl:=sj h0
 exact De 3

/- loop.example/g00149/spec.TableOK -/
def wF:=[X_ 1 0,k_ 2 (.bool false)]
def wG:List Bg:=[f_ 5 1 0,l_ 6 5 1,B_ .lss 7 6 0,m_ 8 7,fF 8 9 1 1,lF 8 10 9 1 false,⟨some 11,.call 56 [.t 10,.c (iV 1),.c (iV 1000000)],some (8,false)⟩,pF 8 12 (.un .not (.t 11)),po 13 8 12,m_ 14 13,fF 14 15 1 2,lF 14 16 15 1 false,pF 14 17 (.len (.t 16)),pF 14 18 (.bin .gtr (.t 17) (.c (iV 40))),po 19 14 18]
def wH:=[k_ 2 (.bool false)]
def wI:=[i_ 3 0]
def wJ:=[m_ 20 3,f_ 21 1 2,l_ 22 21 1,n_ 23 22,b_ .lss 24 20 23]
def wK:=[f_ 27 1 2,l_ 28 27 1,m_ 29 3,x_ 30 28 29 4,L_ 31 30 4,a_ 4 [iV 0,iV 0,iV 0,.bool false],s_ 4 31 4]
def wL:=tk [f_ 32 4 0,l_ 33 32 1,f_ 34 1 1,l_ 35 34 1,B_ .sub 36 35 1] (.alt [] (q_ 37 56 [.t 33,.c (iV 1),.t 36]) (tk [N_ 38 37,m_ 39 38,mF 39 40 3,pF 39 41 (.bin .gtr (.t 40) (.c (iV 0))),mF 39 42 41,fT 42 43 1 2,lT 42 44 43 1 false,mT 42 45 3,pT 42 46 (.bin .sub (.t 45) (.c (iV 1))),xT 42 47 44 46 4,fT 42 48 47 0,lT 42 49 48 1 false,fT 42 50 4 0,lT 42 51 50 1 false,pT 42 52 (.bin .geq (.t 49) (.t 51)),⟨some 53,.pick (.t 42) (.t 52) (.c (.bool false)),some (39,false)⟩,po 54 39 53,m_ 55 54,fF 55 56 4 1,lF 55 57 56 1 false,pF 55 58 (.bin .lss (.t 57) (.c (iV 0))),po 59 55 58,m_ 60 59,fF 60 61 4 1,lF 60 62 61 1 false,fF 60 63 4 2,lF 60 64 63 1 false,pF 60 65 (.bin .gtr (.t 62) (.t 64)),po 66 60 65,m_ 67 66,fF 67 68 4 3,lF 67 69 68 1 false,pF 67 70 (.un .not (.t 69)),mF 67 71 70,fT 71 72 4 1,lT 71 73 72 1 false,fT 71 74 1 0,lT 71 75 74 1 false,pT 71 76 (.bin .leq (.t 73) (.t 75)),⟨some 77,.pick (.t 71) (.t 76) (.c (.bool false)),some (67,false)⟩,po 78 67 77] .fin) .stop)
def wM:=[k_ 2 (.bool false)]
def wN:=[m_ 25 3,B_ .add 26 25 1,m_ 3 26]
def wE:IR:=(.seq (sr wJ (.ite (.t 24) .skip (.exit 0))) (.seq (.block 1 (sr wK (sd wL (iz 78 (rr wM))))) (.reg wN)))
def wO:=[k_ 2 (.bool true)]
def NL:Dn:=⟨1,79,[.t 2],sr wF (.seq (sr wG (iz 19 (rr wH))) (.seq (sr wI (Om 0 wE)) (rr wO)))⟩
def LP (D:At):Prop:=∀a0 r,JR a0=some r→D 18 ⟨[.agg (Ay a0)],[]⟩ ⟨.bool r,[],[]⟩
theorem OO (H56:HD C):LP (FO C NL):=by
 intro a0 r h0
 refine f0 (Bj 4 [(1,.ptr 64 0)] [(64,Ay a0)] (Cd 6 (Ai (st (Bt (u:=.ptr 64 1) rfl (fun hg=>(Ak ⟨tv,tv⟩ rfl tv)) (st (Bt (u:=iV a0.next) rfl (fun hg=>(Ak ⟨(fun _=>hg),tv⟩ rfl (nl rfl))) (bb h0 fun r1 e2 h0=>st (Ga (r:=.bool r1) rfl false (fun hg=>H56 a0.next 1 1000000 r1 (ip hg e2)) ⟨(fun hg=>hg),tv,tv,tv⟩ (fun _=>rfl) (fun _=>rfl) (fun _=>rfl) (fun h=>nomatch h) (st (Bt (u:=.bool (!r1)) rfl (fun hg=>(Ak ⟨(fun _=>hg),tv⟩ rfl tv)) (st (Ds rfl rfl rfl tv (fun h=>Um h) rfl (st (Cv rfl tv (st (Bt (u:=.ptr 64 2) rfl (fun hg=>(Ak ⟨tv,tv⟩ rfl tv)) (st (Bt (u:=Al a0.Ae) rfl (fun hg=>(Ak ⟨(fun _=>hg),tv⟩ rfl (nl rfl))) (st (Bt (u:=iV (a0.Ae.length:Int)) rfl (fun hg=>(Jv (e:=Aj) (l0:=a0.Ae) rfl rfl (fun _=>hg))) (st (Bt (u:=.bool (decide ((a0.Ae.length:Int)>40))) rfl (fun hg=>(Ak ⟨(fun _=>hg),tv,tv⟩ rfl tv)) (st (Ds rfl rfl rfl tv (fun h=>Um h) rfl (Dp (bv h0 fun v3 e4 h0=>Ce ⟨[(1,.ptr 64 0),(19,.bool v3)],[(64,Ay a0)],[]⟩ (Be (by subst e4; kernel_rfl)) (Ej h0 (fun c5 h0=>?_) (fun c5 h0=>?_)))))))))))))))))))))))))))))
 ·obtain rfl:=sj h0
  exact De 4
 ·refine Bj 6 [(1,.ptr 64 0),(3,iV 0)] [(64,Ay a0)] (Bp (bb h0 fun r38 e39 h0=>Dd (R:=(fun S=>.inl ()=r38∧S=⟨[],[],[]⟩)) (Rs a0) (fun s S=>match s with | p16=>S=⟨[(1,.ptr 64 0),(3,iV p16)],[(64,Ay a0)],[]⟩) e39 _ (Be (by kernel_rfl)) rfl 0 (fun _=>rfl) ?_ ?_))
  ·rintro S _ hfg ⟨rfl,rfl⟩
   refine Ce _ hfg ?_
   obtain rfl:=sj h0
   exact De 4
  ·rintro p16 o1 _ K1 rfl h1 hx1 hK1 hE1 hR1
   refine Cd 5 (Ai (Mc rfl (o_ (Bj 2 [(1,.ptr 64 0),(3,iV p16),(24,.bool (decide (p16<(a0.Ae.length:Int))))] [(64,Ay a0)] (Ej h1 (fun c28 h1=>?_) (fun c28 h1=>?_))))))
   ·refine Cd 8 (Ai (bb h1 fun y29 e30 h1=>Xb rfl rfl e30 (o_ (Bj 4 [(1,.ptr 64 0),(3,iV p16),(4,.ptr 256 0)] [(64,Ay a0),(256,Aj y29)] (Ar (bb h1 fun r31 e32 h1=>bb h1 fun y33 e34 h1=>Cd 5 (Cz (rT (H56 y29.id 1 (wi (a0.next-1)) r31 e32) rfl (dw [(1,.ptr 64 0),(3,iV p16),(4,.ptr 256 0),(37,.bool r31)] [(64,Ay a0),(256,Aj y29)] tv (d_ (Cd 2 (Cz (Af tv (Bt (u:=iV p16) rfl (fun hg=>(Kb (v:=iV p16) rfl tv)) (⟨tv,Af tv (Bt (u:=.bool (decide (p16>0))) rfl (fun hg=>(Ak ⟨(fun _=>hg),tv,tv⟩ rfl tv)) (⟨tv,Af tv (Bt (u:=.bool (decide (p16>0))) rfl (fun hg=>(Kb (v:=.may ((!r31)==false) (.bool (decide (p16>0)))) rfl (fun _=>hg))) (⟨tv,Af tv (Bt (u:=.ptr 64 2) rfl (fun hg=>(Ak ⟨tv,tv⟩ rfl tv)) (⟨tv,Af tv (Bt (u:=Al a0.Ae) rfl (fun hg=>(Ak ⟨(fun _=>hg),tv⟩ rfl (nl rfl))) (⟨tv,Af tv (Bt (u:=iV p16) rfl (fun hg=>(Kb (v:=iV p16) rfl tv)) (⟨tv,Af tv (Bt (u:=iV (wi (p16-1))) rfl (fun hg=>(Ak ⟨(fun _=>hg),tv,tv⟩ rfl tv)) (⟨tv,?_⟩))⟩))⟩))⟩))⟩))⟩))⟩))))))) Co))))))))
    refine Af tv (Bt (u:=.iptr (Aj y33)) rfl (fun hg=>(Hr (e:=Aj) (y:=y33) rfl rfl (fun _=>hg) rfl rfl (fun _=>hg) (ip hg e34))) (⟨tv,Af tv (Bt (u:=.iptr (Aj y33)) rfl (fun hg=>(Ak ⟨(fun _=>hg),tv⟩ rfl (nl rfl))) (⟨tv,Af tv (Bt (u:=iV y33.id) rfl (fun hg=>(Ak ⟨(fun _=>hg),tv⟩ rfl (nl rfl))) (⟨tv,Af tv (Bt (u:=.ptr 256 0) rfl (fun hg=>(Ak ⟨tv,tv⟩ rfl tv)) (⟨tv,Af tv (Bt (u:=iV y29.id) rfl (fun hg=>(Ak ⟨(fun _=>hg),tv⟩ rfl (nl rfl))) (⟨tv,Af tv (Bt (u:=.bool (decide (y33.id≥y29.id))) rfl (fun hg=>(Ak ⟨(fun _=>hg),(fun _=>hg),tv⟩ rfl tv)) (⟨tv,Af tv (Pe (u:=.bool (bif (decide (p16>0)) then (decide (y33.id≥y29.id)) else false)) rfl (fun hg=>Ul rfl rfl (fun _=>hg) rfl rfl (fun h=>Ea hg (kQ h)) tv rfl) (⟨tv,Af tv (Ds rfl rfl rfl tv (fun h=>Um h) rfl (⟨tv,Af tv (Cv rfl tv (⟨tv,Af tv (Bt (u:=.ptr 256 1) rfl (fun hg=>(Ak ⟨tv,tv⟩ rfl tv)) (⟨tv,Af tv (Bt (u:=iV y29.Bl) rfl (fun hg=>(Ak ⟨(fun _=>hg),tv⟩ rfl (nl rfl))) (⟨tv,Af tv (Bt (u:=.bool (decide (y29.Bl<0))) rfl (fun hg=>(Ak ⟨(fun _=>hg),tv,tv⟩ rfl tv)) (⟨tv,Af tv (Ds rfl rfl rfl tv (fun h=>Um h) rfl (⟨tv,Af tv (Cv rfl tv (⟨tv,Af tv (Bt (u:=.ptr 256 1) rfl (fun hg=>(Ak ⟨tv,tv⟩ rfl tv)) (⟨tv,Af tv (Bt (u:=iV y29.Bl) rfl (fun hg=>(Ak ⟨(fun _=>hg),tv⟩ rfl (nl rfl))) ?_)⟩))⟩))⟩))⟩))⟩))⟩))⟩))⟩))⟩))⟩))⟩))⟩))⟩))⟩))⟩))
    refine ⟨tv,Af tv (Bt (u:=.ptr 256 2) rfl (fun hg=>(Ak ⟨tv,tv⟩ rfl tv)) (⟨tv,Af tv (Bt (u:=iV y29.cap) rfl (fun hg=>(Ak ⟨(fun _=>hg),tv⟩ rfl (nl rfl))) (⟨tv,Af tv (Bt (u:=.bool (decide (y29.Bl>y29.cap))) rfl (fun hg=>(Ak ⟨(fun _=>hg),(fun _=>hg),tv⟩ rfl tv)) (⟨tv,Af tv (Ds rfl rfl rfl tv (fun h=>Um h) rfl (⟨tv,Af tv (Cv rfl tv (⟨tv,Af tv (Bt (u:=.ptr 256 3) rfl (fun hg=>(Ak ⟨tv,tv⟩ rfl tv)) (⟨tv,Af tv (Bt (u:=.bool y29.Cs) rfl (fun hg=>(Ak ⟨(fun _=>hg),tv⟩ rfl (nl rfl))) (⟨tv,Af tv (Bt (u:=.bool (!y29.Cs)) rfl (fun hg=>(Ak ⟨(fun _=>hg),tv⟩ rfl tv)) (⟨tv,Af tv (Bt (u:=.bool (!y29.Cs)) rfl (fun hg=>(Kb (v:=.may ((bif (bif (bif (!r31) then true else (bif (decide (p16>0)) then (decide (y33.id≥y29.id)) else false)) then true else (decide (y29.Bl<0))) then true else (decide (y29.Bl>y29.cap)))==false) (.bool (!y29.Cs))) rfl (fun _=>hg))) (⟨tv,Af tv (Bt (u:=.ptr 256 1) rfl (fun hg=>(Ak ⟨tv,tv⟩ rfl tv)) (⟨tv,Af tv (Bt (u:=iV y29.Bl) rfl (fun hg=>(Ak ⟨(fun _=>hg),tv⟩ rfl (nl rfl))) (⟨tv,Af tv (Bt (u:=.ptr 64 0) rfl (fun hg=>(Ak ⟨tv,tv⟩ rfl tv)) (⟨tv,Af tv (Bt (u:=iV a0.clock) rfl (fun hg=>(Ak ⟨(fun _=>hg),tv⟩ rfl (nl rfl))) (⟨tv,Af tv (Bt (u:=.bool (decide (y29.Bl≤a0.clock))) rfl (fun hg=>(Ak ⟨(fun _=>hg),(fun _=>hg),tv⟩ rfl tv)) (⟨tv,Af tv (Pe (u:=.bool (bif (!y29.Cs) then (decide (y29.Bl≤a0.clock)) else false)) rfl (fun hg=>Ul rfl rfl (fun _=>hg) rfl rfl (fun h=>Ea hg (kQ h)) tv rfl) (⟨tv,?_⟩))⟩))⟩))⟩))⟩))⟩))⟩))⟩))⟩))⟩))⟩))⟩))⟩))⟩))⟩))⟩
    refine Af tv (Ds rfl rfl rfl tv (fun h=>Um h) rfl (⟨tv,Tn (bv h1 fun v35 e36 h1=>Ce ⟨[(1,.ptr 64 0),(3,iV p16),(78,.bool v35)],[(64,Ay a0)],[]⟩ (Be (by subst e36; kernel_rfl)) (Ej h1 (fun c37 h1=>?_) (fun c37 h1=>?_)))⟩))
    ·obtain rfl:=sj h1
     obtain rfl:=hx1 _ rfl
     obtain rfl:=sj h0
     exact dC 4 hR1
    ·refine Cd 7 ?_
     obtain rfl:=sj h1
     exact kn hK1 rfl rfl
   ·obtain rfl:=sj h1
    obtain rfl:=hx1 _ rfl
    refine Ow rfl ?_
    exact jn hE1 ⟨rfl,rfl⟩

/- loop.example/g00149/spec.l09Rising -/
def BV:=[k_ 4 (.bool false)]
def BW:=[i_ 5 0]
def BX:=[m_ 6 5,m_ 7 0,n_ 8 7,b_ .lss 9 6 8]
def BY:=tk [m_ 12 0,m_ 13 5,x_ 14 12 13 1,l_ 15 14 1,m_ 16 1,B_ .sub 17 16 1] (.alt [] (q_ 18 56 [.t 15,.c (iV 1),.t 17]) (tk [N_ 19 18,m_ 20 19,mF 20 21 5,pF 20 22 (.bin .gtr (.t 21) (.c (iV 0))),mF 20 23 22,mT 23 24 0,mT 23 25 5,pT 23 26 (.bin .sub (.t 25) (.c (iV 1))),xT 23 27 24 26 1,lT 23 28 27 1 false,mT 23 29 0,mT 23 30 5,xT 23 31 29 30 1,lT 23 32 31 1 false,pT 23 33 (.bin .geq (.t 28) (.t 32)),⟨some 34,.pick (.t 23) (.t 33) (.c (.bool false)),some (20,false)⟩,po 35 20 34] .fin) .stop)
def BZ:=[k_ 4 (.bool false)]
def CA:=[m_ 10 5,B_ .add 11 10 1,m_ 5 11]
def BU:IR:=(.seq (sr BX (.ite (.t 9) .skip (.exit 0))) (.seq (.block 1 (sd BY (iz 35 (rr BZ)))) (.reg CA)))
def CB:=[k_ 4 (.bool true)]
def NZ:Dn:=⟨2,36,[.t 4],sr BV (.seq (sr BW (Om 0 BU)) (rr CB))⟩
def MI (D:At):Prop:=∀a0 a1 r,KE a0 a1=some r→D 85 ⟨[lI a0,iV a1],[]⟩ ⟨.bool r,[],[]⟩
theorem PK (H56:HD C):MI (FO C NZ):=by
 intro a0 a1 r h0
 refine f0 (Bj 8 [(0,lI a0),(1,iV a1),(5,iV 0)] [] (Bp (bb h0 fun r39 e40 h0=>Dd (R:=(fun S=>.inl ()=r39∧S=⟨[],[],[]⟩)) (Sa a0 a1) (fun s S=>match s with | p13=>S=⟨[(0,lI a0),(1,iV a1),(5,iV p13)],[],[]⟩) e40 _ (Be (by kernel_rfl)) rfl 0 (fun _=>rfl) ?_ ?_)))
 ·rintro S _ hfg ⟨rfl,rfl⟩
  refine Ce _ hfg ?_
  obtain rfl:=sj h0
  exact De 4
 ·rintro p13 o1 _ K1 rfl h1 hx1 hK1 hE1 hR1
  refine Cd 4 (Ai (Mc rfl (o_ (Bj 2 [(0,lI a0),(1,iV a1),(5,iV p13),(9,.bool (decide (p13<(a0.length:Int))))] [] (Ej h1 (fun c27 h1=>?_) (fun c27 h1=>?_))))))
  ·refine kS 5 (bb h1 fun y28 e29 h1=>bb h1 fun r30 e31 h1=>bb h1 fun y32 e33 h1=>bb h1 fun y34 e35 h1=>Cd 2 (Cz (d_ (uU rfl rfl rfl e29 (Cd 3 (Cz (rT (H56 y28 1 (wi (a1-1)) r30 e31) rfl (dw [(0,lI a0),(1,iV a1),(5,iV p13),(18,.bool r30)] [] tv (d_ (Cd 2 (Cz (Af tv (Bt (u:=iV p13) rfl (fun hg=>(Kb (v:=iV p13) rfl tv)) (⟨tv,Af tv (Bt (u:=.bool (decide (p13>0))) rfl (fun hg=>(Ak ⟨(fun _=>hg),tv,tv⟩ rfl tv)) (⟨tv,Af tv (Bt (u:=.bool (decide (p13>0))) rfl (fun hg=>(Kb (v:=.may ((!r30)==false) (.bool (decide (p13>0)))) rfl (fun _=>hg))) (⟨tv,Af tv (Bt (u:=lI a0) rfl (fun hg=>(Kb (v:=lI a0) rfl tv)) (⟨tv,Af tv (Bt (u:=iV p13) rfl (fun hg=>(Kb (v:=iV p13) rfl tv)) (⟨tv,Af tv (Bt (u:=iV (wi (p13-1))) rfl (fun hg=>(Ak ⟨(fun _=>hg),tv,tv⟩ rfl tv)) (⟨tv,?_⟩))⟩))⟩))⟩))⟩))⟩))))))) Co)))))))
   refine Af tv (Bt (u:=.iptr [iV y32]) rfl (fun hg=>(Hr (e:=eI) (y:=y32) rfl rfl (fun _=>hg) rfl rfl (fun _=>hg) (ip hg e33))) (⟨tv,Af tv (Bt (u:=iV y32) rfl (fun hg=>(Ak ⟨(fun _=>hg),tv⟩ rfl (nl rfl))) (⟨tv,Af tv (Bt (u:=lI a0) rfl (fun hg=>(Kb (v:=lI a0) rfl tv)) (⟨tv,Af tv (Bt (u:=iV p13) rfl (fun hg=>(Kb (v:=iV p13) rfl tv)) (⟨tv,Af tv (Bt (u:=.iptr [iV y34]) rfl (fun hg=>(Hr (e:=eI) (y:=y34) rfl rfl (fun _=>hg) rfl rfl (fun _=>hg) (ip hg e35))) (⟨tv,Af tv (Bt (u:=iV y34) rfl (fun hg=>(Ak ⟨(fun _=>hg),tv⟩ rfl (nl rfl))) (⟨tv,Af tv (Bt (u:=.bool (decide (y32≥y34))) rfl (fun hg=>(Ak ⟨(fun _=>hg),(fun _=>hg),tv⟩ rfl tv)) (⟨tv,Af tv (Pe (u:=.bool (bif (decide (p13>0)) then (decide (y32≥y34)) else false)) rfl (fun hg=>Ul rfl rfl (fun _=>hg) rfl rfl (fun h=>Ea hg (kQ h)) tv rfl) (⟨tv,Af tv (Ds rfl rfl rfl tv (fun h=>Um h) rfl (⟨tv,Tn (bv h1 fun v36 e37 h1=>Ce ⟨[(0,lI a0),(1,iV a1),(5,iV p13),(35,.bool v36)],[],[]⟩ (Be (by subst e37; kernel_rfl)) (Ej h1 (fun c38 h1=>?_) (fun c38 h1=>?_)))⟩))⟩))⟩))⟩))⟩))⟩))⟩))⟩))⟩))
   ·obtain rfl:=sj h1
    obtain rfl:=hx1 _ rfl
    obtain rfl:=sj h0
    exact dC 4 hR1
   ·refine Cd 7 ?_
    obtain rfl:=sj h1
    exact kn hK1 rfl rfl
  ·obtain rfl:=sj h1
   obtain rfl:=hx1 _ rfl
   refine Ow rfl ?_
   exact jn hE1 ⟨rfl,rfl⟩

/- loop.example/g00149/spec.l08Find -/
def CN:=[X_ 2 0,i_ 4 0]
def CO:=[i_ 5 0]
def CP:=[m_ 6 5,f_ 7 2 2,l_ 8 7 1,n_ 9 8,b_ .lss 10 6 9]
def CQ:=[f_ 13 2 2,l_ 14 13 1,m_ 15 5,x_ 16 14 15 4,f_ 17 16 0,l_ 18 17 1,m_ 19 1,b_ .eql 20 18 19]
def CR:=[m_ 21 5,m_ 4 21]
def CS:=[m_ 11 5,B_ .add 12 11 1,m_ 5 12]
def CM:IR:=(.seq (sr CP (.ite (.t 10) .skip (.exit 0))) (.seq (.block 1 (sr CQ (iz 20 (rr CR)))) (.reg CS)))
def CT:=[i_ 4 (-1)]
def OC:Dn:=⟨2,22,[.t 4],sr CN (.seq (sr CO (Om 0 CM)) (rr CT))⟩
def JM (D:At):Prop:=∀a0 a1 r,GW a0 a1=some r→D 92 ⟨[.agg (Ay a0),iV a1],[]⟩ ⟨iV r,[],[]⟩
theorem PN:JM (FO C OC):=by
 intro a0 a1 r h0
 refine f0 (Bj 9 [(1,iV a1),(2,.ptr 128 0),(5,iV 0)] [(128,Ay a0)] (Bp (bb h0 fun r15 e16 h0=>Dd (R:=(fun S=>.inl ()=r15∧S=⟨[],[],[]⟩)) (Wd a0 a1) (fun s S=>match s with | p5=>S=⟨[(1,iV a1),(2,.ptr 128 0),(5,iV p5)],[(128,Ay a0)],[]⟩) e16 _ (Be (by kernel_rfl)) rfl 0 (fun _=>rfl) ?_ ?_)))
 ·rintro S _ hfg ⟨rfl,rfl⟩
  refine Ce _ hfg ?_
  obtain rfl:=sj h0
  exact De 4
 ·rintro p5 o1 _ K1 rfl h1 hx1 hK1 hE1 hR1
  refine Cd 5 (Ai (Mc rfl (o_ (Bj 2 [(1,iV a1),(2,.ptr 128 0),(5,iV p5),(10,.bool (decide (p5<(a0.Ae.length:Int))))] [(128,Ay a0)] (Ej h1 (fun c11 h1=>?_) (fun c11 h1=>?_))))))
  ·refine Cd 8 (Ai (bb h1 fun y12 e13 h1=>Xb rfl rfl e13 (o_ (Bj 5 [(1,iV a1),(2,.ptr 128 0),(5,iV p5),(20,.bool (y12.id==a1))] [(128,Ay a0)] (Ej h1 (fun c14 h1=>?_) (fun c14 h1=>?_))))))
   ·obtain rfl:=sj h1
    obtain rfl:=hx1 _ rfl
    obtain rfl:=sj h0
    exact dC 5 hR1
   ·refine Cd 7 ?_
    obtain rfl:=sj h1
    exact kn hK1 rfl rfl
  ·obtain rfl:=sj h1
   obtain rfl:=hx1 _ rfl
   refine Ow rfl ?_
   exact jn hE1 ⟨rfl,rfl⟩

/- loop.example/g00149/spec.l09Intent -/
def nD:=[X_ 2 0,i_ 4 0]
def nE:=[i_ 5 0]
def nF:=[m_ 6 5,f_ 7 2 3,l_ 8 7 1,n_ 9 8,b_ .lss 10 6 9]
def nG:=[f_ 13 2 3,l_ 14 13 1,m_ 15 5,x_ 16 14 15 2,f_ 17 16 0,l_ 18 17 1,m_ 19 1,b_ .eql 20 18 19]
def nH:=[m_ 21 5,m_ 4 21]
def nI:=[m_ 11 5,B_ .add 12 11 1,m_ 5 12]
def nC:IR:=(.seq (sr nF (.ite (.t 10) .skip (.exit 0))) (.seq (.block 1 (sr nG (iz 20 (rr nH)))) (.reg nI)))
def nJ:=[i_ 4 (-1)]
def HR:Dn:=⟨2,22,[.t 4],sr nD (.seq (sr nE (Om 0 nC)) (rr nJ))⟩
def vD (D:At):Prop:=∀a0 a1 r,sG a0 a1=some r→D 124 ⟨[.agg (Aa a0),iV a1],[]⟩ ⟨iV r,[],[]⟩
theorem KV:vD (FO C HR):=by
 intro a0 a1 r h0
 refine f0 (Bj 9 [(1,iV a1),(2,.ptr 128 0),(5,iV 0)] [(128,Aa a0)] (Bp (bb h0 fun r15 e16 h0=>Dd (R:=(fun S=>.inl ()=r15∧S=⟨[],[],[]⟩)) (Qo a0 a1) (fun s S=>match s with | p5=>S=⟨[(1,iV a1),(2,.ptr 128 0),(5,iV p5)],[(128,Aa a0)],[]⟩) e16 _ (Be (by kernel_rfl)) rfl 0 (fun _=>rfl) ?_ ?_)))
 ·rintro S _ hfg ⟨rfl,rfl⟩
  refine Ce _ hfg ?_
  obtain rfl:=sj h0
  exact De 4
 ·rintro p5 o1 _ K1 rfl h1 hx1 hK1 hE1 hR1
  refine Cd 5 (Ai (Mc rfl (o_ (Bj 2 [(1,iV a1),(2,.ptr 128 0),(5,iV p5),(10,.bool (decide (p5<(a0.Ab.length:Int))))] [(128,Aa a0)] (Ej h1 (fun c11 h1=>?_) (fun c11 h1=>?_))))))
  ·refine Cd 8 (Ai (bb h1 fun y12 e13 h1=>Xb rfl rfl e13 (o_ (Bj 5 [(1,iV a1),(2,.ptr 128 0),(5,iV p5),(20,.bool (y12.Ap==a1))] [(128,Aa a0)] (Ej h1 (fun c14 h1=>?_) (fun c14 h1=>?_))))))
   ·obtain rfl:=sj h1
    obtain rfl:=hx1 _ rfl
    obtain rfl:=sj h0
    exact dC 5 hR1
   ·refine Cd 7 ?_
    obtain rfl:=sj h1
    exact kn hK1 rfl rfl
  ·obtain rfl:=sj h1
   obtain rfl:=hx1 _ rfl
   refine Ow rfl ?_
   exact jn hE1 ⟨rfl,rfl⟩

/- loop.example/g00149/spec.l09Lost -/
def CW:=[X_ 1 0,i_ 2 0]
def CX:=[i_ 3 0]
def CY:=[m_ 4 3,f_ 5 1 4,l_ 6 5 1,n_ 7 6,b_ .lss 8 4 7]
def CZ:=tk [f_ 11 1 0,L_ 12 11 3,f_ 13 1 4,l_ 14 13 1,m_ 15 3,x_ 16 14 15 1,l_ 17 16 1] (.alt [] (q_ 18 92 [.t 12,.t 17]) (tk [B_ .lss 19 18 0,m_ 20 19,lT 20 21 1 6 true,fT 20 22 1 4,lT 20 23 22 1 false,mT 20 24 3,xT 20 25 23 24 1,lT 20 26 25 1 false] (.alt [] ⟨some 27,.call 124 [.t 21,.t 26],some (20,true)⟩ (tk [pT 20 28 (.bin .lss (.t 27) (.c (iV 0))),pa 29 20 28] .fin) .stop)) .stop)
def DA:=[f_ 30 1 4,l_ 31 30 1,m_ 32 3,x_ 33 31 32 1,l_ 34 33 1,m_ 2 34]
def DB:=[m_ 9 3,B_ .add 10 9 1,m_ 3 10]
def CU:IR:=(.seq (sr CY (.ite (.t 8) .skip (.exit 0))) (.seq (.block 1 (sd CZ (iz 29 (rr DA)))) (.reg DB)))
def DC:=[i_ 2 0]
def OD:Dn:=⟨1,35,[.t 2],sr CW (.seq (sr CX (Om 0 CU)) (rr DC))⟩
def ML (D:At):Prop:=∀a0 r,KF a0=some r→D 93 ⟨[.agg (Aa a0)],[]⟩ ⟨iV r,[],[]⟩
theorem PO (H92:JM C) (H124:vD C):ML (FO C OD):=by
 intro a0 r h0
 refine f0 (Bj 9 [(1,.ptr 64 0),(3,iV 0)] [(64,Aa a0)] (Bp (bb h0 fun r39 e40 h0=>Dd (R:=(fun S=>.inl ()=r39∧S=⟨[],[],[]⟩)) (We a0) (fun s S=>match s with | p13=>S=⟨[(1,.ptr 64 0),(3,iV p13)],[(64,Aa a0)],[]⟩) e40 _ (Be (by kernel_rfl)) rfl 0 (fun _=>rfl) ?_ ?_)))
 ·rintro S _ hfg ⟨rfl,rfl⟩
  refine Ce _ hfg ?_
  obtain rfl:=sj h0
  exact De 4
 ·rintro p13 o1 _ K1 rfl h1 hx1 hK1 hE1 hR1
  refine Cd 5 (Ai (Mc rfl (o_ (Bj 2 [(1,.ptr 64 0),(3,iV p13),(8,.bool (decide (p13<(a0.Ac.length:Int))))] [(64,Aa a0)] (Ej h1 (fun c27 h1=>?_) (fun c27 h1=>?_))))))
  ·refine kS 5 (bb h1 fun y28 e29 h1=>bb h1 fun r30 e31 h1=>bb h1 fun y32 e33 h1=>bb h1 fun r34 e35 h1=>Cd 5 (Cz (d_ (uU rfl rfl rfl e29 (Cz (Af tv (c_ (Ak ⟨tv,tv⟩ rfl (nl rfl)) (⟨tv,rT (H92 a0.table y28 r30 e31) rfl (dw [(1,.ptr 64 0),(3,iV p13),(18,iV r30)] [(64,Aa a0)] tv (d_ (uF 6 (Cz (Af tv (Bt (u:=.iptr [iV y32]) rfl (fun hg=>(Hr (e:=eI) (y:=y32) rfl rfl (fun _=>hg) rfl rfl (fun _=>hg) (ip hg e33))) (⟨tv,?_⟩))))))) Co⟩))))))))
   refine Af tv (Bt (u:=iV y32) rfl (fun hg=>(Ak ⟨(fun _=>hg),tv⟩ rfl (nl rfl))) (⟨tv,Fk (Ga (r:=iV r34) rfl false (fun hg=>H124 a0 y32 r34 (ip hg e35)) ⟨(fun hg=>hg),(fun hg=>hg),tv⟩ (fun _=>rfl) (fun _=>rfl) (fun _=>rfl) (fun h=>nomatch h) (dw [(1,.ptr 64 0),(3,iV p13),(20,.bool (decide (r30<0))),(27,.may ((decide (r30<0))==true) (iV r34))] [(64,Aa a0)] tv (d_ (PZ 3 [(1,.ptr 64 0),(3,iV p13),(29,.bool (bif (decide (r30<0)) then (decide (r34<0)) else false))] [(64,Aa a0)] (Ej h1 (fun JP h1=>?_) (fun JP h1=>?_)))))) Co⟩))
   ·refine Cd 4 (Ai (bb h1 fun y37 e38 h1=>Xb rfl rfl e38 (o_ ?_)))
    obtain rfl:=sj h1
    obtain rfl:=hx1 _ rfl
    obtain rfl:=sj h0
    exact dC 4 hR1
   ·refine Cd 7 ?_
    obtain rfl:=sj h1
    exact kn hK1 rfl rfl
  ·obtain rfl:=sj h1
   obtain rfl:=hx1 _ rfl
   refine Ow rfl ?_
   exact jn hE1 ⟨rfl,rfl⟩

/- loop.example/g00149/spec.VaultOK -/
def yK:=[X_ 1 0,k_ 2 (.bool false)]
def yL:List Bg:=[f_ 5 1 0,L_ 6 5 3,q_ 7 18 [.t 6],N_ 8 7,m_ 9 8,fF 9 10 1 3,lF 9 11 10 1 false,pF 9 12 (.len (.t 11)),pF 9 13 (.bin .gtr (.t 12) (.c (iV 40))),po 14 9 13,m_ 15 14,fF 15 16 1 4,lF 15 17 16 1 false,pF 15 18 (.len (.t 17)),pF 15 19 (.bin .gtr (.t 18) (.c (iV 80))),po 20 15 19,m_ 21 20,fF 21 22 1 4,lF 21 23 22 1 false,fF 21 24 1 0,fF 21 25 24 1,lF 21 26 25 1 false,⟨some 27,.call 85 [.t 23,.t 26],some (21,false)⟩,pF 21 28 (.un .not (.t 27)),po 29 21 28]
def yM:=[k_ 2 (.bool false)]
def yN:=[i_ 3 0]
def yO:=[m_ 30 3,f_ 31 1 3,l_ 32 31 1,n_ 33 32,b_ .lss 34 30 33]
def yP:=[f_ 37 1 3,l_ 38 37 1,m_ 39 3,x_ 40 38 39 2,f_ 41 40 0,l_ 42 41 1,m_ 4 42]
def yQ:List Bg:=[m_ 43 4,f_ 44 1 0,f_ 45 44 1,l_ 46 45 1,B_ .sub 47 46 1,q_ 48 56 [.t 43,.c (iV 1),.t 47],N_ 49 48,m_ 50 49,mF 50 51 3,pF 50 52 (.bin .gtr (.t 51) (.c (iV 0))),mF 50 53 52,fT 53 54 1 3,lT 53 55 54 1 false,mT 53 56 3,pT 53 57 (.bin .sub (.t 56) (.c (iV 1))),xT 53 58 55 57 2,fT 53 59 58 0,lT 53 60 59 1 false,mT 53 61 4,pT 53 62 (.bin .geq (.t 60) (.t 61)),⟨some 63,.pick (.t 53) (.t 62) (.c (.bool false)),some (50,false)⟩,po 64 50 63,m_ 65 64,fF 65 66 1 0,lF 65 67 66 3 true,mF 65 68 4,⟨some 69,.call 92 [.t 67,.t 68],some (65,false)⟩,pF 65 70 (.bin .geq (.t 69) (.c (iV 0))),po 71 65 70]
def yR:=[k_ 2 (.bool false)]
def yS:=[m_ 35 3,B_ .add 36 35 1,m_ 3 36]
def yJ:IR:=(.seq (sr yO (.ite (.t 34) .skip (.exit 0))) (.seq (.block 1 (sr yP (sr yQ (iz 71 (rr yR))))) (.reg yS)))
def yT:=[L_ 72 1 6,q_ 73 93 [.t 72],B_ .eql 74 73 0,m_ 2 74]
def NO:Dn:=⟨1,75,[.t 2],sr yK (.seq (sr yL (iz 29 (rr yM))) (.seq (sr yN (Om 0 yJ)) (rr yT)))⟩
def LX (D:At):Prop:=∀a0 r,JY a0=some r→D 46 ⟨[.agg (Aa a0)],[]⟩ ⟨.bool r,[],[]⟩
theorem OV (H18:LP C) (H56:HD C) (H85:MI C) (H92:JM C) (H93:ML C):LX (FO C NO):=by
 intro a0 r h0
 refine f0 (Bj 4 [(1,.ptr 64 0)] [(64,Aa a0)] (Cd 4 (Ai (bb h0 fun r1 e2 h0=>Tm (H18 a0.table r1 e2) (o_ (Cd 2 (Ai (st (Bt (u:=.ptr 64 3) rfl (fun hg=>(Ak ⟨tv,tv⟩ rfl tv)) (st (Bt (u:=Am a0.Ab) rfl (fun hg=>(Ak ⟨(fun _=>hg),tv⟩ rfl (nl rfl))) (st (Bt (u:=iV (a0.Ab.length:Int)) rfl (fun hg=>(Jv (e:=Az) (l0:=a0.Ab) rfl rfl (fun _=>hg))) (st (Bt (u:=.bool (decide ((a0.Ab.length:Int)>40))) rfl (fun hg=>(Ak ⟨(fun _=>hg),tv,tv⟩ rfl tv)) (st (Ds rfl rfl rfl tv (fun h=>Um h) rfl (st (Cv rfl tv (st (Bt (u:=.ptr 64 4) rfl (fun hg=>(Ak ⟨tv,tv⟩ rfl tv)) (st (Bt (u:=lI a0.Ac) rfl (fun hg=>(Ak ⟨(fun _=>hg),tv⟩ rfl (nl rfl))) (st (Bt (u:=iV (a0.Ac.length:Int)) rfl (fun hg=>(Jv (e:=eI) (l0:=a0.Ac) rfl rfl (fun _=>hg))) (st (Bt (u:=.bool (decide ((a0.Ac.length:Int)>80))) rfl (fun hg=>(Ak ⟨(fun _=>hg),tv,tv⟩ rfl tv)) (st (Ds rfl rfl rfl tv (fun h=>Um h) rfl (st (Cv rfl tv (st (Bt (u:=.ptr 64 4) rfl (fun hg=>(Ak ⟨tv,tv⟩ rfl tv)) (st (Bt (u:=lI a0.Ac) rfl (fun hg=>(Ak ⟨(fun _=>hg),tv⟩ rfl (nl rfl))) (st (Bt (u:=.ptr 64 0) rfl (fun hg=>(Ak ⟨tv,tv⟩ rfl tv)) (st (Bt (u:=.ptr 64 1) rfl (fun hg=>(Ak ⟨(fun _=>hg),tv⟩ rfl tv)) (st (Bt (u:=iV a0.table.next) rfl (fun hg=>(Ak ⟨(fun _=>hg),tv⟩ rfl (nl rfl))) (bb h0 fun r3 e4 h0=>st (Ga (r:=.bool r3) rfl false (fun hg=>H85 a0.Ac a0.table.next r3 (ip hg e4)) ⟨(fun hg=>hg),(fun hg=>hg),tv⟩ (fun _=>rfl) (fun _=>rfl) (fun _=>rfl) (fun h=>nomatch h) (st (Bt (u:=.bool (!r3)) rfl (fun hg=>(Ak ⟨(fun _=>hg),tv⟩ rfl tv)) (st (Ds rfl rfl rfl tv (fun h=>Um h) rfl (Dp (bv h0 fun v5 e6 h0=>Ce ⟨[(1,.ptr 64 0),(29,.bool v5)],[(64,Aa a0)],[]⟩ (Be (by subst e6; kernel_rfl)) (Ej h0 (fun c7 h0=>?_) (fun c7 h0=>?_)))))))))))))))))))))))))))))))))))))))))))))))))))
 ·obtain rfl:=sj h0
  exact De 4
 ·refine Bj 6 [(1,.ptr 64 0),(3,iV 0)] [(64,Aa a0)] (Bp (bb h0 fun r46 e47 h0=>Dd (R:=(fun S=>.inl ()=r46∧S=⟨[(1,.ptr 64 0)],[(64,Aa a0)],[]⟩)) (Rv a0) (fun s S=>match s with | p20=>S=⟨[(1,.ptr 64 0),(3,iV p20)],[(64,Aa a0)],[]⟩) e47 _ (Be (by kernel_rfl)) rfl 0 (fun _=>rfl) ?_ ?_))
  ·rintro S _ hfg ⟨rfl,rfl⟩
   refine Ce _ hfg (Cd 2 (Ai (bb h0 fun r48 e49 h0=>Tm (H93 a0 r48 e49) (o_ ?_))))
   obtain rfl:=sj h0
   exact De 4
  ·rintro p20 o1 _ K1 rfl h1 hx1 hK1 hE1 hR1
   refine Cd 5 (Ai (Mc rfl (o_ (Bj 2 [(1,.ptr 64 0),(3,iV p20),(34,.bool (decide (p20<(a0.Ab.length:Int))))] [(64,Aa a0)] (Ej h1 (fun c34 h1=>?_) (fun c34 h1=>?_))))))
   ·refine Cd 8 (Ai (bb h1 fun y35 e36 h1=>Xb rfl rfl e36 (o_ (Bj 4 [(1,.ptr 64 0),(3,iV p20),(4,iV y35.Ap)] [(64,Aa a0)] (Cd 6 (Ai (bb h1 fun r37 e38 h1=>Tm (H56 y35.Ap 1 (wi (a0.table.next-1)) r37 e38) (o_ (Cd 2 (Ai (st (Bt (u:=iV p20) rfl (fun hg=>(Kb (v:=iV p20) rfl tv)) (st (Bt (u:=.bool (decide (p20>0))) rfl (fun hg=>(Ak ⟨(fun _=>hg),tv,tv⟩ rfl tv)) (st (Bt (u:=.bool (decide (p20>0))) rfl (fun hg=>(Kb (v:=.may ((!r37)==false) (.bool (decide (p20>0)))) rfl (fun _=>hg))) (st (Bt (u:=.ptr 64 3) rfl (fun hg=>(Ak ⟨tv,tv⟩ rfl tv)) (st (Bt (u:=Am a0.Ab) rfl (fun hg=>(Ak ⟨(fun _=>hg),tv⟩ rfl (nl rfl))) (st (Bt (u:=iV p20) rfl (fun hg=>(Kb (v:=iV p20) rfl tv)) (st (Bt (u:=iV (wi (p20-1))) rfl (fun hg=>(Ak ⟨(fun _=>hg),tv,tv⟩ rfl tv)) (bb h1 fun y39 e40 h1=>st (Bt (u:=.iptr (Az y39)) rfl (fun hg=>(Hr (e:=Az) (y:=y39) rfl rfl (fun _=>hg) rfl rfl (fun _=>hg) (ip hg e40))) (st (Bt (u:=.iptr (Az y39)) rfl (fun hg=>(Ak ⟨(fun _=>hg),tv⟩ rfl (nl rfl))) (st (Bt (u:=iV y39.Ap) rfl (fun hg=>(Ak ⟨(fun _=>hg),tv⟩ rfl (nl rfl))) (st (Bt (u:=iV y35.Ap) rfl (fun hg=>(Kb (v:=iV y35.Ap) rfl tv)) (st (Bt (u:=.bool (decide (y39.Ap≥y35.Ap))) rfl (fun hg=>(Ak ⟨(fun _=>hg),(fun _=>hg),tv⟩ rfl tv)) (st (Pe (u:=.bool (bif (decide (p20>0)) then (decide (y39.Ap≥y35.Ap)) else false)) rfl (fun hg=>Ul rfl rfl (fun _=>hg) rfl rfl (fun h=>Ea hg (kQ h)) tv rfl) (st (Ds rfl rfl rfl tv (fun h=>Um h) rfl (st (Cv rfl tv (st (Bt (u:=.ptr 64 0) rfl (fun hg=>(Ak ⟨tv,tv⟩ rfl tv)) (st (Bt (u:=.agg (Ay a0.table)) rfl (fun hg=>(Ak ⟨(fun _=>hg),tv⟩ rfl (nl rfl))) (st (Bt (u:=iV y35.Ap) rfl (fun hg=>(Kb (v:=iV y35.Ap) rfl tv)) (bb h1 fun r41 e42 h1=>st (Ga (r:=iV r41) rfl false (fun hg=>H92 a0.table y35.Ap r41 (ip hg e42)) ⟨(fun hg=>hg),(fun hg=>hg),tv⟩ (fun _=>rfl) (fun _=>rfl) (fun _=>rfl) (fun h=>nomatch h) (st (Bt (u:=.bool (decide (r41≥0))) rfl (fun hg=>(Ak ⟨(fun _=>hg),tv,tv⟩ rfl tv)) (st (Ds rfl rfl rfl tv (fun h=>Um h) rfl (Dp (bv h1 fun v43 e44 h1=>Ce ⟨[(1,.ptr 64 0),(3,iV p20),(71,.bool v43)],[(64,Aa a0)],[]⟩ (Be (by subst e44; kernel_rfl)) (Ej h1 (fun GM h1=>?_) (fun GM h1=>?_))))))))))))))))))))))))))))))))))))))))))))))))))))))))
    ·obtain rfl:=sj h1
     obtain rfl:=hx1 _ rfl
     obtain rfl:=sj h0
     exact dC 4 hR1
    ·refine Cd 7 ?_
     obtain rfl:=sj h1
     exact kn hK1 rfl rfl
   ·obtain rfl:=sj h1
    obtain rfl:=hx1 _ rfl
    refine Ow rfl ?_
    exact jn hE1 ⟨rfl,rfl⟩

/- loop.example/g00149/spec.l00Digits -/
def rF:=[k_ 2 (.str [])]
def rG:=[m_ 3 0,B_ .eql 4 3 (-9223372036854775808)]
def rH:=[k_ 2 (.str [45,57,50,50,51,51,55,50,48,51,54,56,53,52,55,55,53,56,48,56])]
def rI:=[m_ 5 0,B_ .lss 6 5 0]
def rJ:List Bg:=[m_ 7 0,iQ 8 (.un .neg (.t 7)),q_ 9 480 [.t 8],⟨some 10,.p (.bin .add (.c (.str [45])) (.t 9)),none⟩,m_ 2 10]
def rK:=[m_ 11 0,B_ .lss 12 11 10]
def rL:List Bg:=[m_ 13 0,⟨some 14,.p (.bin .add (.c (iV 48)) (.t 13)),none⟩,iQ 15 (.conv .u8 (.t 14)),⟨some 16,.mkS 1 [.int .u8 0] 1 [(0,.t 15)],none⟩,iQ 17 (.toStr (.t 16)),m_ 2 17]
def rM:=tk [m_ 18 0,B_ .quo 19 18 10,m_ 21 0,B_ .rem 22 21 10,⟨some 23,.p (.bin .add (.c (iV 48)) (.t 22)),none⟩,iQ 24 (.conv .u8 (.t 23))] (.alt [iQ 24 (.conv .u8 (.t 23)),⟨some 23,.p (.bin .add (.c (iV 48)) (.t 22)),none⟩,B_ .rem 22 21 10,m_ 21 0] (q_ 20 480 [.t 19]) (.alt [] ⟨some 25,.mkS 1 [.int .u8 0] 1 [(0,.t 24)],none⟩ (tk [iQ 26 (.toStr (.t 25)),b_ .add 27 20 26,m_ 2 27] .fin) .stop) (.alt [B_ .quo 19 18 10,m_ 18 0] ⟨some 25,.mkS 1 [.int .u8 0] 1 [(0,.t 24)],none⟩ (tk [iQ 26 (.toStr (.t 25))] (.alt [iQ 26 (.toStr (.t 25))] (q_ 20 480 [.t 19]) (tk [b_ .add 27 20 26,m_ 2 27] .fin) .stop)) .stop))
def zB:Dn:=⟨1,28,[.t 2],sr rF (.seq (sr rG (iz 4 (rr rH))) (.seq (sr rI (iz 6 (rr rJ))) (.seq (sr rK (iz 12 (rr rL))) (sd rM .ret))))⟩
def dV (C:At) (rc:Int→Option (List UInt8)):Prop:=∀(a0:Int) (r:(List UInt8)),rc a0=some r→C 480 ⟨[iV a0],[]⟩ ⟨.str r,[],[]⟩
def HB (C:At):Prop:=∀n,dV C (Np n)
theorem LN {C:At}  (rc480:Int→Option (List UInt8)) (R480:dV C rc480) (a0:Int) (r:(List UInt8)) (h0:Kw rc480 a0=some r):Xc C zB ⟨[iV a0],[]⟩ ⟨.str r,[],[]⟩:=by
 refine f0 (Ar (Ai (st (Et tv (Dp (Ce ⟨[(0,iV a0)],[],[]⟩ (Be (by kernel_rfl)) (Ar (Ar (Ai (st (Cv rfl tv (st (c_ (Ak t3 rfl tv) (Dp (Ce ⟨[(0,iV a0),(4,.bool (a0==(-9223372036854775808)))],[],[]⟩ (Be (by kernel_rfl)) (Ka (cb:=(a0==(-9223372036854775808))) rfl (fun c1=>?_) (fun c1=>?_)))))))))))))))))
 ·replace h0:=ip c1 h0
  refine Ar (Ai (st (Et tv (Dp ?_))))
  obtain ⟨v2,e3,h0⟩:=bl h0
  refine Ce ⟨[(2,.str v2)],[],[]⟩ (Be (by subst e3; kernel_rfl)) ?_
  obtain rfl:=sj h0
  exact Wn (Jo rfl rfl rfl rfl rfl tv)
 ·replace h0:=Xa c1 h0
  refine Tw (Ce ⟨[(0,iV a0)],[],[]⟩ (Be (by kernel_rfl)) (Ar (Ar (Ai (st (Cv rfl tv (st (c_ (Ak t3 rfl tv) (Dp (Ce ⟨[(0,iV a0),(6,.bool (decide (a0<0)))],[],[]⟩ (Be (by kernel_rfl)) (Ka (cb:=(decide (a0<0))) rfl (fun c4=>?_) (fun c4=>?_))))))))))))
  ·replace h0:=ip c4 h0
   refine Ar (Ai (st (Cv rfl tv (st (c_ (Ak ⟨tv,tv⟩ rfl tv) ?_)))))
   obtain ⟨r5,e6,h0⟩:=bnd h0
   refine st (Bh (r:=.str r5) false (R480 (wi (0-a0)) r5 e6) ⟨tv,tv⟩ rfl rfl (fun _=>rfl) ?_)
   obtain ⟨c7,h0⟩:=If h0
   refine st (c_ (Ak ⟨tv,tv,tv⟩ rfl c7) (st (Cv rfl tv (Dp (Ce ⟨[(2,.str (([45]:List UInt8)++r5))],[],[]⟩ (Be (by kernel_rfl)) ?_)))))
   obtain rfl:=sj h0
   exact Wn (Jo rfl rfl rfl rfl rfl tv)
  ·replace h0:=Xa c4 h0
   refine Tw (Ce ⟨[(0,iV a0)],[],[]⟩ (Be (by kernel_rfl)) (Ar (Ar (Ai (st (Cv rfl tv (st (c_ (Ak t3 rfl tv) (Dp (Ce ⟨[(0,iV a0),(12,.bool (decide (a0<10)))],[],[]⟩ (Be (by kernel_rfl)) (Ka (cb:=(decide (a0<10))) rfl (fun c8=>?_) (fun c8=>?_))))))))))))
   ·replace h0:=ip c8 h0
    refine Ar (Ai (st (Cv rfl tv (st (c_ (Ak t3 rfl tv) (st (c_ (MS (Ak ⟨tv,tv⟩ rfl tv)) (st (iB ⟨tv,tv⟩ ⟨⟨nl rfl,rfl,rfl⟩,tv⟩ (st (c_ (Ql (s:=([b8 (wi (48+a0))]:List UInt8)) rfl rfl tv) (st (Cv rfl tv (Dp (Ce ⟨[(2,.str ([b8 (wi (48+a0))]:List UInt8))],[],[]⟩ (Be (by kernel_rfl)) ?_)))))))))))))))
    obtain rfl:=sj h0
    exact Wn (Jo rfl rfl rfl rfl rfl tv)
   ·replace h0:=Xa c8 h0
    refine Tw (Ce ⟨[(0,iV a0)],[],[]⟩ (Be (by kernel_rfl)) (Ar ?_))
    obtain ⟨r9,e10,h0⟩:=bnd h0
    obtain ⟨c11,h0⟩:=If h0
    refine IL (fun S=>S=⟨[(2,.str (r9++([b8 (wi (48+((a0).tmod 10)))]:List UInt8)))],[],[]⟩) ?_ (fun J12=>?_)
    ·rintro _ rfl
     obtain rfl:=sj h0
     exact Wn (Jo rfl rfl rfl rfl rfl tv)
    ·refine Af tv (Cv rfl tv ?_)
     refine ⟨tv,Af tv (c_ (Ak ⟨tv,tv,tv⟩ rfl (by decide)) (⟨tv,Af tv (Cv rfl tv (⟨tv,Af tv (c_ (Ak ⟨tv,tv,tv⟩ rfl (by decide)) (⟨tv,Af tv (c_ (Ak t3 rfl tv) (⟨tv,Af tv (c_ (MS (Ak ⟨tv,tv⟩ rfl tv)) (⟨tv,Fk (Bh (r:=.str r9) false (R480 (wi ((a0).tdiv 10)) r9 e10) ⟨tv,tv⟩ rfl rfl (fun _=>rfl) ?_) ?_⟩))⟩))⟩))⟩))⟩))⟩
     ·refine Zj ⟨[(0,iV a0),(20,.str r9),(21,iV a0),(22,iV ((a0).tmod 10)),(23,iV (wi (48+((a0).tmod 10)))),(24,.int .u8 ((b8 (wi (48+((a0).tmod 10)))).toNat:Int))],[],[]⟩ (Be (by kernel_rfl)) ⟨[],⟨⟨.inl tv,Aq (MS (Ak ⟨tv,tv⟩ rfl tv)) rfl⟩,⟨.inl tv,Aq (Ak t3 rfl tv) rfl⟩,⟨.inl tv,Aq (Ak ⟨tv,tv,tv⟩ rfl (by decide)) rfl⟩,⟨.inl tv,Aq (Kb (v:=iV a0) rfl tv) rfl⟩,tv⟩,tv,?_⟩
      refine Fk (iB ⟨tv,tv⟩ ⟨⟨nl rfl,rfl,rfl⟩,tv⟩ (IK ⟨[],tv,tv,Af tv (c_ (Ql (s:=([b8 (wi (48+((a0).tmod 10)))]:List UInt8)) rfl rfl tv) (⟨tv,Af tv (c_ (Ak ⟨tv,tv,tv⟩ rfl c11) (⟨tv,Af tv (Cv rfl tv (⟨tv,Tn ?_⟩))⟩))⟩))⟩)) Co
      exact J12 _ ⟨[(2,.str (r9++([b8 (wi (48+((a0).tmod 10)))]:List UInt8)))],[],[]⟩ (Be (by kernel_rfl)) rfl
     ·refine Fk (iB ⟨tv,tv⟩ ⟨⟨nl rfl,rfl,rfl⟩,tv⟩ ?_) Co
      refine IK ⟨[],⟨⟨.inl tv,Aq (Ak ⟨tv,tv,tv⟩ rfl (by decide)) rfl⟩,⟨.inl tv,Aq (Kb (v:=iV a0) rfl tv) rfl⟩,tv⟩,tv,Af tv (c_ (Ql (s:=([b8 (wi (48+((a0).tmod 10)))]:List UInt8)) rfl rfl tv) (⟨tv,Fk (Bh (r:=.str r9) false (R480 (wi ((a0).tdiv 10)) r9 e10) ⟨tv,tv⟩ rfl rfl (fun _=>rfl) (Zj ⟨[(20,.str r9),(25,.own 1600 0 1 (([b8 (wi (48+((a0).tmod 10)))]:List UInt8).map GS)),(26,.str ([b8 (wi (48+((a0).tmod 10)))]:List UInt8))],[],[]⟩ (Be (by kernel_rfl)) ⟨[],⟨⟨.inl tv,Aq (Ql (s:=([b8 (wi (48+((a0).tmod 10)))]:List UInt8)) rfl rfl tv) rfl⟩,tv⟩,tv,Af tv (c_ (Ak ⟨tv,tv,tv⟩ rfl c11) (⟨tv,Af tv (Cv rfl tv (⟨tv,Tn ?_⟩))⟩))⟩)) Co⟩))⟩
      exact J12 _ ⟨[(2,.str (r9++([b8 (wi (48+((a0).tmod 10)))]:List UInt8)))],[],[]⟩ (Be (by kernel_rfl)) rfl

/- loop.example/g00149/spec.l11Text -/
def qV:=[X_ 1 0,k_ 2 (.str [])]
def qW:=[k_ 3 (.str [111,112,101,110])]
def qX:=[f_ 11 1 5,l_ 12 11 1]
def qY:=[k_ 3 (.str [115,101,97,108,101,100])]
def qZ:List Bg:=[m_ 13 3,⟨some 14,.p (.bin .add (.c (.str [118,97,117,108,116,32])) (.t 13)),none⟩,⟨some 15,.p (.bin .add (.t 14) (.c (.str [32]))),none⟩,f_ 16 1 0,f_ 17 16 0,l_ 18 17 1,q_ 19 480 [.t 18],b_ .add 20 15 19,⟨some 21,.p (.bin .add (.t 20) (.c (.str [10]))),none⟩,m_ 4 21]
def rA:=[i_ 5 0]
def rB:=[m_ 22 5,f_ 23 1 0,f_ 24 23 2,l_ 25 24 1,n_ 26 25,b_ .lss 27 22 26]
def rC:=[f_ 30 1 0,f_ 31 30 2,l_ 32 31 1,m_ 33 5,x_ 34 32 33 4,L_ 35 34 4,a_ 6 [iV 0,iV 0,iV 0,.bool false],s_ 6 35 4]
def rD:=[k_ 7 (.str [108,101,97,115,101,32])]
def rE:=[f_ 36 6 3,l_ 37 36 1]
def fA:=[k_ 7 (.str [113,117,101,117,101,100,32])]
def fB:=tk [m_ 38 4,m_ 39 7,f_ 40 6 0,l_ 41 40 1,f_ 45 6 1,l_ 46 45 1,f_ 50 6 2,l_ 51 50 1] (.alt [l_ 51 50 1,f_ 50 6 2,l_ 46 45 1,f_ 45 6 1,m_ 39 7,m_ 38 4] (q_ 42 480 [.t 41]) (tk [b_ .add 43 39 42,⟨some 44,.p (.bin .add (.t 43) (.c (.str [32]))),none⟩] (.alt [⟨some 44,.p (.bin .add (.t 43) (.c (.str [32]))),none⟩,b_ .add 43 39 42,l_ 51 50 1,f_ 50 6 2,m_ 39 7,m_ 38 4] (q_ 47 480 [.t 46]) (tk [b_ .add 48 44 47,⟨some 49,.p (.bin .add (.t 48) (.c (.str [32]))),none⟩] (.alt [⟨some 49,.p (.bin .add (.t 48) (.c (.str [32]))),none⟩,b_ .add 48 44 47,⟨some 44,.p (.bin .add (.t 43) (.c (.str [32]))),none⟩,b_ .add 43 39 42,m_ 39 7,m_ 38 4] (q_ 52 480 [.t 51]) (tk [b_ .add 53 49 52,⟨some 54,.p (.bin .add (.t 53) (.c (.str [10]))),none⟩,b_ .add 55 38 54] (.alt [] (m_ 4 55) .fin .stop)) .stop)) .stop)) .stop)
def fC:=[m_ 28 5,B_ .add 29 28 1,m_ 5 29]
def qS:IR:=(.seq (sr rB (.ite (.t 27) .skip (.exit 0))) (.seq (.block 1 (sr rC (sr rD (.seq (sr rE (iz 37 (.reg fA))) (.draw fB))))) (.reg fC)))
def fD:=[i_ 8 0]
def fE:=[m_ 56 8,f_ 57 1 3,l_ 58 57 1,n_ 59 58,b_ .lss 60 56 59]
def fG:=[k_ 9 (.str [98,101,103,117,110,32])]
def fH:=[f_ 63 1 3,l_ 64 63 1,m_ 65 8,x_ 66 64 65 2,f_ 67 66 1,l_ 68 67 1]
def fI:=[k_ 9 (.str [117,110,100,111,32])]
def fJ:List Bg:=[m_ 69 4,m_ 70 9,f_ 71 1 3,l_ 72 71 1,m_ 73 8,x_ 74 72 73 2,f_ 75 74 0,l_ 76 75 1,q_ 77 480 [.t 76],b_ .add 78 70 77,⟨some 79,.p (.bin .add (.t 78) (.c (.str [10]))),none⟩,b_ .add 80 69 79,m_ 4 80]
def fK:=[m_ 61 8,B_ .add 62 61 1,m_ 8 62]
def qT:IR:=(.seq (sr fE (.ite (.t 60) .skip (.exit 2))) (.seq (.block 3 (sr fG (.seq (sr fH (iz 68 (.reg fI))) (.reg fJ)))) (.reg fK)))
def fL:List Bg:=[m_ 81 4,⟨some 82,.p (.bin .add (.t 81) (.c (.str [97,99,99,111,117,110,116,115]))),none⟩,m_ 4 82]
def fM:=[i_ 10 0]
def fN:=[m_ 83 10,f_ 84 1 4,l_ 85 84 1,n_ 86 85,b_ .lss 87 83 86]
def fO:List Bg:=[m_ 90 4,f_ 91 1 4,l_ 92 91 1,m_ 93 10,x_ 94 92 93 1,l_ 95 94 1,q_ 96 480 [.t 95],⟨some 97,.p (.bin .add (.c (.str [32])) (.t 96)),none⟩,b_ .add 98 90 97,m_ 4 98]
def fP:=[m_ 88 10,B_ .add 89 88 1,m_ 10 89]
def qU:IR:=(.seq (sr fN (.ite (.t 87) .skip (.exit 4))) (.seq (.block 5 (.reg fO)) (.reg fP)))
def fQ:List Bg:=[m_ 99 4,⟨some 100,.p (.bin .add (.t 99) (.c (.str [10]))),none⟩,m_ 2 100]
def IF:Dn:=⟨1,101,[.t 2],sr qV (sr qW (.seq (sr qX (iz 12 (.reg qY))) (sr qZ (.seq (sr rA (Om 0 qS)) (.seq (sr fD (Om 2 qT)) (sr fL (.seq (sr fM (Om 4 qU)) (rr fQ))))))))⟩
def vQ (D:At):Prop:=∀a0 r,sR a0=some r→D 479 ⟨[.agg (Aa a0)],[]⟩ ⟨.str r,[],[]⟩
theorem LL (H480:HB C):vQ (FO C IF):=by
 intro a0 r h0
 refine f0 (Ar (Ai (st (Xi rfl tv rfl (st (Et tv (Dp (Ce ⟨[(1,.ptr 64 0)],[(64,Aa a0)],[]⟩ (Be (by kernel_rfl)) (Ar (Ai (st (Et tv (Dp (Ce ⟨[(1,.ptr 64 0),(3,.str ([111,112,101,110]:List UInt8))],[(64,Aa a0)],[]⟩ (Be (by kernel_rfl)) (Ar (Ar (Ai (st (c_ (Ak ⟨tv,tv⟩ rfl tv) (st (c_ (Ak ⟨tv,tv⟩ rfl (nl rfl)) (Dp (Ce ⟨[(1,.ptr 64 0),(3,.str ([111,112,101,110]:List UInt8)),(12,.bool a0.Fa)],[(64,Aa a0)],[]⟩ (Be (by kernel_rfl)) (FX (cb:=a0.Fa) (fun S=>∃p2:List UInt8,S=⟨[(1,.ptr 64 0),(3,.str p2)],[(64,Aa a0)],[]⟩∧No a0 p2=some r) rfl ?_ (fun c158 J157=>?_) (fun c158 J157=>?_)))))))))))))))))))))))))
 ·rintro _ ⟨p2,rfl,h0⟩
  refine Ce ⟨[(1,.ptr 64 0),(3,.str p2)],[(64,Aa a0)],[]⟩ (Be (by kernel_rfl)) (Ar (Ai (st (Cv rfl tv ?_))))
  obtain ⟨c3,h0⟩:=If h0
  refine st (c_ (Ak ⟨tv,tv,tv⟩ rfl c3) ?_)
  obtain ⟨c4,h0⟩:=If h0
  refine st (c_ (Ak ⟨tv,tv,tv⟩ rfl c4) (st (c_ (Ak ⟨tv,tv⟩ rfl tv) (st (c_ (Ak ⟨tv,tv⟩ rfl tv) (st (c_ (Ak ⟨tv,tv⟩ rfl (nl rfl)) ?_)))))))
  obtain ⟨r5,e6,h0⟩:=bnd h0
  refine st (Bh (r:=.str r5) false ((H480 Fs) a0.table.clock r5 e6) ⟨tv,tv⟩ rfl rfl (fun _=>rfl) ?_)
  obtain ⟨c7,h0⟩:=If h0
  refine st (c_ (Ak ⟨tv,tv,tv⟩ rfl c7) ?_)
  obtain ⟨c8,h0⟩:=If h0
  refine st (c_ (Ak ⟨tv,tv,tv⟩ rfl c8) (st (Cv rfl tv (Dp ?_))))
  obtain ⟨v9,e10,h0⟩:=bl h0
  refine Ce ⟨[(1,.ptr 64 0),(4,.str v9)],[(64,Aa a0)],[]⟩ (Be (by subst e10; kernel_rfl)) (Ar (Ar (Ai (st (Et tv (Dp (Ce ⟨[(1,.ptr 64 0),(4,.str v9),(5,iV 0)],[(64,Aa a0)],[]⟩ (Be (by kernel_rfl)) (Bp ?_))))))))
  obtain ⟨r78,e79,h0⟩:=bnd h0
  refine Dd (R:=(fun S=>∃p55:List UInt8,p55=r78∧S=⟨[(1,.ptr 64 0),(4,.str p55)],[(64,Aa a0)],[]⟩)) (Je a0) (fun s S=>match s with | (p31,p32)=>S=⟨[(1,.ptr 64 0),(4,.str p31),(5,iV p32)],[(64,Aa a0)],[]⟩) e79 ⟨[(1,.ptr 64 0),(4,.str v9),(5,iV 0)],[(64,Aa a0)],[]⟩ (Be (by kernel_rfl)) rfl 0 (fun _=>rfl) ?_ ?_
  ·rintro S _ hfg ⟨p55,rfl,rfl⟩
   refine Ce ⟨[(1,.ptr 64 0),(4,.str p55)],[(64,Aa a0)],[]⟩ (cO hfg (by kernel_rfl)) (Ar (Ar (Ai (st (Et tv (Dp (Ce ⟨[(1,.ptr 64 0),(4,.str p55),(8,iV 0)],[(64,Aa a0)],[]⟩ (Be (by kernel_rfl)) (Bp ?_))))))))
   obtain ⟨r123,e124,h0⟩:=bnd h0
   refine Dd (R:=(fun S=>∃p108:List UInt8,p108=r123∧S=⟨[(1,.ptr 64 0),(4,.str p108)],[(64,Aa a0)],[]⟩)) (Jf a0) (fun s S=>match s with | (p92,p93)=>S=⟨[(1,.ptr 64 0),(4,.str p92),(8,iV p93)],[(64,Aa a0)],[]⟩) e124 ⟨[(1,.ptr 64 0),(4,.str p55),(8,iV 0)],[(64,Aa a0)],[]⟩ (Be (by kernel_rfl)) rfl 2 (fun _=>rfl) ?_ ?_
   ·rintro S _ hfg ⟨p108,rfl,rfl⟩
    refine Ce ⟨[(1,.ptr 64 0),(4,.str p108)],[(64,Aa a0)],[]⟩ (cO hfg (by kernel_rfl)) (Ar (Ai (st (Cv rfl tv ?_))))
    obtain ⟨cF,h0⟩:=If h0
    refine st (c_ (Ak ⟨tv,tv,tv⟩ rfl cF) (st (Cv rfl tv (Dp (Ce ⟨[(1,.ptr 64 0),(4,.str (p108++([97,99,99,111,117,110,116,115]:List UInt8)))],[(64,Aa a0)],[]⟩ (Be (by kernel_rfl)) (Ar (Ar (Ai (st (Et tv (Dp (Ce ⟨[(1,.ptr 64 0),(4,.str (p108++([97,99,99,111,117,110,116,115]:List UInt8))),(10,iV 0)],[(64,Aa a0)],[]⟩ (Be (by kernel_rfl)) (Bp ?_)))))))))))))
    obtain ⟨r154,e155,h0⟩:=bnd h0
    refine Dd (R:=(fun S=>∃p146:List UInt8,p146=r154∧S=⟨[(4,.str p146)],[],[]⟩)) (Jg a0) (fun s S=>match s with | (p135,p136)=>S=⟨[(1,.ptr 64 0),(4,.str p135),(10,iV p136)],[(64,Aa a0)],[]⟩) e155 ⟨[(1,.ptr 64 0),(4,.str (p108++([97,99,99,111,117,110,116,115]:List UInt8))),(10,iV 0)],[(64,Aa a0)],[]⟩ (Be (by kernel_rfl)) rfl 4 (fun _=>rfl) ?_ ?_
    ·rintro S _ hfg ⟨p146,rfl,rfl⟩
     refine Ce ⟨[(4,.str p146)],[],[]⟩ (cO hfg (by kernel_rfl)) (Ar (Ai (st (Cv rfl tv ?_))))
     obtain ⟨c156,h0⟩:=If h0
     refine st (c_ (Ak ⟨tv,tv,tv⟩ rfl c156) (st (Cv rfl tv (Dp (Ce ⟨[(2,.str (p146++([10]:List UInt8)))],[],[]⟩ (Be (by kernel_rfl)) ?_)))))
     obtain rfl:=sj h0
     exact Wn (Jo rfl rfl rfl rfl rfl tv)
    ·rintro ⟨p135,p136⟩ o1 _ K1 rfl h1 hx1 hK1 hE1 hR1
     refine Ar (Ar (Ai (st (Cv rfl tv (st (c_ (Ak ⟨tv,tv⟩ rfl tv) (st (c_ (Ak ⟨tv,tv⟩ rfl (nl rfl)) (st (c_ (Jv (e:=eI) (l0:=a0.Ac) rfl rfl tv) (st (c_ (Ak t3 rfl tv) (Dp (Ce ⟨[(1,.ptr 64 0),(4,.str p135),(10,iV p136),(87,.bool (decide (p136<(a0.Ac.length:Int))))],[(64,Aa a0)],[]⟩ (Be (by kernel_rfl)) (Ka (cb:=(decide (p136<(a0.Ac.length:Int)))) rfl (fun c147=>?_) (fun c147=>?_))))))))))))))))
     ·replace h1:=ip c147 h1
      refine Tw (Ce ⟨[(1,.ptr 64 0),(4,.str p135),(10,iV p136)],[(64,Aa a0)],[]⟩ (Be (by kernel_rfl)) (Ar (Bp (Ai (st (Cv rfl tv (st (c_ (Ak ⟨tv,tv⟩ rfl tv) (st (c_ (Ak ⟨tv,tv⟩ rfl (nl rfl)) (st (Cv rfl tv ?_))))))))))))
      obtain ⟨y148,e149,h1⟩:=bnd h1
      refine st (c_ (Hr (e:=eI) (y:=y148) rfl rfl tv rfl rfl tv e149) (st (c_ (Ak ⟨tv,tv⟩ rfl (nl rfl)) ?_)))
      obtain ⟨r150,e151,h1⟩:=bnd h1
      refine st (Bh (r:=.str r150) false ((H480 Fs) y148 r150 e151) ⟨tv,tv⟩ rfl rfl (fun _=>rfl) ?_)
      obtain ⟨c152,h1⟩:=If h1
      refine st (c_ (Ak ⟨tv,tv,tv⟩ rfl c152) ?_)
      obtain ⟨c153,h1⟩:=If h1
      refine st (c_ (Ak ⟨tv,tv,tv⟩ rfl c153) (st (Cv rfl tv (Dp (kW (Ce ⟨[(1,.ptr 64 0),(4,.str (p135++(([32]:List UInt8)++r150))),(10,iV p136)],[(64,Aa a0)],[]⟩ (Be (by kernel_rfl)) (Ai (st (Cv rfl tv (st (c_ (Ak t3 rfl tv) (st (Cv rfl tv (Dp ?_))))))))))))))
      obtain rfl:=sj h1
      exact hK1 _ rfl _ ⟨[(1,.ptr 64 0),(4,.str (p135++(([32]:List UInt8)++r150))),(10,iV (wi (p136+1)))],[(64,Aa a0)],[]⟩ (Be (by kernel_rfl)) rfl
     ·replace h1:=Xa c147 h1
      obtain rfl:=sj h1
      obtain rfl:=hx1 _ rfl
      refine Ow rfl ?_
      exact hE1 _ ⟨[(4,.str p135)],[],[]⟩ (Be (by kernel_rfl)) ⟨_,rfl,rfl⟩
   ·rintro ⟨p92,p93⟩ o1 _ K1 rfl h1 hx1 hK1 hE1 hR1
    refine Ar (Ar (Ai (st (Cv rfl tv (st (c_ (Ak ⟨tv,tv⟩ rfl tv) (st (c_ (Ak ⟨tv,tv⟩ rfl (nl rfl)) (st (c_ (Jv (e:=Az) (l0:=a0.Ab) rfl rfl tv) (st (c_ (Ak t3 rfl tv) (Dp (Ce ⟨[(1,.ptr 64 0),(4,.str p92),(8,iV p93),(60,.bool (decide (p93<(a0.Ab.length:Int))))],[(64,Aa a0)],[]⟩ (Be (by kernel_rfl)) (Ka (cb:=(decide (p93<(a0.Ab.length:Int)))) rfl (fun c109=>?_) (fun c109=>?_))))))))))))))))
    ·replace h1:=ip c109 h1
     refine Tw (Ce ⟨[(1,.ptr 64 0),(4,.str p92),(8,iV p93)],[(64,Aa a0)],[]⟩ (Be (by kernel_rfl)) (Ar (Bp (Ar (Ai (st (Et tv (Dp (Ce ⟨[(1,.ptr 64 0),(4,.str p92),(8,iV p93),(9,.str ([98,101,103,117,110,32]:List UInt8))],[(64,Aa a0)],[]⟩ (Be (by kernel_rfl)) (Ar (Ar (Ai (st (c_ (Ak ⟨tv,tv⟩ rfl tv) (st (c_ (Ak ⟨tv,tv⟩ rfl (nl rfl)) (st (Cv rfl tv ?_))))))))))))))))))
     obtain ⟨y110,e111,h1⟩:=bnd h1
     refine st (c_ (Hr (e:=Az) (y:=y110) rfl rfl tv rfl rfl tv e111) (st (c_ (Ak ⟨tv,tv⟩ rfl (nl rfl)) (st (c_ (Ak ⟨tv,tv⟩ rfl (nl rfl)) (Dp (Ce ⟨[(1,.ptr 64 0),(4,.str p92),(8,iV p93),(9,.str ([98,101,103,117,110,32]:List UInt8)),(68,.bool y110.Qd)],[(64,Aa a0)],[]⟩ (Be (by kernel_rfl)) (FX (cb:=y110.Qd) (fun S=>∃p113:List UInt8,S=⟨[(1,.ptr 64 0),(4,.str p92),(8,iV p93),(9,.str p113)],[(64,Aa a0)],[]⟩∧Qr a0 p92 p93 p113=some o1) rfl ?_ (fun c122 J121=>?_) (fun c122 J121=>?_)))))))))
     ·rintro _ ⟨p113,rfl,h1⟩
      refine Ce ⟨[(1,.ptr 64 0),(4,.str p92),(8,iV p93),(9,.str p113)],[(64,Aa a0)],[]⟩ (Be (by kernel_rfl)) (Ai (st (Cv rfl tv (st (Cv rfl tv (st (c_ (Ak ⟨tv,tv⟩ rfl tv) (st (c_ (Ak ⟨tv,tv⟩ rfl (nl rfl)) (st (Cv rfl tv ?_)))))))))))
      obtain ⟨y114,e115,h1⟩:=bnd h1
      refine st (c_ (Hr (e:=Az) (y:=y114) rfl rfl tv rfl rfl tv e115) (st (c_ (Ak ⟨tv,tv⟩ rfl (nl rfl)) (st (c_ (Ak ⟨tv,tv⟩ rfl (nl rfl)) ?_)))))
      obtain ⟨r116,e117,h1⟩:=bnd h1
      refine sw ⟨[(1,.ptr 64 0),(8,iV p93),(69,.str p92),(70,.str p113),(76,iV y114.Ap)],[(64,Aa a0)],[]⟩ (Be (by kernel_rfl)) (Bh (r:=.str r116) false ((H480 Fs) y114.Ap r116 e117) ⟨tv,tv⟩ rfl rfl (fun _=>rfl) ?_)
      obtain ⟨c118,h1⟩:=If h1
      refine st (c_ (Ak ⟨tv,tv,tv⟩ rfl c118) ?_)
      obtain ⟨c119,h1⟩:=If h1
      refine st (c_ (Ak ⟨tv,tv,tv⟩ rfl c119) ?_)
      obtain ⟨c120,h1⟩:=If h1
      refine st (c_ (Ak ⟨tv,tv,tv⟩ rfl c120) (st (Cv rfl tv (Dp (kW (Ce ⟨[(1,.ptr 64 0),(4,.str (p92++((p113++r116)++([10]:List UInt8)))),(8,iV p93)],[(64,Aa a0)],[]⟩ (Be (by kernel_rfl)) (Ai (st (Cv rfl tv (st (c_ (Ak t3 rfl tv) (st (Cv rfl tv (Dp ?_))))))))))))))
      obtain rfl:=sj h1
      exact hK1 _ rfl _ ⟨[(1,.ptr 64 0),(4,.str (p92++((p113++r116)++([10]:List UInt8)))),(8,iV (wi (p93+1)))],[(64,Aa a0)],[]⟩ (Be (by kernel_rfl)) rfl
     ·replace h1:=ip c122 h1
      refine Ai (st (Et tv (Dp ?_)))
      exact J121 _ ⟨[(1,.ptr 64 0),(4,.str p92),(8,iV p93),(9,.str ([117,110,100,111,32]:List UInt8))],[(64,Aa a0)],[]⟩ (Be (by kernel_rfl)) ⟨_,rfl,h1⟩
     ·replace h1:=Xa c122 h1
      refine Tw ?_
      exact J121 _ ⟨[(1,.ptr 64 0),(4,.str p92),(8,iV p93),(9,.str ([98,101,103,117,110,32]:List UInt8))],[(64,Aa a0)],[]⟩ (Be (by kernel_rfl)) ⟨_,rfl,h1⟩
    ·replace h1:=Xa c109 h1
     obtain rfl:=sj h1
     obtain rfl:=hx1 _ rfl
     refine Ow rfl ?_
     exact hE1 _ ⟨[(1,.ptr 64 0),(4,.str p92)],[(64,Aa a0)],[]⟩ (Be (by kernel_rfl)) ⟨_,rfl,rfl⟩
  ·rintro ⟨p31,p32⟩ o1 _ K1 rfl h1 hx1 hK1 hE1 hR1
   refine Ar (Ar (Ai (st (Cv rfl tv (st (c_ (Ak ⟨tv,tv⟩ rfl tv) (st (c_ (Ak ⟨tv,tv⟩ rfl tv) (st (c_ (Ak ⟨tv,tv⟩ rfl (nl rfl)) (st (c_ (Jv (e:=Aj) (l0:=a0.table.Ae) rfl rfl tv) (st (c_ (Ak t3 rfl tv) (Dp (Ce ⟨[(1,.ptr 64 0),(4,.str p31),(5,iV p32),(27,.bool (decide (p32<(a0.table.Ae.length:Int))))],[(64,Aa a0)],[]⟩ (Be (by kernel_rfl)) (Ka (cb:=(decide (p32<(a0.table.Ae.length:Int)))) rfl (fun GN=>?_) (fun GN=>?_))))))))))))))))))
   ·replace h1:=ip GN h1
    refine Tw (Ce ⟨[(1,.ptr 64 0),(4,.str p31),(5,iV p32)],[(64,Aa a0)],[]⟩ (Be (by kernel_rfl)) (Ar (Bp (Ar (Ai (st (c_ (Ak ⟨tv,tv⟩ rfl tv) (st (c_ (Ak ⟨tv,tv⟩ rfl tv) (st (c_ (Ak ⟨tv,tv⟩ rfl (nl rfl)) (st (Cv rfl tv ?_)))))))))))))
    obtain ⟨y57,e58,h1⟩:=bnd h1
    refine st (c_ (Hr (e:=Aj) (y:=y57) rfl rfl tv rfl rfl tv e58) (st (c_ (v:=.agg (Aj y57)) (Ak ⟨tv,tv⟩ rfl (nl rfl)) (st (Rh (st (jK rfl rfl tv rfl rfl rfl (nl rfl) (Dp (Ce ⟨[(1,.ptr 64 0),(4,.str p31),(5,iV p32),(6,.ptr 384 0)],[(64,Aa a0),(384,Aj y57)],[]⟩ (Be (by kernel_rfl)) (Ar (Ai (st (Et tv (Dp (Ce ⟨[(1,.ptr 64 0),(4,.str p31),(5,iV p32),(6,.ptr 384 0),(7,.str ([108,101,97,115,101,32]:List UInt8))],[(64,Aa a0),(384,Aj y57)],[]⟩ (Be (by kernel_rfl)) (Ar (Ar (Ai (st (c_ (Ak ⟨tv,tv⟩ rfl tv) (st (c_ (Ak ⟨tv,tv⟩ rfl (nl rfl)) (Dp (Ce ⟨[(1,.ptr 64 0),(4,.str p31),(5,iV p32),(6,.ptr 384 0),(7,.str ([108,101,97,115,101,32]:List UInt8)),(37,.bool y57.Cs)],[(64,Aa a0),(384,Aj y57)],[]⟩ (Be (by kernel_rfl)) (FX (cb:=y57.Cs) (fun S=>∃p60:List UInt8,S=⟨[(1,.ptr 64 0),(4,.str p31),(5,iV p32),(6,.ptr 384 0),(7,.str p60)],[(64,Aa a0),(384,Aj y57)],[]⟩∧Qq p31 p32 y57 p60=some o1) rfl ?_ (fun GQ J76=>?_) (fun GQ J76=>?_))))))))))))))))))))))))))
    ·rintro _ ⟨p60,rfl,h1⟩
     refine Ce ⟨[(1,.ptr 64 0),(4,.str p31),(5,iV p32),(6,.ptr 384 0),(7,.str p60)],[(64,Aa a0),(384,Aj y57)],[]⟩ (Be (by kernel_rfl)) ?_
     obtain ⟨r61,e62,h1⟩:=bnd h1
     obtain ⟨fR,h1⟩:=If h1
     obtain ⟨GP,h1⟩:=If h1
     obtain ⟨r65,e66,h1⟩:=bnd h1
     obtain ⟨c67,h1⟩:=If h1
     obtain ⟨c68,h1⟩:=If h1
     obtain ⟨r69,e70,h1⟩:=bnd h1
     obtain ⟨c71,h1⟩:=If h1
     obtain ⟨c72,h1⟩:=If h1
     obtain ⟨c73,h1⟩:=If h1
     refine Cz (Af tv (Cv rfl tv (⟨tv,Af tv (Cv rfl tv (⟨tv,Af tv (c_ (Ak ⟨tv,tv⟩ rfl tv) (⟨tv,Af tv (c_ (Ak ⟨tv,tv⟩ rfl (nl rfl)) (⟨tv,Af tv (c_ (Ak ⟨tv,tv⟩ rfl tv) (⟨tv,Af tv (c_ (Ak ⟨tv,tv⟩ rfl (nl rfl)) (⟨tv,Af tv (c_ (Ak ⟨tv,tv⟩ rfl tv) (⟨tv,Af tv (c_ (Ak ⟨tv,tv⟩ rfl (nl rfl)) (⟨tv,Fk (Bh (r:=.str r61) false ((H480 Fs) y57.id r61 e62) ⟨tv,tv⟩ rfl rfl (fun _=>rfl) (Zj ⟨[(1,.ptr 64 0),(4,.str p31),(5,iV p32),(6,.ptr 384 0),(7,.str p60),(38,.str p31),(39,.str p60),(42,.str r61),(45,.ptr 384 1),(46,iV y57.Bl),(50,.ptr 384 2),(51,iV y57.cap)],[(64,Aa a0),(384,Aj y57)],[]⟩ (Be (by kernel_rfl)) ⟨[],⟨⟨.inl tv,Aq (Ak ⟨tv,tv⟩ rfl (nl rfl)) rfl⟩,⟨.inl tv,Aq (Ak ⟨tv,tv⟩ rfl tv) rfl⟩,⟨.inl tv,Aq (Ak ⟨tv,tv⟩ rfl (nl rfl)) rfl⟩,⟨.inl tv,Aq (Ak ⟨tv,tv⟩ rfl tv) rfl⟩,⟨.inl tv,Aq (Kb (v:=.str p60) rfl tv) rfl⟩,⟨.inl tv,Aq (Kb (v:=.str p31) rfl tv) rfl⟩,tv⟩,tv,Af tv (c_ (Ak ⟨tv,tv,tv⟩ rfl fR) (⟨tv,Af tv (c_ (Ak ⟨tv,tv,tv⟩ rfl GP) (⟨tv,Fk (Bh (r:=.str r65) false ((H480 Fs) y57.Bl r65 e66) ⟨tv,tv⟩ rfl rfl (fun _=>rfl) (Zj ⟨[(1,.ptr 64 0),(4,.str p31),(5,iV p32),(6,.ptr 384 0),(7,.str p60),(38,.str p31),(39,.str p60),(42,.str r61),(43,.str (p60++r61)),(44,.str ((p60++r61)++([32]:List UInt8))),(47,.str r65),(50,.ptr 384 2),(51,iV y57.cap)],[(64,Aa a0),(384,Aj y57)],[]⟩ (Be (by kernel_rfl)) ⟨[],⟨⟨.inl tv,Aq (Ak ⟨tv,tv,tv⟩ rfl GP) rfl⟩,⟨.inl tv,Aq (Ak ⟨tv,tv,tv⟩ rfl fR) rfl⟩,⟨.inl tv,Aq (Ak ⟨tv,tv⟩ rfl (nl rfl)) rfl⟩,⟨.inl tv,Aq (Ak ⟨tv,tv⟩ rfl tv) rfl⟩,⟨.inl tv,Aq (Kb (v:=.str p60) rfl tv) rfl⟩,⟨.inl tv,Aq (Kb (v:=.str p31) rfl tv) rfl⟩,tv⟩,tv,Af tv (c_ (Ak ⟨tv,tv,tv⟩ rfl c67) (⟨tv,Af tv (c_ (Ak ⟨tv,tv,tv⟩ rfl c68) (⟨tv,Fk (Bh (r:=.str r69) false ((H480 Fs) y57.cap r69 e70) ⟨tv,tv⟩ rfl rfl (fun _=>rfl) (Zj ⟨[(1,.ptr 64 0),(4,.str p31),(5,iV p32),(7,.str p60),(38,.str p31),(39,.str p60),(42,.str r61),(43,.str (p60++r61)),(44,.str ((p60++r61)++([32]:List UInt8))),(47,.str r65),(48,.str (((p60++r61)++([32]:List UInt8))++r65)),(49,.str ((((p60++r61)++([32]:List UInt8))++r65)++([32]:List UInt8))),(52,.str r69)],[(64,Aa a0)],[]⟩ (Be (by kernel_rfl)) ⟨[],⟨⟨.inl tv,Aq (Ak ⟨tv,tv,tv⟩ rfl c68) rfl⟩,⟨.inl tv,Aq (Ak ⟨tv,tv,tv⟩ rfl c67) rfl⟩,⟨.inl tv,Aq (Ak ⟨tv,tv,tv⟩ rfl GP) rfl⟩,⟨.inl tv,Aq (Ak ⟨tv,tv,tv⟩ rfl fR) rfl⟩,⟨.inl tv,Aq (Kb (v:=.str p60) rfl tv) rfl⟩,⟨.inl tv,Aq (Kb (v:=.str p31) rfl tv) rfl⟩,tv⟩,tv,?_⟩)) Co⟩))⟩))⟩)) Co⟩))⟩))⟩)) Co⟩))⟩))⟩))⟩))⟩))⟩))⟩))⟩)))
     refine Af tv (c_ (Ak ⟨tv,tv,tv⟩ rfl c71) (⟨tv,Af tv (c_ (Ak ⟨tv,tv,tv⟩ rfl c72) (⟨tv,Af tv (c_ (Ak ⟨tv,tv,tv⟩ rfl c73) (⟨tv,Fk (Cv rfl tv (IK ⟨[],tv,tv,Tn (kW ?_)⟩)) Co⟩))⟩))⟩))
     obtain ⟨v74,e75,h1⟩:=bl h1
     refine Ce ⟨[(1,.ptr 64 0),(4,.str v74),(5,iV p32)],[(64,Aa a0)],[]⟩ (Be (by subst e75; kernel_rfl)) (Ai (st (Cv rfl tv (st (c_ (Ak t3 rfl tv) (st (Cv rfl tv (Dp ?_))))))))
     obtain rfl:=sj h1
     exact hK1 _ rfl _ ⟨[(1,.ptr 64 0),(4,.str v74),(5,iV (wi (p32+1)))],[(64,Aa a0)],[]⟩ (Be (by kernel_rfl)) rfl
    ·replace h1:=ip GQ h1
     refine Ai (st (Et tv (Dp ?_)))
     exact J76 _ ⟨[(1,.ptr 64 0),(4,.str p31),(5,iV p32),(6,.ptr 384 0),(7,.str ([113,117,101,117,101,100,32]:List UInt8))],[(64,Aa a0),(384,Aj y57)],[]⟩ (Be (by kernel_rfl)) ⟨_,rfl,h1⟩
    ·replace h1:=Xa GQ h1
     refine Tw ?_
     exact J76 _ ⟨[(1,.ptr 64 0),(4,.str p31),(5,iV p32),(6,.ptr 384 0),(7,.str ([108,101,97,115,101,32]:List UInt8))],[(64,Aa a0),(384,Aj y57)],[]⟩ (Be (by kernel_rfl)) ⟨_,rfl,h1⟩
   ·replace h1:=Xa GN h1
    obtain rfl:=sj h1
    obtain rfl:=hx1 _ rfl
    refine Ow rfl ?_
    exact hE1 _ ⟨[(1,.ptr 64 0),(4,.str p31)],[(64,Aa a0)],[]⟩ (Be (by kernel_rfl)) ⟨_,rfl,rfl⟩
 ·replace h0:=ip c158 h0
  refine Ai (st (Et tv (Dp ?_)))
  exact J157 _ ⟨[(1,.ptr 64 0),(3,.str ([115,101,97,108,101,100]:List UInt8))],[(64,Aa a0)],[]⟩ (Be (by kernel_rfl)) ⟨_,rfl,h0⟩
 ·replace h0:=Xa c158 h0
  refine Tw ?_
  exact J157 _ ⟨[(1,.ptr 64 0),(3,.str ([111,112,101,110]:List UInt8))],[(64,Aa a0)],[]⟩ (Be (by kernel_rfl)) ⟨_,rfl,h0⟩

/- loop.example/g00149/spec.VaultText -/
def qK:=[X_ 1 0,k_ 2 (.str []),i_ 3 0]
def qL:=[L_ 4 1 6,q_ 5 46 [.t 4],N_ 6 5]
def qM:=[k_ 2 (.str []),i_ 3 1]
def qN:=[L_ 7 1 6,q_ 8 479 [.t 7],m_ 2 8,i_ 3 0]
def ID:Dn:=⟨1,9,[.t 2,.t 3],sr qK (.seq (sr qL (iz 6 (rr qM))) (rr qN))⟩
def vO (D:At):Prop:=∀a0 r,sP a0=some r→D 477 ⟨[.agg (Aa a0)],[]⟩ ⟨.tup [.str r.1,iV r.2],[],[]⟩
theorem LJ (H46:LX C) (H479:vQ C):vO (FO C ID):=by
 intro a0 r h0
 refine f0 (Ar (Ai (st (Xi rfl tv rfl (st (Et tv (st (Et tv (Dp (Ce ⟨[(1,.ptr 64 0)],[(64,Aa a0)],[]⟩ (Be (by kernel_rfl)) (Ar (Ar (Ai (st (c_ (v:=.agg (Aa a0)) (Ak ⟨tv,tv⟩ rfl (nl rfl)) ?_)))))))))))))))
 obtain ⟨r1,e2,h0⟩:=bnd h0
 refine st (Bh (r:=.bool r1) false (H46 a0 r1 e2) ⟨tv,tv⟩ rfl rfl (fun _=>rfl) (st (c_ (Ak ⟨tv,tv⟩ rfl tv) (Dp (Ce ⟨[(1,.ptr 64 0),(6,.bool (!r1))],[(64,Aa a0)],[]⟩ (Be (by kernel_rfl)) (Ka (cb:=(!r1)) rfl (fun c3=>?_) (fun c3=>?_)))))))
 ·replace h0:=ip c3 h0
  refine Ar (Ai (st (Et tv (st (Et tv (Dp (Ce ⟨[(2,.str ([]:List UInt8)),(3,iV 1)],[],[]⟩ (Be (by kernel_rfl)) ?_)))))))
  obtain rfl:=sj h0
  exact Wn (Jo rfl rfl rfl rfl rfl tv)
 ·replace h0:=Xa c3 h0
  refine Tw (Ce ⟨[(1,.ptr 64 0)],[(64,Aa a0)],[]⟩ (Be (by kernel_rfl)) (Ar (Ai (st (c_ (v:=.agg (Aa a0)) (Ak ⟨tv,tv⟩ rfl (nl rfl)) ?_)))))
  obtain ⟨r4,e5,h0⟩:=bnd h0
  refine st (Bh (r:=.str r4) false (H479 a0 r4 e5) ⟨tv,tv⟩ rfl rfl (fun _=>rfl) (st (Cv rfl tv (st (Et tv (Dp (Ce ⟨[(2,.str r4),(3,iV 0)],[],[]⟩ (Be (by kernel_rfl)) ?_)))))))
  obtain rfl:=sj h0
  exact Wn (Jo rfl rfl rfl rfl rfl tv)

/- loop.example/g00149/impl.within -/
def BG:=[k_ 6 (.bool false)]
def BH:=[m_ 7 1,m_ 8 0,b_ .leq 9 7 8,m_ 10 9,mT 10 11 0,mT 10 12 2,pT 10 13 (.bin .leq (.t 11) (.t 12)),pa 14 10 13,m_ 6 14]
def fR:Dn:=⟨3,15,[.t 6],sr BG (rr BH)⟩
def HE (D:At):Prop:=∀a0 a1 a2 r,GV a0 a1 a2=some r→D 63 ⟨[iV a0,iV a1,iV a2],[]⟩ ⟨.bool r,[],[]⟩
theorem PH:HE (FO C fR):=by
 intro a0 a1 a2 r h0
 refine f0 (Bj 3 [(0,iV a0),(1,iV a1),(2,iV a2)] [] (uF 9 (Ai (o_ ?_))))
 obtain rfl:=sj h0
 exact De 3

/- loop.example/g00149/impl.isSerial -/
def AI:=[k_ 2 (.bool false)]
def AJ:=[m_ 3 0,q_ 4 63 [.t 3,.c (iV 1),.c (iV 1000000)],m_ 2 4]
def GO:Dn:=⟨1,5,[.t 2],sr AI (rr AJ)⟩
def MD (D:At):Prop:=∀a0 r,KD a0=some r→D 58 ⟨[iV a0],[]⟩ ⟨.bool r,[],[]⟩
theorem PC (H63:HE C):MD (FO C GO):=by
 intro a0 r h0
 refine f0 (Bj 3 [(0,iV a0)] [] (Ar (Ai (st (Cv rfl tv (bb h0 fun r1 e2 h0=>Tm (H63 a0 1 1000000 r1 e2) (o_ ?_)))))))
 obtain rfl:=sj h0
 exact De 3

/- loop.example/g00149/impl.rises -/
def AL:=[k_ 6 (.bool false)]
def AM:=[m_ 9 0,n_ 10 9,i_ 11 0]
def AN:=[b_ .lss 12 11 10]
def AO:=[m_ 13 11,x_ 14 9 11 1,l_ 15 14 1,m_ 7 13,m_ 8 15]
def AP:List Bg:=[m_ 16 8,m_ 17 1,m_ 18 2,q_ 19 63 [.t 16,.t 17,.t 18],N_ 20 19,m_ 21 20,mF 21 22 7,pF 21 23 (.bin .gtr (.t 22) (.c (iV 0))),mF 21 24 23,mT 24 25 0,mT 24 26 7,pT 24 27 (.bin .sub (.t 26) (.c (iV 1))),xT 24 28 25 27 1,lT 24 29 28 1 false,mT 24 30 8,pT 24 31 (.bin .geq (.t 29) (.t 30)),⟨some 32,.pick (.t 24) (.t 31) (.c (.bool false)),some (21,false)⟩,po 33 21 32]
def AQ:=[k_ 6 (.bool false)]
def AR:=[B_ .add 34 11 1,m_ 11 34]
def AK:IR:=(sr AN (.seq (.ite (.t 12) .skip (.exit 0)) (.seq (.block 1 (sr AO (sr AP (iz 33 (rr AQ))))) (.reg AR))))
def AS:=[k_ 6 (.bool true)]
def NV:Dn:=⟨3,35,[.t 6],sr AL (.seq (sr AM (Om 0 AK)) (rr AS))⟩
def JK (D:At):Prop:=∀a0 a1 a2 r,FN a0 a1 a2=some r→D 59 ⟨[lI a0,iV a1,iV a2],[]⟩ ⟨.bool r,[],[]⟩
abbrev Xy:=fun x0 x1 x2 (r:List (Nat×V))=>(0,lI x0)::(1,iV x1)::(2,iV x2)::(9,lI x0)::r
theorem PD (H63:HE C):JK (FO C NV):=by
 intro a0 a1 a2 r h0
 refine f0 (Bj 3 [(0,lI a0),(1,iV a1),(2,iV a2)] [] (Cd 3 (Ai (Mc rfl (o_ (Bj 2 (Xy a0 a1 a2 [(10,iV (a0.length:Int)),(11,iV 0)]) [] (Bp (bb h0 fun r33 e34 h0=>Dd (R:=(fun S=>.inl ()=r33∧S=⟨[],[],[]⟩)) (Rx a0 a1 a2) (fun s S=>match s with | p11=>S=⟨Xy a0 a1 a2 [(10,iV (a0.length:Int)),(11,iV p11)],[],[]⟩) e34 _ (Be (by kernel_rfl)) rfl 0 (fun _=>rfl) ?_ ?_))))))))
 ·rintro S _ hfg ⟨rfl,rfl⟩
  refine Ce _ hfg ?_
  obtain rfl:=sj h0
  exact De 4
 ·rintro p11 o1 _ K1 rfl h1 hx1 hK1 hE1 hR1
  refine Bj 3 (Xy a0 a1 a2 [(10,iV (a0.length:Int)),(11,iV p11),(12,.bool (decide (p11<(a0.length:Int))))]) [] (Ar (Ej h1 (fun c23 h1=>?_) (fun c23 h1=>?_)))
  ·refine Cd 6 (Ai (bb h1 fun y24 e25 h1=>Xb rfl rfl e25 (o_ (Bj 4 (Xy a0 a1 a2 [(7,iV p11),(8,iV y24),(10,iV (a0.length:Int)),(11,iV p11)]) [] (Cd 4 (Ai (bb h1 fun r26 e27 h1=>Tm (H63 y24 a1 a2 r26 e27) (o_ (Cd 2 (Ai (st (Bt (u:=iV p11) rfl (fun hg=>(Kb (v:=iV p11) rfl tv)) (st (Bt (u:=.bool (decide (p11>0))) rfl (fun hg=>(Ak ⟨(fun _=>hg),tv,tv⟩ rfl tv)) (st (Bt (u:=.bool (decide (p11>0))) rfl (fun hg=>(Kb (v:=.may ((!r26)==false) (.bool (decide (p11>0)))) rfl (fun _=>hg))) (st (Bt (u:=lI a0) rfl (fun hg=>(Kb (v:=lI a0) rfl tv)) (st (Bt (u:=iV p11) rfl (fun hg=>(Kb (v:=iV p11) rfl tv)) (st (Bt (u:=iV (wi (p11-1))) rfl (fun hg=>(Ak ⟨(fun _=>hg),tv,tv⟩ rfl tv)) (bb h1 fun y28 e29 h1=>st (Bt (u:=.iptr [iV y28]) rfl (fun hg=>(Hr (e:=eI) (y:=y28) rfl rfl (fun _=>hg) rfl rfl (fun _=>hg) (ip hg e29))) (st (Bt (u:=iV y28) rfl (fun hg=>(Ak ⟨(fun _=>hg),tv⟩ rfl (nl rfl))) (st (Bt (u:=iV y24) rfl (fun hg=>(Kb (v:=iV y24) rfl tv)) (st (Bt (u:=.bool (decide (y28≥y24))) rfl (fun hg=>(Ak ⟨(fun _=>hg),(fun _=>hg),tv⟩ rfl tv)) (st (Pe (u:=.bool (bif (decide (p11>0)) then (decide (y28≥y24)) else false)) rfl (fun hg=>Ul rfl rfl (fun _=>hg) rfl rfl (fun h=>Ea hg (kQ h)) tv rfl) (st (Ds rfl rfl rfl tv (fun h=>Um h) rfl (Dp (bv h1 fun v30 e31 h1=>Ce ⟨Xy a0 a1 a2 [(10,iV (a0.length:Int)),(11,iV p11),(33,.bool v30)],[],[]⟩ (Be (by subst e31; kernel_rfl)) (Ej h1 (fun c32 h1=>?_) (fun c32 h1=>?_))))))))))))))))))))))))))))))))))))))
   ·obtain rfl:=sj h1
    obtain rfl:=hx1 _ rfl
    obtain rfl:=sj h0
    exact dC 4 hR1
   ·refine Cd 6 ?_
    obtain rfl:=sj h1
    exact kn hK1 rfl rfl
  ·obtain rfl:=sj h1
   obtain rfl:=hx1 _ rfl
   refine Ow rfl ?_
   exact jn hE1 ⟨rfl,rfl⟩

/- (loop.example/g00149/impl.Table).ids -/
def AU:List Bg:=[X_ 1 0,⟨some 2,.nilS 1,none⟩]
def AV:List Bg:=[⟨some 3,.nilS 1,none⟩]
def AW:=[f_ 6 1 2,l_ 7 6 1,n_ 8 7,i_ 9 0]
def AX:=[b_ .lss 10 9 8]
def AY:=[x_ 11 7 9 4,L_ 12 11 4,a_ 5 [iV 0,iV 0,iV 0,.bool false],s_ 5 12 4]
def AZ:List Bg:=[m_ 13 3,f_ 14 5 0,l_ 15 14 1,⟨some 16,.mkS 1 [iV 0] 1 [(0,.t 15)],none⟩,⟨some 17,.app 1 8 (.t 13) (.t 16),none⟩,m_ 3 17]
def BA:=[B_ .add 18 9 1,m_ 9 18]
def AT:IR:=(sr AX (.seq (.ite (.t 10) .skip (.exit 0)) (.seq (.block 1 (sr AY (.reg AZ))) (.reg BA))))
def BB:=[m_ 19 3,m_ 2 19]
def NW:Dn:=⟨1,20,[.t 2],sr AU (sr AV (.seq (sr AW (Om 0 AT)) (rr BB)))⟩
def JL (D:At):Prop:=∀a0 r,IN a0=some r→D 60 ⟨[.agg (Ay a0)],[]⟩ ⟨oI 0 r,[],[]⟩
theorem PE:JL (FO C NW):=by
 intro a0 r h0
 refine f0 (Bj 8 [(1,.ptr 64 0),(3,.own 192 0 1 ([].map eI))] [(64,Ay a0)] (Cd 4 (Ai (Mc rfl (o_ (Bj 2 [(3,.own 192 0 1 ([].map eI)),(7,Al a0.Ae),(8,iV (a0.Ae.length:Int)),(9,iV 0)] [] (Bp (bb h0 fun r18 e19 h0=>Dd (R:=(fun S=>∃p13:List Int,p13=r18∧S=⟨[(3,oI 192 p13)],[],[]⟩)) (Ry a0) (fun s S=>match s with | (p5,p6)=>S=⟨[(3,oI 192 p5),(7,Al a0.Ae),(8,iV (a0.Ae.length:Int)),(9,iV p6)],[],[]⟩) e19 _ (Be (by kernel_rfl)) rfl 0 (fun _=>rfl) ?_ ?_))))))))
 ·rintro S _ hfg ⟨p13,rfl,rfl⟩
  refine Ce _ hfg ?_
  obtain rfl:=sj h0
  exact De 5
 ·rintro ⟨p5,p6⟩ o1 _ K1 rfl h1 hx1 hK1 hE1 hR1
  refine Bj 3 [(3,oI 192 p5),(7,Al a0.Ae),(8,iV (a0.Ae.length:Int)),(9,iV p6),(10,.bool (decide (p6<(a0.Ae.length:Int))))] [] (Ar (Ej h1 (fun c14 h1=>?_) (fun c14 h1=>?_)))
  ·refine kS 5 (Ai (bb h1 fun y15 e16 h1=>Xb rfl rfl e16 (o_ (Bj 4 [(3,oI 192 p5),(5,.ptr 320 0),(7,Al a0.Ae),(8,iV (a0.Ae.length:Int)),(9,iV p6)] [(320,Aj y15)] (Cd 4 (Ai (gg h1 fun kO h1=>st (vV (e:=eI) (l0:=p5) (l1:=([y15.id]:List Int)) rfl rfl tv rfl (by decide) kO (o_ (Bj 3 [(3,oI 192 (p5++([y15.id]:List Int))),(7,Al a0.Ae),(8,iV (a0.Ae.length:Int)),(9,iV p6)] [] (Cd 3 ?_)))))))))))
   obtain rfl:=sj h1
   exact kn hK1 rfl rfl
  ·obtain rfl:=sj h1
   obtain rfl:=hx1 _ rfl
   refine Ow rfl ?_
   exact jn hE1 ⟨_,rfl,rfl⟩

/- slices.IndexFunc[[]loop.example/g00149/impl.Lease,loop.example/g00149/impl.Lease] -/
def lW:=[i_ 4 0]
def lX:=[m_ 6 0,n_ 7 6,i_ 8 0]
def lY:=[b_ .lss 9 8 7]
def lZ:=[m_ 10 8,m_ 5 10]
def mA:List Bg:=[m_ 11 1,m_ 12 0,m_ 13 5,x_ 14 12 13 4,L_ 15 14 4,⟨some 16,.callv (.t 11) [.t 15],none⟩]
def mB:=[m_ 17 5,m_ 4 17]
def mC:=[B_ .add 18 8 1,m_ 8 18]
def lV:IR:=(sr lY (.seq (.ite (.t 9) .skip (.exit 0)) (.seq (.block 1 (sr lZ (sr mA (iz 16 (rr mB))))) (.reg mC))))
def mD:=[i_ 4 (-1)]
def HO:Dn:=⟨2,19,[.t 4],sr lW (.seq (sr lX (Om 0 lV)) (rr mD))⟩
def uZ (C:At) (D:At:=C):Prop:=∀(a0:List Ah) (f1:Nat) (k1:List V) (is1:Ah→Option Bool) (hs1:Rc k1) (hf1:∀(x0:Ah) r,is1 x0=some r→C f1 ⟨.agg (Aj x0)::k1,[]⟩ ⟨.bool r,[],[]⟩) (r:Int),gI a0 is1=some r→D 108 ⟨[Al a0,.clo f1 k1],[]⟩ ⟨iV r,[],[]⟩
theorem KR:uZ C (FO C HO):=by
 intro a0 f1 k1 is1 hs1 hf1 r h0
 refine f0 (Bj 3 [(0,Al a0),(1,.clo f1 k1)] [] (Cd 3 (Ai (Mc rfl (o_ (Bj 2 [(0,Al a0),(1,.clo f1 k1),(7,iV (a0.length:Int)),(8,iV 0)] [] (Bp (bb h0 fun r21 e22 h0=>Dd (R:=(fun S=>.inl ()=r21∧S=⟨[],[],[]⟩)) (Ls a0 is1) (fun s S=>match s with | p7=>S=⟨[(0,Al a0),(1,.clo f1 k1),(7,iV (a0.length:Int)),(8,iV p7)],[],[]⟩) e22 _ (Be (by kernel_rfl)) rfl 0 (fun _=>rfl) ?_ ?_))))))))
 ·rintro S _ hfg ⟨rfl,rfl⟩
  refine Ce _ hfg ?_
  obtain rfl:=sj h0
  exact De 4
 ·rintro p7 o1 _ K1 rfl h1 hx1 hK1 hE1 hR1
  refine Bj 3 [(0,Al a0),(1,.clo f1 k1),(7,iV (a0.length:Int)),(8,iV p7),(9,.bool (decide (p7<(a0.length:Int))))] [] (Ar (Ej h1 (fun c15 h1=>?_) (fun c15 h1=>?_)))
  ·refine Bj 8 [(0,Al a0),(1,.clo f1 k1),(5,iV p7),(7,iV (a0.length:Int)),(8,iV p7)] [] (Cd 4 (Ai (bb h1 fun y16 e17 h1=>Xb rfl rfl e17 (st (c_ (v:=.agg (Aj y16)) (Ak ⟨tv,tv⟩ rfl (nl rfl)) (bb h1 fun r18 e19 h1=>st (Nl (r:=.bool r18) rfl false (hf1 _ r18 e19) ⟨tv,tv⟩ (Ea rfl hs1.2.2.1) (Gq rfl (hs1.2.1 _ _ _ _ _)) (fun _=>rfl) (o_ (Bj 1 [(0,Al a0),(1,.clo f1 k1),(5,iV p7),(7,iV (a0.length:Int)),(8,iV p7),(16,.bool r18)] [] (Ej h1 (fun kP h1=>?_) (fun kP h1=>?_)))))))))))
   ·obtain rfl:=sj h1
    obtain rfl:=hx1 _ rfl
    obtain rfl:=sj h0
    exact dC 5 hR1
   ·refine Cd 6 ?_
    obtain rfl:=sj h1
    exact kn hK1 rfl rfl
  ·obtain rfl:=sj h1
   obtain rfl:=hx1 _ rfl
   refine Ow rfl ?_
   exact jn hE1 ⟨rfl,rfl⟩

/- slices.ContainsFunc[[]loop.example/g00149/impl.Lease,loop.example/g00149/impl.Lease] -/
def lE:=[k_ 4 (.bool false)]
def lG:=[m_ 5 0,m_ 6 1,q_ 7 108 [.t 5,.t 6],B_ .geq 8 7 0,m_ 4 8]
def HL:Dn:=⟨2,9,[.t 4],sr lE (rr lG)⟩
def uW (C:At) (D:At:=C):Prop:=∀(a0:List Ah) (f1:Nat) (k1:List V) (is1:Ah→Option Bool) (hs1:Rc k1) (hf1:∀(x0:Ah) r,is1 x0=some r→C f1 ⟨.agg (Aj x0)::k1,[]⟩ ⟨.bool r,[],[]⟩) (r:Bool),FA a0 is1=some r→D 105 ⟨[Al a0,.clo f1 k1],[]⟩ ⟨.bool r,[],[]⟩
theorem KO (H108:uZ C):uW C (FO C HL):=by
 intro a0 f1 k1 is1 hs1 hf1 r h0
 refine f0 (Bj 3 [(0,Al a0),(1,.clo f1 k1)] [] (Cd 3 (Ai (bb h0 fun r1 e2 h0=>st (Bh (r:=iV r1) false (H108 a0 f1 k1 is1 hs1 hf1 r1 e2) ⟨tv,tv,tv⟩ rfl (Gq rfl (Gq (fX hs1) rfl)) (fun _=>rfl) (o_ ?_))))))
 obtain rfl:=sj h0
 exact De 4

/- loop.example/g00149/impl.areAll[loop.example/g00149/impl.Lease]$1 -/
def lH:=[X_ 2 0,k_ 3 (.bool false)]
def lJ:List Bg:=[l_ 4 1 1,L_ 5 2 4,⟨some 6,.callv (.t 4) [.t 5],none⟩,N_ 7 6,m_ 3 7]
def HM:Dn:=⟨2,8,[.t 3],sr lH (rr lJ)⟩
def uX (C:At) (D:At:=C):Prop:=∀(a0:Ah) (f1:Nat) (k1:List V) (is1:Ah→Option Bool) (hs1:Rc k1) (hf1:∀(x0:Ah) r,is1 x0=some r→C f1 ⟨.agg (Aj x0)::k1,[]⟩ ⟨.bool r,[],[]⟩) (r:Bool),gH a0 is1=some r→D 106 ⟨[.agg (Aj a0),.iptr [.clo f1 k1]],[]⟩ ⟨.bool r,[],[]⟩
theorem KP:uX C (FO C HM):=by
 intro a0 f1 k1 is1 hs1 hf1 r h0
 refine f0 (Bj 4 [(1,.iptr [.clo f1 k1]),(2,.ptr 128 0)] [(128,Aj a0)] (Cd 3 (Ai (bb h0 fun r1 e2 h0=>st (Nl (r:=.bool r1) rfl false (hf1 _ r1 e2) ⟨tv,tv⟩ (Ea rfl hs1.2.2.1) (Gq rfl (hs1.2.1 _ _ _ _ _)) (fun _=>rfl) (o_ ?_))))))
 obtain rfl:=sj h0
 exact De 4

/- loop.example/g00149/impl.areAll[loop.example/g00149/impl.Lease] -/
def BC:=[X_ 3 1,k_ 4 (.bool false)]
def BD:=[m_ 5 0,iQ 6 (.fn 106 [.t 3]),q_ 7 105 [.t 5,.t 6],N_ 8 7,m_ 4 8]
def NX:Dn:=⟨2,9,[.t 4],sr BC (rr BD)⟩
def ME (C:At) (D:At:=C):Prop:=∀(a0:List Ah) (f1:Nat) (k1:List V) (is1:Ah→Option Bool) (hs1:Rc k1) (hf1:∀(x0:Ah) r,is1 x0=some r→C f1 ⟨.agg (Aj x0)::k1,[]⟩ ⟨.bool r,[],[]⟩) (r:Bool),IP a0 is1=some r→D 61 ⟨[Al a0,.clo f1 k1],[]⟩ ⟨.bool r,[],[]⟩
theorem PF (H105:uW C) (H106:uX C):ME C (FO C NX):=by
 intro a0 f1 k1 is1 hs1 hf1 r h0
 refine f0 (Ar (Ai (st (Xi (uC hs1) tv rfl (o_ (Bj 2 [(0,Al a0),(3,.ptr 192 0)] [(192,[.clo f1 k1])] (Cd 3 (Ai (bb h0 fun r1 e2 h0=>st (Bh (r:=.bool r1) false (H105 a0 106 [.iptr [.clo f1 k1]] (fun z106_0=>gH z106_0 is1) (⟨fun _ _ _ _ _=>rfl,fun _ _ _ _ _=>rfl,rfl,fun _ _ _ n=>by cases n<;>rfl,fun _=>rfl⟩) (fun z106_0 r h=>H106 z106_0 f1 k1 is1 hs1 hf1 r h) r1 e2) ⟨tv,tv,tv⟩ rfl (Gq rfl (Gq (congrArg (fun z=>V.clo 106 [.iptr [.clo f1 z]]) (hs1.2.2.2.1 _ _ _ _)) rfl)) (fun _=>rfl) (o_ ?_)))))))))))
 obtain rfl:=sj h0
 exact De 4

/- loop.example/g00149/impl.TableOK$1 -/
def BE:=[X_ 2 0,k_ 3 (.bool false)]
def BF:List Bg:=[f_ 4 2 1,l_ 5 4 1,f_ 6 2 2,l_ 7 6 1,q_ 8 63 [.t 5,.c (iV 0),.t 7],m_ 9 8,fT 9 10 2 3,lT 9 11 10 1 false,mT 9 12 11,fF 12 13 2 1,lF 12 14 13 1 false,fF 12 15 1 0,lF 12 16 15 1 false,pF 12 17 (.bin .gtr (.t 14) (.t 16)),⟨some 18,.pick (.t 12) (.c (.bool true)) (.t 17),some (9,true)⟩,pa 19 9 18,m_ 3 19]
def NY:Dn:=⟨2,20,[.t 3],sr BE (rr BF)⟩
def MF (D:At):Prop:=∀a0 a1 r,GU a0 a1=some r→D 62 ⟨[.agg (Aj a0),.iptr (Ay a1)],[]⟩ ⟨.bool r,[],[]⟩
theorem PG (H63:HE C):MF (FO C NY):=by
 intro a0 a1 r h0
 refine f0 (Bj 4 [(1,.iptr (Ay a1)),(2,.ptr 128 0)] [(128,Aj a0)] (Cd 5 (Ai (bb h0 fun r1 e2 h0=>Tm (H63 a0.Bl 0 a0.cap r1 e2) (o_ (uF 9 (Ai (st (Pe (u:=.bool (bif a0.Cs then true else (decide (a0.Bl>a1.clock)))) rfl (fun hg=>Ul rfl rfl (fun _=>hg) rfl rfl tv (fun h=>Ea hg (Um h)) rfl) (o_ (uF 3 (bv h0 fun v3 e4 h0=>Ce ⟨[(3,.bool v3)],[],[]⟩ (Be (by subst e4; kernel_rfl)) ?_))))))))))))
 obtain rfl:=sj h0
 exact Wn (Jo rfl rfl rfl rfl rfl tv)

/- loop.example/g00149/impl.TableOK -/
def wV:=[X_ 1 0,k_ 2 (.bool false)]
def wW:=tk [f_ 3 1 0,l_ 4 3 1,B_ .geq 5 4 0,m_ 6 5,fT 6 7 1 1,lT 6 8 7 1 false] (.alt [] ⟨some 9,.call 58 [.t 8],some (6,true)⟩ (tk [pa 10 6 9,m_ 11 10,fT 11 12 1 2,lT 11 13 12 1 false,pT 11 14 (.len (.t 13)),pT 11 15 (.bin .leq (.t 14) (.c (iV 40))),pa 16 11 15,m_ 17 16,lT 17 18 1 3 true,fT 17 20 1 1,lT 17 21 20 1 false,pT 17 22 (.bin .sub (.t 21) (.c (iV 1)))] (.alt [pT 17 22 (.bin .sub (.t 21) (.c (iV 1))),lT 17 21 20 1 false,fT 17 20 1 1] ⟨some 19,.call 60 [.t 18],some (17,true)⟩ (.alt [] ⟨some 23,.call 59 [.t 19,.c (iV 1),.t 22],some (17,true)⟩ (tk [pa 24 17 23,m_ 25 24,fT 25 26 1 2,lT 25 27 26 1 false,pT 25 28 (.fn 62 [.t 1])] (.alt [] ⟨some 29,.call 61 [.t 27,.t 28],some (25,true)⟩ (tk [pa 30 25 29,m_ 2 30] .fin) .stop)) .stop) .stop)) .stop)
def kP:Dn:=⟨1,31,[.t 2],sr wV (sd wW .ret)⟩
def LS (D:At):Prop:=∀a0 r,JT a0=some r→D 20 ⟨[.agg (Ay a0)],[]⟩ ⟨.bool r,[],[]⟩
theorem OQ (H58:MD C) (H59:JK C) (H60:JL C) (H61:ME C) (H62:MF C):LS (FO C kP):=by
 intro a0 r h0
 refine f0 (Bj 4 [(1,.ptr 64 0)] [(64,Ay a0)] (Ar (bb h0 fun r1 e2 h0=>bb h0 fun r3 e4 h0=>bb h0 fun r5 e6 h0=>bb h0 fun r7 e8 h0=>Cd 4 (Cz (Af tv (Bt (u:=.ptr 64 1) rfl (fun hg=>(Ak ⟨tv,tv⟩ rfl tv)) (⟨tv,Af tv (Bt (u:=iV a0.next) rfl (fun hg=>(Ak ⟨(fun _=>hg),tv⟩ rfl (nl rfl))) (⟨tv,Fk (Ga (r:=.bool r1) rfl false (fun hg=>H58 a0.next r1 (ip hg e2)) ⟨(fun hg=>hg),tv⟩ (fun _=>rfl) (fun _=>rfl) (fun _=>rfl) (fun h=>nomatch h) (dw [(1,.ptr 64 0),(6,.bool (decide (a0.clock≥0))),(9,.may ((decide (a0.clock≥0))==true) (.bool r1))] [(64,Ay a0)] tv (Af tv (Ds rfl rfl rfl (fun h=>kQ h) tv rfl (⟨tv,Af tv (Cv rfl tv (⟨tv,Af tv (Bt (u:=.ptr 64 2) rfl (fun hg=>(Ak ⟨tv,tv⟩ rfl tv)) (⟨tv,Af tv (Bt (u:=Al a0.Ae) rfl (fun hg=>(Ak ⟨(fun _=>hg),tv⟩ rfl (nl rfl))) (⟨tv,Af tv (Bt (u:=iV (a0.Ae.length:Int)) rfl (fun hg=>(Jv (e:=Aj) (l0:=a0.Ae) rfl rfl (fun _=>hg))) (⟨tv,Af tv (Bt (u:=.bool (decide ((a0.Ae.length:Int)≤40))) rfl (fun hg=>(Ak ⟨(fun _=>hg),tv,tv⟩ rfl tv)) (⟨tv,Af tv (Ds rfl rfl rfl (fun h=>kQ h) tv rfl (⟨tv,Af tv (Cv rfl tv (⟨tv,?_⟩))⟩))⟩))⟩))⟩))⟩))⟩))⟩))))) Co⟩))⟩)))))))
 refine Af tv (Bt (u:=.agg (Ay a0)) rfl (fun hg=>(Ak ⟨tv,tv⟩ rfl (nl rfl))) (⟨tv,Af tv (Bt (u:=.ptr 64 1) rfl (fun hg=>(Ak ⟨tv,tv⟩ rfl tv)) (⟨tv,Af tv (Bt (u:=iV a0.next) rfl (fun hg=>(Ak ⟨(fun _=>hg),tv⟩ rfl (nl rfl))) (⟨tv,Af tv (Bt (u:=iV (wi (a0.next-1))) rfl (fun hg=>(Ak ⟨(fun _=>hg),tv,tv⟩ rfl tv)) (⟨tv,Fk (Ga (r:=oI 0 r3) rfl false (fun hg=>H60 a0 r3 (ip hg e4)) ⟨(fun hg=>hg),tv⟩ (fun _=>rfl) (fun _=>rfl) (fun _=>(af rfl)) (fun h=>nomatch h) (dw [(1,.ptr 64 0),(17,.bool (bif (bif (decide (a0.clock≥0)) then r1 else false) then (decide ((a0.Ae.length:Int)≤40)) else false)),(19,.may ((bif (bif (decide (a0.clock≥0)) then r1 else false) then (decide ((a0.Ae.length:Int)≤40)) else false)==true) (lI r3)),(20,.may ((bif (bif (decide (a0.clock≥0)) then r1 else false) then (decide ((a0.Ae.length:Int)≤40)) else false)==true) (.ptr 64 1)),(21,.may ((bif (bif (decide (a0.clock≥0)) then r1 else false) then (decide ((a0.Ae.length:Int)≤40)) else false)==true) (iV a0.next)),(22,.may ((bif (bif (decide (a0.clock≥0)) then r1 else false) then (decide ((a0.Ae.length:Int)≤40)) else false)==true) (iV (wi (a0.next-1))))] [(64,Ay a0)] ⟨⟨.inl tv,Mm (v:=iV (wi (a0.next-1))) rfl (fun hg=>(Ak ⟨(fun _=>hg),tv,tv⟩ rfl tv)) rfl⟩,⟨.inl tv,Mm (v:=iV a0.next) rfl (fun hg=>(Ak ⟨(fun _=>hg),tv⟩ rfl (nl rfl))) rfl⟩,⟨.inl tv,Mm (v:=.ptr 64 1) rfl (fun hg=>(Ak ⟨tv,tv⟩ rfl tv)) rfl⟩,tv⟩ (Fk (Ga (r:=.bool r5) rfl false (fun hg=>H59 r3 1 (wi (a0.next-1)) r5 (ip hg e6)) ⟨(fun hg=>hg),tv,(fun hg=>hg),tv⟩ (fun _=>rfl) (fun _=>rfl) (fun _=>rfl) (fun h=>nomatch h) (dw [(1,.ptr 64 0),(17,.bool (bif (bif (decide (a0.clock≥0)) then r1 else false) then (decide ((a0.Ae.length:Int)≤40)) else false)),(23,.may ((bif (bif (decide (a0.clock≥0)) then r1 else false) then (decide ((a0.Ae.length:Int)≤40)) else false)==true) (.bool r5))] [(64,Ay a0)] tv (Af tv (Ds rfl rfl rfl (fun h=>kQ h) tv rfl (⟨tv,Af tv (Cv rfl tv (⟨tv,Af tv (Bt (u:=.ptr 64 2) rfl (fun hg=>(Ak ⟨tv,tv⟩ rfl tv)) (⟨tv,Af tv (Bt (u:=Al a0.Ae) rfl (fun hg=>(Ak ⟨(fun _=>hg),tv⟩ rfl (nl rfl))) (⟨tv,Af tv (Bt (u:=.clo 62 [.ptr 64 0]) rfl (fun hg=>(Ak ⟨tv,tv⟩ rfl rfl)) (⟨tv,Fk (Ga (r:=.bool r7) rfl false (fun hg=>H61 a0.Ae 62 [.iptr (Ay a0)] (fun z62_0=>GU z62_0 a0) (⟨fun _ _ _ _ _=>rfl,fun _ _ _ _ _=>rfl,rfl,fun _ _ _ n=>by cases n<;>rfl,fun _=>rfl⟩) (fun z62_0 r h=>H62 z62_0 a0 r h) r7 (ip hg e8)) ⟨(fun hg=>hg),(fun hg=>hg),tv⟩ (fun _=>rfl) (fun _=>rfl) (fun _=>rfl) (fun h=>nomatch h) (dw [(25,.bool (bif (bif (bif (decide (a0.clock≥0)) then r1 else false) then (decide ((a0.Ae.length:Int)≤40)) else false) then r5 else false)),(29,.may ((bif (bif (bif (decide (a0.clock≥0)) then r1 else false) then (decide ((a0.Ae.length:Int)≤40)) else false) then r5 else false)==true) (.bool r7))] [] tv (Af tv (Ds rfl rfl rfl (fun h=>kQ h) tv rfl (⟨tv,d_ (Cd 2 (bv h0 fun v9 e10 h0=>Ce ⟨[(2,.bool v9)],[],[]⟩ (Be (by subst e10; kernel_rfl)) ?_))⟩))))) Co⟩))⟩))⟩))⟩))⟩))))) Co))) Co⟩))⟩))⟩))⟩))
 obtain rfl:=sj h0
 exact Wn (Jo rfl rfl rfl rfl rfl tv)

/- loop.example/g00149/impl.leases -/
def DM:List Bg:=[⟨some 2,.nilS 1,none⟩]
def DN:List Bg:=[⟨some 3,.nilS 1,none⟩]
def DO:=[m_ 6 0,n_ 7 6,i_ 8 0]
def DQ:=[b_ .lss 9 8 7]
def DR:=[x_ 10 6 8 2,L_ 11 10 2,a_ 5 [iV 0,.bool false],s_ 5 11 2]
def DS:List Bg:=[m_ 12 3,f_ 13 5 0,l_ 14 13 1,⟨some 15,.mkS 1 [iV 0] 1 [(0,.t 14)],none⟩,⟨some 16,.app 1 8 (.t 12) (.t 15),none⟩,m_ 3 16]
def DT:=[B_ .add 17 8 1,m_ 8 17]
def DL:IR:=(sr DQ (.seq (.ite (.t 9) .skip (.exit 0)) (.seq (.block 1 (sr DR (.reg DS))) (.reg DT))))
def DU:=[m_ 18 3,m_ 2 18]
def OF:Dn:=⟨1,19,[.t 2],sr DM (sr DN (.seq (sr DO (Om 0 DL)) (rr DU)))⟩
def JN (D:At):Prop:=∀a0 r,GX a0=some r→D 95 ⟨[Am a0],[]⟩ ⟨oI 0 r,[],[]⟩
theorem PQ:JN (FO C OF):=by
 intro a0 r h0
 refine f0 (Bj 7 [(0,Am a0),(3,.own 192 0 1 ([].map eI))] [] (Cd 3 (Ai (Mc rfl (o_ (Bj 2 [(3,.own 192 0 1 ([].map eI)),(6,Am a0),(7,iV (a0.length:Int)),(8,iV 0)] [] (Bp (bb h0 fun r18 e19 h0=>Dd (R:=(fun S=>∃p13:List Int,p13=r18∧S=⟨[(3,oI 192 p13)],[],[]⟩)) (Sb a0) (fun s S=>match s with | (p5,p6)=>S=⟨[(3,oI 192 p5),(6,Am a0),(7,iV (a0.length:Int)),(8,iV p6)],[],[]⟩) e19 _ (Be (by kernel_rfl)) rfl 0 (fun _=>rfl) ?_ ?_))))))))
 ·rintro S _ hfg ⟨p13,rfl,rfl⟩
  refine Ce _ hfg ?_
  obtain rfl:=sj h0
  exact De 5
 ·rintro ⟨p5,p6⟩ o1 _ K1 rfl h1 hx1 hK1 hE1 hR1
  refine Bj 3 [(3,oI 192 p5),(6,Am a0),(7,iV (a0.length:Int)),(8,iV p6),(9,.bool (decide (p6<(a0.length:Int))))] [] (Ar (Ej h1 (fun c14 h1=>?_) (fun c14 h1=>?_)))
  ·refine kS 5 (Ai (bb h1 fun y15 e16 h1=>Xb rfl rfl e16 (o_ (Bj 4 [(3,oI 192 p5),(5,.ptr 320 0),(6,Am a0),(7,iV (a0.length:Int)),(8,iV p6)] [(320,Az y15)] (Cd 4 (Ai (gg h1 fun kO h1=>st (vV (e:=eI) (l0:=p5) (l1:=([y15.Ap]:List Int)) rfl rfl tv rfl (by decide) kO (o_ (Bj 3 [(3,oI 192 (p5++([y15.Ap]:List Int))),(6,Am a0),(7,iV (a0.length:Int)),(8,iV p6)] [] (Cd 3 ?_)))))))))))
   obtain rfl:=sj h1
   exact kn hK1 rfl rfl
  ·obtain rfl:=sj h1
   obtain rfl:=hx1 _ rfl
   refine Ow rfl ?_
   exact jn hE1 ⟨_,rfl,rfl⟩

/- slices.Grow[[]int,int] -/
def oZ:List Bg:=[⟨some 4,.nilS 1,none⟩]
def pA:=[m_ 5 1,B_ .lss 6 5 0]
def pB:List Bg:=[⟨some 7,.bad,none⟩,⟨none,.bad,none⟩]
def pC:List Bg:=[m_ 8 1,m_ 9 0,⟨some 10,.cap (.t 9),none⟩,m_ 11 0,n_ 12 11,b_ .sub 13 10 12,b_ .sub 14 8 13,m_ 1 14]
def pD:=[m_ 15 1,B_ .gtr 16 15 0]
def pE:List Bg:=[m_ 17 0,m_ 18 0,⟨some 19,.cap (.t 18),none⟩,⟨some 20,.p (.slice (.t 17) none (some (.t 19)) 1),none⟩,m_ 21 1,⟨some 22,.appz 1 8 [iV 0] (.t 20) (.t 21),none⟩,m_ 23 0,n_ 24 23,⟨some 25,.p (.slice (.t 22) none (some (.t 24)) 1),none⟩,m_ 0 25]
def pG:=[m_ 26 0,m_ 4 26]
def HZ:Dn:=⟨2,27,[.t 4],sr oZ (.seq (sr pA (iz 6 (.reg pB))) (.seq (sr pC (sr pD (iz 16 (.reg pE)))) (rr pG)))⟩
def vL (D:At):Prop:=∀a0 a1 r,sN a0 a1=some r→D 144 ⟨[oI 1024000 a0,iV a1],[]⟩ ⟨oI 0 r,[],[]⟩
theorem LF:vL (FO C HZ):=by
 intro a0 a1 r h0
 refine MU (nl rfl) fun f hf=>?_
 obtain ⟨⟨hb,hl⟩,h0⟩:=If h0
 obtain rfl:=sj h0
 obtain ⟨n,rfl⟩:=Int.eq_ofNat_of_zero_le hb
 have hn:a0.length+n≤17592186044416:=by omega
 have hbyte:(a0.length+n)*8≤140737488355328:=Nat.le_trans (Nat.mul_le_mul_right 8 hn) (by decide)
 obtain ⟨hc1,hc2⟩:=hf 0 1024000 0 1 (a0.map eI) rfl (by decide)
 rw [List.length_map] at hc1
 have hc2:=hc2 rfl
 have w1:wi ((f 0:Int)-(a0.length:Int))=(f 0:Int)-(a0.length:Int):=uT (by omega) (by omega)
 have w2:wi ((n:Int)-((f 0:Int)-(a0.length:Int)))=(n:Int)-((f 0:Int)-(a0.length:Int)):=uT (by omega) (by omega)
 refine Ar (Ai (st (uJ (Dp (Ce ⟨[(0,oI 1024000 a0),(1,iV n)],[],[(0,Dr+(f 0:Int))]⟩ (IM ⟨rfl,rfl,tv⟩ tv ⟨.inl ⟨_,rfl,.inl rfl⟩,tv⟩) (Cd 5 (Ce ⟨[(6,.bool (decide ((n:Int)<0))),(0,oI 1024000 a0),(1,iV n)],[],[(0,Dr+(f 0:Int))]⟩ (IM ⟨rfl,rfl,rfl,tv⟩ tv ⟨.inl ⟨_,rfl,.inl rfl⟩,tv⟩) (Ka (cb:=decide ((n:Int)<0)) rfl (fun h=>absurd (of_decide_eq_true h) (by omega)) (fun _=>(Tw (Ce ⟨[(0,oI 1024000 a0),(1,iV n)],[],[(0,Dr+(f 0:Int))]⟩ (IM ⟨rfl,rfl,tv⟩ tv ⟨.inl ⟨_,rfl,.inl rfl⟩,tv⟩) (Cd 4 (Ai (st (cap_ (e:=eI) (l0:=a0) rfl fun c _ _ hc=>?_)))))))))))))))
 have hcf:(c:Int)=(f 0:Int):=by have:=hc _ rfl (by omega); omega
 refine st (Cv rfl tv (OK rfl (st (c_ (Ak (v:=iV ((f 0:Int)-(a0.length:Int))) ⟨tv,tv,tv⟩ (congrArg (fun z=>some (True,V.int .i64 z)) ((congrArg (fun z=>wi (z-(a0.length:Int))) hcf).trans w1)) tv) (st (c_ (Ak (v:=iV ((n:Int)-((f 0:Int)-(a0.length:Int)))) ⟨tv,tv,tv⟩ (congrArg (fun z=>some (True,V.int .i64 z)) w2) tv) (st (Cv rfl tv (Dp (Ce ⟨[(0,oI 1024000 a0),(1,iV ((n:Int)-((f 0:Int)-(a0.length:Int))))],[],[(0,Dr+(f 0:Int))]⟩ (IM ⟨rfl,rfl,tv⟩ tv ⟨.inl ⟨_,rfl,.inl rfl⟩,tv⟩) (Cd 4 (Ce ⟨[(16,.bool (decide ((n:Int)-((f 0:Int)-(a0.length:Int))>0))),(0,oI 1024000 a0),(1,iV ((n:Int)-((f 0:Int)-(a0.length:Int))))],[],[(0,Dr+(f 0:Int))]⟩ (IM ⟨rfl,rfl,rfl,tv⟩ tv ⟨.inl ⟨_,rfl,.inl rfl⟩,tv⟩) (Ka (cb:=decide ((n:Int)-((f 0:Int)-(a0.length:Int))>0)) rfl (fun hgt=>?_) (fun _=>?_))))))))))))))
 ·have hgt':f 0<a0.length+n:=by have:=of_decide_eq_true hgt; omega
  obtain ⟨m,hm⟩:∃m:Nat,(n:Int)-((f 0:Int)-(a0.length:Int))=(m:Int):=⟨a0.length+n-f 0,by omega⟩
  rw [hm]
  refine Cd 2 (Ai (st (cap_ (e:=eI) (l0:=a0) rfl fun c2 _ _ hc3=>?_)))
  have hcf2:c2=f 0:=by have:=hc3 _ rfl (by omega); omega
  subst hcf2
  refine st (c_ (tH (e:=eI) (l0:=a0) (t:=1024000) (sz:=1) (H:=f 0) (c:=Dr+(f 0:Int)) rfl rfl hc1 (show (0:Nat)<1 by decide) rfl (by rw [Wk]; omega)) (st (Cv rfl tv (st (vW (e:=eo eI 1) (l0:=a0.map some++List.replicate (f 0-a0.length) none) (c:=Dr+(f 0:Int)-0) (t:=1024000) (some (default:Int)) rfl rfl rfl (by decide) (Int.natCast_nonneg _) ?_ rfl (by omega) ?_ ?_)))))
  ·have e1:(a0.map some++List.replicate (f 0-a0.length) none).length+m=a0.length+n:=by simp; omega
   have:=Int.ofNat_le.2 hbyte
   rw [Int.natCast_mul] at this
   rw [←Int.natCast_add,e1]
   exact this
  ·have e1:(a0.map some++List.replicate (f 0-a0.length) none).length=f 0:=by simp; omega
   rw [e1]; omega
  refine st (Cv rfl tv (OK rfl ?_))
  have hk:((a0.map some++List.replicate (f 0-a0.length) none)++List.replicate ((m:Int)).toNat (some (default:Int))).take a0.length=a0.map some:=by
   rw [List.append_assoc,List.take_append_of_le_length (by simp),List.take_of_length_le (by simp)]
  have hlen:a0.length≤((a0.map some++List.replicate (f 0-a0.length) none)++List.replicate ((m:Int)).toNat (some (default:Int))).length:=by simp only [List.length_append,List.length_map]; omega
  generalize (a0.map some++List.replicate (f 0-a0.length) none)++List.replicate ((m:Int)).toNat (some (default:Int))=R at hk hlen
  refine st (c_ (rS (e:=eo eI 1) (y:=a0.map some) rfl rfl tv ⟨tv,tv⟩ rfl rfl (by rw [show (none:Option Int).getD 0=((0:Nat):Int) from rfl]; exact (NE R 0 a0.length (by omega) hlen).trans (congrArg some hk))) (st (Cv rfl tv (Dp ?_))))
  rw [←bB]
  refine Bj 0 [(0,oI 1408 a0)] [] (Cd 5 ?_)
  exact Wn (Jo rfl rfl rfl rfl rfl tv)
 ·refine Tw ?_
  refine Bj 0 [(0,oI 1024000 a0)] [] (Cd 5 ?_)
  exact Wn (Jo rfl rfl rfl rfl rfl tv)


/- slices.Concat[[]int,int] -/
def nR:List Bg:=[⟨some 2,.nilS 1,none⟩]
def nS:=[i_ 3 0]
def nT:=[m_ 9 0,n_ 10 9,i_ 11 0]
def nU:=[b_ .lss 12 11 10]
def nV:=[x_ 13 9 11 1,l_ 14 13 1,m_ 5 14]
def nW:=[m_ 15 3,m_ 16 5,n_ 17 16,b_ .add 18 15 17,m_ 3 18]
def nX:=[m_ 19 3,B_ .lss 20 19 0]
def nY:List Bg:=[⟨some 21,.bad,none⟩,⟨none,.bad,none⟩]
def nZ:=[B_ .add 22 11 1,m_ 11 22]
def nP:IR:=(sr nU (.seq (.ite (.t 12) .skip (.exit 0)) (.seq (.block 1 (sr nV (sr nW (sr nX (iz 20 (.reg nY)))))) (.reg nZ))))
def oA:=[m_ 23 3,q_ 24 144 [.c (.own 1048543 0 1 []),.t 23],m_ 6 24]
def eF:=[m_ 25 0,n_ 26 25,i_ 27 0]
def eG:=[b_ .lss 28 27 26]
def eH:=[x_ 29 25 27 1,l_ 30 29 1,m_ 8 30]
def eJ:List Bg:=[m_ 31 6,m_ 32 8,⟨some 33,.app 1 8 (.t 31) (.t 32),none⟩,m_ 6 33]
def eK:=[B_ .add 34 27 1,m_ 27 34]
def nQ:IR:=(sr eG (.seq (.ite (.t 28) .skip (.exit 2)) (.seq (.block 3 (sr eH (.reg eJ))) (.reg eK))))
def eM:=[m_ 35 6,m_ 2 35]
def HS:Dn:=⟨1,36,[.t 2],sr nR (sr nS (.seq (sr nT (Om 0 nP)) (sr oA (.seq (sr eF (Om 2 nQ)) (rr eM)))))⟩
def vF (D:At):Prop:=∀a0 r,sH a0=some r→D 126 ⟨[.lst 1 (a0.map (eL 1 eI))],[]⟩ ⟨oI 0 r,[],[]⟩
theorem KX (H144:vL C):vF (FO C HS):=by
 intro a0 r h0
 refine f0 (Bj 7 [(0,.lst 1 (a0.map (eL 1 eI))),(3,iV 0)] [] (Cd 3 (Ai (Mc rfl (o_ (Bj 2 [(0,.lst 1 (a0.map (eL 1 eI))),(3,iV 0),(9,.lst 1 (a0.map (eL 1 eI))),(10,iV (a0.length:Int)),(11,iV 0)] [] (Bp (bb h0 fun r25 e26 h0=>Dd (R:=(fun S=>∃p15:Int,p15=r25∧S=⟨[(0,.lst 1 (a0.map (eL 1 eI))),(3,iV p15)],[],[]⟩)) (Hw a0) (fun s S=>match s with | (p6,p7)=>S=⟨[(0,.lst 1 (a0.map (eL 1 eI))),(3,iV p6),(9,.lst 1 (a0.map (eL 1 eI))),(10,iV (a0.length:Int)),(11,iV p7)],[],[]⟩) e26 _ (Be (by kernel_rfl)) rfl 0 (fun _=>rfl) ?_ ?_))))))))
 ·rintro S _ hfg ⟨p15,rfl,rfl⟩
  refine Ce _ hfg (Ar (Ai (st (Cv rfl tv (bb h0 fun r27 e28 h0=>PW [] [] [1048543] (H144 ([]:List Int) p15 r27 e28) (Ea (af rfl) rfl) (o_ (Bj 2 [(0,.lst 1 (a0.map (eL 1 eI))),(6,oI 1536 r27)] [] (Cd 3 (Ai (Mc rfl (o_ (Bj 2 [(6,oI 1536 r27),(25,.lst 1 (a0.map (eL 1 eI))),(26,iV (a0.length:Int)),(27,iV 0)] [] (Bp (bb h0 fun r46 e47 h0=>Dd (R:=(fun S=>∃p41:List Int,p41=r46∧S=⟨[(6,oI 1536 p41)],[],[]⟩)) (Hx a0) (fun s S=>match s with | (p33,p34)=>S=⟨[(6,oI 1536 p33),(25,.lst 1 (a0.map (eL 1 eI))),(26,iV (a0.length:Int)),(27,iV p34)],[],[]⟩) e47 _ (Be (by kernel_rfl)) rfl 2 (fun _=>rfl) ?_ ?_))))))))))))))
  ·rintro S _ hfg ⟨p41,rfl,rfl⟩
   refine Ce _ hfg ?_
   obtain rfl:=sj h0
   exact De 5
  ·rintro ⟨p33,p34⟩ o1 _ K1 rfl h1 hx1 hK1 hE1 hR1
   refine Bj 3 [(6,oI 1536 p33),(25,.lst 1 (a0.map (eL 1 eI))),(26,iV (a0.length:Int)),(27,iV p34),(28,.bool (decide (p34<(a0.length:Int))))] [] (Ar (Ej h1 (fun c42 h1=>?_) (fun c42 h1=>?_)))
   ·refine kS 5 (Ai (bb h1 fun y43 e44 h1=>Xb rfl rfl e44 (o_ (Bj 3 [(6,oI 1536 p33),(8,lI y43),(25,.lst 1 (a0.map (eL 1 eI))),(26,iV (a0.length:Int)),(27,iV p34)] [] (Cd 2 (Ai (gg h1 fun GM h1=>st (vV (e:=eI) (l0:=p33) (l1:=y43) rfl rfl tv rfl (by decide) GM (o_ (Bj 3 [(6,oI 1536 (p33++y43)),(25,.lst 1 (a0.map (eL 1 eI))),(26,iV (a0.length:Int)),(27,iV p34)] [] (Cd 3 ?_)))))))))))
    obtain rfl:=sj h1
    exact kn hK1 rfl rfl
   ·obtain rfl:=sj h1
    obtain rfl:=hx1 _ rfl
    refine Ow rfl ?_
    exact jn hE1 ⟨_,rfl,rfl⟩
 ·rintro ⟨p6,p7⟩ o1 _ K1 rfl h1 hx1 hK1 hE1 hR1
  refine Bj 3 [(0,.lst 1 (a0.map (eL 1 eI))),(3,iV p6),(9,.lst 1 (a0.map (eL 1 eI))),(10,iV (a0.length:Int)),(11,iV p7),(12,.bool (decide (p7<(a0.length:Int))))] [] (Ar (Ej h1 (fun c16 h1=>?_) (fun c16 h1=>?_)))
  ·refine kS 3 (vY (fun S=>∃p20:Int,S=⟨[(0,.lst 1 (a0.map (eL 1 eI))),(3,iV p20),(9,.lst 1 (a0.map (eL 1 eI))),(10,iV (a0.length:Int)),(11,iV p7)],[],[]⟩∧Qp p7 p20=some o1) ?_ (fun J21=>?_))
   ·rintro _ ⟨p20,rfl,h1⟩
    refine Cd 4 ?_
    obtain rfl:=sj h1
    exact kn hK1 rfl rfl
   ·refine Ar ?_
    refine Ai (bb h1 fun y22 e23 h1=>Xb rfl rfl e23 (o_ (Bj 3 [(0,.lst 1 (a0.map (eL 1 eI))),(3,iV p6),(5,lI y22),(9,.lst 1 (a0.map (eL 1 eI))),(10,iV (a0.length:Int)),(11,iV p7)] [] (Cd 3 (Ai (Mc rfl (o_ (Bj 8 [(0,.lst 1 (a0.map (eL 1 eI))),(3,iV (wi (p6+(y22.length:Int)))),(9,.lst 1 (a0.map (eL 1 eI))),(10,iV (a0.length:Int)),(11,iV p7),(20,.bool (decide ((wi (p6+(y22.length:Int)))<0)))] [] (Ej h1 (fun c24 h1=>?_) (fun c24 h1=>?_))))))))))
    ·refine Ai ?_
     cases h1
    ·refine Tw (kW ?_)
     exact jn J21 ⟨_,rfl,h1⟩
  ·obtain rfl:=sj h1
   obtain rfl:=hx1 _ rfl
   refine Ow rfl ?_
   exact jn hE1 ⟨_,rfl,rfl⟩

/- slices.IndexFunc[[]int,int] -/
def oC:=[i_ 4 0]
def oD:=[m_ 6 0,n_ 7 6,i_ 8 0]
def oE:=[b_ .lss 9 8 7]
def oF:=[m_ 10 8,m_ 5 10]
def oG:List Bg:=[m_ 11 1,m_ 12 0,m_ 13 5,x_ 14 12 13 1,l_ 15 14 1,⟨some 16,.callv (.t 11) [.t 15],none⟩]
def oH:=[m_ 17 5,m_ 4 17]
def oJ:=[B_ .add 18 8 1,m_ 8 18]
def oB:IR:=(sr oE (.seq (.ite (.t 9) .skip (.exit 0)) (.seq (.block 1 (sr oF (sr oG (iz 16 (rr oH))))) (.reg oJ))))
def oK:=[i_ 4 (-1)]
def HT:Dn:=⟨2,19,[.t 4],sr oC (.seq (sr oD (Om 0 oB)) (rr oK))⟩
def kU (C:At) (D:At:=C):Prop:=∀(a0:List Int) (f1:Nat) (k1:List V) (is1:Int→Option Bool) (hs1:Rc k1) (hf1:∀(x0:Int) r,is1 x0=some r→C f1 ⟨iV x0::k1,[]⟩ ⟨.bool r,[],[]⟩) (r:Int),sI a0 is1=some r→D 127 ⟨[lI a0,.clo f1 k1],[]⟩ ⟨iV r,[],[]⟩
theorem KY:kU C (FO C HT):=by
 intro a0 f1 k1 is1 hs1 hf1 r h0
 refine f0 (Bj 3 [(0,lI a0),(1,.clo f1 k1)] [] (Cd 3 (Ai (Mc rfl (o_ (Bj 2 [(0,lI a0),(1,.clo f1 k1),(7,iV (a0.length:Int)),(8,iV 0)] [] (Bp (bb h0 fun r21 e22 h0=>Dd (R:=(fun S=>.inl ()=r21∧S=⟨[],[],[]⟩)) (bE a0 is1) (fun s S=>match s with | p7=>S=⟨[(0,lI a0),(1,.clo f1 k1),(7,iV (a0.length:Int)),(8,iV p7)],[],[]⟩) e22 _ (Be (by kernel_rfl)) rfl 0 (fun _=>rfl) ?_ ?_))))))))
 ·rintro S _ hfg ⟨rfl,rfl⟩
  refine Ce _ hfg ?_
  obtain rfl:=sj h0
  exact De 4
 ·rintro p7 o1 _ K1 rfl h1 hx1 hK1 hE1 hR1
  refine Bj 3 [(0,lI a0),(1,.clo f1 k1),(7,iV (a0.length:Int)),(8,iV p7),(9,.bool (decide (p7<(a0.length:Int))))] [] (Ar (Ej h1 (fun c15 h1=>?_) (fun c15 h1=>?_)))
  ·refine Bj 8 [(0,lI a0),(1,.clo f1 k1),(5,iV p7),(7,iV (a0.length:Int)),(8,iV p7)] [] (Cd 4 (Ai (bb h1 fun y16 e17 h1=>Xb rfl rfl e17 (st (c_ (Ak ⟨tv,tv⟩ rfl (nl rfl)) (bb h1 fun r18 e19 h1=>st (Nl (r:=.bool r18) rfl false (hf1 _ r18 e19) ⟨tv,tv⟩ (Ea rfl hs1.2.2.1) (Gq rfl (hs1.2.1 _ _ _ _ _)) (fun _=>rfl) (o_ (Bj 1 [(0,lI a0),(1,.clo f1 k1),(5,iV p7),(7,iV (a0.length:Int)),(8,iV p7),(16,.bool r18)] [] (Ej h1 (fun kP h1=>?_) (fun kP h1=>?_)))))))))))
   ·obtain rfl:=sj h1
    obtain rfl:=hx1 _ rfl
    obtain rfl:=sj h0
    exact dC 5 hR1
   ·refine Cd 6 ?_
    obtain rfl:=sj h1
    exact kn hK1 rfl rfl
  ·obtain rfl:=sj h1
   obtain rfl:=hx1 _ rfl
   refine Ow rfl ?_
   exact jn hE1 ⟨rfl,rfl⟩

/- (loop.example/g00149/impl.Vault).stray$1 -/
def oL:=[k_ 3 (.bool false)]
def oM:=[l_ 4 1 1,m_ 5 0,iQ 6 (.mget (.t 4) (.t 5)),N_ 7 6,m_ 3 7]
def HU:Dn:=⟨2,8,[.t 3],sr oL (rr oM)⟩
def vG (D:At):Prop:=∀a0 a1 r,gJ a0 a1=some r→D 128 ⟨[iV a0,.iptr [.lst 0 (Wi a1)]],[]⟩ ⟨.bool r,[],[]⟩
theorem KZ:vG (FO C HU):=by
 intro a0 a1 r h0
 refine f0 (Bj 3 [(0,iV a0),(1,.iptr [.lst 0 (Wi a1)])] [] (Cd 3 (Ai (st (c_ (EW rfl rfl) (o_ ?_))))))
 obtain rfl:=sj h0
 exact De 4

/- (loop.example/g00149/impl.Vault).stray -/
def DW:=[X_ 1 0,i_ 2 0,k_ 3 (.bool false)]
def DX:List Bg:=[⟨some 8,.mkM,none⟩,a_ 4 [.undef],s_ 4 8 1]
def DY:=tk [f_ 9 1 0,L_ 10 9 3,f_ 12 1 3,l_ 13 12 1,i_ 18 0] (.alt [i_ 18 0,l_ 13 12 1,f_ 12 1 3] (q_ 11 60 [.t 10]) (.alt [i_ 18 0] (q_ 14 95 [.t 13]) (.alt [i_ 18 0] ⟨some 15,.mkS 1 [.lst 1 []] 2 [(0,.t 11),(1,.t 14)],none⟩ (.alt [i_ 18 0] (q_ 16 126 [.t 15]) (tk [n_ 17 16] .fin) .stop) .stop) .stop) .stop)
def DZ:=[b_ .lss 19 18 17]
def EA:=[x_ 20 16 18 1,l_ 21 20 1,m_ 6 21]
def EB:List Bg:=[l_ 22 4 1,m_ 23 6,⟨none,.mset (.t 22) (.t 23) (.c (.bool true)),none⟩]
def EC:=[B_ .add 24 18 1,m_ 18 24]
def DV:IR:=(sr DZ (.seq (.ite (.t 19) .skip (.exit 0)) (.seq (.block 1 (sr EA (.reg EB))) (.reg EC))))
def ED:=[f_ 25 1 4,l_ 26 25 1,iQ 27 (.fn 128 [.t 4]),q_ 28 127 [.t 26,.t 27],m_ 7 28]
def EE:=[m_ 29 7,B_ .lss 30 29 0]
def EF:=[i_ 2 0,k_ 3 (.bool false)]
def rN:=[f_ 31 1 4,l_ 32 31 1,m_ 33 7,x_ 34 32 33 1,l_ 35 34 1,m_ 2 35,k_ 3 (.bool true)]
def OG:Dn:=⟨1,36,[.t 2,.t 3],sr DW (sr DX (.seq (sd DY (Om 0 DV)) (sr ED (.seq (sr EE (iz 30 (rr EF))) (rr rN)))))⟩
def MN (D:At):Prop:=∀a0 r,KH a0=some r→D 96 ⟨[.agg (Aa a0)],[]⟩ ⟨.tup [iV r.1,.bool r.2],[],[]⟩
abbrev Vd:=fun (r:List (Nat×V))=>(1,.ptr 64 0)::(4,.ptr 256 0)::r
theorem PR (H60:JL C) (H95:JN C) (H126:vF C) (H127:kU C) (H128:vG C):MN (FO C OG):=by
 intro a0 r h0
 refine f0 (Bj 5 [(1,.ptr 64 0)] [(64,Aa a0)] (Ar (Ai (st (NC (o_ (Bj 3 (Vd []) [(64,Aa a0),(256,[.own 512 0 0 (Wi ([]:List (Int×Bool)))])] (Ar (Ar (bb h0 fun r1 e2 h0=>bb h0 fun r3 e4 h0=>bb h0 fun r5 e6 h0=>Cd 5 (Cz (rT (H60 a0.table r1 e2) (af rfl) (dw [(1,.ptr 64 0),(4,.ptr 256 0),(11,oI 704 r1),(12,.ptr 64 3),(13,Am a0.Ab),(18,iV 0)] [(64,Aa a0),(256,[.own 512 0 0 (Wi ([]:List (Int×Bool)))])] hB (rT (H95 a0.Ab r3 e4) (af rfl) (dw [(1,.ptr 64 0),(4,.ptr 256 0),(11,oI 704 r1),(14,oI 896 r3),(18,iV 0)] [(64,Aa a0),(256,[.own 512 0 0 (Wi ([]:List (Int×Bool)))])] hB (Fk (iB ⟨tv,tv,tv⟩ ⟨⟨nl rfl,rfl,rfl⟩,⟨nl rfl,rfl,rfl⟩,tv⟩ (d0 hB (rT (H126 ([r1,r3]:List (List Int)) r5 e6) (af rfl) (dw [(1,.ptr 64 0),(4,.ptr 256 0),(16,oI 1024 r5),(18,iV 0)] [(64,Aa a0),(256,[.own 512 0 0 (Wi ([]:List (Int×Bool)))])] hB (Af tv (c_ (II (e:=eI) (l0:=r5) rfl rfl tv) (⟨tv,d_ (Bj 1 (Vd [(16,oI 1024 r5),(17,iV (r5.length:Int)),(18,iV 0)]) [(64,Aa a0),(256,[.own 512 0 0 (Wi ([]:List (Int×Bool)))])] (Bp (bb h0 fun r27 e28 h0=>Dd (R:=(fun S=>∃p21:List (Int×Bool),p21=r27∧S=⟨Vd [],[(64,Aa a0),(256,[.own 512 0 0 (Wi p21)])],[]⟩)) (Pb r5) (fun s S=>match s with | (p12,p13)=>S=⟨Vd [(16,oI 1024 r5),(17,iV (r5.length:Int)),(18,iV p12)],[(64,Aa a0),(256,[.own 512 0 0 (Wi p13)])],[]⟩) e28 _ (Be (by kernel_rfl)) rfl 0 (fun _=>rfl) ?_ ?_)))⟩)))) Co))) Co)) Co)) Co))))))))))))
 ·rintro S _ hfg ⟨p21,rfl,rfl⟩
  refine Ce _ hfg (Cd 4 (Ai (bb h0 fun r29 e30 h0=>st (Bh (r:=iV r29) false (H127 a0.Ac 128 [.iptr [.lst 0 (Wi p21)]] (fun z128_0=>gJ z128_0 p21) (⟨fun _ _ _ _ _=>rfl,fun _ _ _ _ _=>rfl,rfl,fun _ _ _ n=>by cases n<;>rfl,fun _=>rfl⟩) (fun z128_0 r h=>H128 z128_0 p21 r h) r29 e30) ⟨tv,tv,tv⟩ rfl rfl (fun _=>rfl) (o_ (Bj 8 [(1,.ptr 64 0),(7,iV r29),(30,.bool (decide (r29<0)))] [(64,Aa a0)] (Ej h0 (fun c31 h0=>?_) (fun c31 h0=>?_))))))))
  ·obtain rfl:=sj h0
   exact De 5
  ·refine Cd 6 (Ai (bb h0 fun y32 e33 h0=>Xb rfl rfl e33 (o_ ?_)))
   obtain rfl:=sj h0
   exact De 5
 ·rintro ⟨p12,p13⟩ o1 _ K1 rfl h1 hx1 hK1 hE1 hR1
  refine Bj 3 (Vd [(16,oI 1024 r5),(17,iV (r5.length:Int)),(18,iV p12),(19,.bool (decide (p12<(r5.length:Int))))]) [(64,Aa a0),(256,[.own 512 0 0 (Wi p13)])] (Ar (Ej h1 (fun c22 h1=>?_) (fun c22 h1=>?_)))
  ·refine kS 5 (Ai (bb h1 fun y23 e24 h1=>KM rfl rfl e24 (bb h1 fun y25 e26 h1=>QB rfl rfl e26 (o_ (Bj 2 (Vd [(6,iV y25),(16,oI 1024 r5),(17,iV (r5.length:Int)),(18,iV p12)]) [(64,Aa a0),(256,[.own 512 0 0 (Wi p13)])] (Cd 2 (Ai (st (IZ rfl rfl rfl (Dp (kW (Ce ⟨[(1,.ptr 64 0),(4,.ptr 256 0),(16,oI 1024 r5),(17,iV (r5.length:Int)),(18,iV p12)],[(64,Aa a0),(256,[.own 512 0 0 (Wi (Mf p13 y25 true))])],[]⟩ (fg ⟨rfl,rfl,rfl,rfl,rfl,tv⟩ ⟨rfl,congrArg (fun z=>some (([.own 512 0 0 z]:List V))) iD,tv⟩) (Cd 3 ?_)))))))))))))
   obtain rfl:=sj h1
   exact kn hK1 rfl rfl
  ·obtain rfl:=sj h1
   obtain rfl:=hx1 _ rfl
   refine Ow rfl ?_
   exact jn hE1 ⟨_,rfl,rfl⟩

/- slices.ContainsFunc[[]int,int] -/
def oN:=[k_ 4 (.bool false)]
def oO:=[m_ 5 0,m_ 6 1,q_ 7 127 [.t 5,.t 6],B_ .geq 8 7 0,m_ 4 8]
def HV:Dn:=⟨2,9,[.t 4],sr oN (rr oO)⟩
def vH (C:At) (D:At:=C):Prop:=∀(a0:List Int) (f1:Nat) (k1:List V) (is1:Int→Option Bool) (hs1:Rc k1) (hf1:∀(x0:Int) r,is1 x0=some r→C f1 ⟨iV x0::k1,[]⟩ ⟨.bool r,[],[]⟩) (r:Bool),sJ a0 is1=some r→D 129 ⟨[lI a0,.clo f1 k1],[]⟩ ⟨.bool r,[],[]⟩
theorem LA (H127:kU C):vH C (FO C HV):=by
 intro a0 f1 k1 is1 hs1 hf1 r h0
 refine f0 (Bj 3 [(0,lI a0),(1,.clo f1 k1)] [] (Cd 3 (Ai (bb h0 fun r1 e2 h0=>st (Bh (r:=iV r1) false (H127 a0 f1 k1 is1 hs1 hf1 r1 e2) ⟨tv,tv,tv⟩ rfl (Gq rfl (Gq (fX hs1) rfl)) (fun _=>rfl) (o_ ?_))))))
 obtain rfl:=sj h0
 exact De 4

/- loop.example/g00149/impl.areAll[int]$1 -/
def oP:=[k_ 3 (.bool false)]
def oQ:List Bg:=[l_ 4 1 1,m_ 5 0,⟨some 6,.callv (.t 4) [.t 5],none⟩,N_ 7 6,m_ 3 7]
def HW:Dn:=⟨2,8,[.t 3],sr oP (rr oQ)⟩
def vI (C:At) (D:At:=C):Prop:=∀(a0:Int) (f1:Nat) (k1:List V) (is1:Int→Option Bool) (hs1:Rc k1) (hf1:∀(x0:Int) r,is1 x0=some r→C f1 ⟨iV x0::k1,[]⟩ ⟨.bool r,[],[]⟩) (r:Bool),sL a0 is1=some r→D 130 ⟨[iV a0,.iptr [.clo f1 k1]],[]⟩ ⟨.bool r,[],[]⟩
theorem LC:vI C (FO C HW):=by
 intro a0 f1 k1 is1 hs1 hf1 r h0
 refine f0 (Bj 3 [(0,iV a0),(1,.iptr [.clo f1 k1])] [] (Cd 3 (Ai (bb h0 fun r1 e2 h0=>st (Nl (r:=.bool r1) rfl false (hf1 _ r1 e2) ⟨tv,tv⟩ (Ea rfl hs1.2.2.1) (Gq rfl (hs1.2.1 _ _ _ _ _)) (fun _=>rfl) (o_ ?_))))))
 obtain rfl:=sj h0
 exact De 4

/- loop.example/g00149/impl.areAll[int] -/
def EG:=[X_ 3 1,k_ 4 (.bool false)]
def EH:=[m_ 5 0,iQ 6 (.fn 130 [.t 3]),q_ 7 129 [.t 5,.t 6],N_ 8 7,m_ 4 8]
def OH:Dn:=⟨2,9,[.t 4],sr EG (rr EH)⟩
def MO (C:At) (D:At:=C):Prop:=∀(a0:List Int) (f1:Nat) (k1:List V) (is1:Int→Option Bool) (hs1:Rc k1) (hf1:∀(x0:Int) r,is1 x0=some r→C f1 ⟨iV x0::k1,[]⟩ ⟨.bool r,[],[]⟩) (r:Bool),KI a0 is1=some r→D 97 ⟨[lI a0,.clo f1 k1],[]⟩ ⟨.bool r,[],[]⟩
theorem PS (H129:vH C) (H130:vI C):MO C (FO C OH):=by
 intro a0 f1 k1 is1 hs1 hf1 r h0
 refine f0 (Ar (Ai (st (Xi (uC hs1) tv rfl (o_ (Bj 2 [(0,lI a0),(3,.ptr 192 0)] [(192,[.clo f1 k1])] (Cd 3 (Ai (bb h0 fun r1 e2 h0=>st (Bh (r:=.bool r1) false (H129 a0 130 [.iptr [.clo f1 k1]] (fun z130_0=>sL z130_0 is1) (⟨fun _ _ _ _ _=>rfl,fun _ _ _ _ _=>rfl,rfl,fun _ _ _ n=>by cases n<;>rfl,fun _=>rfl⟩) (fun z130_0 r h=>H130 z130_0 f1 k1 is1 hs1 hf1 r h) r1 e2) ⟨tv,tv,tv⟩ rfl (Gq rfl (Gq (congrArg (fun z=>V.clo 130 [.iptr [.clo f1 z]]) (hs1.2.2.2.1 _ _ _ _)) rfl)) (fun _=>rfl) (o_ ?_)))))))))))
 obtain rfl:=sj h0
 exact De 4

/- slices.BinarySearchFunc[[]loop.example/g00149/impl.Lease,loop.example/g00149/impl.Lease,int] -/
def mQ:=[i_ 6 0,k_ 7 (.bool false)]
def mR:=[m_ 12 0,n_ 13 12,m_ 8 13]
def mS:=[m_ 14 8,i_ 9 0,m_ 10 14]
def mU:=[m_ 15 9,m_ 16 10,b_ .lss 17 15 16]
def mV:List Bg:=[m_ 18 9,m_ 19 10,b_ .add 20 18 19,iQ 21 (.conv .u64 (.t 20)),⟨some 22,.p (.bin .shr (.t 21) (.c (.int .u64 1))),none⟩,iQ 23 (.conv .i64 (.t 22)),m_ 11 23]
def mW:List Bg:=[m_ 24 2,m_ 25 0,m_ 26 11,x_ 27 25 26 4,L_ 28 27 4,m_ 29 1,⟨some 30,.callv (.t 24) [.t 28,.t 29],none⟩,B_ .lss 31 30 0]
def mX:=[m_ 32 11,B_ .add 33 32 1,m_ 9 33]
def mY:=[m_ 34 11,m_ 10 34]
def mP:IR:=(.seq (sr mU (.ite (.t 17) .skip (.exit 0))) (.block 1 (sr mV (sr mW (.ite (.t 31) (.reg mX) (.reg mY))))))
def mZ:List Bg:=[m_ 35 9,m_ 36 9,m_ 37 8,b_ .lss 38 36 37,m_ 39 38,mT 39 40 2,mT 39 41 0,mT 39 42 9,xT 39 43 41 42 4,lT 39 44 43 4 true,mT 39 45 1,⟨some 46,.callv (.t 40) [.t 44,.t 45],some (39,true)⟩,pT 39 47 (.bin .eql (.t 46) (.c (iV 0))),pa 48 39 47,m_ 6 35,m_ 7 48]
def HP:Dn:=⟨3,49,[.t 6,.t 7],sr mQ (sr mR (sr mS (.seq (Om 0 mP) (rr mZ))))⟩
def vB (C:At) (D:At:=C):Prop:=∀(a0:List Ah) (a1:Int) (f2:Nat) (k2:List V) (is2:Ah→Int→Option Int) (hs2:Rc k2) (hf2:∀(x0:Ah) (x1:Int) r,is2 x0 x1=some r→C f2 ⟨.agg (Aj x0)::iV x1::k2,[]⟩ ⟨iV r,[],[]⟩) (r:Int×Bool),FB a0 a1 is2=some r→D 113 ⟨[Al a0,iV a1,.clo f2 k2],[]⟩ ⟨.tup [iV r.1,.bool r.2],[],[]⟩
abbrev Na:=fun x0 x1 x2 x3 (r:List (Nat×V))=>(0,Al x0)::(1,iV x1)::(2,.clo x2 x3)::r
theorem KT:vB C (FO C HP):=by
 intro a0 a1 f2 k2 is2 hs2 hf2 r h0
 refine f0 (Bj 4 (Na a0 a1 f2 k2 []) [] (Ar (Ai (st (Cv rfl tv (Mc rfl (o_ (Bj 8 (Na a0 a1 f2 k2 [(8,iV (a0.length:Int)),(9,iV 0),(10,iV (a0.length:Int))]) [] (Ar (Bp (bb h0 fun r30 e31 h0=>Dd (R:=(fun S=>∃p21:Int,p21=r30∧S=⟨Na a0 a1 f2 k2 [(8,iV (a0.length:Int)),(9,iV p21)],[],[]⟩)) (Qn a0 a1 is2) (fun s S=>match s with | (p9,p10)=>S=⟨Na a0 a1 f2 k2 [(8,iV (a0.length:Int)),(9,iV p9),(10,iV p10)],[],[]⟩) e31 _ (Be (by kernel_rfl)) rfl 0 (fun _=>rfl) ?_ ?_)))))))))))
 ·rintro S _ hfg ⟨p21,rfl,rfl⟩
  refine Ce ⟨Na a0 a1 f2 k2 [(8,iV (a0.length:Int)),(9,iV p21)],[],[]⟩ (PX hfg ⟨rfl,rfl,rfl,rfl,rfl,tv⟩ tv) (uF 9 (Ai (bb h0 fun y32 e33 h0=>st (Bt (u:=.iptr (Aj y32)) rfl (fun hg=>(Hr (e:=Aj) (y:=y32) rfl rfl (fun _=>hg) rfl rfl (fun _=>hg) (ip hg e33))) (o_ (uF 2 (Ai (bb h0 fun r34 e35 h0=>st (rP (r:=iV r34) rfl rfl rfl (fun hg=>hg) false (fun hg=>hf2 _ _ r34 (ip hg e35)) ⟨(fun hg=>hg),(fun hg=>hg),tv⟩ (fun _=>(ar (Ea rfl hs2.2.2.1))) (fun _=>(Gq rfl (Gq rfl (hs2.2.1 _ _ _ _ _)))) (fun _=>rfl) (fun h=>nomatch h) (o_ (uF 2 (Ai (o_ ?_)))))))))))))
  obtain rfl:=sj h0
  exact De 4
 ·rintro ⟨p9,p10⟩ o1 _ K1 rfl h1 hx1 hK1 hE1 hR1
  refine Bj 6 (Na a0 a1 f2 k2 [(8,iV (a0.length:Int)),(9,iV p9),(10,iV p10),(17,.bool (decide (p9<p10)))]) [] (Ej h1 (fun c22 h1=>?_) (fun c22 h1=>?_))
  ·refine Cd 8 (Ai (st (c_ (Ak ⟨tv,tv,tv⟩ rfl (by decide)) (o_ (Cd 3 (bv h1 fun v23 e24 h1=>Ce ⟨[(0,Al a0),(1,iV a1),(2,.clo f2 k2),(8,iV (a0.length:Int)),(9,iV p9),(10,iV p10),(11,iV v23)],[],[]⟩ (fg ⟨(by subst e24; rfl),(by subst e24; rfl),(by subst e24; rfl),(by subst e24; rfl),(by subst e24; rfl),(by subst e24; rfl),(by subst e24; rfl),tv⟩ tv) (Cd 4 (Ai (bb h1 fun y25 e26 h1=>Xb rfl rfl e26 (o_ (Cd 2 (Ai (bb h1 fun r27 e28 h1=>st (Nl (r:=iV r27) rfl false (hf2 _ _ r27 e28) ⟨tv,tv,tv⟩ (ar (Ea rfl hs2.2.2.1)) (Gq rfl (Gq rfl (hs2.2.1 _ _ _ _ _))) (fun _=>rfl) (o_ (Bj 2 (Na a0 a1 f2 k2 [(8,iV (a0.length:Int)),(9,iV p9),(10,iV p10),(11,iV v23),(31,.bool (decide (r27<0)))]) [] (Ej h1 (fun c29 h1=>?_) (fun c29 h1=>?_))))))))))))))))))
   ·refine Cd 5 ?_
    obtain rfl:=sj h1
    exact kn hK1 rfl rfl
   ·refine Cd 4 ?_
    obtain rfl:=sj h1
    exact kn hK1 rfl rfl
  ·obtain rfl:=sj h1
   obtain rfl:=hx1 _ rfl
   refine Ow rfl ?_
   exact jn hE1 ⟨_,rfl,rfl⟩

/- cmp.isNaN[int] -/
def oX:=[k_ 2 (.bool false)]
def oY:=[m_ 3 0,m_ 4 0,b_ .neq 5 3 4,m_ 2 5]
def HY:Dn:=⟨1,6,[.t 2],sr oX (rr oY)⟩
def vK (D:At):Prop:=∀a0 r,sM a0=some r→D 136 ⟨[iV a0],[]⟩ ⟨.bool r,[],[]⟩
theorem LE:vK (FO C HY):=by
 intro a0 r h0
 refine f0 (?_)
 obtain rfl:=sj h0
 exact De 11

/- cmp.Compare[int] -/
def mE:=[i_ 4 0]
def mG:=[m_ 7 0,q_ 8 136 [.t 7],m_ 5 8]
def mH:=[m_ 9 1,q_ 10 136 [.t 9],m_ 6 10]
def mI:=[m_ 11 5]
def mJ:=[m_ 12 6]
def mK:=[i_ 4 0]
def mL:=[i_ 4 (-1)]
def mM:=[m_ 13 6]
def mN:=[i_ 4 1]
def mO:=[m_ 14 0,m_ 15 1,b_ .lss 16 14 15]
def eA:=[i_ 4 (-1)]
def eC:=[m_ 17 0,m_ 18 1,b_ .gtr 19 17 18]
def eD:=[i_ 4 1]
def eE:=[i_ 4 0]
def cE:Dn:=⟨2,20,[.t 4],sr mE (sr mG (sr mH (.seq (sr mI (iz 11 (.seq (sr mJ (iz 12 (rr mK))) (rr mL)))) (.seq (sr mM (iz 13 (rr mN))) (.seq (sr mO (iz 16 (rr eA))) (.seq (sr eC (iz 19 (rr eD))) (rr eE)))))))⟩
def vA (D:At):Prop:=∀a0 a1 r,sE a0 a1=some r→D 110 ⟨[iV a0,iV a1],[]⟩ ⟨iV r,[],[]⟩
theorem KS (H136:vK C):vA (FO C cE):=by
 intro a0 a1 r h0
 refine f0 (Bj 3 [(0,iV a0),(1,iV a1)] [] (Ar (Ai (st (Cv rfl tv (bb h0 fun r1 e2 h0=>Tm (H136 a0 r1 e2) (o_ (Bj 2 [(0,iV a0),(1,iV a1),(5,.bool r1)] [] (Ar (Ai (st (Cv rfl tv (bb h0 fun r3 e4 h0=>Tm (H136 a1 r3 e4) (o_ (Bj 7 [(0,iV a0),(1,iV a1),(6,.bool r3),(11,.bool r1)] [] (Ej h0 (fun c5 h0=>?_) (fun c5 h0=>?_)))))))))))))))))
 ·refine Bj 4 [(12,.bool r3)] [] (Ej h0 (fun c6 h0=>?_) (fun c6 h0=>?_))
  ·obtain rfl:=sj h0
   exact De 4
  ·obtain rfl:=sj h0
   exact De 6
 ·refine Bj 6 [(0,iV a0),(1,iV a1),(13,.bool r3)] [] (Ej h0 (fun c7 h0=>?_) (fun c7 h0=>?_))
  ·obtain rfl:=sj h0
   exact De 4
  ·refine Bj 8 [(0,iV a0),(1,iV a1),(16,.bool (decide (a0<a1)))] [] (Ej h0 (fun c8 h0=>?_) (fun c8 h0=>?_))
   ·obtain rfl:=sj h0
    exact De 4
   ·refine Bj 8 [(19,.bool (decide (a0>a1)))] [] (Ej h0 (fun c9 h0=>?_) (fun c9 h0=>?_))
    ·obtain rfl:=sj h0
     exact De 4
    ·obtain rfl:=sj h0
     exact De 6

/- (loop.example/g00149/impl.Table).find$1 -/
def nA:=[X_ 2 0,i_ 4 0]
def nB:=[f_ 5 2 0,l_ 6 5 1,m_ 7 1,q_ 8 110 [.t 6,.t 7],m_ 4 8]
def HQ:Dn:=⟨2,9,[.t 4],sr nA (rr nB)⟩
def vC (D:At):Prop:=∀a0 a1 r,cQ a0 a1=some r→D 114 ⟨[.agg (Aj a0),iV a1],[]⟩ ⟨iV r,[],[]⟩
theorem KU (H110:vA C):vC (FO C HQ):=by
 intro a0 a1 r h0
 refine f0 (Bj 4 [(1,iV a1),(2,.ptr 128 0)] [(128,Aj a0)] (Cd 4 (Ai (bb h0 fun r1 e2 h0=>Tm (H110 a0.id a1 r1 e2) (o_ ?_)))))
 obtain rfl:=sj h0
 exact De 3

/- (loop.example/g00149/impl.Table).find -/
def BS:=[X_ 2 0,i_ 4 0,k_ 5 (.bool false)]
def BT:=[f_ 6 2 2,l_ 7 6 1,m_ 8 1,q_ 9 113 [.t 7,.t 8,.c (.clo 114 [])],e_ 10 9 0,e_ 11 9 1,m_ 4 10,m_ 5 11]
def GQ:Dn:=⟨2,12,[.t 4,.t 5],sr BS (rr BT)⟩
def MH (D:At):Prop:=∀a0 a1 r,IS a0 a1=some r→D 77 ⟨[.agg (Ay a0),iV a1],[]⟩ ⟨.tup [iV r.1,.bool r.2],[],[]⟩
theorem PJ (H113:vB C) (H114:vC C):MH (FO C GQ):=by
 intro a0 a1 r h0
 refine f0 (Bj 5 [(1,iV a1),(2,.ptr 128 0)] [(128,Ay a0)] (Cd 4 (Ai (bb h0 fun r1 e2 h0=>st (Bh (r:=.tup [iV r1.1,.bool r1.2]) false (H113 a0.Ae a1 114 [] (fun z114_0 z114_1=>cQ z114_0 z114_1) (⟨fun _ _ _ _ _=>rfl,fun _ _ _ _ _=>rfl,rfl,fun _ _ _ n=>by cases n<;>rfl,fun _=>rfl⟩) (fun z114_0 z114_1 r h=>H114 z114_0 z114_1 r h) r1 e2) ⟨tv,tv,tv,tv⟩ rfl rfl (fun _=>rfl) (o_ ?_))))))
 obtain rfl:=sj h0
 exact De 6

/- loop.example/g00149/impl.VaultOK$1 -/
def EI:=[k_ 3 (.bool false)]
def EJ:=[f_ 7 1 0,L_ 8 7 3,m_ 9 0,q_ 10 77 [.t 8,.t 9],m_ 6 10,e_ 11 6 0,e_ 12 6 1,m_ 4 11,m_ 5 12]
def EK:=[m_ 13 5,N_ 14 13,m_ 3 14]
def OI:Dn:=⟨2,15,[.t 3],sr EI (sr EJ (rr EK))⟩
def MP (D:At):Prop:=∀a0 a1 r,IT a0 a1=some r→D 98 ⟨[iV a0,.iptr (Aa a1)],[]⟩ ⟨.bool r,[],[]⟩
theorem PT (H77:MH C):MP (FO C OI):=by
 intro a0 a1 r h0
 refine f0 (Bj 3 [(0,iV a0),(1,.iptr (Aa a1))] [] (Cd 4 (Ai (bb h0 fun r1 e2 h0=>Tm (H77 a1.table a0 r1 e2) (o_ ?_)))))
 obtain rfl:=sj h0
 exact De 13
end Go.Ev
