/- The walks of functions: the code comes to the answers that QgD tells. Written by a program of ours. -/
import Derived.Test.YtikhmmocfceliaaGreatQgD
set_option linter.all false
set_option maxHeartbeats 4000000
set_option linter.unusedVariables false
set_option maxRecDepth 100000
namespace Go.Ev
variable {C:Bl}
theorem sj {α:Type} {a b:α} (h:some a=some b):a=b:=Option.some.inj h
abbrev wi:Int→Int:=IntKind.i64.wrap
theorem tv:True:=True.intro
abbrev iQ (n:Nat) (o:PU):Cf:=⟨some n,.p o,none⟩
abbrev iV (n:Int):V:=.int .i64 n
theorem nl {a b:Nat} (h:Nat.ble a b=true):a≤b:=Nat.le_of_ble_eq_true h
theorem t3:True∧True∧True:=⟨trivial,trivial,trivial⟩
abbrev m_ (d s:Nat):Cf:=⟨some d,.p (.mv (.t s)),none⟩
abbrev k_ (d:Nat) (v:V):Cf:=⟨some d,.p (.mv (.c v)),none⟩
abbrev i_ (d:Nat) (n:Int):Cf:=⟨some d,.p (.mv (.c (.int .i64 n))),none⟩
abbrev f_ (d x o:Nat):Cf:=⟨some d,.p (.fieldA (.t x) o),none⟩
abbrev l_ (d x n:Nat):Cf:=⟨some d,.p (.load (.t x) n false),none⟩
abbrev L_ (d x n:Nat):Cf:=⟨some d,.p (.load (.t x) n true),none⟩
abbrev x_ (d x y n:Nat):Cf:=⟨some d,.p (.idxA (.t x) (.t y) n),none⟩
abbrev e_ (d x n:Nat):Cf:=⟨some d,.p (.ext (.t x) n),none⟩
abbrev b_ (o:BinOp) (d x y:Nat):Cf:=⟨some d,.p (.bin o (.t x) (.t y)),none⟩
abbrev B_ (o:BinOp) (d x:Nat) (n:Int):Cf:=⟨some d,.p (.bin o (.t x) (.c (.int .i64 n))),none⟩
abbrev n_ (d x:Nat):Cf:=⟨some d,.p (.len (.t x)),none⟩
abbrev N_ (d x:Nat):Cf:=⟨some d,.p (.un .not (.t x)),none⟩
abbrev s_ (x y n:Nat):Cf:=⟨none,.store (.t x) (.t y) n,none⟩
abbrev a_ (d:Nat) (z:List V):Cf:=⟨some d,.alloc z,none⟩
abbrev X_ (d x:Nat):Cf:=⟨some d,.box (.t x),none⟩
abbrev q_ (d f:Nat) (l:List Cm):Cf:=⟨some d,.call f l,none⟩
abbrev pk (d:Nat) (a b c:Cm):Cf:=⟨some d,.pick a b c,none⟩
abbrev pT (g d:Nat) (o:PU):Cf:=⟨some d,.p o,some (g,true)⟩
abbrev pF (g d:Nat) (o:PU):Cf:=⟨some d,.p o,some (g,false)⟩
abbrev zV (a b c:Nat):List V:=[.int .i64 0,.int .i64 0,.own a 0 4 [],.own b 0 2 [],.own c 0 1 [],.bool false]
abbrev zT (a:Nat):List V:=[.int .i64 0,.int .i64 0,.own a 0 4 []]
abbrev mT (g d s:Nat):Cf:=⟨some d,.p (.mv (.t s)),some (g,true)⟩
abbrev mF (g d s:Nat):Cf:=⟨some d,.p (.mv (.t s)),some (g,false)⟩
abbrev lT (g d x n:Nat) (a:Bool):Cf:=⟨some d,.p (.load (.t x) n a),some (g,true)⟩
abbrev lF (g d x n:Nat) (a:Bool):Cf:=⟨some d,.p (.load (.t x) n a),some (g,false)⟩
abbrev fT (g d x n:Nat):Cf:=⟨some d,.p (.fieldA (.t x) n),some (g,true)⟩
abbrev fF (g d x n:Nat):Cf:=⟨some d,.p (.fieldA (.t x) n),some (g,false)⟩
abbrev xT (g d x y n:Nat):Cf:=⟨some d,.p (.idxA (.t x) (.t y) n),some (g,true)⟩
abbrev xF (g d x y n:Nat):Cf:=⟨some d,.p (.idxA (.t x) (.t y) n),some (g,false)⟩
abbrev pa (d a b:Nat):Cf:=⟨some d,.pick (.t a) (.t b) (.c (.bool false)),none⟩
abbrev po (d a b:Nat):Cf:=⟨some d,.pick (.t a) (.c (.bool true)) (.t b),none⟩
abbrev sr (l:List Cf) (b:IR):IR:=.seq (.reg l) b
abbrev sd (p:DP) (b:IR):IR:=.seq (.draw p) b
abbrev rr (l:List Cf):IR:=.seq (.reg l) .ret
abbrev iz (n:Nat) (a:IR):IR:=.ite (.t n) a .skip
abbrev Im (n:Nat) (a:IR):IR:=.block n (.loop a)
def tk:List Cf→DP→DP
  | [],p=>p
  | i::l,p=>.take i (tk l p)
abbrev FO (C:Bl) (c:Dv):Bl:=fun _=>kZ C c
theorem f0 {C:Bl} {fn:Dv} {args:List V} {bx:List (List V)} {t:Fu} (h:WL C [.c fn.body] (FQ fn.res bx.length t) .normal ⟨Rv args 0,Rw bx Ch,[]⟩) (h0:Nat.ble args.length fn.nt=true:=by kernel_rfl):kZ C fn ⟨args,bx⟩ t:=fn_ (Nat.le_of_ble_eq_true h0) h
abbrev Aq (t k:Nat) (l:List (List V)):V:=.own t 0 k l
abbrev u_ (k:Nat) (l:List (List V)):V:=.lst k l
abbrev Ce (l:List Ag):V:=.lst 2 (l.map Ca)
abbrev Cg (l:List Aa):V:=.lst 4 (l.map Ab)
abbrev An (l:List Ai):V:=.lst 7 (l.map Ao)
abbrev Be (l:List Ak):V:=.lst 2 (l.map Ax)
abbrev lI (l:List Int):V:=.lst 1 (l.map eI)
abbrev Bs (t:Nat) (l:List Ag):V:=.own t 0 2 (l.map Ca)
abbrev Ae (t:Nat) (l:List Aa):V:=.own t 0 4 (l.map Ab)
abbrev Bd (t:Nat) (l:List Ai):V:=.own t 0 7 (l.map Ao)
abbrev Ah (t:Nat) (l:List Ak):V:=.own t 0 2 (l.map Ax)
abbrev oI (t:Nat) (l:List Int):V:=.own t 0 1 (l.map eI)
abbrev oP (x0:Int) (x1:Int) (x2:Int) (x3:Bool):List V:=[iV x0,iV x1,iV x2,.bool x3]
abbrev Bt (x0:Int) (x1:Int) (w2:Nat→List (List V)→V) (x2:List Aa):List V:=[iV x0,iV x1,w2 4 (x2.map Ab)]
abbrev Cp (x:As) (w2:Nat→List (List V)→V):List V:=[iV x.clock,iV x.next,w2 4 (x.Af.map Ab)]
abbrev At (x0:Int) (x1:Int) (w2:Nat→List (List V)→V) (x2:List Aa) (w3:Nat→List (List V)→V) (x3:List Ag) (w4:Nat→List (List V)→V) (x4:List Int) (x5:Bool):List V:=[iV x0,iV x1,w2 4 (x2.map Ab),w3 2 (x3.map Ca),w4 1 (x4.map eI),.bool x5]
abbrev Av (x:Ap) (w2:Nat→List (List V)→V) (w3:Nat→List (List V)→V) (w4:Nat→List (List V)→V):List V:=[iV x.Ac.clock,iV x.Ac.next,w2 4 (x.Ac.Af.map Ab),w3 2 (x.Ad.map Ca),w4 1 (x.Aj.map eI),.bool x.Am]
abbrev Nk (x0:Int) (x1:Int) (x2:Int) (x3:Int) (x4:Int) (w5:Nat→List (List V)→V) (x5:List Int) (x6:Int):List V:=[iV x0,iV x1,iV x2,iV x3,iV x4,w5 1 (x5.map eI),iV x6]
abbrev aW (x:Ai) (w5:Nat→List (List V)→V):List V:=[iV x.kind,iV x.id,iV x.ttl,iV x.Db,iV x.clock,w5 1 (x.Bi.map eI),iV x.stop]
abbrev Da (x0:Int) (x1:Int) (w2:Nat→List (List V)→V) (x2:List Aa) (w3:Nat→List (List V)→V) (x3:List Ag) (w4:Nat→List (List V)→V) (x4:List Int) (x5:Bool) (x6:Int) (x7:Int) (x8:Int) (x9:Int) (x10:Int) (w11:Nat→List (List V)→V) (x11:List Int) (x12:Int) (x13:Int):List V:=[iV x0,iV x1,w2 4 (x2.map Ab),w3 2 (x3.map Ca),w4 1 (x4.map eI),.bool x5,iV x6,iV x7,iV x8,iV x9,iV x10,w11 1 (x11.map eI),iV x12,iV x13]
abbrev Fq (x:Dd) (w2:Nat→List (List V)→V) (w3:Nat→List (List V)→V) (w4:Nat→List (List V)→V) (w11:Nat→List (List V)→V):List V:=[iV x.v.Ac.clock,iV x.v.Ac.next,w2 4 (x.v.Ac.Af.map Ab),w3 2 (x.v.Ad.map Ca),w4 1 (x.v.Aj.map eI),.bool x.v.Am,iV x.a.kind,iV x.a.id,iV x.a.ttl,iV x.a.Db,iV x.a.clock,w11 1 (x.a.Bi.map eI),iV x.a.stop,iV x.Gu]

/- loop.example/g00149/laws.eqLease -/
def IZ:=[X_ 2 0,X_ 3 1,k_ 4 (.bool false)]
def JA:=[f_ 5 2 0,l_ 6 5 1,f_ 7 3 0,l_ 8 7 1,b_ .neq 9 6 8]
def JB:=[k_ 4 (.bool false)]
def JC:=[f_ 10 2 1,l_ 11 10 1,f_ 12 3 1,l_ 13 12 1,b_ .neq 14 11 13]
def JD:=[k_ 4 (.bool false)]
def JE:=[f_ 15 2 2,l_ 16 15 1,f_ 17 3 2,l_ 18 17 1,b_ .neq 19 16 18]
def JF:=[k_ 4 (.bool false)]
def JG:=[f_ 20 2 3,l_ 21 20 1,f_ 22 3 3,l_ 23 22 1,iQ 24 (.binB .neq (.t 21) (.t 23))]
def JH:=[k_ 4 (.bool false)]
def JI:=[k_ 4 (.bool true)]
def IY:Dv:=⟨2,25,[.t 4],sr IZ (.seq (sr JA (iz 9 (rr JB))) (.seq (sr JC (iz 14 (rr JD))) (.seq (sr JE (iz 19 (rr JF))) (.seq (sr JG (iz 24 (rr JH))) (rr JI)))))⟩
def K107 (D:Bl):Prop:=∀a0 a1 r,g107 a0 a1=some r→D 107 ⟨[.agg (Ab a0),.agg (Ab a1)],[]⟩ ⟨.bool r,[],[]⟩
theorem F107:K107 (FO C IY):=by
 intro a0 a1 r h0
 refine f0 (Ba 14 [(2,.ptr 128 0),(3,.ptr 192 0),(9,.bool (a0.id != a1.id))] [(128,Ab a0),(192,Ab a1)] (Cs h0 (fun c1 h0=>?_) (fun c1 h0=>?_)))
 ·obtain rfl:=sj h0
  exact Cy 4
 ·refine Ba 10 [(2,.ptr 128 0),(3,.ptr 192 0),(14,.bool (a0.Bp != a1.Bp))] [(128,Ab a0),(192,Ab a1)] (Cs h0 (fun c2 h0=>?_) (fun c2 h0=>?_))
  ·obtain rfl:=sj h0
   exact Cy 4
  ·refine Ba 10 [(2,.ptr 128 0),(3,.ptr 192 0),(19,.bool (a0.cap != a1.cap))] [(128,Ab a0),(192,Ab a1)] (Cs h0 (fun c3 h0=>?_) (fun c3 h0=>?_))
   ·obtain rfl:=sj h0
    exact Cy 4
   ·refine Ba 10 [(24,.bool (!(a0.Cl==a1.Cl)))] [] (Cs h0 (fun c4 h0=>?_) (fun c4 h0=>?_))
    ·obtain rfl:=sj h0
     exact Cy 4
    ·obtain rfl:=sj h0
     exact Cy 6

/- loop.example/g00149/laws.eqLeaseS -/
def c64_r0:=[k_ 4 (.bool false)]
def c64_r1:=[m_ 6 0,n_ 7 6,m_ 8 1,n_ 9 8,b_ .neq 10 7 9]
def c64_r2:=[k_ 4 (.bool false)]
def c64_r3:=[i_ 5 0]
def c64_r4:=[m_ 11 5,m_ 12 0,n_ 13 12,b_ .lss 14 11 13]
def c64_r5:=tk [m_ 17 0,m_ 18 5,x_ 19 17 18 4,L_ 20 19 4,m_ 21 1,m_ 22 5,x_ 23 21 22 4,L_ 24 23 4] (.alt [] (q_ 25 107 [.t 20,.t 24]) (tk [N_ 26 25] .fin) .stop)
def c64_r6:=[k_ 4 (.bool false)]
def c64_r7:=[m_ 15 5,B_ .add 16 15 1,m_ 5 16]
def c64_l0:IR:=(.seq (sr c64_r4 (.ite (.t 14) .skip (.exit 0))) (.seq (.block 1 (sd c64_r5 (iz 26 (rr c64_r6)))) (.reg c64_r7)))
def c64_r8:=[k_ 4 (.bool true)]
def c64:Dv:=⟨2,27,[.t 4],sr c64_r0 (.seq (sr c64_r1 (iz 10 (rr c64_r2))) (.seq (sr c64_r3 (Im 0 c64_l0)) (rr c64_r8)))⟩
def K64 (D:Bl):Prop:=∀a0 a1 r,g64 a0 a1=some r→D 64 ⟨[Cg a0,Cg a1],[]⟩ ⟨.bool r,[],[]⟩
theorem F64 (H107:K107 C):K64 (FO C c64):=by
 intro a0 a1 r h0
 refine f0 (Ba 3 [(0,Cg a0),(1,Cg a1)] [] (Bj 3 (Ar (Nh rfl (st (Bm rfl tv (Nh rfl (o_ (Ba 2 [(0,Cg a0),(1,Cg a1),(10,.bool ((a0.length:Int) != (a1.length:Int)))] [] (Cs h0 (fun c1 h0=>?_) (fun c1 h0=>?_)))))))))))
 ·obtain rfl:=sj h0
  exact Cy 4
 ·refine Ba 6 [(0,Cg a0),(1,Cg a1),(5,iV 0)] [] (Bu (bb h0 fun r28 e29 h0=>Cv (R:=(fun S=>.inl ()=r28∧S=⟨[],[],[]⟩)) (aF a0 a1) (fun s S=>match s with | p10=>S=⟨[(0,Cg a0),(1,Cg a1),(5,iV p10)],[],[]⟩) e29 _ (Cj (by kernel_rfl)) rfl 0 (fun _=>rfl) ?_ ?_))
  ·rintro S _ hfg ⟨rfl,rfl⟩
   refine Cb _ hfg ?_
   obtain rfl:=sj h0
   exact Cy 4
  ·rintro p10 o1 _ K1 rfl h1 hx1 hK1 hE1 hR1
   refine Bj 4 (Ar (Nh rfl (o_ (Ba 2 [(0,Cg a0),(1,Cg a1),(5,iV p10),(14,.bool (decide (p10<(a0.length:Int))))] [] (Cs h1 (fun c20 h1=>?_) (fun c20 h1=>?_))))))
   ·refine Ot 5 (bb h1 fun y21 e22 h1=>bb h1 fun y23 e24 h1=>bb h1 fun r25 e26 h1=>Bj 2 (Bq (d_ (tH rfl rfl rfl e22 (Bj 3 (Bq (d_ (tH rfl rfl rfl e24 (Bq (Al tv (c_ (v:=.agg (Ab y23)) (Bn ⟨tv,tv⟩ rfl (nl rfl)) (⟨tv,cG (H107 y21 y23 r25 e26) rfl (dw [(0,Cg a0),(1,Cg a1),(5,iV p10),(25,.bool r25)] [] tv (d_ (Ba 2 [(0,Cg a0),(1,Cg a1),(5,iV p10),(26,.bool (!r25))] [] (Cs h1 (fun Xz h1=>?_) (fun Xz h1=>?_))))) Bg⟩))))))))))))
    ·obtain rfl:=sj h1
     obtain rfl:=hx1 _ rfl
     obtain rfl:=sj h0
     exact cR 4 hR1
    ·refine Bj 7 ?_
     obtain rfl:=sj h1
     exact kn hK1 rfl rfl
   ·obtain rfl:=sj h1
    obtain rfl:=hx1 _ rfl
    refine In rfl ?_
    exact jn hE1 ⟨rfl,rfl⟩

/- loop.example/g00149/laws.eqTable -/
def c21_r0:=[X_ 2 0,X_ 3 1,k_ 4 (.bool false)]
def c21_r1:=[f_ 5 2 0,l_ 6 5 1,f_ 7 3 0,l_ 8 7 1,b_ .neq 9 6 8]
def c21_r2:=[k_ 4 (.bool false)]
def c21_r3:=[f_ 10 2 1,l_ 11 10 1,f_ 12 3 1,l_ 13 12 1,b_ .neq 14 11 13]
def c21_r4:=[k_ 4 (.bool false)]
def c21_r5:=[f_ 15 2 2,l_ 16 15 1,f_ 17 3 2,l_ 18 17 1,q_ 19 64 [.t 16,.t 18],N_ 20 19]
def c21_r6:=[k_ 4 (.bool false)]
def c21_r7:=[k_ 4 (.bool true)]
def c21:Dv:=⟨2,21,[.t 4],sr c21_r0 (.seq (sr c21_r1 (iz 9 (rr c21_r2))) (.seq (sr c21_r3 (iz 14 (rr c21_r4))) (.seq (sr c21_r5 (iz 20 (rr c21_r6))) (rr c21_r7))))⟩
def K21 (D:Bl):Prop:=∀a0 a1 r,g21 a0 a1=some r→D 21 ⟨[.agg (Bk a0),.agg (Bk a1)],[]⟩ ⟨.bool r,[],[]⟩
theorem F21 (H64:K64 C):K21 (FO C c21):=by
 intro a0 a1 r h0
 refine f0 (Ba 14 [(2,.ptr 128 0),(3,.ptr 192 0),(9,.bool (a0.clock != a1.clock))] [(128,Bk a0),(192,Bk a1)] (Cs h0 (fun c1 h0=>?_) (fun c1 h0=>?_)))
 ·obtain rfl:=sj h0
  exact Cy 4
 ·refine Ba 10 [(2,.ptr 128 0),(3,.ptr 192 0),(14,.bool (a0.next != a1.next))] [(128,Bk a0),(192,Bk a1)] (Cs h0 (fun c2 h0=>?_) (fun c2 h0=>?_))
  ·obtain rfl:=sj h0
   exact Cy 4
  ·refine Bj 8 (Ar (bb h0 fun r3 e4 h0=>Sn (H64 a0.Af a1.Af r3 e4) (o_ (Ba 2 [(20,.bool (!r3))] [] (Cs h0 (fun c5 h0=>?_) (fun c5 h0=>?_))))))
   ·obtain rfl:=sj h0
    exact Cy 4
   ·obtain rfl:=sj h0
    exact Cy 6

/- loop.example/g00149/laws.eqIntS -/
def c36_r0:=[k_ 4 (.bool false)]
def c36_r1:=[m_ 6 0,n_ 7 6,m_ 8 1,n_ 9 8,b_ .neq 10 7 9]
def c36_r2:=[k_ 4 (.bool false)]
def c36_r3:=[i_ 5 0]
def c36_r4:=[m_ 11 5,m_ 12 0,n_ 13 12,b_ .lss 14 11 13]
def c36_r5:=tk [m_ 17 0,m_ 18 5,x_ 19 17 18 1,l_ 20 19 1,m_ 21 1,m_ 22 5,x_ 23 21 22 1,l_ 24 23 1,b_ .neq 25 20 24] .fin
def c36_r6:=[k_ 4 (.bool false)]
def c36_r7:=[m_ 15 5,B_ .add 16 15 1,m_ 5 16]
def c36_l0:IR:=(.seq (sr c36_r4 (.ite (.t 14) .skip (.exit 0))) (.seq (.block 1 (sd c36_r5 (iz 25 (rr c36_r6)))) (.reg c36_r7)))
def c36_r8:=[k_ 4 (.bool true)]
def HH:Dv:=⟨2,26,[.t 4],sr c36_r0 (.seq (sr c36_r1 (iz 10 (rr c36_r2))) (.seq (sr c36_r3 (Im 0 c36_l0)) (rr c36_r8)))⟩
def K36 (D:Bl):Prop:=∀a0 a1 r,g36 a0 a1=some r→D 36 ⟨[lI a0,lI a1],[]⟩ ⟨.bool r,[],[]⟩
theorem F36:K36 (FO C HH):=by
 intro a0 a1 r h0
 refine f0 (Ba 3 [(0,lI a0),(1,lI a1)] [] (Bj 3 (Ar (Nh rfl (st (Bm rfl tv (Nh rfl (o_ (Ba 2 [(0,lI a0),(1,lI a1),(10,.bool ((a0.length:Int) != (a1.length:Int)))] [] (Cs h0 (fun c1 h0=>?_) (fun c1 h0=>?_)))))))))))
 ·obtain rfl:=sj h0
  exact Cy 4
 ·refine Ba 6 [(0,lI a0),(1,lI a1),(5,iV 0)] [] (Bu (bb h0 fun r22 e23 h0=>Cv (R:=(fun S=>.inl ()=r22∧S=⟨[],[],[]⟩)) (aD a0 a1) (fun s S=>match s with | p8=>S=⟨[(0,lI a0),(1,lI a1),(5,iV p8)],[],[]⟩) e23 _ (Cj (by kernel_rfl)) rfl 0 (fun _=>rfl) ?_ ?_))
  ·rintro S _ hfg ⟨rfl,rfl⟩
   refine Cb _ hfg ?_
   obtain rfl:=sj h0
   exact Cy 4
  ·rintro p8 o1 _ K1 rfl h1 hx1 hK1 hE1 hR1
   refine Bj 4 (Ar (Nh rfl (o_ (Ba 2 [(0,lI a0),(1,lI a1),(5,iV p8),(14,.bool (decide (p8<(a0.length:Int))))] [] (Cs h1 (fun c16 h1=>?_) (fun c16 h1=>?_))))))
   ·refine Ot 5 (bb h1 fun y17 e18 h1=>bb h1 fun y19 e20 h1=>Bj 2 (Bq (d_ (tH rfl rfl rfl e18 (Bj 3 (Bq (d_ (tH rfl rfl rfl e20 (Ba 3 [(0,lI a0),(1,lI a1),(5,iV p8),(25,.bool (y17 != y19))] [] (Cs h1 (fun c21 h1=>?_) (fun c21 h1=>?_)))))))))))
    ·obtain rfl:=sj h1
     obtain rfl:=hx1 _ rfl
     obtain rfl:=sj h0
     exact cR 4 hR1
    ·refine Bj 7 ?_
     obtain rfl:=sj h1
     exact kn hK1 rfl rfl
   ·obtain rfl:=sj h1
    obtain rfl:=hx1 _ rfl
    refine In rfl ?_
    exact jn hE1 ⟨rfl,rfl⟩

/- loop.example/g00149/laws.eqIntent -/
def NE:=[X_ 2 0,X_ 3 1,k_ 4 (.bool false)]
def NG:=[f_ 5 2 0,l_ 6 5 1,f_ 7 3 0,l_ 8 7 1,b_ .neq 9 6 8]
def NH:=[k_ 4 (.bool false)]
def NI:=[f_ 10 2 1,l_ 11 10 1,f_ 12 3 1,l_ 13 12 1,iQ 14 (.binB .neq (.t 11) (.t 13))]
def NJ:=[k_ 4 (.bool false)]
def NK:=[k_ 4 (.bool true)]
def c131:Dv:=⟨2,15,[.t 4],sr NE (.seq (sr NG (iz 9 (rr NH))) (.seq (sr NI (iz 14 (rr NJ))) (rr NK)))⟩
def K131 (D:Bl):Prop:=∀a0 a1 r,DG a0 a1=some r→D 131 ⟨[.agg (Ca a0),.agg (Ca a1)],[]⟩ ⟨.bool r,[],[]⟩
theorem F131:K131 (FO C c131):=by
 intro a0 a1 r h0
 refine f0 (Ba 14 [(2,.ptr 128 0),(3,.ptr 192 0),(9,.bool (a0.Br != a1.Br))] [(128,Ca a0),(192,Ca a1)] (Cs h0 (fun c1 h0=>?_) (fun c1 h0=>?_)))
 ·obtain rfl:=sj h0
  exact Cy 4
 ·refine Ba 10 [(14,.bool (!(a0.Jx==a1.Jx)))] [] (Cs h0 (fun c2 h0=>?_) (fun c2 h0=>?_))
  ·obtain rfl:=sj h0
   exact Cy 4
  ·obtain rfl:=sj h0
   exact Cy 6

/- loop.example/g00149/laws.eqIntentS -/
def c99_r0:=[k_ 4 (.bool false)]
def c99_r1:=[m_ 6 0,n_ 7 6,m_ 8 1,n_ 9 8,b_ .neq 10 7 9]
def c99_r2:=[k_ 4 (.bool false)]
def c99_r3:=[i_ 5 0]
def c99_r4:=[m_ 11 5,m_ 12 0,n_ 13 12,b_ .lss 14 11 13]
def c99_r5:=tk [m_ 17 0,m_ 18 5,x_ 19 17 18 2,L_ 20 19 2,m_ 21 1,m_ 22 5,x_ 23 21 22 2,L_ 24 23 2] (.alt [] (q_ 25 131 [.t 20,.t 24]) (tk [N_ 26 25] .fin) .stop)
def c99_r6:=[k_ 4 (.bool false)]
def c99_r7:=[m_ 15 5,B_ .add 16 15 1,m_ 5 16]
def c99_l0:IR:=(.seq (sr c99_r4 (.ite (.t 14) .skip (.exit 0))) (.seq (.block 1 (sd c99_r5 (iz 26 (rr c99_r6)))) (.reg c99_r7)))
def c99_r8:=[k_ 4 (.bool true)]
def c99:Dv:=⟨2,27,[.t 4],sr c99_r0 (.seq (sr c99_r1 (iz 10 (rr c99_r2))) (.seq (sr c99_r3 (Im 0 c99_l0)) (rr c99_r8)))⟩
def K99 (D:Bl):Prop:=∀a0 a1 r,g99 a0 a1=some r→D 99 ⟨[Ce a0,Ce a1],[]⟩ ⟨.bool r,[],[]⟩
theorem F99 (H131:K131 C):K99 (FO C c99):=by
 intro a0 a1 r h0
 refine f0 (Ba 3 [(0,Ce a0),(1,Ce a1)] [] (Bj 3 (Ar (Nh rfl (st (Bm rfl tv (Nh rfl (o_ (Ba 2 [(0,Ce a0),(1,Ce a1),(10,.bool ((a0.length:Int) != (a1.length:Int)))] [] (Cs h0 (fun c1 h0=>?_) (fun c1 h0=>?_)))))))))))
 ·obtain rfl:=sj h0
  exact Cy 4
 ·refine Ba 6 [(0,Ce a0),(1,Ce a1),(5,iV 0)] [] (Bu (bb h0 fun r28 e29 h0=>Cv (R:=(fun S=>.inl ()=r28∧S=⟨[],[],[]⟩)) (aK a0 a1) (fun s S=>match s with | p10=>S=⟨[(0,Ce a0),(1,Ce a1),(5,iV p10)],[],[]⟩) e29 _ (Cj (by kernel_rfl)) rfl 0 (fun _=>rfl) ?_ ?_))
  ·rintro S _ hfg ⟨rfl,rfl⟩
   refine Cb _ hfg ?_
   obtain rfl:=sj h0
   exact Cy 4
  ·rintro p10 o1 _ K1 rfl h1 hx1 hK1 hE1 hR1
   refine Bj 4 (Ar (Nh rfl (o_ (Ba 2 [(0,Ce a0),(1,Ce a1),(5,iV p10),(14,.bool (decide (p10<(a0.length:Int))))] [] (Cs h1 (fun c20 h1=>?_) (fun c20 h1=>?_))))))
   ·refine Ot 5 (bb h1 fun y21 e22 h1=>bb h1 fun y23 e24 h1=>bb h1 fun r25 e26 h1=>Bj 2 (Bq (d_ (tH rfl rfl rfl e22 (Bj 3 (Bq (d_ (tH rfl rfl rfl e24 (Bq (Al tv (c_ (v:=.agg (Ca y23)) (Bn ⟨tv,tv⟩ rfl (nl rfl)) (⟨tv,cG (H131 y21 y23 r25 e26) rfl (dw [(0,Ce a0),(1,Ce a1),(5,iV p10),(25,.bool r25)] [] tv (d_ (Ba 2 [(0,Ce a0),(1,Ce a1),(5,iV p10),(26,.bool (!r25))] [] (Cs h1 (fun Xz h1=>?_) (fun Xz h1=>?_))))) Bg⟩))))))))))))
    ·obtain rfl:=sj h1
     obtain rfl:=hx1 _ rfl
     obtain rfl:=sj h0
     exact cR 4 hR1
    ·refine Bj 7 ?_
     obtain rfl:=sj h1
     exact kn hK1 rfl rfl
   ·obtain rfl:=sj h1
    obtain rfl:=hx1 _ rfl
    refine In rfl ?_
    exact jn hE1 ⟨rfl,rfl⟩

/- loop.example/g00149/laws.eqVault -/
def c49_r0:=[X_ 2 0,X_ 3 1,k_ 4 (.bool false)]
def c49_r1:=[f_ 5 2 0,L_ 6 5 3,f_ 7 3 0,L_ 8 7 3,q_ 9 21 [.t 6,.t 8],N_ 10 9]
def c49_r2:=[k_ 4 (.bool false)]
def c49_r3:=[f_ 11 2 3,l_ 12 11 1,f_ 13 3 3,l_ 14 13 1,q_ 15 99 [.t 12,.t 14],N_ 16 15]
def c49_r4:=[k_ 4 (.bool false)]
def c49_r5:=[f_ 17 2 4,l_ 18 17 1,f_ 19 3 4,l_ 20 19 1,q_ 21 36 [.t 18,.t 20],N_ 22 21]
def c49_r6:=[k_ 4 (.bool false)]
def c49_r7:=[f_ 23 2 5,l_ 24 23 1,f_ 25 3 5,l_ 26 25 1,iQ 27 (.binB .neq (.t 24) (.t 26))]
def c49_r8:=[k_ 4 (.bool false)]
def c49_r9:=[k_ 4 (.bool true)]
def c49:Dv:=⟨2,28,[.t 4],sr c49_r0 (.seq (sr c49_r1 (iz 10 (rr c49_r2))) (.seq (sr c49_r3 (iz 16 (rr c49_r4))) (.seq (sr c49_r5 (iz 22 (rr c49_r6))) (.seq (sr c49_r7 (iz 27 (rr c49_r8))) (rr c49_r9)))))⟩
def K49 (D:Bl):Prop:=∀a0 a1 r,g49 a0 a1=some r→D 49 ⟨[.agg (Bv a0),.agg (Bv a1)],[]⟩ ⟨.bool r,[],[]⟩
theorem F49 (H21:K21 C) (H36:K36 C) (H99:K99 C):K49 (FO C c49):=by
 intro a0 a1 r h0
 refine f0 (Ba 5 [(2,.ptr 128 0),(3,.ptr 192 0)] [(128,Bv a0),(192,Bv a1)] (Bj 6 (Ar (bb h0 fun r1 e2 h0=>Sn (H21 a0.Ac a1.Ac r1 e2) (o_ (Ba 2 [(2,.ptr 128 0),(3,.ptr 192 0),(10,.bool (!r1))] [(128,Bv a0),(192,Bv a1)] (Cs h0 (fun c3 h0=>?_) (fun c3 h0=>?_))))))))
 ·obtain rfl:=sj h0
  exact Cy 4
 ·refine Bj 8 (Ar (bb h0 fun r4 e5 h0=>Sn (H99 a0.Ad a1.Ad r4 e5) (o_ (Ba 2 [(2,.ptr 128 0),(3,.ptr 192 0),(16,.bool (!r4))] [(128,Bv a0),(192,Bv a1)] (Cs h0 (fun c6 h0=>?_) (fun c6 h0=>?_))))))
  ·obtain rfl:=sj h0
   exact Cy 4
  ·refine Bj 8 (Ar (bb h0 fun r7 e8 h0=>Sn (H36 a0.Aj a1.Aj r7 e8) (o_ (Ba 2 [(2,.ptr 128 0),(3,.ptr 192 0),(22,.bool (!r7))] [(128,Bv a0),(192,Bv a1)] (Cs h0 (fun c9 h0=>?_) (fun c9 h0=>?_))))))
   ·obtain rfl:=sj h0
    exact Cy 4
   ·refine Ba 10 [(27,.bool (!(a0.Am==a1.Am)))] [] (Cs h0 (fun c10 h0=>?_) (fun c10 h0=>?_))
    ·obtain rfl:=sj h0
     exact Cy 4
    ·obtain rfl:=sj h0
     exact Cy 6

/- loop.example/g00149/spec.l01In -/
def c56_r0:=[k_ 6 (.bool false)]
def c56_r1:=[m_ 7 0,m_ 8 1,b_ .geq 9 7 8,m_ 10 9,mT 10 11 0,mT 10 12 2,pT 10 13 (.bin .leq (.t 11) (.t 12)),pa 14 10 13,m_ 6 14]
def c56:Dv:=⟨3,15,[.t 6],sr c56_r0 (rr c56_r1)⟩
def K56 (D:Bl):Prop:=∀a0 a1 a2 r,g56 a0 a1 a2=some r→D 56 ⟨[iV a0,iV a1,iV a2],[]⟩ ⟨.bool r,[],[]⟩
theorem F56:K56 (FO C c56):=by
 intro a0 a1 a2 r h0
 refine f0 (Ba 3 [(0,iV a0),(1,iV a1),(2,iV a2)] [] (jE 9 (Ar (o_ ?_))))
 obtain rfl:=sj h0
 exact Cy 3

/- loop.example/g00149/spec.l09Act -/
def HY:=[X_ 1 0,k_ 2 (.bool false)]
def HZ:List Cf:=[f_ 4 1 5,l_ 5 4 1,n_ 6 5,B_ .gtr 7 6 4096,m_ 8 7,fF 8 9 1 6,lF 8 10 9 1 false,⟨some 11,.call 56 [.t 10,.c (iV 0),.c (iV 2)],some (8,false)⟩,pF 8 12 (.un .not (.t 11)),po 13 8 12]
def IA:=[k_ 2 (.bool false)]
def IB:=[i_ 3 0]
def IC:=[m_ 14 3,f_ 15 1 5,l_ 16 15 1,n_ 17 16,b_ .lss 18 14 17]
def ID:=[f_ 21 1 5,l_ 22 21 1,m_ 23 3,x_ 24 22 23 1,l_ 25 24 1,q_ 26 56 [.t 25,.c (iV 0),.c (iV 2)],N_ 27 26]
def IE:=[k_ 2 (.bool false)]
def IF:=[m_ 19 3,B_ .add 20 19 1,m_ 3 20]
def HX:IR:=(.seq (sr IC (.ite (.t 18) .skip (.exit 0))) (.seq (.block 1 (sr ID (iz 27 (rr IE)))) (.reg IF)))
def IG:=[k_ 2 (.bool true)]
def c100:Dv:=⟨1,28,[.t 2],sr HY (.seq (sr HZ (iz 13 (rr IA))) (.seq (sr IB (Im 0 HX)) (rr IG)))⟩
def K100 (D:Bl):Prop:=∀a0 r,rG a0=some r→D 100 ⟨[.agg (Ao a0)],[]⟩ ⟨.bool r,[],[]⟩
theorem F100 (H56:K56 C):K100 (FO C c100):=by
 intro a0 r h0
 refine f0 (Ba 4 [(1,.ptr 64 0)] [(64,Ao a0)] (Bj 4 (Ar (Nh rfl (o_ (jE 4 (Ar (bb h0 fun r1 e2 h0=>st (Mh (r:=.bool r1) rfl false (fun hg=>H56 a0.stop 0 2 r1 (ip hg e2)) ⟨(fun hg=>hg),tv,tv,tv⟩ (fun _=>rfl) (fun _=>rfl) (fun _=>rfl) (fun h=>nomatch h) (o_ (gK_ 3 [(1,.ptr 64 0),(13,.bool (bif (decide ((a0.Bi.length:Int)>4096)) then true else (!r1)))] [(64,Ao a0)] (Cs h0 (fun c3 h0=>?_) (fun c3 h0=>?_)))))))))))))
 ·obtain rfl:=sj h0
  exact Cy 4
 ·refine Ba 6 [(1,.ptr 64 0),(3,iV 0)] [(64,Ao a0)] (Bu (bb h0 fun r24 e25 h0=>Cv (R:=(fun S=>.inl ()=r24∧S=⟨[],[],[]⟩)) (Tr a0) (fun s S=>match s with | p10=>S=⟨[(1,.ptr 64 0),(3,iV p10)],[(64,Ao a0)],[]⟩) e25 _ (Cj (by kernel_rfl)) rfl 0 (fun _=>rfl) ?_ ?_))
  ·rintro S _ hfg ⟨rfl,rfl⟩
   refine Cb _ hfg ?_
   obtain rfl:=sj h0
   exact Cy 4
  ·rintro p10 o1 _ K1 rfl h1 hx1 hK1 hE1 hR1
   refine Bj 5 (Ar (Nh rfl (o_ (Ba 2 [(1,.ptr 64 0),(3,iV p10),(18,.bool (decide (p10<(a0.Bi.length:Int))))] [(64,Ao a0)] (Cs h1 (fun c18 h1=>?_) (fun c18 h1=>?_))))))
   ·refine Bj 8 (Ar (bb h1 fun y19 e20 h1=>Ti rfl rfl e20 (st (c_ (Bn ⟨tv,tv⟩ rfl (nl rfl)) (bb h1 fun r21 e22 h1=>Sn (H56 y19 0 2 r21 e22) (o_ (Ba 2 [(1,.ptr 64 0),(3,iV p10),(27,.bool (!r21))] [(64,Ao a0)] (Cs h1 (fun c23 h1=>?_) (fun c23 h1=>?_)))))))))
    ·obtain rfl:=sj h1
     obtain rfl:=hx1 _ rfl
     obtain rfl:=sj h0
     exact cR 4 hR1
    ·refine Bj 7 ?_
     obtain rfl:=sj h1
     exact kn hK1 rfl rfl
   ·obtain rfl:=sj h1
    obtain rfl:=hx1 _ rfl
    refine In rfl ?_
    exact jn hE1 ⟨rfl,rfl⟩

/- loop.example/g00149/spec.l08Find -/
def c92_r0:=[X_ 2 0,i_ 4 0]
def c92_r1:=[i_ 5 0]
def c92_r2:=[m_ 6 5,f_ 7 2 2,l_ 8 7 1,n_ 9 8,b_ .lss 10 6 9]
def c92_r3:=[f_ 13 2 2,l_ 14 13 1,m_ 15 5,x_ 16 14 15 4,f_ 17 16 0,l_ 18 17 1,m_ 19 1,b_ .eql 20 18 19]
def c92_r4:=[m_ 21 5,m_ 4 21]
def c92_r5:=[m_ 11 5,B_ .add 12 11 1,m_ 5 12]
def c92_l0:IR:=(.seq (sr c92_r2 (.ite (.t 10) .skip (.exit 0))) (.seq (.block 1 (sr c92_r3 (iz 20 (rr c92_r4)))) (.reg c92_r5)))
def c92_r6:=[i_ 4 (-1)]
def c92:Dv:=⟨2,22,[.t 4],sr c92_r0 (.seq (sr c92_r1 (Im 0 c92_l0)) (rr c92_r6))⟩
def K92 (D:Bl):Prop:=∀a0 a1 r,g92 a0 a1=some r→D 92 ⟨[.agg (Bk a0),iV a1],[]⟩ ⟨iV r,[],[]⟩
theorem F92:K92 (FO C c92):=by
 intro a0 a1 r h0
 refine f0 (Ba 9 [(1,iV a1),(2,.ptr 128 0),(5,iV 0)] [(128,Bk a0)] (Bu (bb h0 fun r15 e16 h0=>Cv (R:=(fun S=>.inl ()=r15∧S=⟨[],[],[]⟩)) (fZ a0 a1) (fun s S=>match s with | p5=>S=⟨[(1,iV a1),(2,.ptr 128 0),(5,iV p5)],[(128,Bk a0)],[]⟩) e16 _ (Cj (by kernel_rfl)) rfl 0 (fun _=>rfl) ?_ ?_)))
 ·rintro S _ hfg ⟨rfl,rfl⟩
  refine Cb _ hfg ?_
  obtain rfl:=sj h0
  exact Cy 4
 ·rintro p5 o1 _ K1 rfl h1 hx1 hK1 hE1 hR1
  refine Bj 5 (Ar (Nh rfl (o_ (Ba 2 [(1,iV a1),(2,.ptr 128 0),(5,iV p5),(10,.bool (decide (p5<(a0.Af.length:Int))))] [(128,Bk a0)] (Cs h1 (fun c11 h1=>?_) (fun c11 h1=>?_))))))
  ·refine Bj 8 (Ar (bb h1 fun y12 e13 h1=>Ti rfl rfl e13 (o_ (Ba 5 [(1,iV a1),(2,.ptr 128 0),(5,iV p5),(20,.bool (y12.id==a1))] [(128,Bk a0)] (Cs h1 (fun c14 h1=>?_) (fun c14 h1=>?_))))))
   ·obtain rfl:=sj h1
    obtain rfl:=hx1 _ rfl
    obtain rfl:=sj h0
    exact cR 5 hR1
   ·refine Bj 7 ?_
    obtain rfl:=sj h1
    exact kn hK1 rfl rfl
  ·obtain rfl:=sj h1
   obtain rfl:=hx1 _ rfl
   refine In rfl ?_
   exact jn hE1 ⟨rfl,rfl⟩

/- loop.example/g00149/spec.l08Copy -/
def KD:=[X_ 1 0,a_ 2 (zT 131)]
def KE:List Cf:=[⟨some 3,.mkS 4 [iV 0,iV 0,iV 0,.bool false] 0 [],none⟩,f_ 4 1 2,l_ 5 4 1,⟨some 6,.app 4 32 (.t 3) (.t 5),none⟩,f_ 7 1 2,s_ 7 6 1]
def KF:=[L_ 8 1 3,s_ 2 8 3]
def c111:Dv:=⟨1,9,[.cell 2 3 true],sr KD (sr KE (rr KF))⟩
def lB (D:Bl):Prop:=∀a0 r,jA a0=some r→D 111 ⟨[.agg (Bk a0)],[]⟩ ⟨.agg (Cp r (Aq 0)),[],[]⟩
theorem F111:lB (FO C c111):=by
 intro a0 r h0
 refine f0 (Ba 4 [(1,.ptr 64 0),(2,.ptr 128 0)] [(64,Bk a0),(128,Bt 0 0 (Aq 131) [])] (Bj 4 (Ar (gg h0 fun c1 h0=>st (Lb (e:=Ab) (l0:=([]:List Aa)) (l1:=a0.Af) rfl rfl tv rfl (by decide) c1 (o_ ?_))))))
 obtain rfl:=sj h0
 exact Cy 9

/- loop.example/g00149/spec.l08Revoke -/
def c74_r0:=[X_ 2 0,a_ 4 (zT 259),i_ 5 0]
def c74_r1:=[L_ 8 2 3,m_ 9 1,q_ 10 92 [.t 8,.t 9],m_ 6 10]
def c74_r2:=[m_ 11 6,B_ .lss 12 11 0]
def c74_r3:=[L_ 13 2 3,s_ 4 13 3,i_ 5 5]
def c74_r4:=[L_ 14 2 3,q_ 15 111 [.t 14],a_ 7 (zT 451),s_ 7 15 3]
def c74_r5:List Cf:=[f_ 16 7 2,l_ 17 16 1,m_ 18 6,x_ 19 17 18 4,f_ 20 19 3,⟨none,.store (.t 20) (.c (.bool true)) 1,none⟩]
def c74_r6:=[L_ 21 7 3,s_ 4 21 3,i_ 5 0]
def c74:Dv:=⟨2,22,[.cell 4 3 true,.t 5],sr c74_r0 (sr c74_r1 (.seq (sr c74_r2 (iz 12 (rr c74_r3))) (sr c74_r4 (sr c74_r5 (rr c74_r6)))))⟩
def K74 (D:Bl):Prop:=∀a0 a1 r,g74 a0 a1=some r→D 74 ⟨[.agg (Bk a0),iV a1],[]⟩ ⟨.tup [.agg (Bk r.1),iV r.2],[],[]⟩
theorem F74 (H92:K92 C) (H111:lB C):K74 (FO C c74):=by
 intro a0 a1 r h0
 refine f0 (Ba 5 [(1,iV a1),(2,.ptr 128 0),(4,.ptr 256 0)] [(128,Bk a0),(256,Bt 0 0 (Aq 259) [])] (Bj 3 (Ar (bb h0 fun r1 e2 h0=>Sn (H92 a0 a1 r1 e2) (o_ (Ba 8 [(2,.ptr 128 0),(4,.ptr 256 0),(6,iV r1),(12,.bool (decide (r1<0)))] [(128,Bk a0),(256,Bt 0 0 (Aq 259) [])] (Cs h0 (fun c3 h0=>?_) (fun c3 h0=>?_))))))))
 ·obtain rfl:=sj h0
  exact Cy 6
 ·refine Bj 4 (Ar (bb h0 fun r4 e5 h0=>Vp (H111 a0 r4 e5) (ar (Az rfl (af rfl))) (o_ (Ba 3 [(4,.ptr 256 0),(6,iV r1),(7,.ptr 448 0)] [(256,Bt 0 0 (Aq 259) []),(448,Cp r4 (Aq 960))] (Bj 4 (Ar (bb h0 fun y6 e7 h0=>Zb rfl rfl e7 (st (c_ (Bn ⟨tv,tv⟩ rfl tv) (bb h0 fun y8 e9 h0=>kG (Aa.mk y8.id y8.Bp y8.cap true) rfl rfl e9 (o_ ?_)))))))))))
  obtain rfl:=sj h0
  exact Cy 8 [960]

/- loop.example/g00149/spec.l08Later -/
def c53_r0:=[i_ 4 0]
def c53_r1:List Cf:=[m_ 5 0,m_ 6 1,⟨some 7,.p (.bin .sub (.c (iV 9223372036854775807)) (.t 6)),none⟩,b_ .gtr 8 5 7]
def c53_r2:=[i_ 4 9223372036854775807]
def c53_r3:=[m_ 9 0,m_ 10 1,b_ .add 11 9 10,m_ 4 11]
def c53:Dv:=⟨2,12,[.t 4],sr c53_r0 (.seq (sr c53_r1 (iz 8 (rr c53_r2))) (rr c53_r3))⟩
def K53 (D:Bl):Prop:=∀a0 a1 r,g53 a0 a1=some r→D 53 ⟨[iV a0,iV a1],[]⟩ ⟨iV r,[],[]⟩
theorem F53:K53 (FO C c53):=by
 intro a0 a1 r h0
 refine f0 (Ba 11 [(0,iV a0),(1,iV a1),(8,.bool (decide (a0>(wi (9223372036854775807-a1)))))] [] (Cs h0 (fun c1 h0=>?_) (fun c1 h0=>?_)))
 ·obtain rfl:=sj h0
  exact Cy 4
 ·obtain rfl:=sj h0
  exact Cy 9

/- loop.example/g00149/spec.l08Renew -/
def c79_r0:=[X_ 3 0,a_ 6 (zT 387),i_ 7 0]
def c79_r1:=[L_ 10 3 3,m_ 11 1,q_ 12 92 [.t 10,.t 11],m_ 8 12]
def c79_r2:=[m_ 14 2,B_ .lss 15 14 1,m_ 13 15]
def c79_r3:=[L_ 16 3 3,s_ 6 16 3,i_ 7 4]
def c79_r4:=[m_ 18 8,B_ .lss 19 18 0,m_ 17 19]
def c79_r5:=[L_ 20 3 3,s_ 6 20 3,i_ 7 5]
def c79_r6:=[f_ 22 3 2,l_ 23 22 1,m_ 24 8,x_ 25 23 24 4,f_ 26 25 3,l_ 27 26 1,m_ 21 27]
def c79_r7:=[L_ 28 3 3,s_ 6 28 3,i_ 7 13]
def c79_r8:=[L_ 29 3 3,q_ 30 111 [.t 29],a_ 9 (zT 579),s_ 9 30 3]
def c79_r9:=tk [f_ 31 9 2,l_ 32 31 1,m_ 33 8,f_ 34 9 2,l_ 35 34 1,m_ 36 8,x_ 37 35 36 4,f_ 38 37 2,l_ 39 38 1,f_ 40 3 0,l_ 41 40 1,m_ 42 2] (.alt [l_ 39 38 1,f_ 38 37 2,x_ 37 35 36 4,m_ 36 8,l_ 35 34 1,f_ 34 9 2,m_ 33 8,l_ 32 31 1,f_ 31 9 2] (q_ 43 53 [.t 41,.t 42]) (tk [iQ 44 (.mn (.t 39) (.t 43)),x_ 45 32 33 4,f_ 46 45 1] (.alt [] (s_ 46 44 1) .fin .stop)) .stop)
def AdA:=[L_ 47 9 3,s_ 6 47 3,i_ 7 0]
def c79:Dv:=⟨3,48,[.cell 6 3 true,.t 7],sr c79_r0 (sr c79_r1 (.seq (.block 0 (sr c79_r2 (.ite (.t 13) (rr c79_r3) (sr c79_r4 (.ite (.t 17) (rr c79_r5) (sr c79_r6 (iz 21 (rr c79_r7)))))))) (sr c79_r8 (sd c79_r9 (rr AdA)))))⟩
def K79 (D:Bl):Prop:=∀a0 a1 a2 r,g79 a0 a1 a2=some r→D 79 ⟨[.agg (Bk a0),iV a1,iV a2],[]⟩ ⟨.tup [.agg (Bk r.1),iV r.2],[],[]⟩
abbrev jQ:=fun x0 (r:List (Nat×List V))=>(192,Bk x0)::(384,Bt 0 0 (Aq 387) [])::r
abbrev jR:=fun x0 (r:List (Nat×V))=>(2,iV x0)::(3,.ptr 192 0)::(6,.ptr 384 0)::r
theorem F79 (H53:K53 C) (H92:K92 C) (H111:lB C):K79 (FO C c79):=by
 intro a0 a1 a2 r h0
 refine f0 (Ba 5 (jR a2 [(1,iV a1)]) (jQ a0 []) (Bj 3 (Ar (bb h0 fun r1 e2 h0=>Sn (H92 a0 a1 r1 e2) (o_ (Ba 10 (jR a2 [(8,iV r1),(13,.bool (decide (a2<1)))]) (jQ a0 []) (Cs h0 (fun c3 h0=>?_) (fun c3 h0=>?_))))))))
 ·obtain rfl:=sj h0
  exact Cy 6
 ·refine Ba 5 (jR a2 [(8,iV r1),(17,.bool (decide (r1<0)))]) (jQ a0 []) (Cs h0 (fun c4 h0=>?_) (fun c4 h0=>?_))
  ·obtain rfl:=sj h0
   exact Cy 6
  ·refine Bj 4 (Ar (bb h0 fun y5 e6 h0=>Ti rfl rfl e6 (o_ (Ba 4 (jR a2 [(8,iV r1),(21,.bool y5.Cl)]) (jQ a0 []) (Cs h0 (fun c7 h0=>?_) (fun c7 h0=>?_))))))
   ·obtain rfl:=sj h0
    exact Cy 6
   ·refine Bj 5 (Ar (bb h0 fun r8 e9 h0=>Vp (H111 a0 r8 e9) (ar (Az rfl (af rfl))) (o_ (Ba 3 (jR a2 [(8,iV r1),(9,.ptr 576 0)]) (jQ a0 [(576,Cp r8 (Aq 1920))]) (Aw (bb h0 fun y10 e11 h0=>bb h0 fun y12 e13 h0=>bb h0 fun r14 e15 h0=>Bj 6 (Bq (d_ (Zc rfl rfl rfl e11 (Bq (Al tv (c_ (Bn ⟨tv,tv⟩ rfl tv) (⟨tv,Ci (c_ (Ol rfl rfl e13) (⟨⟨Df rfl rfl e13 rfl,tv⟩,Al tv (c_ (Bn ⟨tv,tv⟩ rfl tv) (⟨⟨Df rfl rfl e13 rfl,tv⟩,Al tv (c_ (Bn ⟨tv,tv⟩ rfl (nl rfl)) (⟨⟨Df rfl rfl e13 rfl,tv⟩,Al tv (Bm rfl tv (⟨⟨Df rfl rfl e13 rfl,tv⟩,Ck (Cq (r:=iV r14) false (H53 a0.clock a2 r14 e15) ⟨tv,tv,tv⟩ rfl rfl (fun _=>rfl) (fG ⟨[(6,.ptr 384 0),(8,iV r1),(9,.ptr 576 0),(31,.ptr 576 2),(32,Ae 1920 r8.Af),(33,iV r1),(34,.ptr 576 2),(35,Ae 1920 r8.Af),(36,iV r1),(37,.optr 1920 4 (0+r1.toNat) 0),(38,.optr 1920 4 (0+r1.toNat) 2),(39,iV y12.cap),(43,iV r14)],[(384,Bt 0 0 (Aq 387) []),(576,Cp r8 (Aq 1920))],[]⟩ (Cj (by kernel_rfl)) ⟨[iQ 39 (.load (.t 38) 1 false)],⟨⟨.inr (.head _),Df rfl rfl e13 rfl⟩,⟨.inl tv,Bf (Bn ⟨tv,tv⟩ rfl tv) rfl⟩,⟨.inl tv,Bf (Kp rfl rfl e11) rfl⟩,⟨.inl tv,Bf (Eb (v:=iV r1) rfl tv) rfl⟩,⟨.inl tv,Bf (Bn ⟨tv,tv⟩ rfl (nl rfl)) rfl⟩,⟨.inl tv,Bf (Bn ⟨tv,tv⟩ rfl tv) rfl⟩,⟨.inl tv,Bf (Eb (v:=iV r1) rfl tv) rfl⟩,⟨.inl tv,Bf (Bn ⟨tv,tv⟩ rfl (nl rfl)) rfl⟩,⟨.inl tv,Bf (Bn ⟨tv,tv⟩ rfl tv) rfl⟩,tv⟩,⟨Df rfl rfl e13 rfl,tv⟩,Al tv (c_ (Bn ⟨tv,tv,tv⟩ rfl rfl) (⟨⟨Df rfl rfl e13 rfl,tv⟩,Al tv (c_ (Kp rfl rfl e11) (⟨⟨Df rfl rfl e13 rfl,tv⟩,?_⟩))⟩))⟩)) Bg⟩))⟩))⟩))⟩))⟩)))))))))))))
    refine Al tv (c_ (Bn ⟨tv,tv⟩ rfl tv) (⟨⟨Df rfl rfl e13 rfl,tv⟩,Ck (Hc (y':=(Aa.mk y12.id (if r14<y12.cap then r14 else y12.cap) y12.cap y12.Cl)) rfl rfl tv rfl rfl rfl rfl e13 (nl rfl) rfl rfl rfl rfl (d0 tv (Gf (Cb ⟨[(6,.ptr 384 0),(9,.ptr 576 0)],[(384,Bt 0 0 (Aq 387) []),(576,Bt r8.clock r8.next (Aq 1920) (r8.Af.set r1.toNat (Aa.mk y12.id (if r14<y12.cap then r14 else y12.cap) y12.cap y12.Cl)))],[]⟩ (fg ⟨rfl,rfl,tv⟩ ⟨rfl,congrArg (fun z=>some (([iV r8.clock,iV r8.next,.own 1920 0 4 z]:List V))) Ay,tv⟩) (rZ_ 5 [1920] [] [(6,.ptr 384 0),(7,iV 0)] [(384,Bt r8.clock r8.next u_ (r8.Af.set r1.toNat (Aa.mk y12.id (if r14<y12.cap then r14 else y12.cap) y12.cap y12.Cl)))] ?_))))) Bg⟩))
    obtain rfl:=sj h0
    exact Hj (Dk rfl rfl rfl rfl rfl tv)

/- loop.example/g00149/spec.l08Tick -/
def c81_r0:List Cf:=[X_ 2 0,a_ 4 (zT 259),⟨some 5,.nilS 1,none⟩]
def c81_r1:=[L_ 11 2 3,q_ 12 111 [.t 11],a_ 6 (zT 387),s_ 6 12 3]
def c81_r2:=[f_ 13 2 0,l_ 14 13 1,m_ 15 1,iQ 16 (.mx (.t 14) (.t 15)),f_ 17 6 0,s_ 17 16 1]
def c81_r3:List Cf:=[⟨some 18,.mkS 1 [iV 0] 0 [],none⟩,m_ 7 18]
def c81_r4:=[i_ 8 (-1)]
def c81_r5:=[i_ 9 0]
def c81_r6:=[m_ 19 9,f_ 20 6 2,l_ 21 20 1,n_ 22 21,b_ .lss 23 19 22]
def c81_r7:=[f_ 26 6 2,l_ 27 26 1,m_ 28 9,x_ 29 27 28 4,L_ 30 29 4,a_ 10 [iV 0,iV 0,iV 0,.bool false],s_ 10 30 4]
def c81_r8:=tk [f_ 31 10 3,l_ 32 31 1,N_ 33 32,m_ 34 33,fT 34 35 10 1,lT 34 36 35 1 false,fT 34 37 6 0,lT 34 38 37 1 false,pT 34 39 (.bin .leq (.t 36) (.t 38)),pa 40 34 39,m_ 41 40,mT 41 42 8,pT 41 43 (.bin .lss (.t 42) (.c (iV 0))),mT 41 44 43,fF 44 45 10 1,lF 44 46 45 1 false,fF 44 47 6 2,lF 44 48 47 1 false,mF 44 49 8,xF 44 50 48 49 4,fF 44 51 50 1,lF 44 52 51 1 false,pF 44 53 (.bin .lss (.t 46) (.t 52)),⟨some 54,.pick (.t 44) (.c (.bool true)) (.t 53),some (41,true)⟩,pa 55 41 54] .fin
def c81_r9:=[m_ 56 9,m_ 8 56]
def AdC:=[m_ 24 9,B_ .add 25 24 1,m_ 9 25]
def c81_l0:IR:=(.seq (sr c81_r6 (.ite (.t 23) .skip (.exit 2))) (.seq (.block 3 (sr c81_r7 (sd c81_r8 (iz 55 (.reg c81_r9))))) (.reg AdC)))
def AdD:=[m_ 57 8,B_ .lss 58 57 0]
def AdE:=[L_ 59 6 3,m_ 60 7,s_ 4 59 3,m_ 5 60]
def AdF:List Cf:=[f_ 61 6 2,l_ 62 61 1,m_ 63 8,x_ 64 62 63 4,f_ 65 64 3,⟨none,.store (.t 65) (.c (.bool true)) 1,none⟩]
def AdG:List Cf:=[m_ 66 7,f_ 67 6 2,l_ 68 67 1,m_ 69 8,x_ 70 68 69 4,f_ 71 70 0,l_ 72 71 1,⟨some 73,.mkS 1 [iV 0] 1 [(0,.t 72)],none⟩,⟨some 74,.app 1 8 (.t 66) (.t 73),none⟩,m_ 7 74]
def c81_l1:IR:=(.block 1 (sr c81_r4 (.seq (sr c81_r5 (Im 2 c81_l0)) (.seq (sr AdD (iz 58 (rr AdE))) (sr AdF (.reg AdG))))))
def c81:Dv:=⟨2,75,[.cell 4 3 true,.t 5],sr c81_r0 (sr c81_r1 (sr c81_r2 (sr c81_r3 (Im 0 c81_l1))))⟩
def K81 (D:Bl):Prop:=∀a0 a1 r,g81 a0 a1=some r→D 81 ⟨[.agg (Bk a0),iV a1],[]⟩ ⟨.tup [.agg (Cp r.1 (Aq 0)),oI 1 r.2],[],[]⟩
abbrev Sc:=fun x0 (r:List (Nat×V))=>(4,.ptr 256 0)::(6,.ptr 384 0)::(7,oI 1152 x0)::r
abbrev On:=fun (r:List (Nat×List V))=>(256,Bt 0 0 (Aq 259) [])::r
theorem F81 (H111:lB C):K81 (FO C c81):=by
 intro a0 a1 r h0
 refine f0 (Ba 5 [(1,iV a1),(2,.ptr 128 0),(4,.ptr 256 0)] (On [(128,Bk a0)]) (Bj 2 (Ar (bb h0 fun r1 e2 h0=>Vp (H111 a0 r1 e2) (ar (Az rfl (af rfl))) (o_ (Ba 17 [(4,.ptr 256 0),(6,.ptr 384 0),(7,oI 1152 [])] (On [(384,Bt (if a1>a0.clock then a1 else a0.clock) r1.next (Aq 768) r1.Af)]) (Bu (bb h0 fun r157 e158 h0=>Cv (R:=(fun _=>False)) (fY a0 a1 r1) (fun s S=>match s with | (p44,p45)=>S=⟨Sc p44 [],On [(384,Bt (if a1>a0.clock then a1 else a0.clock) r1.next (Aq 768) p45)],[]⟩) e158 _ (Cj (by kernel_rfl)) rfl 0 (fun h=>h.elim fun _ h=>h.elim) ?_ ?_))))))))
 ·exact fun _ _ _ h=>h.elim
 ·rintro ⟨p44,p45⟩ o1 _ K1 rfl h1 hx1 hK1 hE1 hR1
  refine Ba 9 (Sc p44 [(8,iV (-1)),(9,iV 0)]) (On [(384,Bt (if a1>a0.clock then a1 else a0.clock) r1.next (Aq 768) p45)]) (Bu (bb h1 fun r145 e146 h1=>Cv (R:=(fun S=>∃p119:Int,p119=r145∧S=⟨Sc p44 [(8,iV p119)],On [(384,Bt (if a1>a0.clock then a1 else a0.clock) r1.next (Aq 768) p45)],[]⟩)) (aG a0 a1 p45) (fun s S=>match s with | (p102,p103)=>S=⟨Sc p44 [(8,iV p102),(9,iV p103)],On [(384,Bt (if a1>a0.clock then a1 else a0.clock) r1.next (Aq 768) p45)],[]⟩) e146 _ (Cj (by kernel_rfl)) rfl 2 (fun _=>rfl) ?_ ?_))
  ·rintro S _ hfg ⟨p119,rfl,rfl⟩
   refine Cb _ hfg (Ba 5 (Sc p44 [(8,iV p119),(58,.bool (decide (p119<0)))]) (On [(384,Bt (if a1>a0.clock then a1 else a0.clock) r1.next (Aq 768) p45)]) (Cs h1 (fun c147 h1=>?_) (fun c147 h1=>?_)))
   ·obtain rfl:=sj h1
    obtain rfl:=hx1 _ rfl
    obtain rfl:=sj h0
    exact cR 7 hR1
   ·refine Bj 6 (Ar (bb h1 fun y148 e149 h1=>Zb rfl rfl e149 (st (c_ (Bn ⟨tv,tv⟩ rfl tv) (bb h1 fun y150 e151 h1=>kG (Aa.mk y150.id y150.Bp y150.cap true) rfl rfl e151 (o_ (Ba 1 (Sc p44 [(8,iV p119)]) (On [(384,Bt (if a1>a0.clock then a1 else a0.clock) r1.next (Aq 768) (p45.set p119.toNat (Aa.mk y150.id y150.Bp y150.cap true)))]) (Bj 4 (Ar (bb h1 fun y152 e153 h1=>Zb rfl rfl e153 (st (c_ (Bn ⟨tv,tv⟩ rfl tv) (bb h1 fun y154 e155 h1=>lo_ rfl rfl e155 (st (gH ⟨tv,tv⟩ ⟨⟨nl rfl,rfl,rfl⟩,tv⟩ (gg h1 fun UA h1=>st (Lb (e:=eI) (l0:=p44) (l1:=([y154.id]:List Int)) rfl rfl tv rfl (by decide) UA (st (Bm rfl tv (Cz (Qq ?_)))))))))))))))))))))
    obtain rfl:=sj h1
    exact kn hK1 rfl rfl
  ·rintro ⟨p102,p103⟩ o2 _ K2 rfl h2 hx2 hK2 hE2 hR2
   refine Bj 5 (Ar (bJ rfl (o_ (Ba 2 (Sc p44 [(8,iV p102),(9,iV p103),(23,.bool (decide (p103<(p45.length:Int))))]) (On [(384,Bt (if a1>a0.clock then a1 else a0.clock) r1.next (Aq 768) p45)]) (Cs h2 (fun LG h2=>?_) (fun LG h2=>?_))))))
   ·refine Ot 3 (Lc (fun S=>∃p132:Int,S=⟨Sc p44 [(8,iV p132),(9,iV p103)],On [(384,Bt (if a1>a0.clock then a1 else a0.clock) r1.next (Aq 768) p45)],[]⟩∧Wg p103 p132=some o2) ?_ (fun J133=>?_))
    ·rintro _ ⟨p132,rfl,h2⟩
     refine Bj 5 ?_
     obtain rfl:=sj h2
     exact kn hK2 rfl rfl
    ·refine Aw ?_
     refine Bj 3 (Ar (bb h2 fun y134 e135 h2=>Zb rfl rfl e135 (bb h2 fun y136 e137 h2=>lo_ rfl rfl e137 (o_ (Ba 3 (Sc p44 [(8,iV p102),(9,iV p103),(10,.ptr 640 0)]) (On [(384,Bt (if a1>a0.clock then a1 else a0.clock) r1.next (Aq 768) p45),(640,Ab y136)]) (Aw (bb h2 fun y138 e139 h2=>bb h2 fun y140 e141 h2=>Bj 4 (Bq (Al tv (Cw (u:=.ptr 640 1) rfl (fun hg=>(Bn ⟨tv,tv⟩ rfl tv)) (⟨tv,Al tv (Cw (u:=iV y136.Bp) rfl (fun hg=>(Bn ⟨(fun _=>hg),tv⟩ rfl (nl rfl))) (⟨tv,Al tv (Cw (u:=.ptr 384 0) rfl (fun hg=>(Bn ⟨tv,tv⟩ rfl tv)) (⟨tv,Al tv (Cw (u:=iV (if a1>a0.clock then a1 else a0.clock)) rfl (fun hg=>(Bn ⟨(fun _=>hg),tv⟩ rfl (nl rfl))) (⟨tv,Al tv (Cw (u:=.bool (decide (y136.Bp≤(if a1>a0.clock then a1 else a0.clock)))) rfl (fun hg=>(Bn ⟨(fun _=>hg),(fun _=>hg),tv⟩ rfl tv)) (⟨tv,Al tv (Fw rfl rfl rfl (fun h=>fI h) tv rfl (⟨tv,Al tv (Bm rfl tv (⟨tv,Al tv (Cw (u:=iV p102) rfl (fun hg=>(Eb (v:=iV p102) rfl tv)) (⟨tv,Al tv (Cw (u:=.bool (decide (p102<0))) rfl (fun hg=>(Bn ⟨(fun _=>hg),tv,tv⟩ rfl tv)) (⟨tv,Al tv (Cw (u:=.bool (decide (p102<0))) rfl (fun hg=>(Eb (v:=.may ((bif (!y136.Cl) then (decide (y136.Bp≤(if a1>a0.clock then a1 else a0.clock))) else false)==true) (.bool (decide (p102<0)))) rfl (fun _=>hg))) (⟨tv,Al tv (Cw (u:=.ptr 640 1) rfl (fun hg=>(Bn ⟨tv,tv⟩ rfl tv)) (⟨tv,?_⟩))⟩))⟩))⟩))⟩))⟩))⟩))⟩))⟩))⟩))⟩)))))))))))
     refine Al tv (Cw (u:=iV y136.Bp) rfl (fun hg=>(Bn ⟨(fun _=>hg),tv⟩ rfl (nl rfl))) (⟨tv,Al tv (Cw (u:=.ptr 384 2) rfl (fun hg=>(Bn ⟨tv,tv⟩ rfl tv)) (⟨tv,Al tv (Cw (u:=Ae 768 p45) rfl (fun hg=>(Bn ⟨(fun _=>hg),tv⟩ rfl (nl rfl))) (⟨tv,Al tv (Cw (u:=iV p102) rfl (fun hg=>(Eb (v:=iV p102) rfl tv)) (⟨tv,Al tv (Cw (u:=.optr 768 4 (0+p102.toNat) 0) rfl (fun hg=>(Fb (e:=Ab) (y:=y138) rfl rfl (fun _=>hg) rfl rfl (fun _=>hg) (ip hg e139))) (⟨tv,Al tv (Cw (u:=.optr 768 4 (0+p102.toNat) 1) rfl (fun hg=>(Bn ⟨(fun _=>hg),tv⟩ rfl tv)) (⟨tv,Ci (Cw (u:=iV y140.Bp) rfl (fun hg=>(Bo (e:=Ab) (y:=y140) (v:=iV y140.Bp) rfl rfl (fun _=>hg) rfl rfl (ip hg e141) rfl (nl rfl) rfl)) (⟨⟨Bx (v:=iV y140.Bp) rfl (fun hg=>(Bo (e:=Ab) (y:=y140) (v:=iV y140.Bp) rfl rfl (fun _=>hg) rfl rfl (ip hg e141) rfl (nl rfl) rfl)) rfl,tv⟩,Al tv (Cw (u:=.bool (decide (y136.Bp<y140.Bp))) rfl (fun hg=>(Bn ⟨(fun _=>hg),(fun _=>hg),tv⟩ rfl tv)) (⟨⟨Bx (v:=iV y140.Bp) rfl (fun hg=>(Bo (e:=Ab) (y:=y140) (v:=iV y140.Bp) rfl rfl (fun _=>hg) rfl rfl (ip hg e141) rfl (nl rfl) rfl)) rfl,tv⟩,Al tv (nF (u:=.bool (bif (decide (p102<0)) then true else (decide (y136.Bp<y140.Bp)))) rfl (fun hg=>CS rfl rfl (fun _=>hg) rfl rfl tv (fun h=>Az hg (HJ h)) rfl) (⟨⟨Bx (v:=iV y140.Bp) rfl (fun hg=>(Bo (e:=Ab) (y:=y140) (v:=iV y140.Bp) rfl rfl (fun _=>hg) rfl rfl (ip hg e141) rfl (nl rfl) rfl)) rfl,tv⟩,Al tv (Fw rfl rfl rfl (fun h=>fI h) tv rfl (⟨⟨Bx (v:=iV y140.Bp) rfl (fun hg=>(Bo (e:=Ab) (y:=y140) (v:=iV y140.Bp) rfl rfl (fun _=>hg) rfl rfl (ip hg e141) rfl (nl rfl) rfl)) rfl,tv⟩,Gf (bv h2 fun v142 e143 h2=>Cb ⟨Sc p44 [(8,iV p102),(9,iV p103),(55,.bool v142)],On [(384,Bt (if a1>a0.clock then a1 else a0.clock) r1.next (Aq 768) p45)],[]⟩ (Cj (by subst e143; kernel_rfl)) (Cs h2 (fun c144 h2=>?_) (fun c144 h2=>?_)))⟩))⟩))⟩))⟩))⟩))⟩))⟩))⟩))⟩))⟩))
     ·refine Bj 4 ?_
      exact jn J133 ⟨_,rfl,h2⟩
     ·refine Hb (Qq ?_)
      exact jn J133 ⟨_,rfl,h2⟩
   ·obtain rfl:=sj h2
    obtain rfl:=hx2 _ rfl
    refine In rfl ?_
    exact jn hE2 ⟨_,rfl,rfl⟩

/- loop.example/g00149/spec.l09Copy -/
def IT:=[X_ 1 0,a_ 2 (zV 131 132 133)]
def IU:=[f_ 3 1 0,L_ 4 3 3,q_ 5 111 [.t 4],f_ 6 1 0,s_ 6 5 3]
def IV:List Cf:=[⟨some 7,.mkS 2 [iV 0,.bool false] 0 [],none⟩,f_ 8 1 3,l_ 9 8 1,⟨some 10,.app 2 16 (.t 7) (.t 9),none⟩,f_ 11 1 3,s_ 11 10 1]
def IW:List Cf:=[⟨some 12,.mkS 1 [iV 0] 0 [],none⟩,f_ 13 1 4,l_ 14 13 1,⟨some 15,.app 1 8 (.t 12) (.t 14),none⟩,f_ 16 1 4,s_ 16 15 1]
def IX:=[L_ 17 1 6,s_ 2 17 6]
def c102:Dv:=⟨1,18,[.cell 2 6 true],sr IT (sr IU (sr IV (sr IW (rr IX))))⟩
def lA (D:Bl):Prop:=∀a0 r,Zz a0=some r→D 102 ⟨[.agg (Bv a0)],[]⟩ ⟨.agg (Av r (Aq 0) (Aq 1) (Aq 2)),[],[]⟩
abbrev nD:=fun (r:List (Nat×List V))=>(128,At 0 0 (Aq 131) [] (Aq 132) [] (Aq 133) [] false)::r
theorem F102 (H111:lB C):lA (FO C c102):=by
 intro a0 r h0
 refine f0 (Ba 4 [(1,.ptr 64 0),(2,.ptr 128 0)] (nD [(64,Bv a0)]) (Bj 3 (Ar (bb h0 fun r1 e2 h0=>Vp (H111 a0.Ac r1 e2) (ar (Az rfl (af rfl))) (o_ (Ba 3 [(1,.ptr 64 0),(2,.ptr 128 0)] (nD [(64,At r1.clock r1.next (Aq 320) r1.Af u_ a0.Ad u_ a0.Aj a0.Am)]) (Bj 4 (Ar (gg h0 fun c3 h0=>st (Lb (e:=Ca) (l0:=([]:List Ag)) (l1:=a0.Ad) rfl rfl tv rfl (by decide) c3 (o_ (Ba 3 [(1,.ptr 64 0),(2,.ptr 128 0)] (nD [(64,At r1.clock r1.next (Aq 320) r1.Af (Aq 448) (([]:List Ag)++a0.Ad) u_ a0.Aj a0.Am)]) (Bj 4 (Ar (gg h0 fun c4 h0=>st (Lb (e:=eI) (l0:=([]:List Int)) (l1:=a0.Aj) rfl rfl tv rfl (by decide) c4 (o_ ?_)))))))))))))))))
 obtain rfl:=sj h0
 exact Cy 9

/- loop.example/g00149/spec.l08Grant -/
def c70_r0:=[X_ 3 0,a_ 6 (zT 387),i_ 7 0,i_ 8 0]
def c70_r1:=[m_ 11 1,B_ .lss 12 11 1,m_ 13 12,mF 13 14 2,mF 13 15 1,pF 13 16 (.bin .lss (.t 14) (.t 15)),po 17 13 16,m_ 10 17]
def c70_r2:=[L_ 18 3 3,s_ 6 18 3,i_ 7 0,i_ 8 4]
def c70_r3:=[f_ 20 3 0,l_ 21 20 1,B_ .eql 22 21 9223372036854775807,m_ 19 22]
def c70_r4:=[L_ 23 3 3,s_ 6 23 3,i_ 7 0,i_ 8 11]
def c70_r5:=[f_ 25 3 2,l_ 26 25 1,n_ 27 26,B_ .eql 28 27 40,m_ 29 28,fF 29 30 3 1,lF 29 31 30 1 false,pF 29 32 (.bin .eql (.t 31) (.c (iV 1000000))),po 33 29 32,m_ 24 33]
def c70_r6:=[L_ 34 3 3,s_ 6 34 3,i_ 7 0,i_ 8 9]
def c70_r7:=[L_ 35 3 3,q_ 36 111 [.t 35],a_ 9 (zT 579),s_ 9 36 3]
def c70_r8:=tk [f_ 37 9 2,l_ 38 37 1,f_ 39 3 1,l_ 40 39 1,f_ 41 3 0,l_ 42 41 1,m_ 43 1,f_ 45 3 0,l_ 46 45 1,m_ 47 2] (.alt [m_ 47 2,l_ 46 45 1,f_ 45 3 0,l_ 40 39 1,f_ 39 3 1,l_ 38 37 1,f_ 37 9 2] (q_ 44 53 [.t 42,.t 43]) (.alt [l_ 40 39 1,f_ 39 3 1,l_ 38 37 1,f_ 37 9 2] (q_ 48 53 [.t 46,.t 47]) (tk [⟨some 49,.p (.build [iV 0,iV 0,iV 0,.bool false] [(0,1,.t 40),(1,1,.t 44),(2,1,.t 48)]),none⟩] (.alt [l_ 38 37 1,f_ 37 9 2] ⟨some 50,.mkS 4 [iV 0,iV 0,iV 0,.bool false] 1 [(0,.t 49)],none⟩ (.alt [] ⟨some 51,.app 4 32 (.t 38) (.t 50),none⟩ (tk [f_ 52 9 2] (.alt [] (s_ 52 51 1) .fin .stop)) .stop) .stop)) .stop) .stop)
def c70_r9:=[f_ 53 9 1,l_ 54 53 1,B_ .add 55 54 1,f_ 56 9 1,s_ 56 55 1]
def Ado:=tk [L_ 57 9 3,f_ 58 3 1,l_ 59 58 1] (.alt [l_ 59 58 1,f_ 58 3 1] (s_ 6 57 3) (tk [m_ 7 59,i_ 8 0] .fin) .stop)
def c70:Dv:=⟨3,60,[.cell 6 3 true,.t 7,.t 8],sr c70_r0 (.seq (.block 0 (sr c70_r1 (.ite (.t 10) (rr c70_r2) (sr c70_r3 (.ite (.t 19) (rr c70_r4) (sr c70_r5 (iz 24 (rr c70_r6)))))))) (sr c70_r7 (sd c70_r8 (sr c70_r9 (sd Ado .ret)))))⟩
def K70 (D:Bl):Prop:=∀a0 a1 a2 r,g70 a0 a1 a2=some r→D 70 ⟨[.agg (Bk a0),iV a1,iV a2],[]⟩ ⟨.tup [.agg (Bk r.1),iV r.2.1,iV r.2.2],[],[]⟩
abbrev jO:=fun x0 (r:List (Nat×List V))=>(192,Bk x0)::(384,Bt 0 0 (Aq 387) [])::r
abbrev pR:=fun x0 x1 (r:List (Nat×V))=>(1,iV x0)::(2,iV x1)::(3,.ptr 192 0)::(6,.ptr 384 0)::r
theorem F70 (H53:K53 C) (H111:lB C):K70 (FO C c70):=by
 intro a0 a1 a2 r h0
 refine f0 (gK_ 19 (pR a1 a2 [(10,.bool (bif (decide (a1<1)) then true else (decide (a2<a1))))]) (jO a0 []) (Cs h0 (fun c1 h0=>?_) (fun c1 h0=>?_)))
 ·obtain rfl:=sj h0
  exact Cy 7
 ·refine Ba 6 (pR a1 a2 [(19,.bool (a0.clock==9223372036854775807))]) (jO a0 []) (Cs h0 (fun c2 h0=>?_) (fun c2 h0=>?_))
  ·obtain rfl:=sj h0
   exact Cy 7
  ·refine Bj 3 (Ar (Nh rfl (o_ (jE 8 (bv h0 fun v3 e4 h0=>Cb ⟨pR a1 a2 [(24,.bool v3)],jO a0 [],[]⟩ (Cj (by subst e4; kernel_rfl)) (Cs h0 (fun c5 h0=>?_) (fun c5 h0=>?_)))))))
   ·obtain rfl:=sj h0
    exact Cy 7
   ·refine Bj 5 (Ar (bb h0 fun r6 e7 h0=>Vp (H111 a0 r6 e7) (ar (Az rfl (af rfl))) (o_ (Ba 3 (pR a1 a2 [(9,.ptr 576 0)]) (jO a0 [(576,Cp r6 (Aq 2304))]) (Aw (bb h0 fun r8 e9 h0=>bb h0 fun r10 e11 h0=>gg h0 fun c12 h0=>Bj 10 (Bq (cG (H53 a0.clock a1 r8 e9) rfl (dw [(2,iV a2),(3,.ptr 192 0),(6,.ptr 384 0),(9,.ptr 576 0),(37,.ptr 576 2),(38,Ae 2304 r6.Af),(39,.ptr 192 1),(40,iV a0.next),(44,iV r8),(45,.ptr 192 0),(46,iV a0.clock),(47,iV a2)] [(192,Bk a0),(384,Bt 0 0 (Aq 387) []),(576,Cp r6 (Aq 2304))] hB (cG (H53 a0.clock a2 r10 e11) rfl (dw [(3,.ptr 192 0),(6,.ptr 384 0),(9,.ptr 576 0),(37,.ptr 576 2),(38,Ae 2304 r6.Af),(39,.ptr 192 1),(40,iV a0.next),(44,iV r8),(48,iV r10)] [(192,Bk a0),(384,Bt 0 0 (Aq 387) []),(576,Cp r6 (Aq 2304))] hB (Al tv (c_ (v:=.agg (oP a0.next r8 r10 false)) (Bn ⟨tv,tv,tv,tv⟩ rfl ⟨⟨rfl,rfl,nl rfl⟩,⟨rfl,rfl,nl rfl⟩,⟨rfl,rfl,nl rfl⟩,tv⟩) (⟨tv,Ck (gH ⟨tv,tv⟩ ⟨⟨nl rfl,rfl,rfl⟩,tv⟩ (d0 hB (Ck (Lb (e:=Ab) (l0:=r6.Af) (l1:=([Aa.mk a0.next r8 r10 false]:List Aa)) rfl rfl tv rfl (by decide) c12 (d0 tv ?_)) Bg))) Bg⟩)))) Bg)) Bg))))))))
    refine Al tv (c_ (Bn ⟨tv,tv⟩ rfl tv) (⟨tv,Ck (Gm rfl rfl tv rfl rfl rfl (nl rfl) (d0 tv (d_ (Ba 9 [(3,.ptr 192 0),(6,.ptr 384 0),(9,.ptr 576 0)] (jO a0 [(576,[iV r6.clock,iV (wi (r6.next+1)),Ae 2304 (r6.Af++([Aa.mk a0.next r8 r10 false]:List Aa))])]) (Bj 4 (Bq (Ck (Gm rfl rfl tv rfl rfl rfl (nl rfl) (d0 hB (d_ (rZ_ 3 [2304] [] [(6,.ptr 384 0),(7,iV a0.next),(8,iV 0)] [(384,[iV r6.clock,iV (wi (r6.next+1)),Cg (r6.Af++([Aa.mk a0.next r8 r10 false]:List Aa))])] ?_)))) Bg))))))) Bg⟩))
    obtain rfl:=sj h0
    exact Hj (Dk rfl rfl rfl rfl rfl tv)

/- loop.example/g00149/spec.l09Call -/
def c86_r0:List Cf:=[⟨some 8,.nilS 1,none⟩,i_ 9 0]
def c86_r1:=[m_ 13 3,B_ .eql 14 13 1]
def c86_r2:=[m_ 15 0,m_ 8 15,i_ 9 13]
def c86_r3:List Cf:=[⟨some 16,.mkS 1 [iV 0] 0 [],none⟩,m_ 10 16]
def c86_r4:=[i_ 11 0]
def c86_r5:=[m_ 17 11,m_ 18 0,n_ 19 18,b_ .lss 20 17 19,m_ 21 20,mT 21 22 0,mT 21 23 11,xT 21 24 22 23 1,lT 21 25 24 1 false,mT 21 26 1,pT 21 27 (.bin .lss (.t 25) (.t 26)),pa 28 21 27]
def c86_r6:List Cf:=[m_ 31 10,m_ 32 0,m_ 33 11,x_ 34 32 33 1,l_ 35 34 1,⟨some 36,.mkS 1 [iV 0] 1 [(0,.t 35)],none⟩,⟨some 37,.app 1 8 (.t 31) (.t 36),none⟩,m_ 10 37]
def c86_r7:=[m_ 29 11,B_ .add 30 29 1,m_ 11 30]
def c86_l0:IR:=(.seq (sr c86_r5 (.ite (.t 28) .skip (.exit 0))) (.seq (.block 1 (.reg c86_r6)) (.reg c86_r7)))
def c86_r8:=[m_ 38 10,n_ 39 38,m_ 12 39]
def c86_r9:=[m_ 40 2]
def AdK:List Cf:=[m_ 41 10,m_ 42 1,⟨some 43,.mkS 1 [iV 0] 1 [(0,.t 42)],none⟩,⟨some 44,.app 1 8 (.t 41) (.t 43),none⟩,m_ 10 44]
def AdL:=[m_ 45 12,m_ 46 0,n_ 47 46,b_ .lss 48 45 47,m_ 49 48,mT 49 50 0,mT 49 51 12,xT 49 52 50 51 1,lT 49 53 52 1 false,mT 49 54 1,pT 49 55 (.bin .eql (.t 53) (.t 54)),pa 56 49 55]
def AdM:=[m_ 57 12,B_ .add 58 57 1,m_ 12 58]
def AdN:List Cf:=[m_ 59 10,m_ 60 0,m_ 61 12,⟨some 62,.p (.slice (.t 60) (some (.t 61)) none 1),none⟩,⟨some 63,.app 1 8 (.t 59) (.t 62),none⟩,m_ 10 63]
def AdO:=[m_ 64 3,B_ .eql 65 64 2]
def AdP:=[m_ 66 10,m_ 8 66,i_ 9 15]
def AdQ:=[m_ 67 10,m_ 8 67,i_ 9 0]
def c86:Dv:=⟨4,68,[.t 8,.t 9],sr c86_r0 (.seq (sr c86_r1 (iz 14 (rr c86_r2))) (sr c86_r3 (.seq (sr c86_r4 (Im 0 c86_l0)) (sr c86_r8 (.seq (sr c86_r9 (iz 40 (.reg AdK))) (.seq (sr AdL (iz 56 (.reg AdM))) (sr AdN (.seq (sr AdO (iz 65 (rr AdP))) (rr AdQ)))))))))⟩
def K86 (D:Bl):Prop:=∀a0 a1 a2 a3 r,g86 a0 a1 a2 a3=some r→D 86 ⟨[lI a0,iV a1,.bool a2,iV a3],[]⟩ ⟨.tup [lI r.1,iV r.2],[],[]⟩
abbrev dY:=fun x0 x1 x2 x3 (r:List (Nat×V))=>(0,lI x0)::(1,iV x1)::(2,.bool x2)::(3,iV x3)::r
theorem F86:K86 (FO C c86):=by
 intro a0 a1 a2 a3 r h0
 refine f0 (Ba 10 (dY a0 a1 a2 a3 [(14,.bool (a3==1))]) [] (Cs h0 (fun c1 h0=>?_) (fun c1 h0=>?_)))
 ·obtain rfl:=sj h0
  exact Cy 6
 ·refine Ba 11 (dY a0 a1 a2 a3 [(10,oI 1024 []),(11,iV 0)]) [] (Bu (bb h0 fun r31 e32 h0=>Cv (R:=(fun S=>∃p22:List Int,p22=r31∧S=⟨dY a0 a1 a2 a3 [(10,oI 1024 p22)],[],[]⟩)) (Wh a0 a1) (fun s S=>match s with | (p10,p11)=>S=⟨dY a0 a1 a2 a3 [(10,oI 1024 p10),(11,iV p11)],[],[]⟩) e32 _ (Cj (by kernel_rfl)) rfl 0 (fun _=>rfl) ?_ ?_))
  ·rintro S _ hfg ⟨p22,rfl,rfl⟩
   refine Cb _ hfg (Aw (Ar (st (Bm rfl tv (bJ rfl (o_ (Ba 7 [(0,lI a0),(1,iV a1),(3,iV a3),(10,oI 1024 p22),(12,iV (p22.length:Int)),(40,.bool a2)] [] (Lw (cb:=a2) (fun S=>∃p35:List Int,S=⟨[(0,lI a0),(1,iV a1),(3,iV a3),(10,oI 1024 p35),(12,iV (p22.length:Int))],[],[]⟩∧aI a0 a1 a3 p22 p35=some r) rfl ?_ (fun c49 J48=>?_) (fun c49 J48=>?_)))))))))
   ·rintro _ ⟨p35,rfl,h0⟩
    refine Bj 5 (Ar (Nh rfl (o_ (jE 4 (Ar (bb h0 fun y36 e37 h0=>st (Cw (u:=.iptr [iV y36]) rfl (fun hg=>(Ly (e:=eI) (y:=y36) rfl rfl (fun _=>hg) rfl rfl (fun _=>hg) (ip hg e37))) (o_ (jE 5 (bv h0 fun v38 e39 h0=>Cb ⟨[(0,lI a0),(3,iV a3),(10,oI 1024 p35),(12,iV (p22.length:Int)),(56,.bool v38)],[],[]⟩ (Cj (by subst e39; kernel_rfl)) (Lw (cb:=v38) (fun S=>∃p41:Int,S=⟨[(0,lI a0),(3,iV a3),(10,oI 1024 p35),(12,iV p41)],[],[]⟩∧aJ a0 a3 p35 p41=some r) rfl ?_ (fun c47 J46=>?_) (fun c47 J46=>?_))))))))))))
    ·rintro _ ⟨p41,rfl,h0⟩
     refine Bj 5 (Ar (bb h0 fun s42 e43 h0=>st (c_ (Qt (e:=eI) (y:=s42) rfl rfl tv ⟨tv,tv⟩ rfl rfl e43) (gg h0 fun c44 h0=>st (Lb (e:=eI) (l0:=p35) (l1:=s42) rfl rfl tv rfl (by decide) c44 (o_ (Ba 8 [(10,oI 1024 (p35++s42)),(65,.bool (a3==2))] [] (Cs h0 (fun c45 h0=>?_) (fun c45 h0=>?_)))))))))
     ·obtain rfl:=sj h0
      exact Cy 6 [1024]
     ·obtain rfl:=sj h0
      exact Cy 8 [1024]
    ·replace h0:=ip c47 h0
     refine Bj 4 ?_
     exact jn J46 ⟨_,rfl,h0⟩
    ·replace h0:=Kn c47 h0
     refine Hb ?_
     exact jn J46 ⟨_,rfl,h0⟩
   ·replace h0:=ip c49 h0
    refine Bj 3 (Ar (gg h0 fun HI h0=>st (Lb (e:=eI) (l0:=p22) (l1:=([a1]:List Int)) rfl rfl tv rfl (by decide) HI (st (Bm rfl tv (Cz ?_))))))
    exact jn J48 ⟨_,rfl,h0⟩
   ·replace h0:=Kn c49 h0
    refine Hb ?_
    exact jn J48 ⟨_,rfl,h0⟩
  ·rintro ⟨p10,p11⟩ o1 _ K1 rfl h1 hx1 hK1 hE1 hR1
   refine Bj 4 (Ar (Nh rfl (o_ (jE 4 (Ar (bb h1 fun y23 e24 h1=>st (Cw (u:=.iptr [iV y23]) rfl (fun hg=>(Ly (e:=eI) (y:=y23) rfl rfl (fun _=>hg) rfl rfl (fun _=>hg) (ip hg e24))) (o_ (jE 5 (bv h1 fun v25 e26 h1=>Cb ⟨dY a0 a1 a2 a3 [(10,oI 1024 p10),(11,iV p11),(28,.bool v25)],[],[]⟩ (Cj (by subst e26; kernel_rfl)) (Cs h1 (fun Xz h1=>?_) (fun Xz h1=>?_))))))))))))
   ·refine Bj 7 (Ar (bb h1 fun y28 e29 h1=>Ti rfl rfl e29 (o_ (Bj 2 (Ar (gg h1 fun c30 h1=>st (Lb (e:=eI) (l0:=p10) (l1:=([y28]:List Int)) rfl rfl tv rfl (by decide) c30 (o_ (Ba 3 (dY a0 a1 a2 a3 [(10,oI 1024 (p10++([y28]:List Int))),(11,iV p11)]) [] (Bj 4 ?_))))))))))
    obtain rfl:=sj h1
    exact kn hK1 rfl rfl
   ·obtain rfl:=sj h1
    obtain rfl:=hx1 _ rfl
    refine In rfl ?_
    exact jn hE1 ⟨_,rfl,rfl⟩

/- loop.example/g00149/spec.l09Recover -/
def NX:=[X_ 1 0,a_ 2 (zV 131 132 133)]
def NY:=[L_ 5 1 6,q_ 6 102 [.t 5],a_ 3 (zV 195 196 197),s_ 3 6 6]
def NZ:=[i_ 4 0]
def OA:=[m_ 7 4,f_ 8 3 3,l_ 9 8 1,n_ 10 9,b_ .lss 11 7 10]
def OB:List Cf:=[f_ 14 3 3,l_ 15 14 1,m_ 16 4,x_ 17 15 16 2,f_ 18 17 1,⟨none,.store (.t 18) (.c (.bool true)) 1,none⟩]
def OC:=[m_ 12 4,B_ .add 13 12 1,m_ 4 13]
def NW:IR:=(.seq (sr OA (.ite (.t 11) .skip (.exit 0))) (.seq (.block 1 (.reg OB)) (.reg OC)))
def OD:List Cf:=[f_ 19 3 5,⟨none,.store (.t 19) (.c (.bool true)) 1,none⟩]
def OE:=[L_ 20 3 6,s_ 2 20 6]
def c133:Dv:=⟨1,21,[.cell 2 6 true],sr NX (sr NY (.seq (sr NZ (Im 0 NW)) (sr OD (rr OE))))⟩
def tI (D:Bl):Prop:=∀a0 r,fM a0=some r→D 133 ⟨[.agg (Bv a0)],[]⟩ ⟨.agg (Av r (Aq 0) (Aq 1) (Aq 2)),[],[]⟩
abbrev Wl:=fun (r:List (Nat×List V))=>(128,At 0 0 (Aq 131) [] (Aq 132) [] (Aq 133) [] false)::r
abbrev bE:=fun (r:List (Nat×V))=>(2,.ptr 128 0)::(3,.ptr 192 0)::r
theorem F133 (H102:lA C):tI (FO C c133):=by
 intro a0 r h0
 refine f0 (Ba 4 [(1,.ptr 64 0),(2,.ptr 128 0)] (Wl [(64,Bv a0)]) (Bj 2 (Ar (bb h0 fun r1 e2 h0=>Vp (H102 a0 r1 e2) (ar (Az rfl (af (af (af (Az rfl rfl)))))) (o_ (Ba 8 (bE [(4,iV 0)]) (Wl [(192,Av r1 (Aq 384) (Aq 385) (Aq 386))]) (Bu (bb h0 fun r23 e24 h0=>Cv (R:=(fun S=>∃p17:List Ag,p17=r23∧S=⟨bE [],Wl [(192,At r1.Ac.clock r1.Ac.next (Aq 384) r1.Ac.Af (Aq 385) p17 (Aq 386) r1.Aj r1.Am)],[]⟩)) (Qy) (fun s S=>match s with | (p8,p9)=>S=⟨bE [(4,iV p8)],Wl [(192,At r1.Ac.clock r1.Ac.next (Aq 384) r1.Ac.Af (Aq 385) p9 (Aq 386) r1.Aj r1.Am)],[]⟩) e24 _ (Cj (by kernel_rfl)) rfl 0 (fun _=>rfl) ?_ ?_))))))))
 ·rintro S _ hfg ⟨p17,rfl,rfl⟩
  refine Cb _ hfg ?_
  obtain rfl:=sj h0
  exact Cy 10
 ·rintro ⟨p8,p9⟩ o1 _ K1 rfl h1 hx1 hK1 hE1 hR1
  refine Bj 5 (Ar (bJ rfl (o_ (Ba 2 (bE [(4,iV p8),(11,.bool (decide (p8<(p9.length:Int))))]) (Wl [(192,At r1.Ac.clock r1.Ac.next (Aq 384) r1.Ac.Af (Aq 385) p9 (Aq 386) r1.Aj r1.Am)]) (Cs h1 (fun c18 h1=>?_) (fun c18 h1=>?_))))))
  ·refine Bj 7 (Ar (bb h1 fun y19 e20 h1=>Zb rfl rfl e20 (st (c_ (Bn ⟨tv,tv⟩ rfl tv) (bb h1 fun y21 e22 h1=>kG (Ag.mk y21.Br true) rfl rfl e22 (o_ (Ba 2 (bE [(4,iV p8)]) (Wl [(192,At r1.Ac.clock r1.Ac.next (Aq 384) r1.Ac.Af (Aq 385) (p9.set p8.toNat (Ag.mk y21.Br true)) (Aq 386) r1.Aj r1.Am)]) (Bj 4 ?_))))))))
   obtain rfl:=sj h1
   exact kn hK1 rfl rfl
  ·obtain rfl:=sj h1
   obtain rfl:=hx1 _ rfl
   refine In rfl ?_
   exact jn hE1 ⟨_,rfl,rfl⟩

/- loop.example/g00149/spec.l09Fate -/
def PN:=[X_ 2 0,i_ 4 0]
def PO:=[m_ 5 1,f_ 6 2 5,l_ 7 6 1,n_ 8 7,b_ .lss 9 5 8]
def PP:=[f_ 10 2 5,l_ 11 10 1,m_ 12 1,x_ 13 11 12 1,l_ 14 13 1,m_ 4 14]
def PQ:=[i_ 4 0]
def c145:Dv:=⟨2,15,[.t 4],sr PN (.seq (sr PO (iz 9 (rr PP))) (rr PQ))⟩
def HR (D:Bl):Prop:=∀a0 a1 r,mA a0 a1=some r→D 145 ⟨[.agg (Ao a0),iV a1],[]⟩ ⟨iV r,[],[]⟩
theorem F145:HR (FO C c145):=by
 intro a0 a1 r h0
 refine f0 (Ba 4 [(1,iV a1),(2,.ptr 128 0)] [(128,Ao a0)] (Bj 5 (Ar (Nh rfl (o_ (Ba 2 [(1,iV a1),(2,.ptr 128 0),(9,.bool (decide (a1<(a0.Bi.length:Int))))] [(128,Ao a0)] (Cs h0 (fun c1 h0=>?_) (fun c1 h0=>?_))))))))
 ·refine Bj 4 (Ar (bb h0 fun y2 e3 h0=>Ti rfl rfl e3 (o_ ?_)))
  obtain rfl:=sj h0
  exact Cy 4
 ·obtain rfl:=sj h0
  exact Cy 6

/- loop.example/g00149/spec.l09Issue -/
def NL:=[X_ 2 0,X_ 3 1,a_ 4 (zV 259 260 261),a_ 5 [iV 0,iV 0]]
def NM:=[f_ 11 2 0,L_ 12 11 3,f_ 13 3 2,l_ 14 13 1,f_ 15 3 3,l_ 16 15 1,q_ 17 70 [.t 12,.t 14,.t 16],m_ 10 17,e_ 18 10 0,e_ 19 10 1,e_ 20 10 2,a_ 6 (zT 387),s_ 6 18 3,m_ 7 19,m_ 8 20]
def NN:=[m_ 21 8,B_ .eql 22 21 0,m_ 23 22,fT 23 24 2 3,lT 23 25 24 1 false,pT 23 26 (.len (.t 25)),pT 23 27 (.bin .eql (.t 26) (.c (iV 40))),pa 28 23 27]
def NO:=[i_ 8 9]
def NP:=[m_ 29 8,B_ .neq 30 29 0]
def NQ:List Cf:=[L_ 31 2 6,m_ 32 8,⟨some 33,.p (.build [iV 0,iV 0] [(0,1,.t 32)]),none⟩,s_ 4 31 6,s_ 5 33 2]
def NS:=[L_ 34 2 6,q_ 35 102 [.t 34],a_ 9 (zV 579 580 581),s_ 9 35 6]
def NT:=[f_ 36 6 1,l_ 37 36 1,f_ 38 9 0,f_ 39 38 1,s_ 39 37 1]
def NU:List Cf:=[f_ 40 9 3,l_ 41 40 1,m_ 42 7,⟨some 43,.p (.build [iV 0,.bool false] [(0,1,.t 42)]),none⟩,⟨some 44,.mkS 2 [iV 0,.bool false] 1 [(0,.t 43)],none⟩,⟨some 45,.app 2 16 (.t 41) (.t 44),none⟩,f_ 46 9 3,s_ 46 45 1]
def NV:=[f_ 47 3 6,l_ 48 47 1,B_ .eql 49 48 1]
def vD:List Cf:=[L_ 50 9 6,q_ 51 133 [.t 50],⟨some 52,.p (.build [iV 0,iV 0] [(0,1,.c (iV 15))]),none⟩,s_ 4 51 6,s_ 5 52 2]
def vE:=tk [f_ 54 9 4,l_ 55 54 1,m_ 56 7,L_ 57 3 7] (.alt [m_ 56 7,l_ 55 54 1,f_ 54 9 4] (q_ 58 145 [.t 57,.c (iV 0)]) (.alt [] (q_ 59 86 [.t 55,.t 56,.c (.bool true),.t 58]) (tk [m_ 53 59,e_ 60 53 0,e_ 61 53 1,f_ 62 9 4] (.alt [e_ 61 53 1] (s_ 62 60 1) (tk [m_ 8 61] .fin) .stop)) .stop) .stop)
def vF:=[f_ 63 3 6,l_ 64 63 1,B_ .eql 65 64 2]
def vG:List Cf:=[L_ 66 9 6,q_ 67 133 [.t 66],⟨some 68,.p (.build [iV 0,iV 0] [(0,1,.c (iV 15))]),none⟩,s_ 4 67 6,s_ 5 68 2]
def vH:=[m_ 69 8,B_ .neq 70 69 0]
def vI:List Cf:=[f_ 71 9 3,l_ 72 71 1,f_ 73 9 3,l_ 74 73 1,n_ 75 74,B_ .sub 76 75 1,x_ 77 72 76 2,f_ 78 77 1,⟨none,.store (.t 78) (.c (.bool true)) 1,none⟩]
def vJ:List Cf:=[L_ 79 9 6,m_ 80 8,⟨some 81,.p (.build [iV 0,iV 0] [(0,1,.t 80)]),none⟩,s_ 4 79 6,s_ 5 81 2]
def vK:List Cf:=[f_ 82 9 3,l_ 83 82 1,f_ 84 9 3,l_ 85 84 1,n_ 86 85,B_ .sub 87 86 1,⟨some 88,.p (.slice (.t 83) none (some (.t 87)) 2),none⟩,f_ 89 9 3,s_ 89 88 1]
def vL:=[L_ 90 6 3,f_ 91 9 0,s_ 91 90 3]
def vM:List Cf:=[L_ 92 9 6,m_ 93 7,⟨some 94,.p (.build [iV 0,iV 0] [(1,1,.t 93)]),none⟩,s_ 4 92 6,s_ 5 94 2]
def c132:Dv:=⟨2,95,[.cell 4 6 true,.cell 5 2 true],sr NL (sr NM (.seq (sr NN (iz 28 (.reg NO))) (.seq (sr NP (iz 30 (rr NQ))) (sr NS (sr NT (sr NU (.seq (sr NV (iz 49 (rr vD))) (sd vE (.seq (sr vF (iz 65 (rr vG))) (.seq (sr vH (iz 70 (sr vI (rr vJ)))) (sr vK (sr vL (rr vM)))))))))))))⟩
def K132 (D:Bl):Prop:=∀a0 a1 r,rK a0 a1=some r→D 132 ⟨[.agg (Bv a0),.agg (Ao a1)],[]⟩ ⟨.tup [.agg (Bv r.1),.agg (Ax r.2)],[],[]⟩
abbrev Jy:=fun (r:List (Nat×List V))=>(256,At 0 0 (Aq 259) [] (Aq 260) [] (Aq 261) [] false)::(320,[iV 0,iV 0])::r
abbrev Oa:=fun x0 (r:List (Nat×V))=>(4,.ptr 256 0)::(5,.ptr 320 0)::(6,.ptr 384 0)::(7,iV x0)::r
theorem F132 (H70:K70 C) (H86:K86 C) (H102:lA C) (H133:tI C) (H145:HR C):K132 (FO C c132):=by
 intro a0 a1 r h0
 refine f0 (Ba 6 [(2,.ptr 128 0),(3,.ptr 192 0),(4,.ptr 256 0),(5,.ptr 320 0)] (Jy [(128,Bv a0),(192,Ao a1)]) (Bj 7 (Ar (bb h0 fun r1 e2 h0=>st (Cq (r:=.tup [.agg (Bk r1.1),iV r1.2.1,iV r1.2.2]) true (H70 a0.Ac a1.ttl a1.Db r1 e2) ⟨tv,tv,tv,tv⟩ rfl rfl (fun h=>nomatch h) (o_ (Ba 9 (Oa r1.2.1 [(2,.ptr 128 0),(3,.ptr 192 0),(8,iV r1.2.2)]) (Jy [(128,Bv a0),(192,Ao a1),(384,Bk r1.1)]) (jE 7 (Ar (st (Cw (u:=iV (a0.Ad.length:Int)) rfl (fun hg=>(Mv (e:=Ca) (l0:=a0.Ad) rfl rfl (fun _=>hg))) (o_ (gK_ 3 (Oa r1.2.1 [(2,.ptr 128 0),(3,.ptr 192 0),(8,iV r1.2.2),(28,.bool (bif (r1.2.2==0) then ((a0.Ad.length:Int)==40) else false))]) (Jy [(128,Bv a0),(192,Ao a1),(384,Bk r1.1)]) (Lw (cb:=(bif (r1.2.2==0) then ((a0.Ad.length:Int)==40) else false)) (fun S=>∃p4:Int,S=⟨Oa r1.2.1 [(2,.ptr 128 0),(3,.ptr 192 0),(8,iV p4)],Jy [(128,Bv a0),(192,Ao a1),(384,Bk r1.1)],[]⟩∧Jo a0 a1 r1 p4=some r) rfl ?_ (fun Xz J26=>?_) (fun Xz J26=>?_)))))))))))))))
 ·rintro _ ⟨p4,rfl,h0⟩
  refine Ba 6 (Oa r1.2.1 [(2,.ptr 128 0),(3,.ptr 192 0),(8,iV p4),(30,.bool (p4 != 0))]) (Jy [(128,Bv a0),(192,Ao a1),(384,Bk r1.1)]) (Cs h0 (fun c5 h0=>?_) (fun c5 h0=>?_))
  ·refine Bj 3 (Ar (st (c_ (v:=.agg [iV p4,iV 0]) (Bn ⟨tv,tv⟩ rfl ⟨⟨rfl,rfl,nl rfl⟩,tv⟩) (o_ ?_))))
   obtain rfl:=sj h0
   exact Cy 4
  ·refine Bj 4 (Ar (bb h0 fun r6 e7 h0=>Vp (H102 a0 r6 e7) (ar (Az rfl (af (af (af (Az rfl rfl)))))) (o_ (Ba 11 (Oa r1.2.1 [(3,.ptr 192 0),(9,.ptr 576 0)]) (Jy [(192,Ao a1),(384,Bk r1.1),(576,At r6.Ac.clock r1.1.next (Aq 2240) r6.Ac.Af (Aq 2241) r6.Ad (Aq 2242) r6.Aj r6.Am)]) (Bj 4 (Ar (st (c_ (v:=.agg [iV r1.2.1,.bool false]) (Bn ⟨tv,tv⟩ rfl ⟨⟨rfl,rfl,nl rfl⟩,tv⟩) (st (gH ⟨tv,tv⟩ ⟨⟨nl rfl,rfl,rfl⟩,tv⟩ (gg h0 fun c8 h0=>st (Lb (e:=Ca) (l0:=r6.Ad) (l1:=([Ag.mk r1.2.1 false]:List Ag)) rfl rfl tv rfl (by decide) c8 (o_ (Ba 10 (Oa r1.2.1 [(3,.ptr 192 0),(9,.ptr 576 0),(49,.bool (a1.stop==1))]) (Jy [(192,Ao a1),(384,Bk r1.1),(576,[iV r6.Ac.clock,iV r1.1.next,Ae 2240 r6.Ac.Af,Bs 2241 (r6.Ad++([Ag.mk r1.2.1 false]:List Ag)),oI 2242 r6.Aj,.bool r6.Am])]) (Cs h0 (fun c9 h0=>?_) (fun c9 h0=>?_))))))))))))))))
   ·refine Bj 2 (Ar (bb h0 fun r10 e11 h0=>Vp (H133 (Ap.mk (As.mk r6.Ac.clock r1.1.next r6.Ac.Af) (r6.Ad++([Ag.mk r1.2.1 false]:List Ag)) r6.Aj r6.Am) r10 e11) (ar (Az rfl (af (af (af (Az rfl rfl)))))) (st (c_ (v:=.agg [iV 15,iV 0]) (Bn ⟨tv,tv⟩ rfl ⟨⟨rfl,rfl,nl rfl⟩,tv⟩) (o_ ?_)))))
    obtain rfl:=sj h0
    exact Cy 4 [3264,3265,3266]
   ·refine Ot 3 (bb h0 fun r12 e13 h0=>bb h0 fun r14 e15 h0=>Bj 4 (Bq (cG (H145 a1 0 r12 e13) rfl (dw [(3,.ptr 192 0),(4,.ptr 256 0),(5,.ptr 320 0),(6,.ptr 384 0),(7,iV r1.2.1),(9,.ptr 576 0),(54,.ptr 576 4),(55,oI 2242 r6.Aj),(56,iV r1.2.1),(58,iV r12)] [(192,Ao a1),(256,At 0 0 (Aq 259) [] (Aq 260) [] (Aq 261) [] false),(320,[iV 0,iV 0]),(384,Bk r1.1),(576,[iV r6.Ac.clock,iV r1.1.next,Ae 2240 r6.Ac.Af,Bs 2241 (r6.Ad++([Ag.mk r1.2.1 false]:List Ag)),oI 2242 r6.Aj,.bool r6.Am])] hB (Ck (Cq (r:=.tup [lI r14.1,iV r14.2]) true (H86 r6.Aj r1.2.1 true r12 r14 e15) ⟨tv,tv,tv,tv,tv⟩ rfl rfl (fun h=>nomatch h) (dw [(3,.ptr 192 0),(4,.ptr 256 0),(5,.ptr 320 0),(6,.ptr 384 0),(7,iV r1.2.1),(9,.ptr 576 0),(59,.tup [lI r14.1,iV r14.2])] [(192,Ao a1),(256,At 0 0 (Aq 259) [] (Aq 260) [] (Aq 261) [] false),(320,[iV 0,iV 0]),(384,Bk r1.1),(576,[iV r6.Ac.clock,iV r1.1.next,Ae 2240 r6.Ac.Af,Bs 2241 (r6.Ad++([Ag.mk r1.2.1 false]:List Ag)),lI r6.Aj,.bool r6.Am])] tv (d_ (Bj 4 (Bq (Ck (Gm rfl rfl tv rfl rfl rfl (nl rfl) (d0 hB (d_ (Ba 2 (Oa r1.2.1 [(3,.ptr 192 0),(8,iV r14.2),(9,.ptr 576 0)]) (Jy [(192,Ao a1),(384,Bk r1.1),(576,[iV r6.Ac.clock,iV r1.1.next,Ae 2240 r6.Ac.Af,Bs 2241 (r6.Ad++([Ag.mk r1.2.1 false]:List Ag)),lI r14.1,.bool r6.Am])]) (Bj 3 (Ar ?_)))))) Bg)))))) Bg)) Bg)))
    refine o_ (Ba 3 (Oa r1.2.1 [(8,iV r14.2),(9,.ptr 576 0),(65,.bool (a1.stop==2))]) (Jy [(384,Bk r1.1),(576,[iV r6.Ac.clock,iV r1.1.next,Ae 2240 r6.Ac.Af,Bs 2241 (r6.Ad++([Ag.mk r1.2.1 false]:List Ag)),lI r14.1,.bool r6.Am])]) (Cs h0 (fun c16 h0=>?_) (fun c16 h0=>?_)))
    ·refine Bj 2 (Ar (bb h0 fun r17 e18 h0=>Vp (H133 (Ap.mk (As.mk r6.Ac.clock r1.1.next r6.Ac.Af) (r6.Ad++([Ag.mk r1.2.1 false]:List Ag)) r14.1 r6.Am) r17 e18) (ar (Az rfl (af (af (af (Az rfl rfl)))))) (st (c_ (v:=.agg [iV 15,iV 0]) (Bn ⟨tv,tv⟩ rfl ⟨⟨rfl,rfl,nl rfl⟩,tv⟩) (o_ ?_)))))
     obtain rfl:=sj h0
     exact Cy 4 [4288,4289,4290]
    ·refine Ba 7 (Oa r1.2.1 [(8,iV r14.2),(9,.ptr 576 0),(70,.bool (r14.2 != 0))]) (Jy [(384,Bk r1.1),(576,[iV r6.Ac.clock,iV r1.1.next,Ae 2240 r6.Ac.Af,Bs 2241 (r6.Ad++([Ag.mk r1.2.1 false]:List Ag)),lI r14.1,.bool r6.Am])]) (Cs h0 (fun c19 h0=>?_) (fun c19 h0=>?_))
     ·refine Bj 5 (Ar (bJ rfl (st (c_ (Bn t3 rfl tv) (bb h0 fun y20 e21 h0=>Zb rfl rfl e21 (st (c_ (Bn ⟨tv,tv⟩ rfl tv) (bb h0 fun y22 e23 h0=>kG (Ag.mk y22.Br true) rfl rfl e23 (o_ (Ba 1 [(4,.ptr 256 0),(5,.ptr 320 0),(8,iV r14.2),(9,.ptr 576 0)] (Jy [(576,[iV r6.Ac.clock,iV r1.1.next,Ae 2240 r6.Ac.Af,.own 2241 0 2 (((r6.Ad++([Ag.mk r1.2.1 false]:List Ag)).set ((wi (((r6.Ad++([Ag.mk r1.2.1 false]:List Ag)).length:Int)-1)).toNat) (Ag.mk y22.Br true)).map Ca),lI r14.1,.bool r6.Am])]) (Bj 3 (Ar (st (c_ (v:=.agg [iV r14.2,iV 0]) (Bn ⟨tv,tv⟩ rfl ⟨⟨rfl,rfl,nl rfl⟩,tv⟩) (o_ ?_)))))))))))))))
      obtain rfl:=sj h0
      exact Cy 4 [2240,2241]
     ·refine Bj 7 (Ar (bJ rfl (st (c_ (Bn t3 rfl tv) (bb h0 fun s24 e25 h0=>st (c_ (Fk (e:=Ca) (y:=s24) rfl rfl tv ⟨tv,tv⟩ rfl rfl e25) (o_ (Ba 9 [(4,.ptr 256 0),(5,.ptr 320 0),(7,iV r1.2.1),(9,.ptr 576 0)] (Jy [(576,At r1.1.clock r1.1.next u_ r1.1.Af (Aq 2241) s24 u_ r14.1 r6.Am)]) (Bj 3 (Ar (st (c_ (v:=.agg [iV 0,iV r1.2.1]) (Bn ⟨tv,tv⟩ rfl ⟨⟨rfl,rfl,nl rfl⟩,tv⟩) (o_ ?_)))))))))))))
      obtain rfl:=sj h0
      exact Cy 4 [2241]
 ·replace h0:=ip Xz h0
  refine Ar (st (Ff tv (Cz ?_)))
  exact jn J26 ⟨_,rfl,h0⟩
 ·replace h0:=Kn Xz h0
  refine Hb ?_
  exact jn J26 ⟨_,rfl,h0⟩

/- loop.example/g00149/spec.l08Done -/
def c76_r0:=[X_ 2 0,a_ 4 (zT 259),i_ 5 0]
def c76_r1:=[L_ 8 2 3,m_ 9 1,q_ 10 92 [.t 8,.t 9],m_ 6 10]
def c76_r2:=[m_ 11 6,B_ .lss 12 11 0]
def c76_r3:=[L_ 13 2 3,s_ 4 13 3,i_ 5 5]
def c76_r4:=[f_ 14 2 2,l_ 15 14 1,m_ 16 6,x_ 17 15 16 4,f_ 18 17 3,l_ 19 18 1,N_ 20 19]
def c76_r5:=[L_ 21 2 3,s_ 4 21 3,i_ 5 13]
def c76_r6:=[L_ 22 2 3,a_ 7 (zT 451),s_ 7 22 3]
def c76_r7:=tk [f_ 24 2 2,l_ 25 24 1,m_ 26 6,⟨some 27,.p (.slice (.t 25) none (some (.t 26)) 4),none⟩,f_ 29 2 2,l_ 30 29 1,m_ 31 6,B_ .add 32 31 1,⟨some 33,.p (.slice (.t 30) (some (.t 32)) none 4),none⟩] (.alt [⟨some 33,.p (.slice (.t 30) (some (.t 32)) none 4),none⟩,B_ .add 32 31 1,m_ 31 6,l_ 30 29 1,f_ 29 2 2,⟨some 27,.p (.slice (.t 25) none (some (.t 26)) 4),none⟩,m_ 26 6,l_ 25 24 1,f_ 24 2 2] ⟨some 23,.mkS 4 [iV 0,iV 0,iV 0,.bool false] 0 [],none⟩ (.alt [⟨some 33,.p (.slice (.t 30) (some (.t 32)) none 4),none⟩,B_ .add 32 31 1,m_ 31 6,l_ 30 29 1,f_ 29 2 2] ⟨some 28,.app 4 32 (.t 23) (.t 27),none⟩ (.alt [] ⟨some 34,.app 4 32 (.t 28) (.t 33),none⟩ (tk [f_ 35 7 2] (.alt [] (s_ 35 34 1) .fin .stop)) .stop) .stop) .stop)
def c76_r8:=[L_ 36 7 3,s_ 4 36 3,i_ 5 0]
def c76:Dv:=⟨2,37,[.cell 4 3 true,.t 5],sr c76_r0 (sr c76_r1 (.seq (sr c76_r2 (iz 12 (rr c76_r3))) (.seq (sr c76_r4 (iz 20 (rr c76_r5))) (sr c76_r6 (sd c76_r7 (rr c76_r8))))))⟩
def K76 (D:Bl):Prop:=∀a0 a1 r,g76 a0 a1=some r→D 76 ⟨[.agg (Bk a0),iV a1],[]⟩ ⟨.tup [.agg (Bk r.1),iV r.2],[],[]⟩
abbrev pU:=fun x0 (r:List (Nat×List V))=>(128,Bk x0)::(256,Bt 0 0 (Aq 259) [])::r
theorem F76 (H92:K92 C):K76 (FO C c76):=by
 intro a0 a1 r h0
 refine f0 (Ba 5 [(1,iV a1),(2,.ptr 128 0),(4,.ptr 256 0)] (pU a0 []) (Aw (Ar (st (c_ (v:=.agg (Bk a0)) (Bn ⟨tv,tv⟩ rfl (nl rfl)) (st (Bm rfl tv (bb h0 fun r1 e2 h0=>st (Cq (r:=iV r1) false (H92 a0 a1 r1 e2) ⟨tv,tv,tv⟩ rfl rfl (fun _=>rfl) (o_ (Ba 8 [(2,.ptr 128 0),(4,.ptr 256 0),(6,iV r1),(12,.bool (decide (r1<0)))] (pU a0 []) (Cs h0 (fun c3 h0=>?_) (fun c3 h0=>?_)))))))))))))
 ·obtain rfl:=sj h0
  exact Cy 6
 ·refine Hb (cK (Aw (Aw (Ar (st (c_ (Bn ⟨tv,tv⟩ rfl tv) (st (c_ (Bn ⟨tv,tv⟩ rfl (nl rfl)) (st (Bm rfl tv (bb h0 fun y4 e5 h0=>Ti rfl rfl e5 (o_ (Ba 4 [(2,.ptr 128 0),(4,.ptr 256 0),(6,iV r1),(20,.bool (!y4.Cl))] (pU a0 []) (Cs h0 (fun c6 h0=>?_) (fun c6 h0=>?_)))))))))))))))
  ·obtain rfl:=sj h0
   exact Cy 6
  ·refine Ba 7 [(2,.ptr 128 0),(4,.ptr 256 0),(6,iV r1),(7,.ptr 448 0)] (pU a0 [(448,Bk a0)]) (Aw (bb h0 fun s7 e8 h0=>bb h0 fun s9 e10 h0=>gg h0 fun c11 h0=>gg h0 fun c12 h0=>Bq (Al tv (c_ (Bn ⟨tv,tv⟩ rfl tv) (⟨tv,Al tv (c_ (Bn ⟨tv,tv⟩ rfl (nl rfl)) (⟨tv,Al tv (Bm rfl tv (⟨tv,Al tv (c_ (Qt (e:=Ab) (y:=s7) rfl rfl tv ⟨tv,tv⟩ rfl rfl e8) (⟨tv,Al tv (c_ (Bn ⟨tv,tv⟩ rfl tv) (⟨tv,Al tv (c_ (Bn ⟨tv,tv⟩ rfl (nl rfl)) (⟨tv,Al tv (Bm rfl tv (⟨tv,Al tv (c_ (Bn t3 rfl tv) (⟨tv,Al tv (c_ (Qt (e:=Ab) (y:=s9) rfl rfl tv ⟨tv,tv⟩ rfl rfl e10) (⟨tv,Ck (gH tv tv (d0 ⟨⟨.inl tv,Bf (Qt (e:=Ab) (y:=s9) rfl rfl tv ⟨tv,tv⟩ rfl rfl e10) rfl⟩,⟨.inl tv,Bf (Bn t3 rfl tv) rfl⟩,⟨.inl tv,Bf (Eb (v:=iV r1) rfl tv) rfl⟩,⟨.inl tv,Bf (Bn ⟨tv,tv⟩ rfl (nl rfl)) rfl⟩,⟨.inl tv,Bf (Bn ⟨tv,tv⟩ rfl tv) rfl⟩,⟨.inl tv,Bf (Qt (e:=Ab) (y:=s7) rfl rfl tv ⟨tv,tv⟩ rfl rfl e8) rfl⟩,⟨.inl tv,Bf (Eb (v:=iV r1) rfl tv) rfl⟩,⟨.inl tv,Bf (Bn ⟨tv,tv⟩ rfl (nl rfl)) rfl⟩,⟨.inl tv,Bf (Bn ⟨tv,tv⟩ rfl tv) rfl⟩,tv⟩ (Ck (Lb (e:=Ab) (l0:=([]:List Aa)) (l1:=s7) rfl rfl tv rfl (by decide) c11 (dw [(2,.ptr 128 0),(4,.ptr 256 0),(6,iV r1),(7,.ptr 448 0),(28,Ae 1472 (([]:List Aa)++s7)),(29,.ptr 128 2),(30,Cg a0.Af),(31,iV r1),(32,iV (wi (r1+1))),(33,Cg s9)] [(128,Bk a0),(256,Bt 0 0 (Aq 259) []),(448,Bk a0)] ⟨⟨.inl tv,Bf (Qt (e:=Ab) (y:=s9) rfl rfl tv ⟨tv,tv⟩ rfl rfl e10) rfl⟩,⟨.inl tv,Bf (Bn t3 rfl tv) rfl⟩,⟨.inl tv,Bf (Eb (v:=iV r1) rfl tv) rfl⟩,⟨.inl tv,Bf (Bn ⟨tv,tv⟩ rfl (nl rfl)) rfl⟩,⟨.inl tv,Bf (Bn ⟨tv,tv⟩ rfl tv) rfl⟩,tv⟩ (Ck (Lb (e:=Ab) (l0:=([]:List Aa)++s7) (l1:=s9) rfl rfl tv rfl (by decide) c12 (d0 tv (Al tv (c_ (Bn ⟨tv,tv⟩ rfl tv) (⟨tv,Ck (Gm rfl rfl tv rfl rfl rfl (nl rfl) (d0 tv (d_ (Ba 1 [(4,.ptr 256 0),(7,.ptr 448 0)] [(256,Bt 0 0 (Aq 259) []),(448,Bt a0.clock a0.next (Aq 1472) ((([]:List Aa)++s7)++s9))] ?_)))) Bg⟩))))) Bg))) Bg))) Bg⟩))⟩))⟩))⟩))⟩))⟩))⟩))⟩))⟩)))))
   obtain rfl:=sj h0
   exact Cy 6 [1472]

/- loop.example/g00149/spec.l09Without -/
def PS:List Cf:=[⟨some 4,.nilS 2,none⟩]
def PT:List Cf:=[⟨some 7,.mkS 2 [iV 0,.bool false] 0 [],none⟩,m_ 5 7]
def PV:=[i_ 6 0]
def PW:=[m_ 8 6,m_ 9 0,n_ 10 9,b_ .lss 11 8 10]
def PX:=[m_ 14 0,m_ 15 6,x_ 16 14 15 2,f_ 17 16 0,l_ 18 17 1,m_ 19 1,b_ .neq 20 18 19]
def PY:List Cf:=[m_ 21 5,m_ 22 0,m_ 23 6,x_ 24 22 23 2,L_ 25 24 2,⟨some 26,.mkS 2 [iV 0,.bool false] 1 [(0,.t 25)],none⟩,⟨some 27,.app 2 16 (.t 21) (.t 26),none⟩,m_ 5 27]
def PZ:=[m_ 12 6,B_ .add 13 12 1,m_ 6 13]
def PR:IR:=(.seq (sr PW (.ite (.t 11) .skip (.exit 0))) (.seq (.block 1 (sr PX (iz 20 (.reg PY)))) (.reg PZ)))
def QA:=[m_ 28 5,m_ 4 28]
def c146:Dv:=⟨2,29,[.t 4],sr PS (sr PT (.seq (sr PV (Im 0 PR)) (rr QA)))⟩
def K146 (D:Bl):Prop:=∀a0 a1 r,g146 a0 a1=some r→D 146 ⟨[Ce a0,iV a1],[]⟩ ⟨Bs 0 r,[],[]⟩
theorem F146:K146 (FO C c146):=by
 intro a0 a1 r h0
 refine f0 (Ba 13 [(0,Ce a0),(1,iV a1),(5,Bs 448 []),(6,iV 0)] [] (Bu (bb h0 fun r37 e38 h0=>Cv (R:=(fun S=>∃p21:List Ag,p21=r37∧S=⟨[(5,Bs 448 p21)],[],[]⟩)) (Rc a0 a1) (fun s S=>match s with | (p9,p10)=>S=⟨[(0,Ce a0),(1,iV a1),(5,Bs 448 p9),(6,iV p10)],[],[]⟩) e38 _ (Cj (by kernel_rfl)) rfl 0 (fun _=>rfl) ?_ ?_)))
 ·rintro S _ hfg ⟨p21,rfl,rfl⟩
  refine Cb _ hfg ?_
  obtain rfl:=sj h0
  exact Cy 5
 ·rintro ⟨p9,p10⟩ o1 _ K1 rfl h1 hx1 hK1 hE1 hR1
  refine Bj 4 (Ar (Nh rfl (o_ (Ba 2 [(0,Ce a0),(1,iV a1),(5,Bs 448 p9),(6,iV p10),(11,.bool (decide (p10<(a0.length:Int))))] [] (Cs h1 (fun c22 h1=>?_) (fun c22 h1=>?_))))))
  ·refine Ot 3 (Lc (fun S=>∃p29:List Ag,S=⟨[(0,Ce a0),(1,iV a1),(5,Bs 448 p29),(6,iV p10)],[],[]⟩∧Ye p10 p29=some o1) ?_ (fun J30=>?_))
   ·rintro _ ⟨p29,rfl,h1⟩
    refine Bj 5 ?_
    obtain rfl:=sj h1
    exact kn hK1 rfl rfl
   ·refine Aw ?_
    refine Bj 2 (Ar (bb h1 fun y31 e32 h1=>Ti rfl rfl e32 (o_ (Ba 5 [(0,Ce a0),(1,iV a1),(5,Bs 448 p9),(6,iV p10),(20,.bool (y31.Br != a1))] [] (Cs h1 (fun c33 h1=>?_) (fun c33 h1=>?_))))))
    ·refine Bj 3 (Ar (bb h1 fun y34 e35 h1=>Ti rfl rfl e35 (o_ (Bj 2 (Ar (gg h1 fun HH h1=>st (Lb (e:=Ca) (l0:=p9) (l1:=([y34]:List Ag)) rfl rfl tv rfl (by decide) HH (st (Bm rfl tv (Cz (Qq ?_)))))))))))
     exact jn J30 ⟨_,rfl,h1⟩
    ·refine Hb (Qq ?_)
     exact jn J30 ⟨_,rfl,h1⟩
  ·obtain rfl:=sj h1
   obtain rfl:=hx1 _ rfl
   refine In rfl ?_
   exact jn hE1 ⟨_,rfl,rfl⟩

/- loop.example/g00149/spec.l09Sweep -/
def OH:=[X_ 2 0,X_ 3 1,a_ 4 (zV 259 260 261)]
def OI:=[L_ 14 2 6,q_ 15 102 [.t 14],a_ 5 (zV 323 324 325),s_ 5 15 6]
def OJ:=[i_ 6 0]
def OK:=[i_ 7 0]
def OM:=[m_ 16 7,f_ 17 2 0,f_ 18 17 2,l_ 19 18 1,n_ 20 19,b_ .lss 21 16 20]
def ON:=[f_ 24 2 0,f_ 25 24 2,l_ 26 25 1,m_ 27 7,x_ 28 26 27 4,f_ 29 28 0,l_ 30 29 1,m_ 8 30]
def OO:=[f_ 31 2 0,f_ 32 31 2,l_ 33 32 1,m_ 34 7,x_ 35 33 34 4,f_ 36 35 3,l_ 37 36 1,N_ 38 37]
def OP:=tk [f_ 40 5 4,l_ 41 40 1,m_ 42 8,L_ 43 3 7,m_ 44 6] (.alt [m_ 42 8,l_ 41 40 1,f_ 40 5 4] (q_ 45 145 [.t 43,.t 44]) (.alt [] (q_ 46 86 [.t 41,.t 42,.c (.bool false),.t 45]) (tk [m_ 39 46,e_ 47 39 0,e_ 48 39 1,m_ 9 47,m_ 10 48] .fin) .stop) .stop)
def OQ:=[m_ 49 6,B_ .add 50 49 1,m_ 6 50]
def OR:=[m_ 51 9,f_ 52 5 4,s_ 52 51 1]
def vN:=[m_ 53 10,B_ .eql 54 53 0]
def vO:=[f_ 56 5 0,L_ 57 56 3,m_ 58 8,q_ 59 76 [.t 57,.t 58],m_ 55 59,e_ 60 55 0,e_ 61 55 1,f_ 62 5 0,s_ 62 60 3]
def vP:=[f_ 63 3 6,l_ 64 63 1,B_ .eql 65 64 2]
def vQ:=[L_ 66 5 6,q_ 67 133 [.t 66],s_ 4 67 6]
def vR:=[m_ 22 7,B_ .add 23 22 1,m_ 7 23]
def OF:IR:=(.seq (sr OM (.ite (.t 21) .skip (.exit 0))) (.seq (.block 1 (sr ON (.seq (sr OO (iz 38 (.exit 1))) (sd OP (sr OQ (sr OR (.seq (sr vN (iz 54 (.reg vO))) (sr vP (iz 65 (rr vQ)))))))))) (.reg vR)))
def vS:=[i_ 11 0]
def vT:=[m_ 68 11,f_ 69 2 3,l_ 70 69 1,n_ 71 70,b_ .lss 72 68 71]
def vU:=[f_ 75 2 3,l_ 76 75 1,m_ 77 11,x_ 78 76 77 2,f_ 79 78 1,l_ 80 79 1,N_ 81 80]
def vV:=tk [f_ 83 5 4,l_ 84 83 1,f_ 85 2 3,l_ 86 85 1,m_ 87 11,x_ 88 86 87 2,f_ 89 88 0,l_ 90 89 1,L_ 91 3 7,m_ 92 6] (.alt [l_ 90 89 1,f_ 89 88 0,x_ 88 86 87 2,m_ 87 11,l_ 86 85 1,f_ 85 2 3,l_ 84 83 1,f_ 83 5 4] (q_ 93 145 [.t 91,.t 92]) (.alt [] (q_ 94 86 [.t 84,.t 90,.c (.bool false),.t 93]) (tk [m_ 82 94,e_ 95 82 0,e_ 96 82 1,m_ 12 95,m_ 13 96] .fin) .stop) .stop)
def vW:=[m_ 97 6,B_ .add 98 97 1,m_ 6 98]
def vX:=[m_ 99 12,f_ 100 5 4,s_ 100 99 1]
def vY:=[m_ 101 13,B_ .eql 102 101 0]
def vZ:=tk [f_ 103 5 3,l_ 104 103 1,f_ 105 2 3,l_ 106 105 1,m_ 107 11,x_ 108 106 107 2,f_ 109 108 0,l_ 110 109 1] (.alt [] (q_ 111 146 [.t 104,.t 110]) (tk [f_ 112 5 3] (.alt [] (s_ 112 111 1) .fin .stop)) .stop)
def wA:=[f_ 113 3 6,l_ 114 113 1,B_ .eql 115 114 2]
def wB:=[L_ 116 5 6,q_ 117 133 [.t 116],s_ 4 117 6]
def wC:=[m_ 73 11,B_ .add 74 73 1,m_ 11 74]
def OG:IR:=(.seq (sr vT (.ite (.t 72) .skip (.exit 2))) (.seq (.block 3 (.seq (sr vU (iz 81 (.exit 3))) (sd vV (sr vW (sr vX (.seq (sr vY (iz 102 (.draw vZ))) (sr wA (iz 115 (rr wB))))))))) (.reg wC)))
def wD:=[L_ 118 5 6,s_ 4 118 6]
def c134:Dv:=⟨2,119,[.cell 4 6 true],sr OH (sr OI (sr OJ (.seq (sr OK (Im 0 OF)) (.seq (sr vS (Im 2 OG)) (rr wD)))))⟩
def K134 (D:Bl):Prop:=∀a0 a1 r,lX a0 a1=some r→D 134 ⟨[.agg (Bv a0),.agg (Ao a1)],[]⟩ ⟨.agg (Av r u_ (Aq 0) u_),[],[]⟩
abbrev Fl:=fun x0 x1 (r:List (Nat×List V))=>(128,Bv x0)::(192,Ao x1)::(256,At 0 0 (Aq 259) [] (Aq 260) [] (Aq 261) [] false)::r
abbrev Fs:=fun (r:List (Nat×V))=>(2,.ptr 128 0)::(3,.ptr 192 0)::(4,.ptr 256 0)::(5,.ptr 320 0)::r
theorem F134 (H76:K76 C) (H86:K86 C) (H102:lA C) (H133:tI C) (H145:HR C) (H146:K146 C):K134 (FO C c134):=by
 intro a0 a1 r h0
 refine f0 (Ba 5 [(2,.ptr 128 0),(3,.ptr 192 0),(4,.ptr 256 0)] (Fl a0 a1 []) (Aw (Ar (st (c_ (v:=.agg (Bv a0)) (Bn ⟨tv,tv⟩ rfl (nl rfl)) (bb h0 fun r1 e2 h0=>st (Cq (r:=.agg (Av r1 (Aq 0) (Aq 1) (Aq 2))) false (H102 a0 r1 e2) ⟨tv,tv⟩ rfl rfl (fun _=>(ar (Az rfl (af (af (af (Az rfl rfl))))))) (o_ (Ba 12 (Fs [(6,iV 0),(7,iV 0)]) (Fl a0 a1 [(320,Av r1 (Aq 960) (Aq 961) (Aq 962))]) (Bu (bb h0 fun r115 e116 h0=>Cv (R:=(fun S=>∃p63:Int,∃p64:Int,∃p65:Int,∃p66:List Aa,∃p67:List Int,.inl (p63,p64,p65,p66,p67)=r115∧S=⟨Fs [(6,iV p63)],Fl a0 a1 [(320,At p64 p65 u_ p66 (Aq 961) r1.Ad u_ p67 r1.Am)],[]⟩)) (Mc a0 a1 r1) (fun s S=>match s with | (p27,p28,p29,p30,p31,p32)=>S=⟨Fs [(6,iV p27),(7,iV p28)],Fl a0 a1 [(320,At p29 p30 u_ p31 (Aq 961) r1.Ad u_ p32 r1.Am)],[]⟩) e116 ⟨Fs [(6,iV 0),(7,iV 0)],Fl a0 a1 [(320,Av r1 u_ (Aq 961) u_)],[]⟩ (lU [960,962] (by kernel_rfl)) rfl 0 (fun _=>rfl) ?_ ?_)))))))))))
 ·rintro S _ hfg ⟨p63,p64,p65,p66,p67,rfl,rfl⟩
  refine Cb _ hfg (Ba 4 (Fs [(6,iV p63),(11,iV 0)]) (Fl a0 a1 [(320,At p64 p65 u_ p66 (Aq 961) r1.Ad u_ p67 r1.Am)]) (Bu (bb h0 fun r218 e219 h0=>Cv (R:=(fun S=>∃p169:List Ag,∃p170:List Int,.inl (p169,p170)=r218∧S=⟨[(4,.ptr 256 0),(5,.ptr 320 0)],[(256,At 0 0 (Aq 259) [] (Aq 260) [] (Aq 261) [] false),(320,At p64 p65 u_ p66 (Aq 961) p169 u_ p170 r1.Am)],[]⟩)) (Jp a0 a1 r1 p64 p65 p66) (fun s S=>match s with | (p139,p140,p141,p142)=>S=⟨Fs [(6,iV p139),(11,iV p140)],Fl a0 a1 [(320,At p64 p65 u_ p66 (Aq 961) p141 u_ p142 r1.Am)],[]⟩) e219 _ (Cj (by kernel_rfl)) rfl 2 (fun _=>rfl) ?_ ?_)))
  ·rintro S _ hfg ⟨p169,p170,rfl,rfl⟩
   refine Cb _ hfg ?_
   obtain rfl:=sj h0
   exact Cy 5
  ·rintro ⟨p139,p140,p141,p142⟩ o1 _ K1 rfl h1 hx1 hK1 hE1 hR1
   refine Aw (Aw (Ar (st (Bm rfl tv (st (c_ (Bn ⟨tv,tv⟩ rfl tv) (st (c_ (Bn ⟨tv,tv⟩ rfl (nl rfl)) (Nh rfl (o_ (Ba 2 (Fs [(6,iV p139),(11,iV p140),(72,.bool (decide (p140<(a0.Ad.length:Int))))]) (Fl a0 a1 [(320,At p64 p65 u_ p66 (Aq 961) p141 u_ p142 r1.Am)]) (Cs h1 (fun c171 h1=>?_) (fun c171 h1=>?_)))))))))))))
   ·refine Ot 3 (Lc (fun S=>∃p190:Int,∃p191:List Ag,∃p192:List Int,S=⟨Fs [(6,iV p190),(11,iV p140)],Fl a0 a1 [(320,At p64 p65 u_ p66 (Aq 961) p191 u_ p192 r1.Am)],[]⟩∧Tv p140 p190 p191 p192=some o1) ?_ (fun J193=>?_))
    ·rintro _ ⟨p190,p191,p192,rfl,h1⟩
     refine cK (Ar (st (Bm rfl tv (st (c_ (Bn t3 rfl tv) (st (Bm rfl tv (Cz ?_))))))))
     obtain rfl:=sj h1
     exact kn hK1 rfl rfl
    ·refine Aw ?_
     refine Aw (Ar (st (c_ (Bn ⟨tv,tv⟩ rfl tv) (st (c_ (Bn ⟨tv,tv⟩ rfl (nl rfl)) (st (Bm rfl tv (bb h1 fun y194 e195 h1=>Ti rfl rfl e195 (o_ (Ba 4 (Fs [(6,iV p139),(11,iV p140),(81,.bool (!y194.Jx))]) (Fl a0 a1 [(320,At p64 p65 u_ p66 (Aq 961) p141 u_ p142 r1.Am)]) (Cs h1 (fun c196 h1=>?_) (fun c196 h1=>?_))))))))))))
     ·refine ex_ rfl ?_
      exact jn J193 ⟨_,_,_,rfl,h1⟩
     ·refine Ot 3 (bb h1 fun y197 e198 h1=>bb h1 fun r199 e200 h1=>bb h1 fun r201 e202 h1=>Bq (Al tv (c_ (Bn ⟨tv,tv⟩ rfl tv) (⟨tv,Al tv (c_ (Bn ⟨tv,tv⟩ rfl (nl rfl)) (⟨tv,Al tv (c_ (Bn ⟨tv,tv⟩ rfl tv) (⟨tv,Al tv (c_ (Bn ⟨tv,tv⟩ rfl (nl rfl)) (⟨tv,Al tv (Bm rfl tv (⟨tv,d_ (tH rfl rfl rfl e198 (Bq (Al tv (c_ (Bn ⟨tv,tv⟩ rfl (nl rfl)) (⟨tv,Al tv (c_ (Bn ⟨tv,tv⟩ rfl (nl rfl)) (⟨tv,Al tv (c_ (v:=.agg (Ao a1)) (Bn ⟨tv,tv⟩ rfl (nl rfl)) (⟨tv,Al tv (Bm rfl tv (⟨tv,cG (H145 a1 p139 r199 e200) rfl (dw [(2,.ptr 128 0),(3,.ptr 192 0),(4,.ptr 256 0),(5,.ptr 320 0),(6,iV p139),(11,iV p140),(83,.ptr 320 4),(84,lI p142),(85,.ptr 128 3),(86,Ce a0.Ad),(87,iV p140),(88,.iptr (Ca y197)),(89,.iptr (Ca y197)),(90,iV y197.Br),(93,iV r199)] [(128,Bv a0),(192,Ao a1),(256,At 0 0 (Aq 259) [] (Aq 260) [] (Aq 261) [] false),(320,At p64 p65 u_ p66 (Aq 961) p141 u_ p142 r1.Am)] ⟨⟨.inl tv,Bf (Bn ⟨tv,tv⟩ rfl (nl rfl)) rfl⟩,⟨.inl tv,Bf (Bn ⟨tv,tv⟩ rfl (nl rfl)) rfl⟩,⟨.inl tv,Bf (cj_ rfl rfl e198) rfl⟩,⟨.inl tv,Bf (Eb (v:=iV p140) rfl tv) rfl⟩,⟨.inl tv,Bf (Bn ⟨tv,tv⟩ rfl (nl rfl)) rfl⟩,⟨.inl tv,Bf (Bn ⟨tv,tv⟩ rfl tv) rfl⟩,⟨.inl tv,Bf (Bn ⟨tv,tv⟩ rfl (nl rfl)) rfl⟩,⟨.inl tv,Bf (Bn ⟨tv,tv⟩ rfl tv) rfl⟩,tv⟩ (Ck (Cq (r:=.tup [lI r201.1,iV r201.2]) true (H86 p142 y197.Br false r199 r201 e202) ⟨tv,tv,tv,tv,tv⟩ rfl rfl (fun h=>nomatch h) (dw [(2,.ptr 128 0),(3,.ptr 192 0),(4,.ptr 256 0),(5,.ptr 320 0),(6,iV p139),(11,iV p140),(94,.tup [lI r201.1,iV r201.2])] [(128,Bv a0),(192,Ao a1),(256,At 0 0 (Aq 259) [] (Aq 260) [] (Aq 261) [] false),(320,At p64 p65 u_ p66 (Aq 961) p141 u_ p142 r1.Am)] tv (Al tv (Bm rfl tv (⟨tv,Al tv (c_ (Bn ⟨tv,tv⟩ rfl tv) (⟨tv,Al tv (c_ (Bn ⟨tv,tv⟩ rfl tv) (⟨tv,?_⟩))⟩))⟩))))) Bg)) Bg⟩))⟩))⟩))⟩)))))⟩))⟩))⟩))⟩))⟩))))
      refine d_ (Ba 21 (Fs [(6,iV (wi (p139+1))),(11,iV p140),(102,.bool (r201.2==0))]) (Fl a0 a1 [(320,At p64 p65 u_ p66 (Aq 961) p141 u_ r201.1 r1.Am)]) (Lw (cb:=(r201.2==0)) (fun S=>∃p208:List Ag,S=⟨Fs [(6,iV (wi (p139+1))),(11,iV p140)],Fl a0 a1 [(320,At p64 p65 u_ p66 (Aq 7104) p208 u_ r201.1 r1.Am)],[]⟩∧Ra a1 r1 p64 p65 p66 p139 p140 r201 p208=some o1) rfl ?_ (fun c213 J212=>?_) (fun c213 J212=>?_)))
      ·rintro _ ⟨p208,rfl,h1⟩
       refine Ba 6 (Fs [(6,iV (wi (p139+1))),(11,iV p140),(115,.bool (a1.stop==2))]) (Fl a0 a1 [(320,At p64 p65 u_ p66 (Aq 7104) p208 u_ r201.1 r1.Am)]) (Cs h1 (fun c209 h1=>?_) (fun c209 h1=>?_))
       ·refine Aw (Ar (st (c_ (v:=.agg (At p64 p65 u_ p66 (Aq 7104) p208 u_ r201.1 r1.Am)) (Bn ⟨tv,tv⟩ rfl (nl rfl)) (bb h1 fun r210 e211 h1=>st (Cq (r:=.agg (Av r210 (Aq 0) (Aq 1) (Aq 2))) false (H133 (Ap.mk (As.mk p64 p65 p66) p208 r201.1 r1.Am) r210 e211) ⟨tv,tv⟩ rfl rfl (fun _=>(ar (Az rfl (af (af (af (Az rfl rfl))))))) (o_ ?_))))))
        obtain rfl:=sj h1
        obtain rfl:=hx1 _ rfl
        obtain rfl:=sj h0
        exact cR 3 hR1 [7488,7490]
       ·refine Hb (Qq ?_)
        exact J193 _ _ (Zw [] [(7104,961)] rfl (by kernel_rfl)) ⟨_,_,_,rfl,h1⟩
      ·replace h1:=ip c213 h1
       refine bb h1 fun y214 e215 h1=>bb h1 fun r216 e217 h1=>Bq (Al tv (c_ (Bn ⟨tv,tv⟩ rfl tv) (⟨tv,Al tv (c_ (Bn ⟨tv,tv⟩ rfl (nl rfl)) (⟨tv,Al tv (c_ (Bn ⟨tv,tv⟩ rfl tv) (⟨tv,Al tv (c_ (Bn ⟨tv,tv⟩ rfl (nl rfl)) (⟨tv,Al tv (Bm rfl tv (⟨tv,d_ (tH rfl rfl rfl e215 (Bq (Al tv (c_ (Bn ⟨tv,tv⟩ rfl (nl rfl)) (⟨tv,Al tv (c_ (Bn ⟨tv,tv⟩ rfl (nl rfl)) (⟨tv,cG (H146 p141 y214.Br r216 e217) (af rfl) (dw [(2,.ptr 128 0),(3,.ptr 192 0),(4,.ptr 256 0),(5,.ptr 320 0),(6,iV (wi (p139+1))),(11,iV p140),(111,Bs 7104 r216)] [(128,Bv a0),(192,Ao a1),(256,At 0 0 (Aq 259) [] (Aq 260) [] (Aq 261) [] false),(320,At p64 p65 u_ p66 (Aq 961) p141 u_ r201.1 r1.Am)] tv (Al tv (c_ (Bn ⟨tv,tv⟩ rfl tv) (⟨tv,Ck (Gm rfl rfl tv rfl rfl rfl (nl rfl) (d0 tv (Gf ?_))) Bg⟩)))) Bg⟩))⟩)))))⟩))⟩))⟩))⟩))⟩)))
       exact jn J212 ⟨_,rfl,h1⟩
      ·replace h1:=Kn c213 h1
       refine Hb ?_
       exact J212 _ _ (Zw [] [(961,7104)] rfl (by kernel_rfl)) ⟨_,rfl,h1⟩
   ·obtain rfl:=sj h1
    obtain rfl:=hx1 _ rfl
    refine In rfl ?_
    exact jn hE1 ⟨_,_,rfl,rfl⟩
 ·rintro ⟨p27,p28,p29,p30,p31,p32⟩ o1 _ K1 rfl h1 hx1 hK1 hE1 hR1
  refine Aw (Aw (Ar (st (Bm rfl tv (st (c_ (Bn ⟨tv,tv⟩ rfl tv) (st (c_ (Bn ⟨tv,tv⟩ rfl tv) (st (c_ (Bn ⟨tv,tv⟩ rfl (nl rfl)) (Nh rfl (o_ (Ba 2 (Fs [(6,iV p27),(7,iV p28),(21,.bool (decide (p28<(a0.Ac.Af.length:Int))))]) (Fl a0 a1 [(320,At p29 p30 u_ p31 (Aq 961) r1.Ad u_ p32 r1.Am)]) (Cs h1 (fun c68 h1=>?_) (fun c68 h1=>?_)))))))))))))))
  ·refine Ot 3 (Lc (fun S=>∃p87:Int,∃p88:Int,∃p89:Int,∃p90:List Aa,∃p91:List Int,S=⟨Fs [(6,iV p87),(7,iV p28)],Fl a0 a1 [(320,At p88 p89 u_ p90 (Aq 961) r1.Ad u_ p91 r1.Am)],[]⟩∧Tu p28 p87 p88 p89 p90 p91=some o1) ?_ (fun J92=>?_))
   ·rintro _ ⟨p87,p88,p89,p90,p91,rfl,h1⟩
    refine cK (Ar (st (Bm rfl tv (st (c_ (Bn t3 rfl tv) (st (Bm rfl tv (Cz ?_))))))))
    obtain rfl:=sj h1
    exact kn hK1 rfl rfl
   ·refine Aw ?_
    refine Ar (st (c_ (Bn ⟨tv,tv⟩ rfl tv) (st (c_ (Bn ⟨tv,tv⟩ rfl tv) (st (c_ (Bn ⟨tv,tv⟩ rfl (nl rfl)) (st (Bm rfl tv (bb h1 fun y93 e94 h1=>Ti rfl rfl e94 (o_ (Ba 4 (Fs [(6,iV p27),(7,iV p28),(8,iV y93.id)]) (Fl a0 a1 [(320,At p29 p30 u_ p31 (Aq 961) r1.Ad u_ p32 r1.Am)]) (Aw (Aw (Ar (st (c_ (Bn ⟨tv,tv⟩ rfl tv) (st (c_ (Bn ⟨tv,tv⟩ rfl tv) (st (c_ (Bn ⟨tv,tv⟩ rfl (nl rfl)) (st (Bm rfl tv (bb h1 fun y95 e96 h1=>Ti rfl rfl e96 (o_ (Ba 4 (Fs [(6,iV p27),(7,iV p28),(8,iV y93.id),(38,.bool (!y95.Cl))]) (Fl a0 a1 [(320,At p29 p30 u_ p31 (Aq 961) r1.Ad u_ p32 r1.Am)]) (Cs h1 (fun c97 h1=>?_) (fun c97 h1=>?_)))))))))))))))))))))))))))
    ·refine ex_ rfl ?_
     exact jn J92 ⟨_,_,_,_,_,rfl,h1⟩
    ·refine Ot 3 (bb h1 fun r98 e99 h1=>bb h1 fun r100 e101 h1=>Bq (Al tv (c_ (Bn ⟨tv,tv⟩ rfl tv) (⟨tv,Al tv (c_ (Bn ⟨tv,tv⟩ rfl (nl rfl)) (⟨tv,Al tv (Bm rfl tv (⟨tv,Al tv (c_ (v:=.agg (Ao a1)) (Bn ⟨tv,tv⟩ rfl (nl rfl)) (⟨tv,Al tv (Bm rfl tv (⟨tv,cG (H145 a1 p27 r98 e99) rfl (dw [(2,.ptr 128 0),(3,.ptr 192 0),(4,.ptr 256 0),(5,.ptr 320 0),(6,iV p27),(7,iV p28),(8,iV y93.id),(40,.ptr 320 4),(41,lI p32),(42,iV y93.id),(45,iV r98)] [(128,Bv a0),(192,Ao a1),(256,At 0 0 (Aq 259) [] (Aq 260) [] (Aq 261) [] false),(320,At p29 p30 u_ p31 (Aq 961) r1.Ad u_ p32 r1.Am)] hB (Ck (Cq (r:=.tup [lI r100.1,iV r100.2]) true (H86 p32 y93.id false r98 r100 e101) ⟨tv,tv,tv,tv,tv⟩ rfl rfl (fun h=>nomatch h) (dw [(2,.ptr 128 0),(3,.ptr 192 0),(4,.ptr 256 0),(5,.ptr 320 0),(6,iV p27),(7,iV p28),(8,iV y93.id),(46,.tup [lI r100.1,iV r100.2])] [(128,Bv a0),(192,Ao a1),(256,At 0 0 (Aq 259) [] (Aq 260) [] (Aq 261) [] false),(320,At p29 p30 u_ p31 (Aq 961) r1.Ad u_ p32 r1.Am)] tv (d_ (Ba 6 (Fs [(6,iV p27),(7,iV p28),(8,iV y93.id),(9,lI r100.1),(10,iV r100.2)]) (Fl a0 a1 [(320,At p29 p30 u_ p31 (Aq 961) r1.Ad u_ p32 r1.Am)]) (Aw (Ar (st (Bm rfl tv (st (c_ (Bn t3 rfl tv) ?_)))))))))) Bg)) Bg⟩))⟩))⟩))⟩))⟩))))
     refine o_ (Ba 14 (Fs [(6,iV (wi (p27+1))),(7,iV p28),(8,iV y93.id),(54,.bool (r100.2==0))]) (Fl a0 a1 [(320,At p29 p30 u_ p31 (Aq 961) r1.Ad u_ r100.1 r1.Am)]) (Lw (cb:=(r100.2==0)) (fun S=>∃p105:Int,∃p106:Int,∃p107:List Aa,S=⟨Fs [(6,iV (wi (p27+1))),(7,iV p28)],Fl a0 a1 [(320,At p105 p106 u_ p107 (Aq 961) r1.Ad u_ r100.1 r1.Am)],[]⟩∧Qz a1 r1 p27 p28 r100 p105 p106 p107=some o1) rfl ?_ (fun iL J111=>?_) (fun iL J111=>?_)))
     ·rintro _ ⟨p105,p106,p107,rfl,h1⟩
      refine Ba 6 (Fs [(6,iV (wi (p27+1))),(7,iV p28),(65,.bool (a1.stop==2))]) (Fl a0 a1 [(320,At p105 p106 u_ p107 (Aq 961) r1.Ad u_ r100.1 r1.Am)]) (Cs h1 (fun c108 h1=>?_) (fun c108 h1=>?_))
      ·refine Aw (Ar (st (c_ (v:=.agg (At p105 p106 u_ p107 (Aq 961) r1.Ad u_ r100.1 r1.Am)) (Bn ⟨tv,tv⟩ rfl (nl rfl)) (bb h1 fun r109 e110 h1=>st (Cq (r:=.agg (Av r109 (Aq 0) (Aq 1) (Aq 2))) false (H133 (Ap.mk (As.mk p105 p106 p107) r1.Ad r100.1 r1.Am) r109 e110) ⟨tv,tv⟩ rfl rfl (fun _=>(ar (Az rfl (af (af (af (Az rfl rfl))))))) (o_ ?_))))))
       obtain rfl:=sj h1
       obtain rfl:=hx1 _ rfl
       obtain rfl:=sj h0
       exact cR 3 hR1 [4288,4290]
      ·refine Hb (Qq ?_)
       exact jn J92 ⟨_,_,_,_,_,rfl,h1⟩
     ·replace h1:=ip iL h1
      refine Ar (st (c_ (Bn ⟨tv,tv⟩ rfl tv) (st (c_ (v:=.agg (Bt p29 p30 u_ p31)) (Bn ⟨tv,tv⟩ rfl (nl rfl)) (st (Bm rfl tv (bb h1 fun r113 e114 h1=>st (Cq (r:=.tup [.agg (Bk r113.1),iV r113.2]) true (H76 (As.mk p29 p30 p31) y93.id r113 e114) ⟨tv,tv,tv⟩ rfl rfl (fun h=>nomatch h) (st (Bm rfl tv (st (c_ (Bn ⟨tv,tv⟩ rfl tv) (st (c_ (Bn ⟨tv,tv⟩ rfl tv) (st (c_ (Bn ⟨tv,tv⟩ rfl tv) (st (Gm rfl rfl tv rfl rfl rfl (nl rfl) (Cz ?_)))))))))))))))))))
      exact jn J111 ⟨_,_,_,rfl,h1⟩
     ·replace h1:=Kn iL h1
      refine Hb ?_
      exact jn J111 ⟨_,_,_,rfl,h1⟩
  ·obtain rfl:=sj h1
   obtain rfl:=hx1 _ rfl
   refine In rfl ?_
   exact jn hE1 ⟨_,_,_,_,_,rfl,rfl⟩

/- loop.example/g00149/spec.l09Step -/
def IH:=[X_ 2 0,X_ 3 1,a_ 4 (zV 259 260 261),a_ 5 [iV 0,iV 0]]
def II:=[f_ 11 3 0,l_ 12 11 1,q_ 13 56 [.t 12,.c (iV 1),.c (iV 6)],N_ 14 13,m_ 10 14]
def IJ:List Cf:=[L_ 15 2 6,⟨some 16,.p (.build [iV 0,iV 0] [(0,1,.c (iV 16))]),none⟩,s_ 4 15 6,s_ 5 16 2]
def IK:=[f_ 18 2 5,l_ 19 18 1,m_ 20 19,fT 20 21 3 0,lT 20 22 21 1 false,pT 20 23 (.bin .neq (.t 22) (.c (iV 6))),pa 24 20 23,m_ 17 24]
def IL:List Cf:=[L_ 25 2 6,⟨some 26,.p (.build [iV 0,iV 0] [(0,1,.c (iV 14))]),none⟩,s_ 4 25 6,s_ 5 26 2]
def IM:=[f_ 27 2 0,L_ 28 27 3,a_ 6 (zT 387),s_ 6 28 3]
def IN:=[i_ 7 0]
def IP:=[L_ 29 2 6,q_ 30 102 [.t 29],a_ 8 (zV 515 516 517),s_ 8 30 6]
def IQ:=[f_ 31 3 0,l_ 32 31 1]
def IS:=[B_ .eql 34 32 1,m_ 33 34]
def tS:=[L_ 35 2 6,L_ 36 3 7,q_ 37 132 [.t 35,.t 36],e_ 38 37 0,e_ 39 37 1,s_ 4 38 6,s_ 5 39 2]
def tT:=[B_ .eql 41 32 2,m_ 40 41]
def tU:=[f_ 43 2 0,L_ 44 43 3,f_ 45 3 1,l_ 46 45 1,f_ 47 3 2,l_ 48 47 1,q_ 49 79 [.t 44,.t 46,.t 48],m_ 42 49,e_ 50 42 0,e_ 51 42 1,s_ 6 50 3,m_ 7 51]
def tV:=[L_ 52 6 3,f_ 53 8 0,s_ 53 52 3]
def tW:=[B_ .eql 55 32 3,m_ 54 55]
def tX:=[f_ 57 2 0,L_ 58 57 3,f_ 59 3 1,l_ 60 59 1,q_ 61 74 [.t 58,.t 60],m_ 56 61,e_ 62 56 0,e_ 63 56 1,s_ 6 62 3,m_ 7 63]
def tY:=[L_ 64 6 3,f_ 65 8 0,s_ 65 64 3]
def tZ:=[B_ .eql 67 32 4,m_ 66 67]
def uA:=[f_ 69 2 0,L_ 70 69 3,f_ 71 3 4,l_ 72 71 1,q_ 73 81 [.t 70,.t 72],m_ 68 73,e_ 74 68 0,e_ 75 68 1,f_ 76 8 0,s_ 76 74 3]
def uB:=[f_ 77 3 6,l_ 78 77 1,B_ .eql 79 78 1]
def uC:List Cf:=[L_ 80 8 6,q_ 81 133 [.t 80],⟨some 82,.p (.build [iV 0,iV 0] [(0,1,.c (iV 15))]),none⟩,s_ 4 81 6,s_ 5 82 2]
def uD:=[L_ 83 8 6,a_ 9 (zV 579 580 581),s_ 9 83 6]
def uE:=[L_ 84 8 6,L_ 85 3 7,q_ 86 134 [.t 84,.t 85],s_ 8 86 6]
def uF:=[f_ 87 8 5,l_ 88 87 1,m_ 89 88,fT 89 90 9 5,lT 89 91 90 1 false,pT 89 92 (.un .not (.t 91)),pa 93 89 92]
def uG:List Cf:=[L_ 94 8 6,⟨some 95,.p (.build [iV 0,iV 0] [(0,1,.c (iV 15))]),none⟩,s_ 4 94 6,s_ 5 95 2]
def uH:=[B_ .eql 97 32 5,m_ 96 97]
def uI:List Cf:=[f_ 98 8 5,⟨none,.store (.t 98) (.c (.bool true)) 1,none⟩]
def uJ:=[B_ .eql 100 32 6,m_ 99 100]
def uK:List Cf:=[f_ 101 8 5,⟨none,.store (.t 101) (.c (.bool false)) 1,none⟩]
def uL:=[m_ 102 7,B_ .neq 103 102 0]
def uM:List Cf:=[L_ 104 2 6,m_ 105 7,⟨some 106,.p (.build [iV 0,iV 0] [(0,1,.t 105)]),none⟩,s_ 4 104 6,s_ 5 106 2]
def uN:=[L_ 107 8 6,iQ 108 (.build [iV 0,iV 0] []),s_ 4 107 6,s_ 5 108 2]
def c101:Dv:=⟨2,109,[.cell 4 6 true,.cell 5 2 true],sr IH (.seq (.block 0 (sr II (.ite (.t 10) (rr IJ) (sr IK (iz 17 (rr IL)))))) (sr IM (sr IN (sr IP (.seq (sr IQ (.block 1 (sr IS (.ite (.t 33) (rr tS) (sr tT (.ite (.t 40) (sr tU (.reg tV)) (sr tW (.ite (.t 54) (sr tX (.reg tY)) (sr tZ (.ite (.t 66) (sr uA (.seq (sr uB (iz 79 (rr uC))) (sr uD (sr uE (sr uF (iz 93 (rr uG))))))) (sr uH (.ite (.t 96) (.reg uI) (sr uJ (iz 99 (.reg uK))))))))))))))) (.seq (sr uL (iz 103 (rr uM))) (rr uN)))))))⟩
def K101 (D:Bl):Prop:=∀a0 a1 r,Xt a0 a1=some r→D 101 ⟨[.agg (Bv a0),.agg (Ao a1)],[]⟩ ⟨.tup [.agg (Bv r.1),.agg (Ax r.2)],[],[]⟩
abbrev Gl:=fun x0 (r:List (Nat×List V))=>(128,Bv x0)::(256,At 0 0 (Aq 259) [] (Aq 260) [] (Aq 261) [] false)::(320,[iV 0,iV 0])::r
abbrev Jd:=fun (r:List (Nat×V))=>(2,.ptr 128 0)::(4,.ptr 256 0)::(5,.ptr 320 0)::(8,.ptr 512 0)::r
abbrev gJ:=fun (r:List (Nat×V))=>(2,.ptr 128 0)::(3,.ptr 192 0)::(4,.ptr 256 0)::(5,.ptr 320 0)::r
theorem F101 (H56:K56 C) (H74:K74 C) (H79:K79 C) (H81:K81 C) (H102:lA C) (H132:K132 C) (H133:tI C) (H134:K134 C):K101 (FO C c101):=by
 intro a0 a1 r h0
 refine f0 (Ba 6 (gJ []) (Gl a0 [(192,Ao a1)]) (Bj 5 (Ar (bb h0 fun r1 e2 h0=>Sn (H56 a1.kind 1 6 r1 e2) (o_ (Ba 3 (gJ [(10,.bool (!r1))]) (Gl a0 [(192,Ao a1)]) (Cs h0 (fun c3 h0=>?_) (fun c3 h0=>?_))))))))
 ·refine Bj 2 (Ar (st (c_ (v:=.agg [iV 16,iV 0]) (Bn ⟨tv,tv⟩ rfl ⟨⟨rfl,rfl,nl rfl⟩,tv⟩) (o_ ?_))))
  obtain rfl:=sj h0
  exact Cy 4
 ·refine gK_ 10 (gJ [(17,.bool (bif a0.Am then (a1.kind != 6) else false))]) (Gl a0 [(192,Ao a1)]) (Cs h0 (fun c4 h0=>?_) (fun c4 h0=>?_))
  ·refine Bj 2 (Ar (st (c_ (v:=.agg [iV 14,iV 0]) (Bn ⟨tv,tv⟩ rfl ⟨⟨rfl,rfl,nl rfl⟩,tv⟩) (o_ ?_))))
   obtain rfl:=sj h0
   exact Cy 4
  ·refine Ba 13 (gJ [(6,.ptr 384 0),(7,iV 0)]) (Gl a0 [(192,Ao a1),(384,Bk a0.Ac)]) (Bj 2 (Ar (bb h0 fun r5 e6 h0=>Vp (H102 a0 r5 e6) (ar (Az rfl (af (af (af (Az rfl rfl)))))) (o_ (Ba 9 (Jd [(3,.ptr 192 0),(6,.ptr 384 0),(7,iV 0),(32,iV a1.kind)]) (Gl a0 [(192,Ao a1),(384,Bk a0.Ac),(512,Av r5 (Aq 1920) (Aq 1921) (Aq 1922))]) (Lc (fun S=>∃p27:Int,∃p28:Int,∃p29:Int,∃p30:List Aa,∃p31:List Ag,∃p32:List Int,∃p33:Bool,S=⟨Jd [(7,iV p27)],Gl a0 [(512,At p28 p29 u_ p30 (Aq 1921) p31 u_ p32 p33)],[]⟩∧Gn a0 p27 p28 p29 p30 p31 p32 p33=some r) ?_ (fun J35=>?_)))))))
   ·rintro _ ⟨p27,p28,p29,p30,p31,p32,p33,rfl,h0⟩
    refine Ba 6 (Jd [(7,iV p27),(103,.bool (p27 != 0))]) (Gl a0 [(512,At p28 p29 u_ p30 (Aq 1921) p31 u_ p32 p33)]) (Cs h0 (fun c34 h0=>?_) (fun c34 h0=>?_))
    ·refine Bj 3 (Ar (st (c_ (v:=.agg [iV p27,iV 0]) (Bn ⟨tv,tv⟩ rfl ⟨⟨rfl,rfl,nl rfl⟩,tv⟩) (o_ ?_))))
     obtain rfl:=sj h0
     exact Cy 4
    ·obtain rfl:=sj h0
     exact Cy 9 [1921]
   ·refine Aw ?_
    refine Ba 3 (Jd [(3,.ptr 192 0),(6,.ptr 384 0),(7,iV 0),(32,iV a1.kind),(33,.bool (a1.kind==1))]) (Gl a0 [(192,Ao a1),(384,Bk a0.Ac),(512,Av r5 (Aq 1920) (Aq 1921) (Aq 1922))]) (Cs h0 (fun HH h0=>?_) (fun HH h0=>?_))
    ·refine Bj 3 (Ar (bb h0 fun r37 e38 h0=>st (Cq (r:=.tup [.agg (Bv r37.1),.agg (Ax r37.2)]) true (H132 a0 a1 r37 e38) ⟨tv,tv,tv⟩ rfl rfl (fun h=>nomatch h) (o_ ?_))))
     obtain rfl:=sj h0
     exact Cy 6
    ·refine Ba 4 (Jd [(3,.ptr 192 0),(6,.ptr 384 0),(7,iV 0),(32,iV a1.kind),(40,.bool (a1.kind==2))]) (Gl a0 [(192,Ao a1),(384,Bk a0.Ac),(512,Av r5 (Aq 1920) (Aq 1921) (Aq 1922))]) (Cs h0 (fun c39 h0=>?_) (fun c39 h0=>?_))
     ·refine Bj 7 (Ar (bb h0 fun r40 e41 h0=>st (Cq (r:=.tup [.agg (Bk r40.1),iV r40.2]) true (H79 a0.Ac a1.id a1.ttl r40 e41) ⟨tv,tv,tv,tv⟩ rfl rfl (fun h=>nomatch h) (o_ (Ba 6 (Jd [(6,.ptr 384 0),(7,iV r40.2)]) (Gl a0 [(384,Bk r40.1),(512,Av r5 (Aq 1920) (Aq 1921) (Aq 1922))]) (Bj 5 ?_))))))
      exact J35 _ _ (lU [1922] (by kernel_rfl)) ⟨_,_,_,_,_,_,_,rfl,h0⟩
     ·refine Ba 4 (Jd [(3,.ptr 192 0),(6,.ptr 384 0),(7,iV 0),(32,iV a1.kind),(54,.bool (a1.kind==3))]) (Gl a0 [(192,Ao a1),(384,Bk a0.Ac),(512,Av r5 (Aq 1920) (Aq 1921) (Aq 1922))]) (Cs h0 (fun c42 h0=>?_) (fun c42 h0=>?_))
      ·refine Bj 5 (Ar (bb h0 fun r43 e44 h0=>st (Cq (r:=.tup [.agg (Bk r43.1),iV r43.2]) true (H74 a0.Ac a1.id r43 e44) ⟨tv,tv,tv⟩ rfl rfl (fun h=>nomatch h) (o_ (Ba 6 (Jd [(6,.ptr 384 0),(7,iV r43.2)]) (Gl a0 [(384,Bk r43.1),(512,Av r5 (Aq 1920) (Aq 1921) (Aq 1922))]) (Bj 5 ?_))))))
       exact J35 _ _ (lU [1922] (by kernel_rfl)) ⟨_,_,_,_,_,_,_,rfl,h0⟩
      ·refine Ba 4 (Jd [(3,.ptr 192 0),(7,iV 0),(32,iV a1.kind),(66,.bool (a1.kind==4))]) (Gl a0 [(192,Ao a1),(512,Av r5 (Aq 1920) (Aq 1921) (Aq 1922))]) (Cs h0 (fun c45 h0=>?_) (fun c45 h0=>?_))
       ·refine Bj 5 (Ar (bb h0 fun r46 e47 h0=>Vp (H81 a0.Ac a1.clock r46 e47) (ar (Az rfl (af (af rfl)))) (o_ (Ba 13 (Jd [(3,.ptr 192 0),(7,iV 0),(79,.bool (a1.stop==1))]) (Gl a0 [(192,Ao a1),(512,At r46.1.clock r46.1.next (Aq 4672) r46.1.Af (Aq 1921) r5.Ad (Aq 1922) r5.Aj r5.Am)]) (Cs h0 (fun c48 h0=>?_) (fun c48 h0=>?_))))))
        ·refine Bj 2 (Ar (bb h0 fun r49 e50 h0=>Vp (H133 (Ap.mk r46.1 r5.Ad r5.Aj r5.Am) r49 e50) (ar (Az rfl (af (af (af (Az rfl rfl)))))) (st (c_ (v:=.agg [iV 15,iV 0]) (Bn ⟨tv,tv⟩ rfl ⟨⟨rfl,rfl,nl rfl⟩,tv⟩) (o_ ?_)))))
         obtain rfl:=sj h0
         exact Cy 4 [5184,5185,5186]
        ·refine Ba 7 (Jd [(3,.ptr 192 0),(7,iV 0),(9,.ptr 576 0)]) (Gl a0 [(192,Ao a1),(512,At r46.1.clock r46.1.next (Aq 4672) r46.1.Af (Aq 1921) r5.Ad (Aq 1922) r5.Aj r5.Am),(576,At r46.1.clock r46.1.next (Aq 4672) r46.1.Af (Aq 1921) r5.Ad (Aq 1922) r5.Aj r5.Am)]) (Bj 3 (Ar (bb h0 fun r51 e52 h0=>st (Cq (r:=.agg (Av r51 u_ (Aq 0) u_)) true (H134 (Ap.mk r46.1 r5.Ad r5.Aj r5.Am) a1 r51 e52) ⟨tv,tv,tv⟩ rfl rfl (fun h=>nomatch h) (o_ (gK_ 12 (Jd [(7,iV 0),(93,.bool (bif r51.Am then (!r5.Am) else false))]) (Gl a0 [(512,Av r51 u_ (Aq 5504) u_)]) (Cs h0 (fun c53 h0=>?_) (fun c53 h0=>?_))))))))
         ·refine Bj 2 (Ar (st (c_ (v:=.agg [iV 15,iV 0]) (Bn ⟨tv,tv⟩ rfl ⟨⟨rfl,rfl,nl rfl⟩,tv⟩) (o_ ?_))))
          obtain rfl:=sj h0
          exact Cy 4 [5504]
         ·refine Hb (Qq ?_)
          exact J35 _ _ (Zw [] [(5504,1921)] rfl (by kernel_rfl)) ⟨_,_,_,_,_,_,_,rfl,h0⟩
       ·refine Ba 4 (Jd [(7,iV 0),(32,iV a1.kind),(96,.bool (a1.kind==5))]) (Gl a0 [(512,Av r5 (Aq 1920) (Aq 1921) (Aq 1922))]) (Cs h0 (fun c54 h0=>?_) (fun c54 h0=>?_))
        ·refine Bj 4 ?_
         exact J35 _ _ (lU [1920,1922] (by kernel_rfl)) ⟨_,_,_,_,_,_,_,rfl,h0⟩
        ·refine Ba 4 (Jd [(7,iV 0),(99,.bool (a1.kind==6))]) (Gl a0 [(512,Av r5 (Aq 1920) (Aq 1921) (Aq 1922))]) (Cs h0 (fun c55 h0=>?_) (fun c55 h0=>?_))
         ·refine Bj 4 ?_
          exact J35 _ _ (lU [1920,1922] (by kernel_rfl)) ⟨_,_,_,_,_,_,_,rfl,h0⟩
         ·refine Hb (Qq ?_)
          exact J35 _ _ (lU [1920,1922] (by kernel_rfl)) ⟨_,_,_,_,_,_,_,rfl,h0⟩

/- loop.example/g00149/spec.RunVault -/
def c50_r0:List Cf:=[a_ 2 (zV 131 132 133),⟨some 3,.nilS 2,none⟩,i_ 4 0]
def c50_r1:=[m_ 10 0,n_ 11 10,B_ .gtr 12 11 4096]
def c50_r2:List Cf:=[iQ 13 (.build (zV 835 836 837) []),⟨some 14,.mkS 2 [iV 0,iV 0] 0 [],none⟩,s_ 2 13 6,m_ 3 14,i_ 4 2]
def c50_r3:=[m_ 15 0,n_ 16 15,B_ .gtr 17 16 120]
def c50_r4:List Cf:=[iQ 18 (.build (zV 1155 1156 1157) []),⟨some 19,.mkS 2 [iV 0,iV 0] 0 [],none⟩,s_ 2 18 6,m_ 3 19,i_ 4 6]
def c50_r5:List Cf:=[⟨some 20,.p (.build (zT 1283) [(1,1,.c (iV 1))]),none⟩,⟨some 21,.p (.build (zV 1347 1348 1349) [(0,3,.t 20)]),none⟩,a_ 5 (zV 323 324 325),s_ 5 21 6]
def c50_r6:List Cf:=[⟨some 22,.mkS 2 [iV 0,iV 0] 0 [],none⟩,m_ 6 22]
def c50_r7:=[i_ 7 0]
def c50_r8:=[m_ 23 7,m_ 24 0,n_ 25 24,b_ .lss 26 23 25]
def c50_r9:=[m_ 29 0,m_ 30 7,x_ 31 29 30 7,L_ 32 31 7,q_ 33 100 [.t 32],N_ 34 33]
def Adi:List Cf:=[iQ 35 (.build (zV 2243 2244 2245) []),⟨some 36,.mkS 2 [iV 0,iV 0] 0 [],none⟩,s_ 2 35 6,m_ 3 36,i_ 4 1]
def Zl:DP:=.alt [e_ 45 37 1] (s_ 8 44 6) (.alt [] (s_ 9 45 2) .fin .stop) .stop
def iM:DP:=.alt [] (q_ 43 101 [.t 38,.t 42]) (tk [m_ 37 43,e_ 44 37 0,e_ 45 37 1] Zl) .stop
def iN:DP:=.alt [e_ 45 37 1,e_ 44 37 0,m_ 37 43] (a_ 9 [iV 0,iV 0]) Zl .stop
def iO:DP:=.alt [e_ 45 37 1,e_ 44 37 0,m_ 37 43] (a_ 8 (zV 515 516 517)) Zl .stop
def Adj:=tk [L_ 38 5 6,m_ 39 0,m_ 40 7,x_ 41 39 40 7,L_ 42 41 7] (.alt [] (q_ 43 101 [.t 38,.t 42]) (tk [m_ 37 43,e_ 44 37 0,e_ 45 37 1] (.alt [e_ 45 37 1,e_ 44 37 0,m_ 37 43] (a_ 8 (zV 515 516 517)) iN (.alt [e_ 45 37 1,e_ 44 37 0,m_ 37 43] (a_ 9 [iV 0,iV 0]) iO .stop))) (.alt [L_ 42 41 7,x_ 41 39 40 7,m_ 40 7,m_ 39 0,L_ 38 5 6] (a_ 8 (zV 515 516 517)) (.alt [] (q_ 43 101 [.t 38,.t 42]) (tk [m_ 37 43,e_ 44 37 0,e_ 45 37 1] iN) (.alt [L_ 42 41 7,x_ 41 39 40 7,m_ 40 7,m_ 39 0,L_ 38 5 6] (a_ 9 [iV 0,iV 0]) iM .stop)) (.alt [L_ 42 41 7,x_ 41 39 40 7,m_ 40 7,m_ 39 0,L_ 38 5 6] (a_ 9 [iV 0,iV 0]) (.alt [] (q_ 43 101 [.t 38,.t 42]) (tk [m_ 37 43,e_ 44 37 0,e_ 45 37 1] iO) (.alt [L_ 42 41 7,x_ 41 39 40 7,m_ 40 7,m_ 39 0,L_ 38 5 6] (a_ 8 (zV 515 516 517)) iM .stop)) .stop)))
def Adk:=[L_ 46 8 6,s_ 5 46 6]
def Adl:List Cf:=[m_ 47 6,L_ 48 9 2,⟨some 49,.mkS 2 [iV 0,iV 0] 1 [(0,.t 48)],none⟩,⟨some 50,.app 2 16 (.t 47) (.t 49),none⟩,m_ 6 50]
def Adm:=[m_ 27 7,B_ .add 28 27 1,m_ 7 28]
def c50_l0:IR:=(.seq (sr c50_r8 (.ite (.t 26) .skip (.exit 0))) (.seq (.block 1 (.seq (sr c50_r9 (iz 34 (rr Adi))) (sd Adj (sr Adk (.reg Adl))))) (.reg Adm)))
def Adn:=[L_ 51 5 6,q_ 52 102 [.t 51],m_ 53 6,s_ 2 52 6,m_ 3 53,i_ 4 0]
def HI:Dv:=⟨1,54,[.cell 2 6 true,.t 3,.t 4],sr c50_r0 (.seq (sr c50_r1 (iz 12 (rr c50_r2))) (.seq (sr c50_r3 (iz 17 (rr c50_r4))) (sr c50_r5 (sr c50_r6 (.seq (sr c50_r7 (Im 0 c50_l0)) (rr Adn))))))⟩
def K50 (D:Bl):Prop:=∀a0 r,g50 a0=some r→D 50 ⟨[An a0],[]⟩ ⟨.tup [.agg (Av r.1 (Aq 0) (Aq 1) (Aq 2)),Ah 3 r.2.1,iV r.2.2],[],[]⟩
abbrev Om:=fun (r:List (Nat×List V))=>(128,At 0 0 (Aq 131) [] (Aq 132) [] (Aq 133) [] false)::r
abbrev Xi:=fun x0 (r:List (Nat×V))=>(0,An x0)::(2,.ptr 128 0)::(5,.ptr 320 0)::r
theorem F50 (H100:K100 C) (H101:K101 C) (H102:lA C):K50 (FO C HI):=by
 intro a0 r h0
 refine f0 (Ba 5 [(0,An a0),(2,.ptr 128 0)] (Om []) (Aw (Aw (Ar (st (Bm rfl tv (Nh rfl (o_ (Ba 2 [(0,An a0),(2,.ptr 128 0),(12,.bool (decide ((a0.length:Int)>4096)))] (Om []) (Cs h0 (fun c1 h0=>?_) (fun c1 h0=>?_)))))))))))
 ·obtain rfl:=sj h0
  exact Cy 8
 ·refine Hb (cK (Aw (Aw (Ar (st (Bm rfl tv (Nh rfl (o_ (Ba 2 [(0,An a0),(2,.ptr 128 0),(17,.bool (decide ((a0.length:Int)>120)))] (Om []) (Cs h0 (fun c2 h0=>?_) (fun c2 h0=>?_)))))))))))
  ·obtain rfl:=sj h0
   exact Cy 8
  ·refine Ot 3 (Ar (st (c_ (v:=.agg (Bt 0 1 (Aq 1283) [])) (Bn ⟨tv,tv⟩ rfl ⟨⟨rfl,rfl,nl rfl⟩,tv⟩) (st (c_ (v:=.agg (At 0 1 (Aq 1283) [] (Aq 1348) [] (Aq 1349) [] false)) (Bn ⟨tv,tv⟩ rfl ⟨⟨rfl,rfl,nl rfl⟩,tv⟩) (o_ (Ba 13 (Xi a0 [(6,Ah 1408 []),(7,iV 0)]) (Om [(320,At 0 1 (Aq 1283) [] (Aq 1348) [] (Aq 1349) [] false)]) (Bu (bb h0 fun r62 e63 h0=>Cv (R:=(fun S=>∃p43:List Ak,∃p44:Int,∃p45:Int,∃p46:List Aa,∃p47:List Ag,∃p48:List Int,∃p49:Bool,.inl (p43,p44,p45,p46,p47,p48,p49)=r62∧S=⟨[(2,.ptr 128 0),(5,.ptr 320 0),(6,Ah 1408 p43)],Om [(320,At p44 p45 u_ p46 u_ p47 u_ p48 p49)],[]⟩)) (Pr a0) (fun s S=>match s with | (p15,p16,p17,p18,p19,p20,p21,p22)=>S=⟨Xi a0 [(6,Ah 1408 p15),(7,iV p16)],Om [(320,At p17 p18 u_ p19 u_ p20 u_ p21 p22)],[]⟩) e63 ⟨Xi a0 [(6,Ah 1408 []),(7,iV 0)],Om [(320,At 0 1 u_ [] u_ [] u_ [] false)],[]⟩ (lU [1283,1348,1349] (by kernel_rfl)) rfl 0 (fun _=>rfl) ?_ ?_)))))))))
   ·rintro S _ hfg ⟨p43,p44,p45,p46,p47,p48,p49,rfl,rfl⟩
    refine Cb _ hfg (Aw (Ar (st (c_ (v:=.agg (At p44 p45 u_ p46 u_ p47 u_ p48 p49)) (Bn ⟨tv,tv⟩ rfl (nl rfl)) (bb h0 fun r64 e65 h0=>st (Cq (r:=.agg (Av r64 (Aq 0) (Aq 1) (Aq 2))) false (H102 (Ap.mk (As.mk p44 p45 p46) p47 p48 p49) r64 e65) ⟨tv,tv⟩ rfl rfl (fun _=>(ar (Az rfl (af (af (af (Az rfl rfl))))))) (o_ ?_)))))))
    obtain rfl:=sj h0
    exact Cy 6
   ·rintro ⟨p15,p16,p17,p18,p19,p20,p21,p22⟩ o1 _ K1 rfl h1 hx1 hK1 hE1 hR1
    refine Aw (Aw (Ar (st (Bm rfl tv (st (Bm rfl tv (Nh rfl (o_ (Ba 2 (Xi a0 [(6,Ah 1408 p15),(7,iV p16),(26,.bool (decide (p16<(a0.length:Int))))]) (Om [(320,At p17 p18 u_ p19 u_ p20 u_ p21 p22)]) (Cs h1 (fun HI h1=>?_) (fun HI h1=>?_)))))))))))
    ·refine Hb (cK (Aw (Bu (Aw (Aw (Ar (st (Bm rfl tv (st (Bm rfl tv (bb h1 fun y51 e52 h1=>Ti rfl rfl e52 (st (c_ (v:=.agg (Ao y51)) (Bn ⟨tv,tv⟩ rfl (nl rfl)) (bb h1 fun r53 e54 h1=>st (Cq (r:=.bool r53) false (H100 y51 r53 e54) ⟨tv,tv⟩ rfl rfl (fun _=>rfl) (o_ (Ba 2 (Xi a0 [(6,Ah 1408 p15),(7,iV p16),(34,.bool (!r53))]) (Om [(320,At p17 p18 u_ p19 u_ p20 u_ p21 p22)]) (Cs h1 (fun c55 h1=>?_) (fun c55 h1=>?_)))))))))))))))))))
     ·obtain rfl:=sj h1
      obtain rfl:=hx1 _ rfl
      obtain rfl:=sj h0
      exact cR 8 hR1
     ·refine Ot 3 (bb h1 fun y56 e57 h1=>bb h1 fun r58 e59 h1=>drawJ (fun S=>S=⟨Xi a0 [(6,Ah 1408 p15),(7,iV p16),(8,.ptr 512 0),(9,.ptr 576 0)],Om [(320,At p17 p18 u_ p19 u_ p20 u_ p21 p22),(512,Bv r58.1),(576,Ax r58.2)],[]⟩) ?_ (fun J60=>?_))
      ·rintro _ rfl
       refine Ba 4 (Xi a0 [(6,Ah 1408 p15),(7,iV p16),(9,.ptr 576 0)]) (Om [(320,Bv r58.1),(576,Ax r58.2)]) (Ar (st (Bm rfl tv (st (c_ (v:=.agg (Ax r58.2)) (Bn ⟨tv,tv⟩ rfl (nl rfl)) (st (gH ⟨tv,tv⟩ ⟨⟨nl rfl,rfl,rfl⟩,tv⟩ (gg h1 fun c61 h1=>st (Lb (e:=Ax) (l0:=p15) (l1:=([r58.2]:List Ak)) rfl rfl tv rfl (by decide) c61 (o_ (Ba 3 (Xi a0 [(6,Ah 1408 (p15++([r58.2]:List Ak))),(7,iV p16)]) (Om [(320,Bv r58.1)]) (Ar (st (Bm rfl tv (st (c_ (Bn t3 rfl tv) (st (Bm rfl tv (Cz ?_)))))))))))))))))))
       obtain rfl:=sj h1
       exact kn hK1 rfl rfl
      ·refine Al tv (c_ (v:=.agg (At p17 p18 u_ p19 u_ p20 u_ p21 p22)) (Bn ⟨tv,tv⟩ rfl (nl rfl)) ?_)
       refine ⟨tv,Al tv (Bm rfl tv (⟨tv,Al tv (Bm rfl tv (⟨tv,d_ (tH rfl rfl rfl e57 (Bq (Al tv (c_ (v:=.agg (Ao y56)) (Bn ⟨tv,tv⟩ rfl (nl rfl)) (⟨tv,Ck (Cq (r:=.tup [.agg (Bv r58.1),.agg (Ax r58.2)]) true (H101 (Ap.mk (As.mk p17 p18 p19) p20 p21 p22) y56 r58 e59) ⟨tv,tv,tv⟩ rfl rfl (fun h=>nomatch h) ?_) ?_⟩)))))⟩))⟩))⟩
       ·refine dw [(0,An a0),(2,.ptr 128 0),(5,.ptr 320 0),(6,Ah 1408 p15),(7,iV p16),(43,.tup [.agg (Bv r58.1),.agg (Ax r58.2)])] [(128,At 0 0 (Aq 131) [] (Aq 132) [] (Aq 133) [] false),(320,At p17 p18 u_ p19 u_ p20 u_ p21 p22)] tv ?_
        refine Al tv (Bm rfl tv (⟨tv,Al tv (c_ (Bn ⟨tv,tv⟩ rfl tv) (⟨tv,Al tv (c_ (Bn ⟨tv,tv⟩ rfl tv) (⟨tv,Ck (Hp ?_) ?_⟩))⟩))⟩))
        ·refine d0 hB ?_
         refine Ck (Hp (d0 hB (Ck (Gm rfl rfl tv rfl rfl rfl (nl rfl) (d0 hB (Ck (Gm rfl rfl tv rfl rfl rfl (nl rfl) (d0 tv (Gf ?_))) Bg))) Bg))) Bg
         exact jn J60 rfl
        ·refine Ck (Hp ?_) Bg
         refine d0 hB (Ck (Hp (d0 hB (Ck (Gm rfl rfl tv rfl rfl rfl (nl rfl) (d0 hB (Ck (Gm rfl rfl tv rfl rfl rfl (nl rfl) (d0 tv (Gf ?_))) Bg))) Bg))) Bg)
         exact jn J60 rfl
       ·refine Ck (Hp ?_) ?_
        ·refine d0 ⟨⟨.inl tv,Bf (Bn ⟨tv,tv⟩ rfl (nl rfl)) rfl⟩,⟨.inl tv,Bf (cj_ rfl rfl e57) rfl⟩,⟨.inl tv,Bf (Eb (v:=iV p16) rfl tv) rfl⟩,⟨.inl tv,Bf (Eb (v:=An a0) rfl tv) rfl⟩,⟨.inl tv,Bf (Bn ⟨tv,tv⟩ rfl (nl rfl)) rfl⟩,tv⟩ ?_
         refine Ck (Cq (r:=.tup [.agg (Bv r58.1),.agg (Ax r58.2)]) true (H101 (Ap.mk (As.mk p17 p18 p19) p20 p21 p22) y56 r58 e59) ⟨tv,tv,tv⟩ rfl rfl (fun h=>nomatch h) ?_) ?_
         ·refine dw [(0,An a0),(2,.ptr 128 0),(5,.ptr 320 0),(6,Ah 1408 p15),(7,iV p16),(8,.ptr 512 0),(43,.tup [.agg (Bv r58.1),.agg (Ax r58.2)])] [(128,At 0 0 (Aq 131) [] (Aq 132) [] (Aq 133) [] false),(320,At p17 p18 u_ p19 u_ p20 u_ p21 p22),(512,At 0 0 (Aq 515) [] (Aq 516) [] (Aq 517) [] false)] tv ?_
          refine Al tv (Bm rfl tv (⟨tv,Al tv (c_ (Bn ⟨tv,tv⟩ rfl tv) (⟨tv,Al tv (c_ (Bn ⟨tv,tv⟩ rfl tv) (⟨tv,Ck (Hp (d0 hB (Ck (Gm rfl rfl tv rfl rfl rfl (nl rfl) (d0 hB (Ck (Gm rfl rfl tv rfl rfl rfl (nl rfl) (d0 tv (Gf ?_))) Bg))) Bg))) Bg⟩))⟩))⟩))
          exact jn J60 rfl
         ·refine Ck (Hp ?_) Bg
          refine d0 ⟨⟨.inl tv,Bf (Bn ⟨tv,tv⟩ rfl (nl rfl)) rfl⟩,⟨.inl tv,Bf (cj_ rfl rfl e57) rfl⟩,⟨.inl tv,Bf (Eb (v:=iV p16) rfl tv) rfl⟩,⟨.inl tv,Bf (Eb (v:=An a0) rfl tv) rfl⟩,⟨.inl tv,Bf (Bn ⟨tv,tv⟩ rfl (nl rfl)) rfl⟩,tv⟩ (Ck (Cq (r:=.tup [.agg (Bv r58.1),.agg (Ax r58.2)]) true (H101 (Ap.mk (As.mk p17 p18 p19) p20 p21 p22) y56 r58 e59) ⟨tv,tv,tv⟩ rfl rfl (fun h=>nomatch h) (dw [(0,An a0),(2,.ptr 128 0),(5,.ptr 320 0),(6,Ah 1408 p15),(7,iV p16),(8,.ptr 512 0),(9,.ptr 576 0),(43,.tup [.agg (Bv r58.1),.agg (Ax r58.2)])] [(128,At 0 0 (Aq 131) [] (Aq 132) [] (Aq 133) [] false),(320,At p17 p18 u_ p19 u_ p20 u_ p21 p22),(512,At 0 0 (Aq 515) [] (Aq 516) [] (Aq 517) [] false),(576,[iV 0,iV 0])] tv (Al tv (Bm rfl tv (⟨tv,Al tv (c_ (Bn ⟨tv,tv⟩ rfl tv) (⟨tv,Al tv (c_ (Bn ⟨tv,tv⟩ rfl tv) (⟨tv,Ck (Gm rfl rfl tv rfl rfl rfl (nl rfl) (d0 hB (Ck (Gm rfl rfl tv rfl rfl rfl (nl rfl) (d0 tv (Gf ?_))) Bg))) Bg⟩))⟩))⟩))))) Bg)
          exact jn J60 rfl
        ·refine Ck (Hp ?_) Bg
         refine d0 ⟨⟨.inl tv,Bf (Bn ⟨tv,tv⟩ rfl (nl rfl)) rfl⟩,⟨.inl tv,Bf (cj_ rfl rfl e57) rfl⟩,⟨.inl tv,Bf (Eb (v:=iV p16) rfl tv) rfl⟩,⟨.inl tv,Bf (Eb (v:=An a0) rfl tv) rfl⟩,⟨.inl tv,Bf (Bn ⟨tv,tv⟩ rfl (nl rfl)) rfl⟩,tv⟩ (Ck (Cq (r:=.tup [.agg (Bv r58.1),.agg (Ax r58.2)]) true (H101 (Ap.mk (As.mk p17 p18 p19) p20 p21 p22) y56 r58 e59) ⟨tv,tv,tv⟩ rfl rfl (fun h=>nomatch h) ?_) ?_)
         ·refine dw [(0,An a0),(2,.ptr 128 0),(5,.ptr 320 0),(6,Ah 1408 p15),(7,iV p16),(9,.ptr 576 0),(43,.tup [.agg (Bv r58.1),.agg (Ax r58.2)])] [(128,At 0 0 (Aq 131) [] (Aq 132) [] (Aq 133) [] false),(320,At p17 p18 u_ p19 u_ p20 u_ p21 p22),(576,[iV 0,iV 0])] tv ?_
          refine Al tv (Bm rfl tv (⟨tv,Al tv (c_ (Bn ⟨tv,tv⟩ rfl tv) (⟨tv,Al tv (c_ (Bn ⟨tv,tv⟩ rfl tv) (⟨tv,Ck (Hp (d0 hB (Ck (Gm rfl rfl tv rfl rfl rfl (nl rfl) (d0 hB (Ck (Gm rfl rfl tv rfl rfl rfl (nl rfl) (d0 tv (Gf ?_))) Bg))) Bg))) Bg⟩))⟩))⟩))
          exact jn J60 rfl
         ·refine Ck (Hp ?_) Bg
          refine d0 ⟨⟨.inl tv,Bf (Bn ⟨tv,tv⟩ rfl (nl rfl)) rfl⟩,⟨.inl tv,Bf (cj_ rfl rfl e57) rfl⟩,⟨.inl tv,Bf (Eb (v:=iV p16) rfl tv) rfl⟩,⟨.inl tv,Bf (Eb (v:=An a0) rfl tv) rfl⟩,⟨.inl tv,Bf (Bn ⟨tv,tv⟩ rfl (nl rfl)) rfl⟩,tv⟩ (Ck (Cq (r:=.tup [.agg (Bv r58.1),.agg (Ax r58.2)]) true (H101 (Ap.mk (As.mk p17 p18 p19) p20 p21 p22) y56 r58 e59) ⟨tv,tv,tv⟩ rfl rfl (fun h=>nomatch h) (dw [(0,An a0),(2,.ptr 128 0),(5,.ptr 320 0),(6,Ah 1408 p15),(7,iV p16),(8,.ptr 512 0),(9,.ptr 576 0),(43,.tup [.agg (Bv r58.1),.agg (Ax r58.2)])] [(128,At 0 0 (Aq 131) [] (Aq 132) [] (Aq 133) [] false),(320,At p17 p18 u_ p19 u_ p20 u_ p21 p22),(512,At 0 0 (Aq 515) [] (Aq 516) [] (Aq 517) [] false),(576,[iV 0,iV 0])] tv (Al tv (Bm rfl tv (⟨tv,Al tv (c_ (Bn ⟨tv,tv⟩ rfl tv) (⟨tv,Al tv (c_ (Bn ⟨tv,tv⟩ rfl tv) (⟨tv,Ck (Gm rfl rfl tv rfl rfl rfl (nl rfl) (d0 hB (Ck (Gm rfl rfl tv rfl rfl rfl (nl rfl) (d0 tv (Gf ?_))) Bg))) Bg⟩))⟩))⟩))))) Bg)
          exact jn J60 rfl
    ·obtain rfl:=sj h1
     obtain rfl:=hx1 _ rfl
     refine In rfl ?_
     exact jn hE1 ⟨_,_,_,_,_,_,_,rfl,rfl⟩

/- loop.example/g00149/laws.markLeaseS -/
def c72_r0:=[i_ 4 0]
def c72_r1:=[i_ 5 0]
def c72_r2:=[m_ 6 5,m_ 7 0,n_ 8 7,b_ .lss 9 6 8]
def c72_r3:=[m_ 12 0,m_ 13 5,m_ 14 1,x_ 15 12 13 4,f_ 16 15 0,s_ 16 14 1]
def c72_r4:=[m_ 17 1,B_ .add 18 17 1,m_ 1 18]
def c72_r5:=[m_ 19 0,m_ 20 5,m_ 21 1,x_ 22 19 20 4,f_ 23 22 1,s_ 23 21 1]
def c72_r6:=[m_ 24 1,B_ .add 25 24 1,m_ 1 25]
def c72_r7:=[m_ 26 0,m_ 27 5,m_ 28 1,x_ 29 26 27 4,f_ 30 29 2,s_ 30 28 1]
def c72_r8:=[m_ 31 1,B_ .add 32 31 1,m_ 1 32]
def c72_r9:=[m_ 33 0,m_ 34 5,m_ 35 1,B_ .rem 36 35 3,B_ .eql 37 36 0,x_ 38 33 34 4,f_ 39 38 3,s_ 39 37 1]
def Adq:=[m_ 40 1,B_ .add 41 40 1,m_ 1 41]
def Adr:=[m_ 10 5,B_ .add 11 10 1,m_ 5 11]
def c72_l0:IR:=(.seq (sr c72_r2 (.ite (.t 9) .skip (.exit 0))) (.seq (.block 1 (sr c72_r3 (sr c72_r4 (sr c72_r5 (sr c72_r6 (sr c72_r7 (sr c72_r8 (sr c72_r9 (.reg Adq))))))))) (.reg Adr)))
def Ads:=[m_ 42 1,m_ 4 42]
def c72:Dv:=⟨2,43,[.t 4],sr c72_r0 (.seq (sr c72_r1 (Im 0 c72_l0)) (rr Ads))⟩
def K72 (D:Bl):Prop:=∀a0 a1 r,g72 a0 a1=some r→D 72 ⟨[Ae 2097152 a0,iV a1],[]⟩ ⟨iV r.1,[],[(0,4,r.2.map Ab)]⟩
theorem F72:K72 (FO C c72):=by
 intro a0 a1 r h0
 refine f0 (Ba 8 [(0,Ae 2097152 a0),(1,iV a1),(5,iV 0)] [] (Bu (bb h0 fun r84 e85 h0=>Cv (R:=(fun S=>∃p57:List Aa,∃p58:Int,(p57,p58)=r84∧S=⟨[(0,Ae 2097152 p57),(1,iV p58)],[],[]⟩)) (We) (fun s S=>match s with | (p26,p27,p28)=>S=⟨[(0,Ae 2097152 p26),(1,iV p27),(5,iV p28)],[],[]⟩) e85 _ (Cj (by kernel_rfl)) rfl 0 (fun _=>rfl) ?_ ?_)))
 ·rintro S _ hfg ⟨p57,p58,rfl,rfl⟩
  refine Cb _ hfg (Ba 4 [(0,Ae 2097152 p57),(4,iV p58)] [] ?_)
  obtain rfl:=sj h0
  exact Hj (Dk rfl rfl rfl rfl rfl ⟨⟨rfl,Jc (fun _=>rfl)⟩,tv⟩)
 ·rintro ⟨p26,p27,p28⟩ o1 _ K1 rfl h1 hx1 hK1 hE1 hR1
  refine Bj 4 (Ar (bJ rfl (o_ (Ba 2 [(0,Ae 2097152 p26),(1,iV p27),(5,iV p28),(9,.bool (decide (p28<(p26.length:Int))))] [] (Cs h1 (fun c59 h1=>?_) (fun c59 h1=>?_))))))
  ·refine Bj 8 (Ar (bb h1 fun y60 e61 h1=>Zb rfl rfl e61 (st (c_ (Bn ⟨tv,tv⟩ rfl tv) (bb h1 fun y62 e63 h1=>kG (Aa.mk p27 y62.Bp y62.cap y62.Cl) rfl rfl e63 (o_ (Ba 7 [(0,Ae 2097152 (p26.set p28.toNat (Aa.mk p27 y62.Bp y62.cap y62.Cl))),(1,iV (wi (p27+1))),(5,iV p28)] [] (Bj 4 (Ar (bb h1 fun y64 e65 h1=>Zb rfl rfl e65 (st (c_ (Bn ⟨tv,tv⟩ rfl tv) (bb h1 fun y66 e67 h1=>kG (Aa.mk y66.id (wi (p27+1)) y66.cap y66.Cl) rfl rfl e67 (o_ (Ba 1 [(0,Ae 2097152 ((p26.set p28.toNat (Aa.mk p27 y62.Bp y62.cap y62.Cl)).set p28.toNat (Aa.mk y66.id (wi (p27+1)) y66.cap y66.Cl))),(1,iV (wi (p27+1))),(5,iV p28)] [] (Bj 5 (bv h1 fun v68 e69 h1=>Cb ⟨[(0,Ae 2097152 v68),(1,iV (wi ((wi (p27+1))+1))),(5,iV p28)],[],[]⟩ (Cj (by subst e69; kernel_rfl)) (Bj 4 (Ar (bb h1 fun y70 e71 h1=>Zb rfl rfl e71 (st (c_ (Bn ⟨tv,tv⟩ rfl tv) (bb h1 fun y72 e73 h1=>kG (Aa.mk y72.id y72.Bp (wi ((wi (p27+1))+1)) y72.Cl) rfl rfl e73 (o_ (Ba 1 [(0,.own 2097152 0 4 ((v68.set p28.toNat (Aa.mk y72.id y72.Bp (wi ((wi (p27+1))+1)) y72.Cl)).map Ab)),(1,iV (wi ((wi (p27+1))+1))),(5,iV p28)] [] (Bj 5 (bv h1 fun v74 e75 h1=>bv h1 fun v76 e77 h1=>Cb ⟨[(0,Ae 2097152 v74),(1,iV v76),(5,iV p28)],[],[]⟩ (Cj (by subst e75 e77; kernel_rfl)) (Bj 4 (Ar (st (c_ (Bn ⟨tv,tv,tv⟩ rfl (by decide)) (st (c_ (Bn t3 rfl tv) (bb h1 fun y78 e79 h1=>Zb rfl rfl e79 (st (c_ (Bn ⟨tv,tv⟩ rfl tv) (bb h1 fun y80 e81 h1=>kG (Aa.mk y80.id y80.Bp y80.cap (((v76).tmod 3)==0)) rfl rfl e81 (o_ (Ba 1 [(0,.own 2097152 0 4 ((v74.set p28.toNat (Aa.mk y80.id y80.Bp y80.cap (((v76).tmod 3)==0))).map Ab)),(1,iV v76),(5,iV p28)] [] (Bj 5 (bv h1 fun v82 e83 h1=>Cb ⟨[(0,Ae 2097152 v82),(1,iV (wi (v76+1))),(5,iV p28)],[],[]⟩ (Cj (by subst e83; kernel_rfl)) (Bj 4 ?_))))))))))))))))))))))))))))))))))))))))))
   obtain rfl:=sj h1
   exact kn hK1 rfl rfl
  ·obtain rfl:=sj h1
   obtain rfl:=hx1 _ rfl
   refine In rfl ?_
   exact jn hE1 ⟨_,_,rfl,rfl⟩

/- loop.example/g00149/laws.markTable -/
def c26_r0:=[X_ 2 0,i_ 4 0]
def c26_r1:=[f_ 5 2 2,l_ 6 5 1,m_ 7 1,q_ 8 72 [.t 6,.t 7],m_ 1 8]
def c26_r2:=[m_ 9 1,m_ 4 9]
def qS:Dv:=⟨2,10,[.t 4],sr c26_r0 (sr c26_r1 (rr c26_r2))⟩
def K26 (D:Bl):Prop:=∀a0 a1 r,g26 a0 a1=some r→D 26 ⟨[.agg (Cp a0 (Aq 2097152)),iV a1],[]⟩ ⟨iV r.1,[],[(0,4,r.2.map Ab)]⟩
theorem F26 (H72:K72 C):K26 (FO C qS):=by
 intro a0 a1 r h0
 refine f0 (Ba 4 [(0,.agg (Cp a0 (Aq 2097152))),(1,iV a1),(2,.ptr 128 0)] [(128,Cp a0 (Aq 2097152))] (Bj 4 (Ar (bb h0 fun r1 e2 h0=>gg h0 fun c3 h0=>dG [] [2097152] [] (H72 a0.Af a1 r1 e2) (ar (Az (cH (fun _=>rfl)) rfl)) (sw ⟨[(0,.agg (Bt a0.clock a0.next (Aq 2097152) r1.2)),(8,iV r1.1)],[],[]⟩ (fg ⟨congrArg (fun z=>some ((.agg [iV a0.clock,iV a0.next,z]:V))) (Fa c3),rfl,tv⟩ tv) (Bm rfl tv (o_ (Ba 6 [(0,.agg (Bt a0.clock a0.next (Aq 2097152) r1.2)),(4,iV r1.1)] [] ?_))))))))
 obtain rfl:=sj h0
 exact Hj (Dk rfl rfl rfl rfl rfl ⟨⟨rfl,Jc (fun _=>rfl)⟩,tv⟩)

/- loop.example/g00149/laws.markIntS -/
def c37_r0:=[i_ 4 0]
def c37_r1:=[i_ 5 0]
def c37_r2:=[m_ 6 5,m_ 7 0,n_ 8 7,b_ .lss 9 6 8]
def c37_r3:=[m_ 12 0,m_ 13 5,m_ 14 1,x_ 15 12 13 1,s_ 15 14 1]
def c37_r4:=[m_ 16 1,B_ .add 17 16 1,m_ 1 17]
def c37_r5:=[m_ 10 5,B_ .add 11 10 1,m_ 5 11]
def c37_l0:IR:=(.seq (sr c37_r2 (.ite (.t 9) .skip (.exit 0))) (.seq (.block 1 (sr c37_r3 (.reg c37_r4))) (.reg c37_r5)))
def c37_r6:=[m_ 18 1,m_ 4 18]
def c37:Dv:=⟨2,19,[.t 4],sr c37_r0 (.seq (sr c37_r1 (Im 0 c37_l0)) (rr c37_r6))⟩
def K37 (D:Bl):Prop:=∀a0 a1 r,g37 a0 a1=some r→D 37 ⟨[oI 2097152 a0,iV a1],[]⟩ ⟨iV r.1,[],[(0,1,r.2.map eI)]⟩
theorem F37:K37 (FO C c37):=by
 intro a0 a1 r h0
 refine f0 (Ba 8 [(0,oI 2097152 a0),(1,iV a1),(5,iV 0)] [] (Bu (bb h0 fun r24 e25 h0=>Cv (R:=(fun S=>∃p17:List Int,∃p18:Int,(p17,p18)=r24∧S=⟨[(0,oI 2097152 p17),(1,iV p18)],[],[]⟩)) (Pq) (fun s S=>match s with | (p6,p7,p8)=>S=⟨[(0,oI 2097152 p6),(1,iV p7),(5,iV p8)],[],[]⟩) e25 _ (Cj (by kernel_rfl)) rfl 0 (fun _=>rfl) ?_ ?_)))
 ·rintro S _ hfg ⟨p17,p18,rfl,rfl⟩
  refine Cb _ hfg (Ba 4 [(0,oI 2097152 p17),(4,iV p18)] [] ?_)
  obtain rfl:=sj h0
  exact Hj (Dk rfl rfl rfl rfl rfl ⟨⟨rfl,Jc (fun _=>rfl)⟩,tv⟩)
 ·rintro ⟨p6,p7,p8⟩ o1 _ K1 rfl h1 hx1 hK1 hE1 hR1
  refine Bj 4 (Ar (bJ rfl (o_ (Ba 2 [(0,oI 2097152 p6),(1,iV p7),(5,iV p8),(9,.bool (decide (p8<(p6.length:Int))))] [] (Cs h1 (fun c19 h1=>?_) (fun c19 h1=>?_))))))
  ·refine Bj 8 (Ar (bb h1 fun y20 e21 h1=>Zb rfl rfl e21 (bb h1 fun y22 e23 h1=>kG p7 rfl rfl e23 (o_ (Ba 7 [(0,oI 2097152 (p6.set p8.toNat p7)),(1,iV (wi (p7+1))),(5,iV p8)] [] (Bj 4 ?_))))))
   obtain rfl:=sj h1
   exact kn hK1 rfl rfl
  ·obtain rfl:=sj h1
   obtain rfl:=hx1 _ rfl
   refine In rfl ?_
   exact jn hE1 ⟨_,_,rfl,rfl⟩

/- loop.example/g00149/laws.markIntentS -/
def WO:=[i_ 4 0]
def WP:=[i_ 5 0]
def WQ:=[m_ 6 5,m_ 7 0,n_ 8 7,b_ .lss 9 6 8]
def WR:=[m_ 12 0,m_ 13 5,m_ 14 1,x_ 15 12 13 2,f_ 16 15 0,s_ 16 14 1]
def WS:=[m_ 17 1,B_ .add 18 17 1,m_ 1 18]
def WT:=[m_ 19 0,m_ 20 5,m_ 21 1,B_ .rem 22 21 3,B_ .eql 23 22 0,x_ 24 19 20 2,f_ 25 24 1,s_ 25 23 1]
def WU:=[m_ 26 1,B_ .add 27 26 1,m_ 1 27]
def WV:=[m_ 10 5,B_ .add 11 10 1,m_ 5 11]
def WN:IR:=(.seq (sr WQ (.ite (.t 9) .skip (.exit 0))) (.seq (.block 1 (sr WR (sr WS (sr WT (.reg WU))))) (.reg WV)))
def WW:=[m_ 28 1,m_ 4 28]
def c315:Dv:=⟨2,29,[.t 4],sr WO (.seq (sr WP (Im 0 WN)) (rr WW))⟩
def K315 (D:Bl):Prop:=∀a0 a1 r,g315 a0 a1=some r→D 315 ⟨[Bs 2097152 a0,iV a1],[]⟩ ⟨iV r.1,[],[(0,2,r.2.map Ca)]⟩
theorem F315:K315 (FO C c315):=by
 intro a0 a1 r h0
 refine f0 (Ba 8 [(0,Bs 2097152 a0),(1,iV a1),(5,iV 0)] [] (Bu (bb h0 fun r42 e43 h0=>Cv (R:=(fun S=>∃p29:List Ag,∃p30:Int,(p29,p30)=r42∧S=⟨[(0,Bs 2097152 p29),(1,iV p30)],[],[]⟩)) (Uh) (fun s S=>match s with | (p12,p13,p14)=>S=⟨[(0,Bs 2097152 p12),(1,iV p13),(5,iV p14)],[],[]⟩) e43 _ (Cj (by kernel_rfl)) rfl 0 (fun _=>rfl) ?_ ?_)))
 ·rintro S _ hfg ⟨p29,p30,rfl,rfl⟩
  refine Cb _ hfg (Ba 4 [(0,Bs 2097152 p29),(4,iV p30)] [] ?_)
  obtain rfl:=sj h0
  exact Hj (Dk rfl rfl rfl rfl rfl ⟨⟨rfl,Jc (fun _=>rfl)⟩,tv⟩)
 ·rintro ⟨p12,p13,p14⟩ o1 _ K1 rfl h1 hx1 hK1 hE1 hR1
  refine Bj 4 (Ar (bJ rfl (o_ (Ba 2 [(0,Bs 2097152 p12),(1,iV p13),(5,iV p14),(9,.bool (decide (p14<(p12.length:Int))))] [] (Cs h1 (fun c31 h1=>?_) (fun c31 h1=>?_))))))
  ·refine Bj 8 (Ar (bb h1 fun y32 e33 h1=>Zb rfl rfl e33 (st (c_ (Bn ⟨tv,tv⟩ rfl tv) (bb h1 fun y34 e35 h1=>kG (Ag.mk p13 y34.Jx) rfl rfl e35 (o_ (Ba 7 [(0,Bs 2097152 (p12.set p14.toNat (Ag.mk p13 y34.Jx))),(1,iV (wi (p13+1))),(5,iV p14)] [] (Bj 4 (Ar (st (c_ (Bn ⟨tv,tv,tv⟩ rfl (by decide)) (st (c_ (Bn t3 rfl tv) (bb h1 fun y36 e37 h1=>Zb rfl rfl e37 (st (c_ (Bn ⟨tv,tv⟩ rfl tv) (bb h1 fun y38 e39 h1=>kG (Ag.mk y38.Br ((((wi (p13+1))).tmod 3)==0)) rfl rfl e39 (o_ (Ba 1 [(0,.own 2097152 0 2 (((p12.set p14.toNat (Ag.mk p13 y34.Jx)).set p14.toNat (Ag.mk y38.Br ((((wi (p13+1))).tmod 3)==0))).map Ca)),(1,iV (wi (p13+1))),(5,iV p14)] [] (Bj 5 (bv h1 fun v40 e41 h1=>Cb ⟨[(0,Bs 2097152 v40),(1,iV (wi ((wi (p13+1))+1))),(5,iV p14)],[],[]⟩ (Cj (by subst e41; kernel_rfl)) (Bj 4 ?_))))))))))))))))))))))
   obtain rfl:=sj h1
   exact kn hK1 rfl rfl
  ·obtain rfl:=sj h1
   obtain rfl:=hx1 _ rfl
   refine In rfl ?_
   exact jn hE1 ⟨_,_,rfl,rfl⟩

/- loop.example/g00149/laws.markVault -/
def VW:=[X_ 2 0,i_ 4 0]
def VX:=[f_ 5 2 0,L_ 6 5 3,m_ 7 1,q_ 8 26 [.t 6,.t 7],m_ 1 8]
def VY:=[f_ 9 2 3,l_ 10 9 1,m_ 11 1,q_ 12 315 [.t 10,.t 11],m_ 1 12]
def VZ:=[f_ 13 2 4,l_ 14 13 1,m_ 15 1,q_ 16 37 [.t 14,.t 15],m_ 1 16]
def WA:=[m_ 17 1,m_ 4 17]
def c252:Dv:=⟨2,18,[.t 4],sr VW (sr VX (sr VY (sr VZ (rr WA))))⟩
def K252 (D:Bl):Prop:=∀a0 a1 r,mN a0 a1=some r→D 252 ⟨[.agg (Av a0 (Aq 2097152) (Aq 2097153) (Aq 2097154)),iV a1],[]⟩ ⟨iV r.1,[],[(0,4,r.2.1.map Ab),(0,2,r.2.2.1.map Ca),(0,1,r.2.2.2.map eI)]⟩
theorem F252 (H26:K26 C) (H37:K37 C) (H315:K315 C):K252 (FO C c252):=by
 intro a0 a1 r h0
 refine f0 (Ba 4 [(0,.agg (Av a0 (Aq 2097152) (Aq 2097153) (Aq 2097154))),(1,iV a1),(2,.ptr 128 0)] [(128,Av a0 (Aq 2097152) (Aq 2097153) (Aq 2097154))] (Bj 4 (Ar (bb h0 fun r1 e2 h0=>gg h0 fun c3 h0=>dG [] [2097152] [] (H26 a0.Ac a1 r1 e2) (ar (Az (cH (fun _=>rfl)) rfl)) (sw ⟨[(0,.agg (At a0.Ac.clock a0.Ac.next (Aq 2097152) r1.2 (Aq 2097153) a0.Ad (Aq 2097154) a0.Aj a0.Am)),(2,.ptr 128 0),(8,iV r1.1)],[(128,At a0.Ac.clock a0.Ac.next (Aq 2097152) r1.2 (Aq 2097153) a0.Ad (Aq 2097154) a0.Aj a0.Am)],[]⟩ (fg ⟨congrArg (fun z=>some ((.agg [iV a0.Ac.clock,iV a0.Ac.next,z,Bs 2097153 a0.Ad,oI 2097154 a0.Aj,.bool a0.Am]:V))) (Fa c3),rfl,rfl,tv⟩ ⟨congrArg (fun z=>some (([iV a0.Ac.clock,iV a0.Ac.next,z,Bs 2097153 a0.Ad,oI 2097154 a0.Aj,.bool a0.Am]:List V))) (Fa c3),tv⟩) (Bm rfl tv (o_ (Ba 1 [(0,.agg (At a0.Ac.clock a0.Ac.next (Aq 2097152) r1.2 (Aq 2097153) a0.Ad (Aq 2097154) a0.Aj a0.Am)),(1,iV r1.1),(2,.ptr 128 0)] [(128,At a0.Ac.clock a0.Ac.next (Aq 2097152) r1.2 (Aq 2097153) a0.Ad (Aq 2097154) a0.Aj a0.Am)] (Bj 4 (Ar (bb h0 fun r4 e5 h0=>gg h0 fun c6 h0=>dG [] [2097153] [] (H315 a0.Ad r1.1 r4 e5) (ar (Az (cH (fun _=>rfl)) rfl)) (sw ⟨[(0,.agg (At a0.Ac.clock a0.Ac.next (Aq 2097152) r1.2 (Aq 2097153) r4.2 (Aq 2097154) a0.Aj a0.Am)),(2,.ptr 128 0),(12,iV r4.1)],[(128,At a0.Ac.clock a0.Ac.next (Aq 2097152) r1.2 (Aq 2097153) r4.2 (Aq 2097154) a0.Aj a0.Am)],[]⟩ (fg ⟨congrArg (fun z=>some ((.agg [iV a0.Ac.clock,iV a0.Ac.next,Ae 2097152 r1.2,z,oI 2097154 a0.Aj,.bool a0.Am]:V))) (Fa c6),rfl,rfl,tv⟩ ⟨congrArg (fun z=>some (([iV a0.Ac.clock,iV a0.Ac.next,Ae 2097152 r1.2,z,oI 2097154 a0.Aj,.bool a0.Am]:List V))) (Fa c6),tv⟩) (Bm rfl tv (o_ (Ba 1 [(0,.agg (At a0.Ac.clock a0.Ac.next (Aq 2097152) r1.2 (Aq 2097153) r4.2 (Aq 2097154) a0.Aj a0.Am)),(1,iV r4.1),(2,.ptr 128 0)] [(128,At a0.Ac.clock a0.Ac.next (Aq 2097152) r1.2 (Aq 2097153) r4.2 (Aq 2097154) a0.Aj a0.Am)] (Bj 4 (Ar (bb h0 fun r7 e8 h0=>gg h0 fun c9 h0=>dG [] [2097154] [] (H37 a0.Aj r4.1 r7 e8) (ar (Az (cH (fun _=>rfl)) rfl)) (sw ⟨[(0,.agg (At a0.Ac.clock a0.Ac.next (Aq 2097152) r1.2 (Aq 2097153) r4.2 (Aq 2097154) r7.2 a0.Am)),(16,iV r7.1)],[],[]⟩ (fg ⟨congrArg (fun z=>some ((.agg [iV a0.Ac.clock,iV a0.Ac.next,Ae 2097152 r1.2,Bs 2097153 r4.2,z,.bool a0.Am]:V))) (Fa c9),rfl,tv⟩ tv) (Bm rfl tv (o_ (Ba 6 [(0,.agg (At a0.Ac.clock a0.Ac.next (Aq 2097152) r1.2 (Aq 2097153) r4.2 (Aq 2097154) r7.2 a0.Am)),(4,iV r7.1)] [] ?_))))))))))))))))))))))
 obtain rfl:=sj h0
 exact Hj (Dk rfl rfl rfl rfl rfl ⟨⟨rfl,Jc (fun _=>rfl)⟩,⟨⟨rfl,Jc (fun _=>rfl)⟩,⟨⟨rfl,Jc (fun _=>rfl)⟩,tv⟩⟩⟩)

/- loop.example/g00149/laws.heldLeaseS -/
def c73_r0:=[i_ 4 0]
def c73_r1:=[i_ 5 0]
def c73_r2:=[m_ 6 5,m_ 7 0,n_ 8 7,b_ .lss 9 6 8]
def c73_r3:=[m_ 12 0,m_ 13 5,x_ 14 12 13 4,f_ 15 14 0,l_ 16 15 1,m_ 17 1,b_ .neq 18 16 17]
def c73_r4:=[i_ 4 (-1)]
def c73_r5:=[m_ 19 1,B_ .add 20 19 1,m_ 1 20]
def c73_r6:=[m_ 21 0,m_ 22 5,x_ 23 21 22 4,f_ 24 23 1,l_ 25 24 1,m_ 26 1,b_ .neq 27 25 26]
def c73_r7:=[i_ 4 (-1)]
def c73_r8:=[m_ 28 1,B_ .add 29 28 1,m_ 1 29]
def c73_r9:=[m_ 30 0,m_ 31 5,x_ 32 30 31 4,f_ 33 32 2,l_ 34 33 1,m_ 35 1,b_ .neq 36 34 35]
def Adt:=[i_ 4 (-1)]
def Adu:=[m_ 37 1,B_ .add 38 37 1,m_ 1 38]
def Adv:=[m_ 39 0,m_ 40 5,x_ 41 39 40 4,f_ 42 41 3,l_ 43 42 1,m_ 44 1,B_ .rem 45 44 3,B_ .eql 46 45 0,iQ 47 (.binB .neq (.t 43) (.t 46))]
def Adw:=[i_ 4 (-1)]
def Adx:=[m_ 48 1,B_ .add 49 48 1,m_ 1 49]
def Ady:=[m_ 10 5,B_ .add 11 10 1,m_ 5 11]
def c73_l0:IR:=(.seq (sr c73_r2 (.ite (.t 9) .skip (.exit 0))) (.seq (.block 1 (.seq (sr c73_r3 (iz 18 (rr c73_r4))) (sr c73_r5 (.seq (sr c73_r6 (iz 27 (rr c73_r7))) (sr c73_r8 (.seq (sr c73_r9 (iz 36 (rr Adt))) (sr Adu (.seq (sr Adv (iz 47 (rr Adw))) (.reg Adx))))))))) (.reg Ady)))
def Adz:=[m_ 50 1,m_ 4 50]
def c73:Dv:=⟨2,51,[.t 4],sr c73_r0 (.seq (sr c73_r1 (Im 0 c73_l0)) (rr Adz))⟩
def K73 (D:Bl):Prop:=∀a0 a1 r,g73 a0 a1=some r→D 73 ⟨[Cg a0,iV a1],[]⟩ ⟨iV r,[],[]⟩
abbrev Sb:=fun x0 x1 (r:List (Nat×V))=>(0,Cg x0)::(5,iV x1)::r
theorem F73:K73 (FO C c73):=by
 intro a0 a1 r h0
 refine f0 (Ba 8 [(0,Cg a0),(1,iV a1),(5,iV 0)] [] (Bu (bb h0 fun r51 e52 h0=>Cv (R:=(fun S=>∃p35:Int,.inl p35=r51∧S=⟨[(1,iV p35)],[],[]⟩)) (Wf a0) (fun s S=>match s with | (p16,p17)=>S=⟨Sb a0 p17 [(1,iV p16)],[],[]⟩) e52 _ (Cj (by kernel_rfl)) rfl 0 (fun _=>rfl) ?_ ?_)))
 ·rintro S _ hfg ⟨p35,rfl,rfl⟩
  refine Cb _ hfg ?_
  obtain rfl:=sj h0
  exact Cy 5
 ·rintro ⟨p16,p17⟩ o1 _ K1 rfl h1 hx1 hK1 hE1 hR1
  refine Bj 4 (Ar (Nh rfl (o_ (Ba 2 (Sb a0 p17 [(1,iV p16),(9,.bool (decide (p17<(a0.length:Int))))]) [] (Cs h1 (fun HH h1=>?_) (fun HH h1=>?_))))))
  ·refine Bj 8 (Ar (bb h1 fun y37 e38 h1=>Ti rfl rfl e38 (o_ (Ba 5 (Sb a0 p17 [(1,iV p16),(18,.bool (y37.id != p16))]) [] (Cs h1 (fun c39 h1=>?_) (fun c39 h1=>?_))))))
   ·obtain rfl:=sj h1
    obtain rfl:=hx1 _ rfl
    obtain rfl:=sj h0
    exact cR 4 hR1
   ·refine Ba 7 (Sb a0 p17 [(1,iV (wi (p16+1)))]) [] (Bj 4 (Ar (bb h1 fun y40 e41 h1=>Ti rfl rfl e41 (o_ (Ba 5 (Sb a0 p17 [(1,iV (wi (p16+1))),(27,.bool (y40.Bp != (wi (p16+1))))]) [] (Cs h1 (fun c42 h1=>?_) (fun c42 h1=>?_)))))))
    ·obtain rfl:=sj h1
     obtain rfl:=hx1 _ rfl
     obtain rfl:=sj h0
     exact cR 4 hR1
    ·refine Ba 7 (Sb a0 p17 [(1,iV (wi ((wi (p16+1))+1)))]) [] (Bj 4 (Ar (bb h1 fun y43 e44 h1=>Ti rfl rfl e44 (o_ (Ba 5 (Sb a0 p17 [(1,iV (wi ((wi (p16+1))+1))),(36,.bool (y43.cap != (wi ((wi (p16+1))+1))))]) [] (Cs h1 (fun c45 h1=>?_) (fun c45 h1=>?_)))))))
     ·obtain rfl:=sj h1
      obtain rfl:=hx1 _ rfl
      obtain rfl:=sj h0
      exact cR 4 hR1
     ·refine Bj 7 (bv h1 fun v46 e47 h1=>Cb ⟨Sb a0 p17 [(1,iV v46)],[],[]⟩ (Cj (by subst e47; kernel_rfl)) (Bj 4 (Ar (bb h1 fun y48 e49 h1=>Ti rfl rfl e49 (o_ (Bj 3 (Ar (st (c_ (Bn ⟨tv,tv,tv⟩ rfl (by decide)) (o_ (Ba 3 (Sb a0 p17 [(1,iV v46),(47,.bool (!(y48.Cl==(((v46).tmod 3)==0))))]) [] (Cs h1 (fun HI h1=>?_) (fun HI h1=>?_)))))))))))))
      ·obtain rfl:=sj h1
       obtain rfl:=hx1 _ rfl
       obtain rfl:=sj h0
       exact cR 4 hR1
      ·refine Ba 7 (Sb a0 p17 [(1,iV (wi (v46+1)))]) [] (Bj 4 ?_)
       obtain rfl:=sj h1
       exact kn hK1 rfl rfl
  ·obtain rfl:=sj h1
   obtain rfl:=hx1 _ rfl
   refine In rfl ?_
   exact jn hE1 ⟨_,rfl,rfl⟩

/- loop.example/g00149/laws.heldTable -/
def c27_r0:=[X_ 2 0,i_ 4 0]
def c27_r1:=[f_ 5 2 2,l_ 6 5 1,m_ 7 1,q_ 8 73 [.t 6,.t 7],m_ 1 8]
def c27_r2:=[m_ 9 1,B_ .lss 10 9 0]
def c27_r3:=[i_ 4 (-1)]
def c27_r4:=[m_ 11 1,m_ 4 11]
def Xz:Dv:=⟨2,12,[.t 4],sr c27_r0 (sr c27_r1 (.seq (sr c27_r2 (iz 10 (rr c27_r3))) (rr c27_r4)))⟩
def K27 (D:Bl):Prop:=∀a0 a1 r,g27 a0 a1=some r→D 27 ⟨[.agg (Bk a0),iV a1],[]⟩ ⟨iV r,[],[]⟩
theorem F27 (H73:K73 C):K27 (FO C Xz):=by
 intro a0 a1 r h0
 refine f0 (Ba 4 [(1,iV a1),(2,.ptr 128 0)] [(128,Bk a0)] (Bj 4 (Ar (bb h0 fun r1 e2 h0=>Sn (H73 a0.Af a1 r1 e2) (o_ (Ba 8 [(1,iV r1),(10,.bool (decide (r1<0)))] [] (Cs h0 (fun c3 h0=>?_) (fun c3 h0=>?_))))))))
 ·obtain rfl:=sj h0
  exact Cy 4
 ·obtain rfl:=sj h0
  exact Cy 7

/- loop.example/g00149/laws.heldIntS -/
def c38_r0:=[i_ 4 0]
def c38_r1:=[i_ 5 0]
def c38_r2:=[m_ 6 5,m_ 7 0,n_ 8 7,b_ .lss 9 6 8]
def c38_r3:=[m_ 12 0,m_ 13 5,x_ 14 12 13 1,l_ 15 14 1,m_ 16 1,b_ .neq 17 15 16]
def c38_r4:=[i_ 4 (-1)]
def c38_r5:=[m_ 18 1,B_ .add 19 18 1,m_ 1 19]
def c38_r6:=[m_ 10 5,B_ .add 11 10 1,m_ 5 11]
def c38_l0:IR:=(.seq (sr c38_r2 (.ite (.t 9) .skip (.exit 0))) (.seq (.block 1 (.seq (sr c38_r3 (iz 17 (rr c38_r4))) (.reg c38_r5))) (.reg c38_r6)))
def c38_r7:=[m_ 20 1,m_ 4 20]
def c38:Dv:=⟨2,21,[.t 4],sr c38_r0 (.seq (sr c38_r1 (Im 0 c38_l0)) (rr c38_r7))⟩
def K38 (D:Bl):Prop:=∀a0 a1 r,g38 a0 a1=some r→D 38 ⟨[lI a0,iV a1],[]⟩ ⟨iV r,[],[]⟩
theorem F38:K38 (FO C c38):=by
 intro a0 a1 r h0
 refine f0 (Ba 8 [(0,lI a0),(1,iV a1),(5,iV 0)] [] (Bu (bb h0 fun r18 e19 h0=>Cv (R:=(fun S=>∃p13:Int,.inl p13=r18∧S=⟨[(1,iV p13)],[],[]⟩)) (Wc a0) (fun s S=>match s with | (p5,p6)=>S=⟨[(0,lI a0),(1,iV p5),(5,iV p6)],[],[]⟩) e19 _ (Cj (by kernel_rfl)) rfl 0 (fun _=>rfl) ?_ ?_)))
 ·rintro S _ hfg ⟨p13,rfl,rfl⟩
  refine Cb _ hfg ?_
  obtain rfl:=sj h0
  exact Cy 5
 ·rintro ⟨p5,p6⟩ o1 _ K1 rfl h1 hx1 hK1 hE1 hR1
  refine Bj 4 (Ar (Nh rfl (o_ (Ba 2 [(0,lI a0),(1,iV p5),(5,iV p6),(9,.bool (decide (p6<(a0.length:Int))))] [] (Cs h1 (fun c14 h1=>?_) (fun c14 h1=>?_))))))
  ·refine Bj 8 (Ar (bb h1 fun y15 e16 h1=>Ti rfl rfl e16 (o_ (Ba 4 [(0,lI a0),(1,iV p5),(5,iV p6),(17,.bool (y15 != p5))] [] (Cs h1 (fun c17 h1=>?_) (fun c17 h1=>?_))))))
   ·obtain rfl:=sj h1
    obtain rfl:=hx1 _ rfl
    obtain rfl:=sj h0
    exact cR 4 hR1
   ·refine Ba 7 [(0,lI a0),(1,iV (wi (p5+1))),(5,iV p6)] [] (Bj 4 ?_)
    obtain rfl:=sj h1
    exact kn hK1 rfl rfl
  ·obtain rfl:=sj h1
   obtain rfl:=hx1 _ rfl
   refine In rfl ?_
   exact jn hE1 ⟨_,rfl,rfl⟩

/- loop.example/g00149/laws.heldIntentS -/
def WY:=[i_ 4 0]
def WZ:=[i_ 5 0]
def XA:=[m_ 6 5,m_ 7 0,n_ 8 7,b_ .lss 9 6 8]
def XC:=[m_ 12 0,m_ 13 5,x_ 14 12 13 2,f_ 15 14 0,l_ 16 15 1,m_ 17 1,b_ .neq 18 16 17]
def XD:=[i_ 4 (-1)]
def XE:=[m_ 19 1,B_ .add 20 19 1,m_ 1 20]
def XF:=[m_ 21 0,m_ 22 5,x_ 23 21 22 2,f_ 24 23 1,l_ 25 24 1,m_ 26 1,B_ .rem 27 26 3,B_ .eql 28 27 0,iQ 29 (.binB .neq (.t 25) (.t 28))]
def XG:=[i_ 4 (-1)]
def XH:=[m_ 30 1,B_ .add 31 30 1,m_ 1 31]
def XI:=[m_ 10 5,B_ .add 11 10 1,m_ 5 11]
def WX:IR:=(.seq (sr XA (.ite (.t 9) .skip (.exit 0))) (.seq (.block 1 (.seq (sr XC (iz 18 (rr XD))) (sr XE (.seq (sr XF (iz 29 (rr XG))) (.reg XH))))) (.reg XI)))
def yS:=[m_ 32 1,m_ 4 32]
def c324:Dv:=⟨2,33,[.t 4],sr WY (.seq (sr WZ (Im 0 WX)) (rr yS))⟩
def K324 (D:Bl):Prop:=∀a0 a1 r,g324 a0 a1=some r→D 324 ⟨[Ce a0,iV a1],[]⟩ ⟨iV r,[],[]⟩
theorem F324:K324 (FO C c324):=by
 intro a0 a1 r h0
 refine f0 (Ba 8 [(0,Ce a0),(1,iV a1),(5,iV 0)] [] (Bu (bb h0 fun r27 e28 h0=>Cv (R:=(fun S=>∃p19:Int,.inl p19=r27∧S=⟨[(1,iV p19)],[],[]⟩)) (Rd a0) (fun s S=>match s with | (p8,p9)=>S=⟨[(0,Ce a0),(1,iV p8),(5,iV p9)],[],[]⟩) e28 _ (Cj (by kernel_rfl)) rfl 0 (fun _=>rfl) ?_ ?_)))
 ·rintro S _ hfg ⟨p19,rfl,rfl⟩
  refine Cb _ hfg ?_
  obtain rfl:=sj h0
  exact Cy 5
 ·rintro ⟨p8,p9⟩ o1 _ K1 rfl h1 hx1 hK1 hE1 hR1
  refine Bj 4 (Ar (Nh rfl (o_ (Ba 2 [(0,Ce a0),(1,iV p8),(5,iV p9),(9,.bool (decide (p9<(a0.length:Int))))] [] (Cs h1 (fun c20 h1=>?_) (fun c20 h1=>?_))))))
  ·refine Bj 8 (Ar (bb h1 fun y21 e22 h1=>Ti rfl rfl e22 (o_ (Ba 5 [(0,Ce a0),(1,iV p8),(5,iV p9),(18,.bool (y21.Br != p8))] [] (Cs h1 (fun c23 h1=>?_) (fun c23 h1=>?_))))))
   ·obtain rfl:=sj h1
    obtain rfl:=hx1 _ rfl
    obtain rfl:=sj h0
    exact cR 4 hR1
   ·refine Ba 7 [(0,Ce a0),(1,iV (wi (p8+1))),(5,iV p9)] [] (Bj 4 (Ar (bb h1 fun y24 e25 h1=>Ti rfl rfl e25 (o_ (Bj 3 (Ar (st (c_ (Bn ⟨tv,tv,tv⟩ rfl (by decide)) (o_ (Ba 3 [(0,Ce a0),(1,iV (wi (p8+1))),(5,iV p9),(29,.bool (!(y24.Jx==((((wi (p8+1))).tmod 3)==0))))] [] (Cs h1 (fun qS h1=>?_) (fun qS h1=>?_))))))))))))
    ·obtain rfl:=sj h1
     obtain rfl:=hx1 _ rfl
     obtain rfl:=sj h0
     exact cR 4 hR1
    ·refine Ba 7 [(0,Ce a0),(1,iV (wi ((wi (p8+1))+1))),(5,iV p9)] [] (Bj 4 ?_)
     obtain rfl:=sj h1
     exact kn hK1 rfl rfl
  ·obtain rfl:=sj h1
   obtain rfl:=hx1 _ rfl
   refine In rfl ?_
   exact jn hE1 ⟨_,rfl,rfl⟩

/- loop.example/g00149/laws.heldVault -/
def WB:=[X_ 2 0,i_ 4 0]
def WC:=[f_ 5 2 0,L_ 6 5 3,m_ 7 1,q_ 8 27 [.t 6,.t 7],m_ 1 8]
def WE:=[m_ 9 1,B_ .lss 10 9 0]
def WF:=[i_ 4 (-1)]
def WG:=[f_ 11 2 3,l_ 12 11 1,m_ 13 1,q_ 14 324 [.t 12,.t 13],m_ 1 14]
def WH:=[m_ 15 1,B_ .lss 16 15 0]
def WI:=[i_ 4 (-1)]
def WJ:=[f_ 17 2 4,l_ 18 17 1,m_ 19 1,q_ 20 38 [.t 18,.t 19],m_ 1 20]
def WK:=[m_ 21 1,B_ .lss 22 21 0]
def WM:=[i_ 4 (-1)]
def yR:=[m_ 23 1,m_ 4 23]
def c259:Dv:=⟨2,24,[.t 4],sr WB (sr WC (.seq (sr WE (iz 10 (rr WF))) (sr WG (.seq (sr WH (iz 16 (rr WI))) (sr WJ (.seq (sr WK (iz 22 (rr WM))) (rr yR)))))))⟩
def K259 (D:Bl):Prop:=∀a0 a1 r,DM a0 a1=some r→D 259 ⟨[.agg (Bv a0),iV a1],[]⟩ ⟨iV r,[],[]⟩
theorem F259 (H27:K27 C) (H38:K38 C) (H324:K324 C):K259 (FO C c259):=by
 intro a0 a1 r h0
 refine f0 (Ba 4 [(1,iV a1),(2,.ptr 128 0)] [(128,Bv a0)] (Bj 4 (Ar (bb h0 fun r1 e2 h0=>Sn (H27 a0.Ac a1 r1 e2) (o_ (Ba 8 [(1,iV r1),(2,.ptr 128 0),(10,.bool (decide (r1<0)))] [(128,Bv a0)] (Cs h0 (fun c3 h0=>?_) (fun c3 h0=>?_))))))))
 ·obtain rfl:=sj h0
  exact Cy 4
 ·refine Bj 6 (Ar (bb h0 fun r4 e5 h0=>Sn (H324 a0.Ad r1 r4 e5) (o_ (Ba 8 [(1,iV r4),(2,.ptr 128 0),(16,.bool (decide (r4<0)))] [(128,Bv a0)] (Cs h0 (fun c6 h0=>?_) (fun c6 h0=>?_))))))
  ·obtain rfl:=sj h0
   exact Cy 4
  ·refine Bj 6 (Ar (bb h0 fun r7 e8 h0=>Sn (H38 a0.Aj r4 r7 e8) (o_ (Ba 8 [(1,iV r7),(22,.bool (decide (r7<0)))] [] (Cs h0 (fun c9 h0=>?_) (fun c9 h0=>?_))))))
   ·obtain rfl:=sj h0
    exact Cy 4
   ·obtain rfl:=sj h0
    exact Cy 7

/- loop.example/g00149/impl.isList[loop.example/g00149/impl.VaultAct] -/
def Abd:=[k_ 2 (.bool false)]
def Abe:=[m_ 3 0,n_ 4 3,B_ .leq 5 4 4096,m_ 2 5]
def c455:Dv:=⟨1,6,[.t 2],sr Abd (rr Abe)⟩
def K455 (D:Bl):Prop:=∀a0 r,g455 a0=some r→D 455 ⟨[An a0],[]⟩ ⟨.bool r,[],[]⟩
theorem F455:K455 (FO C c455):=by
 intro a0 r h0
 refine f0 (Ba 3 [(0,An a0)] [] (Aw (Ar (st (Bm rfl tv (Nh rfl (o_ ?_)))))))
 obtain rfl:=sj h0
 exact Cy 4

/- slices.IndexFunc[[]loop.example/g00149/impl.VaultAct,loop.example/g00149/impl.VaultAct] -/
def Acf:=[i_ 4 0]
def Acg:=[m_ 6 0,n_ 7 6,i_ 8 0]
def Ach:=[b_ .lss 9 8 7]
def Aci:=[m_ 10 8,m_ 5 10]
def Acj:List Cf:=[m_ 11 1,m_ 12 0,m_ 13 5,x_ 14 12 13 7,L_ 15 14 7,⟨some 16,.callv (.t 11) [.t 15],none⟩]
def Ack:=[m_ 17 5,m_ 4 17]
def Acl:=[B_ .add 18 8 1,m_ 8 18]
def Ace:IR:=(sr Ach (.seq (.ite (.t 9) .skip (.exit 0)) (.seq (.block 1 (sr Aci (sr Acj (iz 16 (rr Ack))))) (.reg Acl))))
def Acm:=[i_ 4 (-1)]
def c468:Dv:=⟨2,19,[.t 4],sr Acf (.seq (sr Acg (Im 0 Ace)) (rr Acm))⟩
def K468 (C:Bl) (D:Bl:=C):Prop:=∀(a0:List Ai) (f1:Nat) (k1:List V) (is1:Ai→Option Bool) (hs1:Jh k1) (hf1:∀(x0:Ai) r,is1 x0=some r→C f1 ⟨.agg (Ao x0)::k1,[]⟩ ⟨.bool r,[],[]⟩) (r:Int),g468 a0 is1=some r→D 468 ⟨[An a0,.clo f1 k1],[]⟩ ⟨iV r,[],[]⟩
theorem F468:K468 C (FO C c468):=by
 intro a0 f1 k1 is1 hs1 hf1 r h0
 refine f0 (Ba 3 [(0,An a0),(1,.clo f1 k1)] [] (Bj 3 (Ar (Nh rfl (o_ (Ba 2 [(0,An a0),(1,.clo f1 k1),(7,iV (a0.length:Int)),(8,iV 0)] [] (Bu (bb h0 fun r21 e22 h0=>Cv (R:=(fun S=>.inl ()=r21∧S=⟨[],[],[]⟩)) (pD a0 is1) (fun s S=>match s with | p7=>S=⟨[(0,An a0),(1,.clo f1 k1),(7,iV (a0.length:Int)),(8,iV p7)],[],[]⟩) e22 _ (Cj (by kernel_rfl)) rfl 0 (fun _=>rfl) ?_ ?_))))))))
 ·rintro S _ hfg ⟨rfl,rfl⟩
  refine Cb _ hfg ?_
  obtain rfl:=sj h0
  exact Cy 4
 ·rintro p7 o1 _ K1 rfl h1 hx1 hK1 hE1 hR1
  refine Ba 3 [(0,An a0),(1,.clo f1 k1),(7,iV (a0.length:Int)),(8,iV p7),(9,.bool (decide (p7<(a0.length:Int))))] [] (Aw (Cs h1 (fun c15 h1=>?_) (fun c15 h1=>?_)))
  ·refine Ba 8 [(0,An a0),(1,.clo f1 k1),(5,iV p7),(7,iV (a0.length:Int)),(8,iV p7)] [] (Bj 4 (Ar (bb h1 fun y16 e17 h1=>Ti rfl rfl e17 (st (c_ (v:=.agg (Ao y16)) (Bn ⟨tv,tv⟩ rfl (nl rfl)) (bb h1 fun r18 e19 h1=>st (He (r:=.bool r18) rfl false (hf1 _ r18 e19) ⟨tv,tv⟩ (Az rfl hs1.2.2.1) (Bb rfl (hs1.2.1 _ _ _ _ _)) (fun _=>rfl) (o_ (Ba 1 [(0,An a0),(1,.clo f1 k1),(5,iV p7),(7,iV (a0.length:Int)),(8,iV p7),(16,.bool r18)] [] (Cs h1 (fun c20 h1=>?_) (fun c20 h1=>?_)))))))))))
   ·obtain rfl:=sj h1
    obtain rfl:=hx1 _ rfl
    obtain rfl:=sj h0
    exact cR 5 hR1
   ·refine Bj 6 ?_
    obtain rfl:=sj h1
    exact kn hK1 rfl rfl
  ·obtain rfl:=sj h1
   obtain rfl:=hx1 _ rfl
   refine In rfl ?_
   exact jn hE1 ⟨rfl,rfl⟩

/- slices.ContainsFunc[[]loop.example/g00149/impl.VaultAct,loop.example/g00149/impl.VaultAct] -/
def Abv:=[k_ 4 (.bool false)]
def Abw:=[m_ 5 0,m_ 6 1,q_ 7 468 [.t 5,.t 6],B_ .geq 8 7 0,m_ 4 8]
def c461:Dv:=⟨2,9,[.t 4],sr Abv (rr Abw)⟩
def K461 (C:Bl) (D:Bl:=C):Prop:=∀(a0:List Ai) (f1:Nat) (k1:List V) (is1:Ai→Option Bool) (hs1:Jh k1) (hf1:∀(x0:Ai) r,is1 x0=some r→C f1 ⟨.agg (Ao x0)::k1,[]⟩ ⟨.bool r,[],[]⟩) (r:Bool),g461 a0 is1=some r→D 461 ⟨[An a0,.clo f1 k1],[]⟩ ⟨.bool r,[],[]⟩
theorem F461 (H468:K468 C):K461 C (FO C c461):=by
 intro a0 f1 k1 is1 hs1 hf1 r h0
 refine f0 (Ba 3 [(0,An a0),(1,.clo f1 k1)] [] (Bj 3 (Ar (bb h0 fun r1 e2 h0=>st (Cq (r:=iV r1) false (H468 a0 f1 k1 is1 hs1 hf1 r1 e2) ⟨tv,tv,tv⟩ rfl (Bb rfl (Bb (Ey hs1) rfl)) (fun _=>rfl) (o_ ?_))))))
 obtain rfl:=sj h0
 exact Cy 4

/- loop.example/g00149/impl.areAll[loop.example/g00149/impl.VaultAct]$1 -/
def Abx:=[X_ 2 0,k_ 3 (.bool false)]
def Aby:List Cf:=[l_ 4 1 1,L_ 5 2 7,⟨some 6,.callv (.t 4) [.t 5],none⟩,N_ 7 6,m_ 3 7]
def c462:Dv:=⟨2,8,[.t 3],sr Abx (rr Aby)⟩
def K462 (C:Bl) (D:Bl:=C):Prop:=∀(a0:Ai) (f1:Nat) (k1:List V) (is1:Ai→Option Bool) (hs1:Jh k1) (hf1:∀(x0:Ai) r,is1 x0=some r→C f1 ⟨.agg (Ao x0)::k1,[]⟩ ⟨.bool r,[],[]⟩) (r:Bool),g462 a0 is1=some r→D 462 ⟨[.agg (Ao a0),.iptr [.clo f1 k1]],[]⟩ ⟨.bool r,[],[]⟩
theorem F462:K462 C (FO C c462):=by
 intro a0 f1 k1 is1 hs1 hf1 r h0
 refine f0 (Ba 4 [(1,.iptr [.clo f1 k1]),(2,.ptr 128 0)] [(128,Ao a0)] (Bj 3 (Ar (bb h0 fun r1 e2 h0=>st (He (r:=.bool r1) rfl false (hf1 _ r1 e2) ⟨tv,tv⟩ (Az rfl hs1.2.2.1) (Bb rfl (hs1.2.1 _ _ _ _ _)) (fun _=>rfl) (o_ ?_))))))
 obtain rfl:=sj h0
 exact Cy 4
end Go.Ev
