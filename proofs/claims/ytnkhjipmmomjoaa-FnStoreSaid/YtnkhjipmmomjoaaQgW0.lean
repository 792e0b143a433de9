/- The walks of functions: the code comes to the answers that QgD tells. Written by a program of ours. -/
import Derived.Test.YtnkhjipmmomjoaaQgD
set_option linter.all false
set_option maxHeartbeats 4000000
set_option linter.unusedVariables false
set_option maxRecDepth 100000
namespace Go.Ev
variable {C:Bf}
theorem sj {α:Type} {a b:α} (h:some a=some b):a=b:=Option.some.inj h
abbrev wi:Int→Int:=IntKind.i64.wrap
theorem tv:True:=True.intro
abbrev iQ (n:Nat) (o:PU):Bi:=⟨some n,.p o,none⟩
abbrev iV (n:Int):V:=.int .i64 n
theorem nl {a b:Nat} (h:Nat.ble a b=true):a≤b:=Nat.le_of_ble_eq_true h
theorem t3:True∧True∧True:=⟨trivial,trivial,trivial⟩
abbrev m_ (d s:Nat):Bi:=⟨some d,.p (.mv (.t s)),none⟩
abbrev k_ (d:Nat) (v:V):Bi:=⟨some d,.p (.mv (.c v)),none⟩
abbrev i_ (d:Nat) (n:Int):Bi:=⟨some d,.p (.mv (.c (.int .i64 n))),none⟩
abbrev f_ (d x o:Nat):Bi:=⟨some d,.p (.fieldA (.t x) o),none⟩
abbrev l_ (d x n:Nat):Bi:=⟨some d,.p (.load (.t x) n false),none⟩
abbrev L_ (d x n:Nat):Bi:=⟨some d,.p (.load (.t x) n true),none⟩
abbrev x_ (d x y n:Nat):Bi:=⟨some d,.p (.idxA (.t x) (.t y) n),none⟩
abbrev e_ (d x n:Nat):Bi:=⟨some d,.p (.ext (.t x) n),none⟩
abbrev b_ (o:BinOp) (d x y:Nat):Bi:=⟨some d,.p (.bin o (.t x) (.t y)),none⟩
abbrev B_ (o:BinOp) (d x:Nat) (n:Int):Bi:=⟨some d,.p (.bin o (.t x) (.c (.int .i64 n))),none⟩
abbrev n_ (d x:Nat):Bi:=⟨some d,.p (.len (.t x)),none⟩
abbrev N_ (d x:Nat):Bi:=⟨some d,.p (.un .not (.t x)),none⟩
abbrev s_ (x y n:Nat):Bi:=⟨none,.store (.t x) (.t y) n,none⟩
abbrev a_ (d:Nat) (z:List V):Bi:=⟨some d,.alloc z,none⟩
abbrev X_ (d x:Nat):Bi:=⟨some d,.box (.t x),none⟩
abbrev q_ (d f:Nat) (l:List Bm):Bi:=⟨some d,.call f l,none⟩
abbrev pk (d:Nat) (a b c:Bm):Bi:=⟨some d,.pick a b c,none⟩
abbrev pT (g d:Nat) (o:PU):Bi:=⟨some d,.p o,some (g,true)⟩
abbrev pF (g d:Nat) (o:PU):Bi:=⟨some d,.p o,some (g,false)⟩
abbrev zV (a b c:Nat):List V:=[.int .i64 0,.int .i64 0,.own a 0 4 [],.own b 0 2 [],.own c 0 1 [],.bool false]
abbrev zT (a:Nat):List V:=[.int .i64 0,.int .i64 0,.own a 0 4 []]
abbrev mT (g d s:Nat):Bi:=⟨some d,.p (.mv (.t s)),some (g,true)⟩
abbrev mF (g d s:Nat):Bi:=⟨some d,.p (.mv (.t s)),some (g,false)⟩
abbrev lT (g d x n:Nat) (a:Bool):Bi:=⟨some d,.p (.load (.t x) n a),some (g,true)⟩
abbrev lF (g d x n:Nat) (a:Bool):Bi:=⟨some d,.p (.load (.t x) n a),some (g,false)⟩
abbrev fT (g d x n:Nat):Bi:=⟨some d,.p (.fieldA (.t x) n),some (g,true)⟩
abbrev fF (g d x n:Nat):Bi:=⟨some d,.p (.fieldA (.t x) n),some (g,false)⟩
abbrev xT (g d x y n:Nat):Bi:=⟨some d,.p (.idxA (.t x) (.t y) n),some (g,true)⟩
abbrev xF (g d x y n:Nat):Bi:=⟨some d,.p (.idxA (.t x) (.t y) n),some (g,false)⟩
abbrev pa (d a b:Nat):Bi:=⟨some d,.pick (.t a) (.t b) (.c (.bool false)),none⟩
abbrev po (d a b:Nat):Bi:=⟨some d,.pick (.t a) (.c (.bool true)) (.t b),none⟩
abbrev sr (l:List Bi) (b:IR):IR:=.seq (.reg l) b
abbrev sd (p:DP) (b:IR):IR:=.seq (.draw p) b
abbrev rr (l:List Bi):IR:=.seq (.reg l) .ret
abbrev iz (n:Nat) (a:IR):IR:=.ite (.t n) a .skip
abbrev Li (n:Nat) (a:IR):IR:=.block n (.loop a)
def tk:List Bi→DP→DP
  | [],p=>p
  | i::l,p=>.take i (tk l p)
abbrev FO (C:Bf) (c:Dh):Bf:=fun _=>eR C c
theorem f0 {C:Bf} {fn:Dh} {args:List V} {bx:List (List V)} {t:Eo} (h:WL C [.c fn.body] (FQ fn.res bx.length t) .normal ⟨Nv args 0,Nw bx Bx,[]⟩) (h0:Nat.ble args.length fn.nt=true:=by kernel_rfl):eR C fn ⟨args,bx⟩ t:=fn_ (Nat.le_of_ble_eq_true h0) h
abbrev Dp (t k:Nat) (l:List (List V)):V:=.own t 0 k l
abbrev u_ (k:Nat) (l:List (List V)):V:=.lst k l
abbrev Af (l:List Ae):V:=.lst 3 (l.map Ad)
abbrev Aw (l:List Al):V:=.lst 2 (l.map Ao)
abbrev Ba (l:List As):V:=.lst 2 (l.map Ay)
abbrev Bh (l:List UInt8):V:=.lst 1 (l.map Bo)
abbrev Ar (t:Nat) (l:List Ae):V:=.own t 0 3 (l.map Ad)
abbrev Aa (t:Nat) (l:List Al):V:=.own t 0 2 (l.map Ao)
abbrev Ai (t:Nat) (l:List As):V:=.own t 0 2 (l.map Ay)
abbrev Bc (t:Nat) (l:List UInt8):V:=.own t 0 1 (l.map Bo)
abbrev Dg (w0:Nat→List (List V)→V) (x0:List UInt8) (x1:Int) (x2:Int):List V:=[w0 1 (x0.map Bo),iV x1,iV x2]
abbrev Bd (x:Av) (w0:Nat→List (List V)→V) (w1:Nat→List (List V)→V):List V:=[w0 1 (x.held.map Bo),w1 2 (x.Aq.map Ay)]
abbrev Bb (x0:List UInt8) (x1:List UInt8) (x2:Bool):List V:=[.str x0,.str x1,.bool x2]

/- loop.example/g00149/laws.samePairs -/
def rM:=[k_ 4 (.bool false)]
def rN:=[m_ 6 0,n_ 7 6,m_ 8 1,n_ 9 8,b_ .neq 10 7 9]
def rO:=[k_ 4 (.bool false)]
def rP:=[i_ 5 0]
def rQ:=[m_ 11 5,m_ 12 0,n_ 13 12,b_ .lss 14 11 13]
def rR:=tk [m_ 17 0,m_ 18 5,x_ 19 17 18 2,L_ 20 19 2,m_ 21 1,m_ 22 5,x_ 23 21 22 2,L_ 24 23 2,iQ 25 (.eqs true [2,2] (.t 20) (.t 24))] .fin
def rS:=[k_ 4 (.bool false)]
def rT:=[m_ 15 5,B_ .add 16 15 1,m_ 5 16]
def rL:IR:=(.seq (sr rQ (.ite (.t 14) .skip (.exit 0))) (.seq (.block 1 (sd rR (iz 25 (rr rS)))) (.reg rT)))
def rU:=[k_ 4 (.bool true)]
def UU:Dh:=⟨2,26,[.t 4],sr rM (.seq (sr rN (iz 10 (rr rO))) (.seq (sr rP (Li 0 rL)) (rr rU)))⟩
def PV (D:Bf):Prop:=∀a0 a1 r,mX a0 a1=some r→D 260 ⟨[Aw a0,Aw a1],[]⟩ ⟨.bool r,[],[]⟩
theorem ZA:PV (FO C UU):=by
 intro a0 a1 r h0
 refine f0 (Sc 3 [(0,Aw a0),(1,Aw a1)] [] (aG 3 (Ac (PJ rfl (st (Ag rfl tv (PJ rfl (o_ (Sc 2 [(0,Aw a0),(1,Aw a1),(10,.bool ((a0.length:Int) != (a1.length:Int)))] [] (OA h0 (fun c1 h0=>?_) (fun c1 h0=>?_)))))))))))
 ·obtain rfl:=sj h0
  exact eF 4
 ·refine Sc 6 [(0,Aw a0),(1,Aw a1),(5,iV 0)] [] (Be (bb h0 fun r22 e23 h0=>Cz (R:=(fun S=>.inl ()=r22∧S=⟨[],[],[]⟩)) (So a0 a1) (fun s S=>match s with | p8=>S=⟨[(0,Aw a0),(1,Aw a1),(5,iV p8)],[],[]⟩) e23 _ (Ak (by kernel_rfl)) rfl 0 (fun _=>rfl) ?_ ?_))
  ·rintro S _ hfg ⟨rfl,rfl⟩
   refine An _ hfg ?_
   obtain rfl:=sj h0
   exact eF 4
  ·rintro p8 o1 _ K1 rfl h1 hx1 hK1 hE1 hR1
   refine aG 4 (Ac (PJ rfl (o_ (Sc 2 [(0,Aw a0),(1,Aw a1),(5,iV p8),(14,.bool (decide (p8<(a0.length:Int))))] [] (OA h1 (fun c16 h1=>?_) (fun c16 h1=>?_))))))
   ·refine ra_ 5 (bb h1 fun y17 e18 h1=>bb h1 fun y19 e20 h1=>aG 2 (Ds (d_ (YU rfl rfl rfl e18 (aG 3 (Ds (d_ (YU rfl rfl rfl e20 (Sc 3 [(0,Aw a0),(1,Aw a1),(5,iV p8),(25,.bool (!((y17.key==y19.key)&&((y17.value==y19.value)&&true))))] [] (OA h1 (fun c21 h1=>?_) (fun c21 h1=>?_)))))))))))
    ·obtain rfl:=sj h1
     obtain rfl:=hx1 _ rfl
     obtain rfl:=sj h0
     exact rR_ 4 hR1
    ·refine aG 7 ?_
     obtain rfl:=sj h1
     exact kn hK1 rfl rfl
   ·obtain rfl:=sj h1
    obtain rfl:=hx1 _ rfl
    refine Ke rfl ?_
    exact jn hE1 ⟨rfl,rfl⟩

/- loop.example/g00149/spec.l00Source -/
def SU:=[iQ 2 (.mv (.c .undef))]
def SV:List Bi:=[m_ 3 0,m_ 4 0,n_ 5 4,B_ .rem 6 5 1000,⟨some 7,.p (.build [.own 449 0 1 [],iV 0,iV 0] [(0,1,.t 3),(2,1,.t 6)]),none⟩,X_ 8 7,m_ 2 8]
def c83:Dh:=⟨1,9,[.t 2],sr SU (rr SV)⟩
def K83 (D:Bf):Prop:=∀a0 r,g83 a0=some r→D 83 ⟨[Bh a0],[]⟩ ⟨.ptr 0 0,[Az r],[]⟩
theorem F83:K83 (FO C c83):=by
 intro a0 r h0
 refine f0 (Sc 3 [(0,Bh a0)] [] (aG 3 (Ac (PJ rfl (st (c_ (Aj ⟨tv,tv,tv⟩ rfl (by decide)) (st (c_ (v:=.agg (Dg u_ a0 0 (((a0.length:Int)).tmod 1000))) (Aj ⟨tv,tv,tv⟩ rfl ⟨⟨rfl,rfl,nl rfl⟩,⟨rfl,rfl,nl rfl⟩,tv⟩) (o_ ?_)))))))))
 obtain rfl:=sj h0
 exact eF 4

/- (*loop.example/g00149/spec.l00Src).byte -/
def rA:=[i_ 2 0]
def rB:=[m_ 3 0,iQ 4 (.nilc (.t 3)),f_ 5 4 1,l_ 6 5 1,B_ .add 7 6 1,iQ 8 (.nilc (.t 3)),f_ 9 8 1,s_ 9 7 1]
def rC:=tk [m_ 10 0,iQ 11 (.nilc (.t 10)),f_ 12 11 1,l_ 13 12 1,m_ 14 0,iQ 15 (.nilc (.t 14)),f_ 16 15 0,l_ 17 16 1,n_ 18 17,b_ .leq 19 13 18] .fin
def rD:=tk [m_ 20 0,m_ 21 0,iQ 22 (.nilc (.t 21)),f_ 23 22 2,l_ 24 23 1,B_ .mul 25 24 31,m_ 26 0,iQ 27 (.nilc (.t 26)),f_ 28 27 0,l_ 29 28 1,m_ 30 0,iQ 31 (.nilc (.t 30)),f_ 32 31 1,l_ 33 32 1,B_ .sub 34 33 1,x_ 35 29 34 1,l_ 36 35 1,iQ 37 (.conv .i64 (.t 36)),b_ .add 38 25 37,B_ .add 39 38 7,B_ .rem 40 39 2147483648,iQ 41 (.nilc (.t 20)),f_ 42 41 2] (.alt [] (s_ 42 40 1) .fin .stop)
def rE:=tk [m_ 43 0,iQ 44 (.nilc (.t 43)),f_ 45 44 0,l_ 46 45 1,m_ 47 0,iQ 48 (.nilc (.t 47)),f_ 49 48 1,l_ 50 49 1,B_ .sub 51 50 1,x_ 52 46 51 1,l_ 53 52 1,iQ 54 (.conv .i64 (.t 53)),m_ 2 54] .fin
def rF:=[m_ 55 0,iQ 56 (.nilc (.t 55)),f_ 57 56 1,l_ 58 57 1,B_ .gtr 59 58 3000]
def rG:=[i_ 2 0]
def rH:=[m_ 60 0,m_ 61 0,iQ 62 (.nilc (.t 61)),f_ 63 62 2,l_ 64 63 1,B_ .mul 65 64 1103515245,B_ .add 66 65 12345,B_ .rem 67 66 2147483648,iQ 68 (.nilc (.t 60)),f_ 69 68 2,s_ 69 67 1]
def rI:=[m_ 70 0,iQ 71 (.nilc (.t 70)),f_ 72 71 2,l_ 73 72 1,B_ .quo 74 73 65536,B_ .rem 75 74 256,m_ 2 75]
def US:Dh:=⟨1,76,[.t 2],sr rA (sr rB (.seq (sd rC (iz 19 (sd rD (sd rE .ret)))) (.seq (sr rF (iz 59 (rr rG))) (sr rH (rr rI)))))⟩
def PT (D:Bf):Prop:=∀a0 r,bJ a0=some r→D 139 ⟨[.ptr 1048576 0],[Az a0]⟩ ⟨iV r.1,[Az r.2],[]⟩
theorem YY:PT (FO C US):=by
 intro a0 r h0
 refine f0 (Sc 14 [(0,.ptr 1048576 0)] [(1048576,Dg u_ a0.code_ (wi (a0.at_+1)) a0.Fp)] (Ab (Ab (Ds (Ah tv (Ag rfl tv (⟨tv,Ah tv (c_ (Aj ⟨tv,tv⟩ rfl tv) (⟨tv,Ah tv (c_ (Aj ⟨tv,tv⟩ rfl tv) (⟨tv,Ah tv (c_ (Aj ⟨tv,tv⟩ rfl (nl rfl)) (⟨tv,Ah tv (Ag rfl tv (⟨tv,?_⟩))⟩))⟩))⟩))⟩)))))))
 refine Ah tv (c_ (Aj ⟨tv,tv⟩ rfl tv) (⟨tv,Ah tv (c_ (Aj ⟨tv,tv⟩ rfl tv) (⟨tv,Ah tv (c_ (Aj ⟨tv,tv⟩ rfl (nl rfl)) (⟨tv,Ah tv (c_ (Cg (e:=Bo) (l0:=a0.code_) rfl rfl tv) (⟨tv,d_ (Sc 2 [(0,.ptr 1048576 0),(19,.bool (decide ((wi (a0.at_+1))≤(a0.code_.length:Int))))] [(1048576,Dg u_ a0.code_ (wi (a0.at_+1)) a0.Fp)] (OA h0 (fun c1 h0=>?_) (fun c1 h0=>?_)))⟩))⟩))⟩))⟩))
 ·refine Ab (bb h0 fun y2 e3 h0=>Ds (Ah tv (Ag rfl tv (⟨tv,Ah tv (Ag rfl tv (⟨tv,Ah tv (c_ (Aj ⟨tv,tv⟩ rfl tv) (⟨tv,Ah tv (c_ (Aj ⟨tv,tv⟩ rfl tv) (⟨tv,Ah tv (c_ (Aj ⟨tv,tv⟩ rfl (nl rfl)) (⟨tv,Ah tv (c_ (Aj t3 rfl tv) (⟨tv,Ah tv (Ag rfl tv (⟨tv,Ah tv (c_ (Aj ⟨tv,tv⟩ rfl tv) (⟨tv,Ah tv (c_ (Aj ⟨tv,tv⟩ rfl tv) (⟨tv,Ah tv (c_ (Aj ⟨tv,tv⟩ rfl (nl rfl)) (⟨tv,Ah tv (Ag rfl tv (⟨tv,Ah tv (c_ (Aj ⟨tv,tv⟩ rfl tv) (⟨tv,Ah tv (c_ (Aj ⟨tv,tv⟩ rfl tv) (⟨tv,Ah tv (c_ (Aj ⟨tv,tv⟩ rfl (nl rfl)) (⟨tv,Ah tv (c_ (Aj t3 rfl tv) (⟨tv,?_⟩))⟩))⟩))⟩))⟩))⟩))⟩))⟩))⟩))⟩))⟩))⟩))⟩))⟩))⟩))))
  refine d_ (YU rfl rfl rfl e3 (Ds (Ah tv (c_ (Aj ⟨tv,tv⟩ rfl (nl rfl)) (⟨tv,Ah tv (c_ (Aj ⟨tv,tv⟩ rfl tv) (⟨tv,Ah tv (c_ (Aj t3 rfl tv) (⟨tv,Ah tv (c_ (Aj t3 rfl tv) (⟨tv,Ah tv (c_ (Aj ⟨tv,tv,tv⟩ rfl (by decide)) (⟨tv,Ah tv (c_ (Aj ⟨tv,tv⟩ rfl tv) (⟨tv,Ah tv (c_ (Aj ⟨tv,tv⟩ rfl tv) (⟨tv,Fm (El rfl rfl tv rfl rfl rfl (nl rfl) (d0 tv (Iu (bv h0 fun v4 e5 h0=>An ⟨[(0,.ptr 1048576 0)],[(1048576,Dg u_ a0.code_ (wi (a0.at_+1)) v4)],[]⟩ (Ak (by subst e5; kernel_rfl)) (Ab (bb h0 fun y6 e7 h0=>Ds (Ah tv (Ag rfl tv (⟨tv,Ah tv (c_ (Aj ⟨tv,tv⟩ rfl tv) (⟨tv,Ah tv (c_ (Aj ⟨tv,tv⟩ rfl tv) (⟨tv,Ah tv (c_ (Aj ⟨tv,tv⟩ rfl (nl rfl)) (⟨tv,Ah tv (Ag rfl tv (⟨tv,Ah tv (c_ (Aj ⟨tv,tv⟩ rfl tv) (⟨tv,Ah tv (c_ (Aj ⟨tv,tv⟩ rfl tv) (⟨tv,Ah tv (c_ (Aj ⟨tv,tv⟩ rfl (nl rfl)) (⟨tv,Ah tv (c_ (Aj t3 rfl tv) (⟨tv,d_ (YU rfl rfl rfl e7 (Ds (d_ ?_)))⟩))⟩))⟩))⟩))⟩))⟩))⟩))⟩))⟩))))))))) Dl⟩))⟩))⟩))⟩))⟩))⟩))⟩)))))
  obtain rfl:=sj h0
  exact eF 5
 ·refine Sc 10 [(0,.ptr 1048576 0),(59,.bool (decide ((wi (a0.at_+1))>3000)))] [(1048576,Dg u_ a0.code_ (wi (a0.at_+1)) a0.Fp)] (OA h0 (fun c8 h0=>?_) (fun c8 h0=>?_))
  ·obtain rfl:=sj h0
   exact eF 4
  ·refine Dn (cF (Ab (Ac (st (Ag rfl tv (st (Ag rfl tv (st (c_ (Aj ⟨tv,tv⟩ rfl tv) (st (c_ (Aj ⟨tv,tv⟩ rfl tv) (st (c_ (Aj ⟨tv,tv⟩ rfl (nl rfl)) (st (c_ (Aj t3 rfl tv) (st (c_ (Aj t3 rfl tv) (st (c_ (Aj ⟨tv,tv,tv⟩ rfl (by decide)) (st (c_ (Aj ⟨tv,tv⟩ rfl tv) (st (c_ (Aj ⟨tv,tv⟩ rfl tv) (st (El rfl rfl tv rfl rfl rfl (nl rfl) (At (bv h0 fun v9 e10 h0=>An ⟨[(0,.ptr 1048576 0)],[(1048576,Dg u_ a0.code_ (wi (a0.at_+1)) v9)],[]⟩ (Ak (by subst e10; kernel_rfl)) (Ab (Ac (st (Ag rfl tv (st (c_ (Aj ⟨tv,tv⟩ rfl tv) (st (c_ (Aj ⟨tv,tv⟩ rfl tv) (st (c_ (Aj ⟨tv,tv⟩ rfl (nl rfl)) (st (c_ (Aj ⟨tv,tv,tv⟩ rfl (by decide)) (st (c_ (Aj ⟨tv,tv,tv⟩ rfl (by decide)) (o_ ?_))))))))))))))))))))))))))))))))))))))))))
   obtain rfl:=sj h0
   exact eF 3

/- (*loop.example/g00149/spec.l00Src).next -/
def qN:=[i_ 4 0]
def qO:=[m_ 8 1,B_ .leq 9 8 1]
def qP:=[i_ 4 0]
def qQ:=[m_ 10 1,B_ .leq 11 10 256]
def qR:=[m_ 12 0,q_ 13 139 [.t 12],m_ 14 1,b_ .rem 15 13 14,m_ 4 15]
def qS:=[m_ 16 0,q_ 17 139 [.t 16],m_ 5 17]
def qT:=[m_ 18 0,q_ 19 139 [.t 18],m_ 6 19]
def qU:=[m_ 20 0,q_ 21 139 [.t 20],m_ 7 21]
def qV:=[m_ 22 5,B_ .mul 23 22 65536,m_ 24 6,B_ .mul 25 24 256,b_ .add 26 23 25,m_ 27 7,b_ .add 28 26 27,m_ 29 1,b_ .rem 30 28 29,m_ 4 30]
def UP:Dh:=⟨2,31,[.t 4],sr qN (.seq (sr qO (iz 9 (rr qP))) (.seq (sr qQ (iz 11 (rr qR))) (sr qS (sr qT (sr qU (rr qV))))))⟩
def eT (D:Bf):Prop:=∀a0 a1 r,bI a0 a1=some r→D 117 ⟨[.ptr 1048576 0,iV a1],[Az a0]⟩ ⟨iV r.1,[Az r.2],[]⟩
theorem YV (H139:PT C):eT (FO C UP):=by
 intro a0 a1 r h0
 refine f0 (Sc 9 [(0,.ptr 1048576 0),(1,iV a1),(9,.bool (decide (a1≤1)))] [(1048576,Az a0)] (OA h0 (fun c1 h0=>?_) (fun c1 h0=>?_)))
 ·obtain rfl:=sj h0
  exact eF 4
 ·refine Sc 7 [(0,.ptr 1048576 0),(1,iV a1),(11,.bool (decide (a1≤256)))] [(1048576,Az a0)] (OA h0 (fun c2 h0=>?_) (fun c2 h0=>?_))
  ·refine Ab (Ac (st (Ag rfl tv (bb h0 fun r3 e4 h0=>VF [1048576] [] [] (H139 a0 r3 e4) (st (Ag rfl tv (gg h0 fun c5 h0=>st (c_ (Aj ⟨tv,tv,tv⟩ rfl c5) (o_ ?_)))))))))
   obtain rfl:=sj h0
   exact eF 3
  ·refine aG 4 (Ac (bb h0 fun r6 e7 h0=>VF [1048576] [] [] (H139 a0 r6 e7) (o_ (Sc 2 [(0,.ptr 1048576 0),(1,iV a1),(5,iV r6.1)] [(1048576,Az r6.2)] (Ab (Ac (st (Ag rfl tv (bb h0 fun r8 e9 h0=>VF [1048576] [] [] (H139 r6.2 r8 e9) (o_ (Sc 2 [(0,.ptr 1048576 0),(1,iV a1),(5,iV r6.1),(6,iV r8.1)] [(1048576,Az r8.2)] (Ab (Ac (st (Ag rfl tv (bb h0 fun r10 e11 h0=>VF [1048576] [] [] (H139 r8.2 r10 e11) (o_ (Sc 2 [(1,iV a1),(5,iV r6.1),(6,iV r8.1),(7,iV r10.1)] [(1048576,Az r10.2)] (aG 9 (Ac (gg h0 fun c12 h0=>st (c_ (Aj ⟨tv,tv,tv⟩ rfl c12) (st (Ag rfl tv (At (bv h0 fun v13 e14 h0=>An ⟨[(4,iV v13)],[(1048576,Az r10.2)],[]⟩ (Ak (by subst e14; kernel_rfl)) ?_))))))))))))))))))))))))))
   obtain rfl:=sj h0
   exact Cr (Bj rfl rfl rfl rfl rfl tv)

/- (*loop.example/g00149/spec.l00Src).size -/
def qW:=[i_ 4 0]
def qX:List Bi:=[m_ 5 0,iQ 6 (.nilc (.t 5)),f_ 7 6 0,l_ 8 7 1,n_ 9 8,B_ .quo 10 9 12,⟨some 11,.p (.bin .add (.c (iV 1)) (.t 10)),none⟩,m_ 12 1,iQ 13 (.mn (.t 11) (.t 12)),m_ 4 13]
def UQ:Dh:=⟨2,14,[.t 4],sr qW (rr qX)⟩
def PR (D:Bf):Prop:=∀a0 a1 r,KS a0 a1=some r→D 118 ⟨[.iptr (Az a0),iV a1],[]⟩ ⟨iV r,[],[]⟩
theorem YW:PR (FO C UQ):=by
 intro a0 a1 r h0
 refine f0 (Sc 3 [(0,.iptr (Az a0)),(1,iV a1)] [] (aG 5 (Ac (PJ rfl (st (c_ (Aj ⟨tv,tv,tv⟩ rfl (by decide)) (o_ (aG 5 (bv h0 fun v1 e2 h0=>An ⟨[(4,iV v1)],[],[]⟩ (Ak (by subst e2; kernel_rfl)) ?_)))))))))
 obtain rfl:=sj h0
 exact Cr (Bj rfl rfl rfl rfl rfl tv)

/- (*loop.example/g00149/spec.l00Src).chance -/
def qY:=[k_ 4 (.bool false)]
def qZ:=[m_ 5 0,m_ 6 1,q_ 7 117 [.t 5,.t 6],m_ 8 1,B_ .sub 9 8 1,b_ .eql 10 7 9,m_ 4 10]
def UR:Dh:=⟨2,11,[.t 4],sr qY (rr qZ)⟩
def PS (D:Bf):Prop:=∀a0 a1 r,KU a0 a1=some r→D 119 ⟨[.ptr 1048576 0,iV a1],[Az a0]⟩ ⟨.bool r.1,[Az r.2],[]⟩
theorem YX (H117:eT C):PS (FO C UR):=by
 intro a0 a1 r h0
 refine f0 (Sc 3 [(0,.ptr 1048576 0),(1,iV a1)] [(1048576,Az a0)] (aG 3 (Ac (bb h0 fun r1 e2 h0=>VF [1048576] [] [] (H117 a0 a1 r1 e2) (o_ ?_)))))
 obtain rfl:=sj h0
 exact eF 6

/- (*loop.example/g00149/spec.l00Src).pick -/
def JM:=[k_ 4 (.str [])]
def JN:=[m_ 5 1,n_ 6 5,B_ .eql 7 6 0]
def JO:=[k_ 4 (.str [])]
def JP:=[m_ 8 1,m_ 9 0,m_ 10 1,n_ 11 10,q_ 12 117 [.t 9,.t 11],x_ 13 8 12 1,l_ 14 13 1,m_ 4 14]
def XP:Dh:=⟨2,15,[.t 4],sr JM (.seq (sr JN (iz 7 (rr JO))) (rr JP))⟩
def SD (D:Bf):Prop:=∀a0 a1 r,bR a0 a1=some r→D 423 ⟨[.ptr 1048576 0,.lst 1 (a1.map eS)],[Az a0]⟩ ⟨.str r.1,[Az r.2],[]⟩
theorem AaR (H117:eT C):SD (FO C XP):=by
 intro a0 a1 r h0
 refine f0 (Ab (Ac (st (Bg tv (At (An ⟨[(0,.ptr 1048576 0),(1,.lst 1 (a1.map eS))],[(1048576,Az a0)],[]⟩ (Ak (by kernel_rfl)) (Ab (Ab (Ac (st (Ag rfl tv (st (c_ (Cg (e:=eS) (l0:=a1) rfl rfl tv) (st (c_ (Aj t3 rfl tv) (At (An ⟨[(0,.ptr 1048576 0),(1,.lst 1 (a1.map eS)),(7,.bool ((a1.length:Int)==0))],[(1048576,Az a0)],[]⟩ (Ak (by kernel_rfl)) (Bs (cb:=((a1.length:Int)==0)) rfl (fun c1=>?_) (fun c1=>?_)))))))))))))))))))
 ·replace h0:=ip c1 h0
  refine Ab (Ac (st (Bg tv (At (An ⟨[(4,.str ([]:List UInt8))],[(1048576,Az a0)],[]⟩ (Ak (by kernel_rfl)) ?_)))))
  obtain rfl:=sj h0
  exact Cr (Bj rfl rfl rfl rfl rfl tv)
 ·replace h0:=Do c1 h0
  refine Dn (An ⟨[(0,.ptr 1048576 0),(1,.lst 1 (a1.map eS))],[(1048576,Az a0)],[]⟩ (Ak (by kernel_rfl)) (Ab (Ac (st (Ag rfl tv (st (Ag rfl tv (st (Ag rfl tv (st (c_ (Cg (e:=eS) (l0:=a1) rfl rfl tv) ?_)))))))))))
  obtain ⟨r2,e3,h0⟩:=bnd h0
  refine st (Gm [1048576] [] [] true (H117 a0 (a1.length:Int) r2 e3) ⟨tv,tv,tv⟩ (by kernel_rfl) (by kernel_rfl) (by kernel_rfl) (by kernel_rfl) (fun h=>nomatch h) ?_)
  obtain ⟨y4,e5,h0⟩:=bnd h0
  refine sw ⟨[(8,.lst 1 (a1.map eS)),(12,iV r2.1)],[(1048576,Az r2.2)],[]⟩ (Ak (by kernel_rfl)) (c_ (Eb (e:=eS) (y:=y4) rfl rfl tv rfl rfl tv e5) (st (c_ (Aj ⟨tv,tv⟩ rfl (nl rfl)) (st (Ag rfl tv (At (An ⟨[(4,.str y4)],[(1048576,Az r2.2)],[]⟩ (Ak (by kernel_rfl)) ?_)))))))
  obtain rfl:=sj h0
  exact Cr (Bj rfl rfl rfl rfl rfl tv)

/- (*loop.example/g00149/spec.l00Src).change -/
def GQ:=[a_ 2 [.str [],.str [],.bool false]]
def GR:List Bi:=[m_ 4 0,⟨some 5,.mkS 1 [.str []] 6 [(0,.c (.str [97])),(1,.c (.str [98])),(2,.c (.str [108,101,97,115,101,47,49])),(3,.c (.str [108,101,97,115,101,47,50])),(4,.c (.str [114,111,108,101,47,120])),(5,.c (.str [122]))],none⟩,q_ 6 423 [.t 4,.t 5],m_ 7 0,⟨some 8,.mkS 1 [.str []] 4 [(0,.c (.str [])),(1,.c (.str [49])),(2,.c (.str [116,119,111])),(3,.c (.str [116,104,114,101,101]))],none⟩,q_ 9 423 [.t 7,.t 8],⟨some 10,.p (.build [.str [],.str [],.bool false] [(0,1,.t 6),(1,1,.t 9)]),none⟩,a_ 3 [.str [],.str [],.bool false],s_ 3 10 3]
def GS:=[m_ 11 0,q_ 12 119 [.t 11,.c (iV 4)]]
def GT:List Bi:=[f_ 13 3 2,⟨none,.store (.t 13) (.c (.bool true)) 1,none⟩]
def GU:List Bi:=[f_ 14 3 1,⟨none,.store (.t 14) (.c (.str [])) 1,none⟩]
def GV:=[L_ 15 3 3,s_ 2 15 3]
def XE:Dh:=⟨1,16,[.cell 2 3 true],sr GQ (sr GR (.seq (sr GS (iz 12 (sr GT (.reg GU)))) (rr GV)))⟩
def RN (D:Bf):Prop:=∀a0 r,NG a0=some r→D 412 ⟨[.ptr 1048576 0],[Az a0]⟩ ⟨.agg (Ad r.1),[Az r.2],[]⟩
theorem AaG (H119:PS C) (H423:SD C):RN (FO C XE):=by
 intro a0 r h0
 refine f0 (Ab (Ac (st (Dt (At (An ⟨[(0,.ptr 1048576 0),(2,.ptr 128 0)],[(128,Bb ([]:List UInt8) ([]:List UInt8) false),(1048576,Az a0)],[]⟩ (Ak (by kernel_rfl)) (Ab (Ac (st (Ag rfl tv (st (Fk ⟨tv,tv,tv,tv,tv,tv,tv⟩ ⟨⟨nl rfl,rfl,rfl⟩,⟨nl rfl,rfl,rfl⟩,⟨nl rfl,rfl,rfl⟩,⟨nl rfl,rfl,rfl⟩,⟨nl rfl,rfl,rfl⟩,⟨nl rfl,rfl,rfl⟩,tv⟩ ?_))))))))))))
 obtain ⟨r1,e2,h0⟩:=bnd h0
 refine st (Gm [1048576] [] [] true (H423 a0 ([([97]:List UInt8),([98]:List UInt8),([108,101,97,115,101,47,49]:List UInt8),([108,101,97,115,101,47,50]:List UInt8),([114,111,108,101,47,120]:List UInt8),([122]:List UInt8)]:List (List UInt8)) r1 e2) ⟨tv,tv,tv⟩ (by kernel_rfl) (by kernel_rfl) (by kernel_rfl) (by kernel_rfl) (fun h=>nomatch h) (sw ⟨[(0,.ptr 1048576 0),(2,.ptr 128 0),(6,.str r1.1)],[(128,Bb ([]:List UInt8) ([]:List UInt8) false),(1048576,Az r1.2)],[]⟩ (Ak (by kernel_rfl)) (Ag rfl tv (st (Fk ⟨tv,tv,tv,tv,tv⟩ ⟨⟨nl rfl,rfl,rfl⟩,⟨nl rfl,rfl,rfl⟩,⟨nl rfl,rfl,rfl⟩,⟨nl rfl,rfl,rfl⟩,tv⟩ ?_)))))
 obtain ⟨r3,e4,h0⟩:=bnd h0
 refine st (Gm [1048576] [] [] true (H423 r1.2 ([([]:List UInt8),([49]:List UInt8),([116,119,111]:List UInt8),([116,104,114,101,101]:List UInt8)]:List (List UInt8)) r3 e4) ⟨tv,tv,tv⟩ (by kernel_rfl) (by kernel_rfl) (by kernel_rfl) (by kernel_rfl) (fun h=>nomatch h) (sw ⟨[(0,.ptr 1048576 0),(2,.ptr 128 0),(6,.str r1.1),(9,.str r3.1)],[(128,Bb ([]:List UInt8) ([]:List UInt8) false),(1048576,Az r3.2)],[]⟩ (Ak (by kernel_rfl)) (c_ (v:=.agg (Bb r1.1 r3.1 false)) (Aj ⟨tv,tv,tv⟩ rfl ⟨⟨rfl,rfl,nl rfl⟩,⟨rfl,rfl,nl rfl⟩,tv⟩) (st (Dt (st (El rfl rfl tv rfl rfl rfl (nl rfl) (At (An ⟨[(0,.ptr 1048576 0),(2,.ptr 128 0),(3,.ptr 192 0)],[(128,Bb ([]:List UInt8) ([]:List UInt8) false),(192,Bb r1.1 r3.1 false),(1048576,Az r3.2)],[]⟩ (Ak (by kernel_rfl)) (Ab (Ab (Ac (st (Ag rfl tv ?_))))))))))))))
 obtain ⟨r5,e6,h0⟩:=bnd h0
 refine st (Gm [1048576] [] [] true (H119 r3.2 4 r5 e6) ⟨tv,tv,tv⟩ (by kernel_rfl) (by kernel_rfl) (by kernel_rfl) (by kernel_rfl) (fun h=>nomatch h) (At (An ⟨[(2,.ptr 128 0),(3,.ptr 192 0),(12,.bool r5.1)],[(128,Bb ([]:List UInt8) ([]:List UInt8) false),(192,Bb r1.1 r3.1 false),(1048576,Az r5.2)],[]⟩ (Ak (by kernel_rfl)) (Zt (cb:=r5.1) (fun S=>∃p8:List UInt8,∃p9:Bool,S=⟨[(2,.ptr 128 0),(3,.ptr 192 0)],[(128,Bb ([]:List UInt8) ([]:List UInt8) false),(192,Bb r1.1 p8 p9),(1048576,Az r5.2)],[]⟩∧Xr r1 r5 p8 p9=some r) rfl ?_ (fun c11 J10=>?_) (fun c11 J10=>?_)))))
 ·rintro _ ⟨p8,p9,rfl,h0⟩
  refine An ⟨[(2,.ptr 128 0),(3,.ptr 192 0)],[(128,Bb ([]:List UInt8) ([]:List UInt8) false),(192,Bb r1.1 p8 p9),(1048576,Az r5.2)],[]⟩ (Ak (by kernel_rfl)) (Ab (Ac (st (c_ (v:=.agg (Bb r1.1 p8 p9)) (Aj ⟨tv,tv⟩ rfl (nl rfl)) (st (El rfl rfl tv rfl rfl rfl (nl rfl) (At (An ⟨[(2,.ptr 128 0)],[(128,Bb r1.1 p8 p9),(1048576,Az r5.2)],[]⟩ (Ak (by kernel_rfl)) ?_))))))))
  obtain rfl:=sj h0
  exact Cr (Bj rfl rfl rfl rfl rfl tv)
 ·replace h0:=ip c11 h0
  refine Ab (Ac (st (c_ (Aj ⟨tv,tv⟩ rfl tv) (st (El rfl rfl tv rfl rfl rfl (nl rfl) (At (An ⟨[(2,.ptr 128 0),(3,.ptr 192 0)],[(128,Bb ([]:List UInt8) ([]:List UInt8) false),(192,Bb r1.1 r3.1 true),(1048576,Az r5.2)],[]⟩ (Ak (by kernel_rfl)) (Ac (st (c_ (Aj ⟨tv,tv⟩ rfl tv) (st (El rfl rfl tv rfl rfl rfl (nl rfl) (At ?_)))))))))))))
  exact J10 _ ⟨[(2,.ptr 128 0),(3,.ptr 192 0)],[(128,Bb ([]:List UInt8) ([]:List UInt8) false),(192,Bb r1.1 ([]:List UInt8) true),(1048576,Az r5.2)],[]⟩ (Ak (by kernel_rfl)) ⟨_,_,rfl,h0⟩
 ·replace h0:=Do c11 h0
  refine Dn ?_
  exact J10 _ ⟨[(2,.ptr 128 0),(3,.ptr 192 0)],[(128,Bb ([]:List UInt8) ([]:List UInt8) false),(192,Bb r1.1 r3.1 false),(1048576,Az r5.2)],[]⟩ (Ak (by kernel_rfl)) ⟨_,_,rfl,h0⟩

/- (*loop.example/g00149/spec.l00Src).batch -/
def CD:List Bi:=[⟨some 2,.nilS 3,none⟩]
def CE:List Bi:=[⟨some 5,.mkS 3 [.str [],.str [],.bool false] 0 [],none⟩,m_ 3 5]
def CF:=[m_ 6 0,q_ 7 117 [.t 6,.c (iV 5)],m_ 4 7]
def CG:=[m_ 8 4,B_ .gtr 9 8 0]
def CH:List Bi:=[m_ 12 3,m_ 13 0,q_ 14 412 [.t 13],⟨some 15,.mkS 3 [.str [],.str [],.bool false] 1 [(0,.t 14)],none⟩,⟨some 16,.app 3 40 (.t 12) (.t 15),none⟩,m_ 3 16]
def CI:=[m_ 10 4,B_ .sub 11 10 1,m_ 4 11]
def CC:IR:=(.seq (sr CG (.ite (.t 9) .skip (.exit 0))) (.seq (.block 1 (.reg CH)) (.reg CI)))
def CJ:=[m_ 17 3,m_ 2 17]
def WN:Dh:=⟨1,18,[.t 2],sr CD (sr CE (.seq (sr CF (Li 0 CC)) (rr CJ)))⟩
def RE (D:Bf):Prop:=∀a0 r,MS a0=some r→D 392 ⟨[.ptr 1048576 0],[Az a0]⟩ ⟨Ar 0 r.1,[Az r.2],[]⟩
theorem Aaq (H117:eT C) (H412:RN C):RE (FO C WN):=by
 intro a0 r h0
 refine f0 (Ab (Ac (st (Bw (At (An ⟨[(0,.ptr 1048576 0)],[(1048576,Az a0)],[]⟩ (Ak (by kernel_rfl)) (Ab (Ac (st (Fk tv tv (st (Ag rfl tv (At (An ⟨[(0,.ptr 1048576 0),(3,Ar 320 [])],[(1048576,Az a0)],[]⟩ (Ak (by kernel_rfl)) (Ab (Ab (Ac (st (Ag rfl tv ?_)))))))))))))))))))
 obtain ⟨r1,e2,h0⟩:=bnd h0
 refine st (Gm [1048576] [] [] true (H117 a0 5 r1 e2) ⟨tv,tv,tv⟩ (by kernel_rfl) (by kernel_rfl) (by kernel_rfl) (by kernel_rfl) (fun h=>nomatch h) (sw ⟨[(0,.ptr 1048576 0),(3,Ar 320 []),(7,iV r1.1)],[(1048576,Az r1.2)],[]⟩ (Ak (by kernel_rfl)) (Ag rfl tv (At (An ⟨[(0,.ptr 1048576 0),(3,Ar 320 []),(4,iV r1.1)],[(1048576,Az r1.2)],[]⟩ (Ak (by kernel_rfl)) (Be ?_))))))
 obtain ⟨r29,e30,h0⟩:=bnd h0
 refine Cz (R:=(fun S=>∃p21:List Ae,∃p22:List UInt8,∃p23:Int,∃p24:Int,(p21,p22,p23,p24)=r29∧S=⟨[(3,Ar 320 p21)],[(1048576,Dg u_ p22 p23 p24)],[]⟩)) (Sv) (fun s S=>match s with | (p7,p8,p9,p10,p11)=>S=⟨[(0,.ptr 1048576 0),(3,Ar 320 p7),(4,iV p8)],[(1048576,Dg u_ p9 p10 p11)],[]⟩) e30 ⟨[(0,.ptr 1048576 0),(3,Ar 320 []),(4,iV r1.1)],[(1048576,Az r1.2)],[]⟩ (Ak (by kernel_rfl)) rfl 0 (fun _=>rfl) ?_ ?_
 ·rintro S _ hfg ⟨p21,p22,p23,p24,rfl,rfl⟩
  refine An ⟨[(3,Ar 320 p21)],[(1048576,Dg u_ p22 p23 p24)],[]⟩ (Ft hfg (by kernel_rfl)) (Ab (Ac (st (Ag rfl tv (st (Ag rfl tv (At (An ⟨[(2,Ar 320 p21)],[(1048576,Dg u_ p22 p23 p24)],[]⟩ (Ak (by kernel_rfl)) ?_))))))))
  obtain rfl:=sj h0
  exact Cr (Bj rfl rfl rfl rfl rfl tv)
 ·rintro ⟨p7,p8,p9,p10,p11⟩ o1 _ K1 rfl h1 hx1 hK1 hE1 hR1
  refine Ab (Ab (Ac (st (Ag rfl tv (st (c_ (Aj t3 rfl tv) (At (An ⟨[(0,.ptr 1048576 0),(3,Ar 320 p7),(4,iV p8),(9,.bool (decide (p8>0)))],[(1048576,Dg u_ p9 p10 p11)],[]⟩ (Ak (by kernel_rfl)) (Bs (cb:=(decide (p8>0))) rfl (fun c25=>?_) (fun c25=>?_))))))))))
  ·replace h1:=ip c25 h1
   refine Dn (An ⟨[(0,.ptr 1048576 0),(3,Ar 320 p7),(4,iV p8)],[(1048576,Dg u_ p9 p10 p11)],[]⟩ (Ak (by kernel_rfl)) (Ab (Be (Ac (st (Ag rfl tv (st (Ag rfl tv ?_))))))))
   obtain ⟨r26,e27,h1⟩:=bnd h1
   refine st (Gm [1048576] [] [] true (H412 (Bp.mk p9 p10 p11) r26 e27) ⟨tv,tv⟩ (by kernel_rfl) (by kernel_rfl) (by kernel_rfl) (by kernel_rfl) (fun h=>nomatch h) (sw ⟨[(0,.ptr 1048576 0),(4,iV p8),(12,Ar 320 p7),(14,.agg (Ad r26.1))],[(1048576,Az r26.2)],[]⟩ (Ak (by kernel_rfl)) (Fk ⟨tv,tv⟩ ⟨⟨nl rfl,rfl,rfl⟩,tv⟩ ?_)))
   obtain ⟨c28,h1⟩:=Kq h1
   refine st (Hc (e:=Ad) (l0:=p7) (l1:=([r26.1]:List Ae)) rfl rfl tv rfl (by decide) c28 (st (Ag rfl tv (At (It (An ⟨[(0,.ptr 1048576 0),(3,Ar 320 (p7++([r26.1]:List Ae))),(4,iV p8)],[(1048576,Az r26.2)],[]⟩ (Ak (by kernel_rfl)) (Ac (st (Ag rfl tv (st (c_ (Aj t3 rfl tv) (st (Ag rfl tv (At ?_))))))))))))))
   obtain rfl:=sj h1
   exact hK1 _ rfl _ ⟨[(0,.ptr 1048576 0),(3,Ar 320 (p7++([r26.1]:List Ae))),(4,iV (wi (p8-1)))],[(1048576,Az r26.2)],[]⟩ (Ak (by kernel_rfl)) rfl
  ·replace h1:=Do c25 h1
   obtain rfl:=sj h1
   obtain rfl:=hx1 _ rfl
   refine Ke rfl ?_
   exact hE1 _ ⟨[(3,Ar 320 p7)],[(1048576,Dg u_ p9 p10 p11)],[]⟩ (Ak (by kernel_rfl)) ⟨_,_,_,_,rfl,rfl⟩

/- loop.example/g00149/spec.BatchesOf -/
def AA:List Bi:=[⟨some 2,.nilS 1,none⟩]
def AB:=[m_ 6 0,q_ 7 83 [.t 6],m_ 3 7]
def AC:List Bi:=[⟨some 8,.mkS 1 [.lst 3 []] 0 [],none⟩,m_ 4 8]
def AD:=[m_ 9 3,m_ 10 3,q_ 11 118 [.t 10,.c (iV 5)],B_ .add 12 11 2,q_ 13 117 [.t 9,.t 12],m_ 5 13]
def AE:=[m_ 14 5,B_ .gtr 15 14 0]
def AF:List Bi:=[m_ 18 4,m_ 19 3,q_ 20 392 [.t 19],⟨some 21,.mkS 1 [.lst 3 []] 1 [(0,.t 20)],none⟩,⟨some 22,.app 1 24 (.t 18) (.t 21),none⟩,m_ 4 22]
def AG:=[m_ 16 5,B_ .sub 17 16 1,m_ 5 17]
def zZ:IR:=(.seq (sr AE (.ite (.t 15) .skip (.exit 0))) (.seq (.block 1 (.reg AF)) (.reg AG)))
def AH:=[m_ 23 4,m_ 2 23]
def WE:Dh:=⟨1,24,[.t 2],sr AA (sr AB (sr AC (.seq (sr AD (Li 0 zZ)) (rr AH))))⟩
def QT (D:Bf):Prop:=∀a0 r,MH a0=some r→D 379 ⟨[Bh a0],[]⟩ ⟨.own 0 0 1 (r.map (eL 3 Ad)),[],[]⟩
theorem Aai (H83:K83 C) (H117:eT C) (H118:PR C) (H392:RE C):QT (FO C WE):=by
 intro a0 r h0
 refine f0 (Ab (Ac (st (Bw (At (An ⟨[(0,Bh a0)],[],[]⟩ (Ak (by kernel_rfl)) (Ab (Ac (st (Ag rfl tv ?_))))))))))
 obtain ⟨r1,e2,h0⟩:=bnd h0
 refine st (Gm [] [] [] true (H83 a0 r1 e2) ⟨tv,tv⟩ (by kernel_rfl) (by kernel_rfl) (by kernel_rfl) (by kernel_rfl) (fun h=>nomatch h) (sw ⟨[(7,.ptr 448 0)],[(448,Az r1)],[]⟩ (Ak (by kernel_rfl)) (Ag rfl tv (At (An ⟨[(3,.ptr 448 0)],[(448,Az r1)],[]⟩ (Ak (by kernel_rfl)) (Ab (Ac (st (Fk tv tv (st (Ag rfl tv (At (An ⟨[(3,.ptr 448 0),(4,.own 512 0 1 (([]:List (List Ae)).map (eL 3 Ad)))],[(448,Az r1)],[]⟩ (Ak (by kernel_rfl)) (Ab (Ab (Ac (st (Ag rfl tv (st (Ag rfl tv ?_))))))))))))))))))))
 obtain ⟨r3,e4,h0⟩:=bnd h0
 refine st (Ax (r:=iV r3) false (H118 r1 5 r3 e4) ⟨tv,tv,tv⟩ rfl rfl (fun _=>rfl) (st (c_ (Aj t3 rfl tv) ?_)))
 obtain ⟨r5,e6,h0⟩:=bnd h0
 refine sw ⟨[(3,.ptr 448 0),(4,.own 512 0 1 (([]:List (List Ae)).map (eL 3 Ad))),(9,.ptr 448 0),(12,iV (wi (r3+2)))],[(448,Az r1)],[]⟩ (Ak (by kernel_rfl)) (Gm [448] [] [] true (H117 r1 (wi (r3+2)) r5 e6) ⟨tv,tv,tv⟩ (by kernel_rfl) (by kernel_rfl) (by kernel_rfl) (by kernel_rfl) (fun h=>nomatch h) (sw ⟨[(3,.ptr 448 0),(4,.own 512 0 1 (([]:List (List Ae)).map (eL 3 Ad))),(13,iV r5.1)],[(448,Az r5.2)],[]⟩ (Ak (by kernel_rfl)) (Ag rfl tv (At (An ⟨[(3,.ptr 448 0),(4,.own 512 0 1 (([]:List (List Ae)).map (eL 3 Ad))),(5,iV r5.1)],[(448,Az r5.2)],[]⟩ (Ak (by kernel_rfl)) (Be ?_))))))
 obtain ⟨r30,e31,h0⟩:=bnd h0
 refine Cz (R:=(fun S=>∃p25:List (List Ae),p25=r30∧S=⟨[(4,.own 512 0 1 (p25.map (eL 3 Ad)))],[],[]⟩)) (Su) (fun s S=>match s with | (p11,p12,p13,p14,p15)=>S=⟨[(3,.ptr 448 0),(4,.own 512 0 1 (p11.map (eL 3 Ad))),(5,iV p12)],[(448,Dg u_ p13 p14 p15)],[]⟩) e31 ⟨[(3,.ptr 448 0),(4,.own 512 0 1 (([]:List (List Ae)).map (eL 3 Ad))),(5,iV r5.1)],[(448,Az r5.2)],[]⟩ (Ak (by kernel_rfl)) rfl 0 (fun _=>rfl) ?_ ?_
 ·rintro S _ hfg ⟨p25,rfl,rfl⟩
  refine An ⟨[(4,.own 512 0 1 (p25.map (eL 3 Ad)))],[],[]⟩ (Ft hfg (by kernel_rfl)) (Ab (Ac (st (Ag rfl tv (st (Ag rfl tv (At (An ⟨[(2,.own 512 0 1 (p25.map (eL 3 Ad)))],[],[]⟩ (Ak (by kernel_rfl)) ?_))))))))
  obtain rfl:=sj h0
  exact Cr (Bj rfl rfl rfl rfl rfl tv)
 ·rintro ⟨p11,p12,p13,p14,p15⟩ o1 _ K1 rfl h1 hx1 hK1 hE1 hR1
  refine Ab (Ab (Ac (st (Ag rfl tv (st (c_ (Aj t3 rfl tv) (At (An ⟨[(3,.ptr 448 0),(4,.own 512 0 1 (p11.map (eL 3 Ad))),(5,iV p12),(15,.bool (decide (p12>0)))],[(448,Dg u_ p13 p14 p15)],[]⟩ (Ak (by kernel_rfl)) (Bs (cb:=(decide (p12>0))) rfl (fun c26=>?_) (fun c26=>?_))))))))))
  ·replace h1:=ip c26 h1
   refine Dn (An ⟨[(3,.ptr 448 0),(4,.own 512 0 1 (p11.map (eL 3 Ad))),(5,iV p12)],[(448,Dg u_ p13 p14 p15)],[]⟩ (Ak (by kernel_rfl)) (Ab (Be (Ac (st (Ag rfl tv (st (Ag rfl tv ?_))))))))
   obtain ⟨r27,e28,h1⟩:=bnd h1
   refine st (Gm [448] [] [] true (H392 (Bp.mk p13 p14 p15) r27 e28) ⟨tv,tv⟩ (by kernel_rfl) (by kernel_rfl) (by kernel_rfl) (by kernel_rfl) (fun h=>nomatch h) (sw ⟨[(3,.ptr 448 0),(5,iV p12),(18,.own 512 0 1 (p11.map (eL 3 Ad))),(20,Ar 1280 r27.1)],[(448,Az r27.2)],[]⟩ (Ak (by kernel_rfl)) (Fk ⟨tv,tv⟩ ⟨⟨nl rfl,rfl,rfl⟩,tv⟩ ?_)))
   obtain ⟨c29,h1⟩:=Kq h1
   refine st (Hc (e:=(eL 3 Ad)) (l0:=p11) (l1:=([r27.1]:List (List Ae))) rfl rfl tv rfl (by decide) c29 (st (Ag rfl tv (At (It (An ⟨[(3,.ptr 448 0),(4,.own 512 0 1 ((p11++([r27.1]:List (List Ae))).map (eL 3 Ad))),(5,iV p12)],[(448,Az r27.2)],[]⟩ (Ak (by kernel_rfl)) (Ac (st (Ag rfl tv (st (c_ (Aj t3 rfl tv) (st (Ag rfl tv (At ?_))))))))))))))
   obtain rfl:=sj h1
   exact hK1 _ rfl _ ⟨[(3,.ptr 448 0),(4,.own 512 0 1 ((p11++([r27.1]:List (List Ae))).map (eL 3 Ad))),(5,iV (wi (p12-1)))],[(448,Az r27.2)],[]⟩ (Ak (by kernel_rfl)) rfl
  ·replace h1:=Do c26 h1
   obtain rfl:=sj h1
   obtain rfl:=hx1 _ rfl
   refine Ke rfl ?_
   exact hE1 _ ⟨[(4,.own 512 0 1 (p11.map (eL 3 Ad)))],[],[]⟩ (Ak (by kernel_rfl)) ⟨_,rfl,rfl⟩

/- loop.example/g00149/impl.isList[loop.example/g00149/impl.Change] -/
def CK:=[k_ 2 (.bool false)]
def CL:=[m_ 3 0,n_ 4 3,B_ .leq 5 4 4096,m_ 2 5]
def WO:Dh:=⟨1,6,[.t 2],sr CK (rr CL)⟩
def iF (D:Bf):Prop:=∀a0 r,fQ a0=some r→D 393 ⟨[Af a0],[]⟩ ⟨.bool r,[],[]⟩
theorem Aar:iF (FO C WO):=by
 intro a0 r h0
 refine f0 (Ab (Ac (st (Bg tv (At (An ⟨[(0,Af a0)],[],[]⟩ (Ak (by kernel_rfl)) (Ab (Ac (st (Ag rfl tv (st (c_ (Cg (e:=Ad) (l0:=a0) rfl rfl tv) (st (c_ (Aj t3 rfl tv) (st (Ag rfl tv (At (An ⟨[(2,.bool (decide ((a0.length:Int)≤4096)))],[],[]⟩ (Ak (by kernel_rfl)) ?_))))))))))))))))))
 obtain rfl:=sj h0
 exact Cr (Bj rfl rfl rfl rfl rfl tv)

/- slices.IndexFunc[[]loop.example/g00149/impl.Change,loop.example/g00149/impl.Change] -/
def KB:=[i_ 4 0]
def KC:=[m_ 6 0,n_ 7 6,i_ 8 0]
def KD:=[b_ .lss 9 8 7]
def KE:=[m_ 10 8,m_ 5 10]
def KF:List Bi:=[m_ 11 1,m_ 12 0,m_ 13 5,x_ 14 12 13 3,L_ 15 14 3,⟨some 16,.callv (.t 11) [.t 15],none⟩]
def KG:=[m_ 17 5,m_ 4 17]
def KH:=[B_ .add 18 8 1,m_ 8 18]
def KA:IR:=(sr KD (.seq (.ite (.t 9) .skip (.exit 0)) (.seq (.block 1 (sr KE (sr KF (iz 16 (rr KG))))) (.reg KH))))
def KI:=[i_ 4 (-1)]
def XV:Dh:=⟨2,19,[.t 4],sr KB (.seq (sr KC (Li 0 KA)) (rr KI))⟩
def SI (C:Bf) (D:Bf:=C):Prop:=∀(a0:List Ae) (f1:Nat) (k1:List V) (is1:Ae→Option Bool) (hs1:Qr k1) (hf1:∀(x0:Ae) r,is1 x0=some r→C f1 ⟨.agg (Ad x0)::k1,[]⟩ ⟨.bool r,[],[]⟩) (r:Int),TF a0 is1=some r→D 429 ⟨[Af a0,.clo f1 k1],[]⟩ ⟨iV r,[],[]⟩
theorem AaW:SI C (FO C XV):=by
 intro a0 f1 k1 is1 hs1 hf1 r h0
 refine f0 (Ab (Ac (st (Bg tv (At (An ⟨[(0,Af a0),(1,.clo f1 k1)],[],[]⟩ (fg ⟨rfl,rfl,tv⟩ tv) (Ab (Ab (Ac (st (Ag rfl tv (st (c_ (Cg (e:=Ad) (l0:=a0) rfl rfl tv) (st (Bg tv (At (An ⟨[(0,Af a0),(1,.clo f1 k1),(7,iV (a0.length:Int)),(8,iV 0)],[],[]⟩ (fg ⟨rfl,rfl,rfl,rfl,tv⟩ tv) (Be ?_))))))))))))))))))
 obtain ⟨r21,e22,h0⟩:=bnd h0
 refine Cz (R:=(fun S=>.inl ()=r21∧S=⟨[],[],[]⟩)) (dO a0 is1) (fun s S=>match s with | p7=>S=⟨[(0,Af a0),(1,.clo f1 k1),(7,iV (a0.length:Int)),(8,iV p7)],[],[]⟩) e22 ⟨[(0,Af a0),(1,.clo f1 k1),(7,iV (a0.length:Int)),(8,iV 0)],[],[]⟩ (fg ⟨rfl,rfl,rfl,rfl,tv⟩ tv) rfl 0 (fun _=>rfl) ?_ ?_
 ·rintro S _ hfg ⟨rfl,rfl⟩
  refine An ⟨[],[],[]⟩ (Ft hfg (by kernel_rfl)) (Ab (Ac (st (Bg tv (At (An ⟨[(4,iV (-1))],[],[]⟩ (Ak (by kernel_rfl)) ?_))))))
  obtain rfl:=sj h0
  exact Cr (Bj rfl rfl rfl rfl rfl tv)
 ·rintro p7 o1 _ K1 rfl h1 hx1 hK1 hE1 hR1
  refine Ab (Ac (st (c_ (Aj t3 rfl tv) (At (An ⟨[(0,Af a0),(1,.clo f1 k1),(7,iV (a0.length:Int)),(8,iV p7),(9,.bool (decide (p7<(a0.length:Int))))],[],[]⟩ (fg ⟨rfl,rfl,rfl,rfl,rfl,tv⟩ tv) (Ab (Bs (cb:=(decide (p7<(a0.length:Int)))) rfl (fun c15=>?_) (fun c15=>?_))))))))
  ·replace h1:=ip c15 h1
   refine Dn (An ⟨[(0,Af a0),(1,.clo f1 k1),(7,iV (a0.length:Int)),(8,iV p7)],[],[]⟩ (fg ⟨rfl,rfl,rfl,rfl,tv⟩ tv) (Ab (Be (Ab (Ac (st (Ag rfl tv (st (Ag rfl tv (At (An ⟨[(0,Af a0),(1,.clo f1 k1),(5,iV p7),(7,iV (a0.length:Int)),(8,iV p7)],[],[]⟩ (fg ⟨rfl,rfl,rfl,rfl,rfl,tv⟩ tv) (Ab (Ac (st (Ag rfl tv (st (Ag rfl tv (st (Ag rfl tv ?_)))))))))))))))))))
   obtain ⟨y16,e17,h1⟩:=bnd h1
   refine st (c_ (Eb (e:=Ad) (y:=y16) rfl rfl tv rfl rfl tv e17) (st (c_ (v:=.agg (Ad y16)) (Aj ⟨tv,tv⟩ rfl (nl rfl)) ?_)))
   obtain ⟨r18,e19,h1⟩:=bnd h1
   refine st (Kj (r:=.bool r18) rfl false (hf1 _ r18 e19) ⟨tv,tv⟩ (Cf rfl hs1.2.2.1) (Gf rfl (hs1.2.1 _ _ _ _ _)) (fun _=>rfl) (At (An ⟨[(0,Af a0),(1,.clo f1 k1),(5,iV p7),(7,iV (a0.length:Int)),(8,iV p7),(16,.bool r18)],[],[]⟩ (fg ⟨rfl,rfl,rfl,rfl,rfl,rfl,tv⟩ tv) (Bs (cb:=r18) rfl (fun c20=>?_) (fun c20=>?_)))))
   ·replace h1:=ip c20 h1
    refine Ab (Ac (st (Ag rfl tv (st (Ag rfl tv (At (An ⟨[(4,iV p7)],[],[]⟩ (Ak (by kernel_rfl)) ?_)))))))
    obtain rfl:=sj h1
    obtain rfl:=hx1 _ rfl
    obtain rfl:=sj h0
    exact Cr (hR1 _ (Bj rfl rfl rfl rfl rfl tv))
   ·replace h1:=Do c20 h1
    refine Dn (It (An ⟨[(0,Af a0),(1,.clo f1 k1),(7,iV (a0.length:Int)),(8,iV p7)],[],[]⟩ (fg ⟨rfl,rfl,rfl,rfl,tv⟩ tv) (Ac (st (c_ (Aj t3 rfl tv) (st (Ag rfl tv (At ?_))))))))
    obtain rfl:=sj h1
    exact hK1 _ rfl _ ⟨[(0,Af a0),(1,.clo f1 k1),(7,iV (a0.length:Int)),(8,iV (wi (p7+1)))],[],[]⟩ (fg ⟨rfl,rfl,rfl,rfl,tv⟩ tv) rfl
  ·replace h1:=Do c15 h1
   obtain rfl:=sj h1
   obtain rfl:=hx1 _ rfl
   refine Ke rfl ?_
   exact hE1 _ ⟨[],[],[]⟩ (Ak (by kernel_rfl)) ⟨rfl,rfl⟩

/- slices.ContainsFunc[[]loop.example/g00149/impl.Change,loop.example/g00149/impl.Change] -/
def JQ:=[k_ 4 (.bool false)]
def JR:=[m_ 5 0,m_ 6 1,q_ 7 429 [.t 5,.t 6],B_ .geq 8 7 0,m_ 4 8]
def XQ:Dh:=⟨2,9,[.t 4],sr JQ (rr JR)⟩
def SE (C:Bf) (D:Bf:=C):Prop:=∀(a0:List Ae) (f1:Nat) (k1:List V) (is1:Ae→Option Bool) (hs1:Qr k1) (hf1:∀(x0:Ae) r,is1 x0=some r→C f1 ⟨.agg (Ad x0)::k1,[]⟩ ⟨.bool r,[],[]⟩) (r:Bool),NT a0 is1=some r→D 424 ⟨[Af a0,.clo f1 k1],[]⟩ ⟨.bool r,[],[]⟩
theorem AaS (H429:SI C):SE C (FO C XQ):=by
 intro a0 f1 k1 is1 hs1 hf1 r h0
 refine f0 (Ab (Ac (st (Bg tv (At (An ⟨[(0,Af a0),(1,.clo f1 k1)],[],[]⟩ (fg ⟨rfl,rfl,tv⟩ tv) (Ab (Ac (st (Ag rfl tv (st (Ag rfl tv ?_))))))))))))
 obtain ⟨r1,e2,h0⟩:=bnd h0
 refine st (Ax (r:=iV r1) false (H429 a0 f1 k1 is1 hs1 hf1 r1 e2) ⟨tv,tv,tv⟩ rfl (Gf rfl (Gf (bD hs1) rfl)) (fun _=>rfl) (st (c_ (Aj t3 rfl tv) (st (Ag rfl tv (At (An ⟨[(4,.bool (decide (r1≥0)))],[],[]⟩ (Ak (by kernel_rfl)) ?_)))))))
 obtain rfl:=sj h0
 exact Cr (Bj rfl rfl rfl rfl rfl tv)

/- loop.example/g00149/impl.areAll[loop.example/g00149/impl.Change]$1 -/
def JS:=[X_ 2 0,k_ 3 (.bool false)]
def JT:List Bi:=[l_ 4 1 1,L_ 5 2 3,⟨some 6,.callv (.t 4) [.t 5],none⟩,N_ 7 6,m_ 3 7]
def XS:Dh:=⟨2,8,[.t 3],sr JS (rr JT)⟩
def SF (C:Bf) (D:Bf:=C):Prop:=∀(a0:Ae) (f1:Nat) (k1:List V) (is1:Ae→Option Bool) (hs1:Qr k1) (hf1:∀(x0:Ae) r,is1 x0=some r→C f1 ⟨.agg (Ad x0)::k1,[]⟩ ⟨.bool r,[],[]⟩) (r:Bool),NV a0 is1=some r→D 425 ⟨[.agg (Ad a0),.iptr [.clo f1 k1]],[]⟩ ⟨.bool r,[],[]⟩
theorem AaT:SF C (FO C XS):=by
 intro a0 f1 k1 is1 hs1 hf1 r h0
 refine f0 (Ab (Ac (st (Hm rfl tv rfl (sw ⟨[(1,.iptr [.clo f1 k1]),(2,.ptr 128 0)],[(128,Ad a0)],[]⟩ (fg ⟨rfl,rfl,tv⟩ ⟨rfl,tv⟩) (Bg tv (At (An ⟨[(1,.iptr [.clo f1 k1]),(2,.ptr 128 0)],[(128,Ad a0)],[]⟩ (fg ⟨rfl,rfl,tv⟩ ⟨rfl,tv⟩) (Ab (Ac (st (c_ (Aj ⟨tv,tv⟩ rfl (nl rfl)) (st (c_ (v:=.agg (Ad a0)) (Aj ⟨tv,tv⟩ rfl (nl rfl)) ?_))))))))))))))
 obtain ⟨r1,e2,h0⟩:=bnd h0
 refine st (Kj (r:=.bool r1) rfl false (hf1 _ r1 e2) ⟨tv,tv⟩ (Cf rfl hs1.2.2.1) (Gf rfl (hs1.2.1 _ _ _ _ _)) (fun _=>rfl) (st (c_ (Aj ⟨tv,tv⟩ rfl tv) (st (Ag rfl tv (At (An ⟨[(3,.bool (!r1))],[],[]⟩ (Ak (by kernel_rfl)) ?_)))))))
 obtain rfl:=sj h0
 exact Cr (Bj rfl rfl rfl rfl rfl tv)

/- loop.example/g00149/impl.areAll[loop.example/g00149/impl.Change] -/
def GW:=[X_ 3 1,k_ 4 (.bool false)]
def GX:=[m_ 5 0,iQ 6 (.fn 425 [.t 3]),q_ 7 424 [.t 5,.t 6],N_ 8 7,m_ 4 8]
def XF:Dh:=⟨2,9,[.t 4],sr GW (rr GX)⟩
def RR (C:Bf) (D:Bf:=C):Prop:=∀(a0:List Ae) (f1:Nat) (k1:List V) (is1:Ae→Option Bool) (hs1:Qr k1) (hf1:∀(x0:Ae) r,is1 x0=some r→C f1 ⟨.agg (Ad x0)::k1,[]⟩ ⟨.bool r,[],[]⟩) (r:Bool),NI a0 is1=some r→D 413 ⟨[Af a0,.clo f1 k1],[]⟩ ⟨.bool r,[],[]⟩
theorem AaH (H424:SE C) (H425:SF C):RR C (FO C XF):=by
 intro a0 f1 k1 is1 hs1 hf1 r h0
 refine f0 (Ab (Ac (st (Hm (dA hs1) tv rfl (sw ⟨[(0,Af a0),(3,.ptr 192 0)],[(192,[.clo f1 k1])],[]⟩ (fg ⟨rfl,rfl,tv⟩ ⟨rfl,tv⟩) (Bg tv (At (An ⟨[(0,Af a0),(3,.ptr 192 0)],[(192,[.clo f1 k1])],[]⟩ (fg ⟨rfl,rfl,tv⟩ ⟨rfl,tv⟩) (Ab (Ac (st (Ag rfl tv (st (c_ (Aj ⟨tv,tv⟩ rfl rfl) ?_))))))))))))))
 obtain ⟨r1,e2,h0⟩:=bnd h0
 refine st (Ax (r:=.bool r1) false (H424 a0 425 [.iptr [.clo f1 k1]] (fun z425_0=>NV z425_0 is1) (⟨fun _ _ _ _ _=>rfl,fun _ _ _ _ _=>rfl,rfl,fun _ _ _ n=>by cases n<;>rfl,fun _=>rfl⟩) (fun z425_0 r h=>H425 z425_0 f1 k1 is1 hs1 hf1 r h) r1 e2) ⟨tv,tv,tv⟩ rfl (Gf rfl (Gf (congrArg (fun z=>V.clo 425 [.iptr [.clo f1 z]]) (hs1.2.2.2.1 _ _ _ _)) rfl)) (fun _=>rfl) (st (c_ (Aj ⟨tv,tv⟩ rfl tv) (st (Ag rfl tv (At (An ⟨[(4,.bool (!r1))],[],[]⟩ (Ak (by kernel_rfl)) ?_)))))))
 obtain rfl:=sj h0
 exact Cr (Bj rfl rfl rfl rfl rfl tv)

/- loop.example/g00149/impl.within -/
def SS:=[k_ 6 (.bool false)]
def ST:=[m_ 7 1,m_ 8 0,b_ .leq 9 7 8,m_ 10 9,mT 10 11 0,mT 10 12 2,pT 10 13 (.bin .leq (.t 11) (.t 12)),pa 14 10 13,m_ 6 14]
def c63:Dh:=⟨3,15,[.t 6],sr SS (rr ST)⟩
def UB (D:Bf):Prop:=∀a0 a1 a2 r,iC a0 a1 a2=some r→D 63 ⟨[iV a0,iV a1,iV a2],[]⟩ ⟨.bool r,[],[]⟩
theorem F63:UB (FO C c63):=by
 intro a0 a1 a2 r h0
 refine f0 (Sc 3 [(0,iV a0),(1,iV a1),(2,iV a2)] [] (YQ 9 (Ac (o_ ?_))))
 obtain rfl:=sj h0
 exact eF 3

/- loop.example/g00149/impl.isKey -/
def yO:=[k_ 2 (.bool false)]
def yP:=[m_ 3 0,iQ 4 (.lenS (.t 3)),q_ 5 63 [.t 4,.c (iV 1),.c (iV 60)],m_ 2 5]
def VY:Dh:=⟨1,6,[.t 2],sr yO (rr yP)⟩
def qH (D:Bf):Prop:=∀a0 r,bO a0=some r→D 362 ⟨[.str a0],[]⟩ ⟨.bool r,[],[]⟩
theorem Aad (H63:UB C):qH (FO C VY):=by
 intro a0 r h0
 refine f0 (Sc 3 [(0,.str a0)] [] (aG 3 (Ac (bb h0 fun r1 e2 h0=>cl_ (H63 (a0.length:Int) 1 60 r1 e2) (o_ ?_)))))
 obtain rfl:=sj h0
 exact eF 3

/- loop.example/g00149/impl.isChange -/
def GY:=[X_ 1 0,k_ 2 (.bool false)]
def GZ:List Bi:=[f_ 3 1 0,l_ 4 3 1,q_ 5 362 [.t 4],m_ 6 5,fT 6 7 1 1,lT 6 8 7 1 false,pT 6 9 (.lenS (.t 8)),pT 6 10 (.bin .leq (.t 9) (.c (iV 400))),pa 11 6 10,m_ 12 11,fT 12 13 1 2,lT 12 14 13 1 false,pT 12 15 (.un .not (.t 14)),mT 12 16 15,fF 16 17 1 1,lF 16 18 17 1 false,pF 16 19 (.bin .eql (.t 18) (.c (.str []))),⟨some 20,.pick (.t 16) (.c (.bool true)) (.t 19),some (12,true)⟩,pa 21 12 20,m_ 2 21]
def XG:Dh:=⟨1,22,[.t 2],sr GY (rr GZ)⟩
def qM (D:Bf):Prop:=∀a0 r,bP a0=some r→D 414 ⟨[.agg (Ad a0)],[]⟩ ⟨.bool r,[],[]⟩
theorem AaI (H362:qH C):qM (FO C XG):=by
 intro a0 r h0
 refine f0 (Ab (Ac (st (Hm rfl tv rfl (st (Bg tv (At (An ⟨[(1,.ptr 64 0)],[(64,Ad a0)],[]⟩ (Ak (by kernel_rfl)) (Ab (Ac (st (c_ (Aj ⟨tv,tv⟩ rfl tv) (st (c_ (Aj ⟨tv,tv⟩ rfl (nl rfl)) ?_))))))))))))))
 obtain ⟨r1,e2,h0⟩:=bnd h0
 refine st (Ax (r:=.bool r1) false (H362 a0.key r1 e2) ⟨tv,tv⟩ rfl rfl (fun _=>rfl) (st (Ag rfl tv (st (Bu (u:=.ptr 64 1) rfl (fun hg=>(Aj ⟨tv,tv⟩ rfl tv)) (st (Bu (u:=.str a0.value) rfl (fun hg=>(Aj ⟨(fun _=>hg),tv⟩ rfl (nl rfl))) (st (Bu (u:=iV (a0.value.length:Int)) rfl (fun hg=>(Aj ⟨(fun _=>hg),tv⟩ rfl tv)) (st (Bu (u:=.bool (decide ((a0.value.length:Int)≤400))) rfl (fun hg=>(Aj ⟨(fun _=>hg),tv,tv⟩ rfl tv)) (st (Ct rfl rfl rfl (fun h=>Zh h) tv rfl (st (Ag rfl tv (st (Bu (u:=.ptr 64 2) rfl (fun hg=>(Aj ⟨tv,tv⟩ rfl tv)) (st (Bu (u:=.bool a0.Dm) rfl (fun hg=>(Aj ⟨(fun _=>hg),tv⟩ rfl (nl rfl))) (sw ⟨[(1,.ptr 64 0),(12,.bool (bif r1 then (decide ((a0.value.length:Int)≤400)) else false)),(14,.may ((bif r1 then (decide ((a0.value.length:Int)≤400)) else false)==true) (.bool a0.Dm))],[(64,Ad a0)],[]⟩ (Ak (by kernel_rfl)) (Bu (u:=.bool (!a0.Dm)) rfl (fun hg=>(Aj ⟨(fun _=>hg),tv⟩ rfl tv)) (st (Bu (u:=.bool (!a0.Dm)) rfl (fun hg=>(Gx (v:=.may ((bif r1 then (decide ((a0.value.length:Int)≤400)) else false)==true) (.bool (!a0.Dm))) rfl (fun _=>hg))) (st (Bu (u:=.ptr 64 1) rfl (fun hg=>(Aj ⟨tv,tv⟩ rfl tv)) (st (Bu (u:=.str a0.value) rfl (fun hg=>(Aj ⟨(fun _=>hg),tv⟩ rfl (nl rfl))) (st (Bu (u:=.bool (a0.value==([]:List UInt8))) rfl (fun hg=>(Aj ⟨(fun _=>hg),tv,tv⟩ rfl tv)) (st (bW (u:=.bool (bif (!a0.Dm) then true else (a0.value==([]:List UInt8)))) rfl (fun hg=>mO rfl rfl (fun _=>hg) rfl rfl tv (fun h=>Cf hg (Sa h)) rfl) (st (Ct rfl rfl rfl (fun h=>Zh h) tv rfl (st (Ag rfl tv (At ?_))))))))))))))))))))))))))))))))))))
 obtain ⟨v3,e4,h0⟩:=bl h0
 refine An ⟨[(2,.bool v3)],[],[]⟩ (Ak (by subst e4; kernel_rfl)) ?_
 obtain rfl:=sj h0
 exact Cr (Bj rfl rfl rfl rfl rfl tv)

/- loop.example/g00149/impl.isBatch -/
def CM:=[k_ 2 (.bool false)]
def CN:List Bi:=[m_ 3 0,n_ 4 3,B_ .leq 5 4 30,m_ 6 5,mT 6 7 0,⟨some 8,.call 413 [.t 7,.c (.clo 414 [])],some (6,true)⟩,pa 9 6 8,m_ 2 9]
def WP:Dh:=⟨1,10,[.t 2],sr CM (rr CN)⟩
def iG (D:Bf):Prop:=∀a0 r,fR a0=some r→D 394 ⟨[Af a0],[]⟩ ⟨.bool r,[],[]⟩
theorem Aas (H413:RR C) (H414:qM C):iG (FO C WP):=by
 intro a0 r h0
 refine f0 (Ab (Ac (st (Bg tv (At (An ⟨[(0,Af a0)],[],[]⟩ (Ak (by kernel_rfl)) (Ab (Ac (st (Ag rfl tv (st (c_ (Cg (e:=Ad) (l0:=a0) rfl rfl tv) (st (c_ (Aj t3 rfl tv) (st (Ag rfl tv (st (Bu (u:=Af a0) rfl (fun hg=>(Gx (v:=Af a0) rfl tv)) ?_))))))))))))))))))
 obtain ⟨r1,e2,h0⟩:=bnd h0
 refine st (Hu (r:=.bool r1) rfl false (fun hg=>H413 a0 414 [] (fun z414_0=>bP z414_0) (⟨fun _ _ _ _ _=>rfl,fun _ _ _ _ _=>rfl,rfl,fun _ _ _ n=>by cases n<;>rfl,fun _=>rfl⟩) (fun z414_0 r h=>H414 z414_0 r h) r1 (ip hg e2)) ⟨(fun hg=>hg),tv,tv⟩ (fun _=>rfl) (fun _=>rfl) (fun _=>rfl) (fun h=>nomatch h) (st (Ct rfl rfl rfl (fun h=>Zh h) tv rfl (st (Ag rfl tv (At (An ⟨[(2,.bool (bif (decide ((a0.length:Int)≤30)) then r1 else false))],[],[]⟩ (Ak (by kernel_rfl)) ?_)))))))
 obtain rfl:=sj h0
 exact Cr (Bj rfl rfl rfl rfl rfl tv)

/- loop.example/g00149/impl.big -/
def wD:List Bi:=[⟨some 4,.nilS 1,none⟩]
def wE:List Bi:=[m_ 7 1,⟨some 8,.make 1 1 [.int .u8 0] (.t 7) (.t 7),none⟩,m_ 5 8]
def wF:=[m_ 9 5,n_ 10 9,i_ 11 0]
def wG:=[b_ .lss 12 11 10]
def wH:=[m_ 13 11,m_ 6 13]
def wI:List Bi:=[m_ 14 5,m_ 15 1,B_ .sub 16 15 1,m_ 17 6,b_ .sub 18 16 17,m_ 19 0,m_ 20 6,⟨some 21,.p (.bin .mul (.c (iV 8)) (.t 20)),none⟩,b_ .shr 22 19 21,iQ 23 (.conv .u8 (.t 22)),x_ 24 14 18 1,s_ 24 23 1]
def wJ:=[B_ .add 25 11 1,m_ 11 25]
def wC:IR:=(sr wG (.seq (.ite (.t 12) .skip (.exit 0)) (.seq (.block 1 (sr wH (.reg wI))) (.reg wJ))))
def wK:=[m_ 26 5,m_ 4 26]
def VR:Dh:=⟨2,27,[.t 4],sr wD (sr wE (.seq (sr wF (Li 0 wC)) (rr wK)))⟩
def qE (D:Bf):Prop:=∀a0 a1 r,Xk a0 a1=some r→D 331 ⟨[iV a0,iV a1],[]⟩ ⟨Bc 0 r,[],[]⟩
theorem ZW:qE (FO C VR):=by
 intro a0 a1 r h0
 refine f0 (Ab (Ac (st (Bw (At (An ⟨[(0,iV a0),(1,iV a1)],[],[]⟩ (Ak (by kernel_rfl)) (Ab (Ac (st (Ag rfl tv ?_))))))))))
 obtain ⟨c1,h0⟩:=Kq h0
 obtain ⟨c2,h0⟩:=Kq h0
 refine st (YG (e:=Bo) (0:UInt8) rfl rfl c1 rfl c2 rfl (st (Ag rfl tv (At (An ⟨[(0,iV a0),(1,iV a1),(5,Bc 512 (List.replicate a1.toNat (0:UInt8)))],[],[]⟩ (Ak (by kernel_rfl)) (Ab (Ab (Ac (st (Ag rfl tv (st (c_ (Ez (e:=Bo) (l0:=List.replicate a1.toNat (0:UInt8)) rfl rfl tv) (st (Bg tv (At (An ⟨[(0,iV a0),(1,iV a1),(5,Bc 512 (List.replicate a1.toNat (0:UInt8))),(10,iV ((List.replicate a1.toNat (0:UInt8)).length:Int)),(11,iV 0)],[],[]⟩ (Ak (by kernel_rfl)) (Be ?_)))))))))))))))))
 obtain ⟨r26,e27,h0⟩:=bnd h0
 refine Cz (R:=(fun S=>∃p19:List UInt8,p19=r26∧S=⟨[(5,Bc 512 p19)],[],[]⟩)) (Mw a0 a1) (fun s S=>match s with | (p9,p10)=>S=⟨[(0,iV a0),(1,iV a1),(5,Bc 512 p9),(10,iV ((List.replicate a1.toNat (0:UInt8)).length:Int)),(11,iV p10)],[],[]⟩) e27 ⟨[(0,iV a0),(1,iV a1),(5,Bc 512 (List.replicate a1.toNat (0:UInt8))),(10,iV ((List.replicate a1.toNat (0:UInt8)).length:Int)),(11,iV 0)],[],[]⟩ (Ak (by kernel_rfl)) rfl 0 (fun _=>rfl) ?_ ?_
 ·rintro S _ hfg ⟨p19,rfl,rfl⟩
  refine An ⟨[(5,Bc 512 p19)],[],[]⟩ (Ft hfg (by kernel_rfl)) (Ab (Ac (st (Ag rfl tv (st (Ag rfl tv (At (An ⟨[(4,Bc 512 p19)],[],[]⟩ (Ak (by kernel_rfl)) ?_))))))))
  obtain rfl:=sj h0
  exact Cr (Bj rfl rfl rfl rfl rfl tv)
 ·rintro ⟨p9,p10⟩ o1 _ K1 rfl h1 hx1 hK1 hE1 hR1
  refine Ab (Ac (st (c_ (Aj t3 rfl tv) (At (An ⟨[(0,iV a0),(1,iV a1),(5,Bc 512 p9),(10,iV ((List.replicate a1.toNat (0:UInt8)).length:Int)),(11,iV p10),(12,.bool (decide (p10<((List.replicate a1.toNat (0:UInt8)).length:Int))))],[],[]⟩ (Ak (by kernel_rfl)) (Ab (Bs (cb:=(decide (p10<((List.replicate a1.toNat (0:UInt8)).length:Int)))) rfl (fun c20=>?_) (fun c20=>?_))))))))
  ·replace h1:=ip c20 h1
   refine Dn (An ⟨[(0,iV a0),(1,iV a1),(5,Bc 512 p9),(10,iV ((List.replicate a1.toNat (0:UInt8)).length:Int)),(11,iV p10)],[],[]⟩ (Ak (by kernel_rfl)) (Ab (Be (Ab (Ac (st (Ag rfl tv (st (Ag rfl tv (At (An ⟨[(0,iV a0),(1,iV a1),(5,Bc 512 p9),(6,iV p10),(10,iV ((List.replicate a1.toNat (0:UInt8)).length:Int)),(11,iV p10)],[],[]⟩ (Ak (by kernel_rfl)) (Ac (st (Ag rfl tv (st (Ag rfl tv (st (c_ (Aj t3 rfl tv) (st (Ag rfl tv (st (c_ (Aj t3 rfl tv) (st (Ag rfl tv (st (Ag rfl tv (st (c_ (Aj t3 rfl tv) ?_))))))))))))))))))))))))))))
   obtain ⟨c21,h1⟩:=Kq h1
   refine st (c_ (Aj ⟨tv,tv,tv⟩ rfl c21) (st (c_ (PD (Aj ⟨tv,tv⟩ rfl tv)) ?_)))
   obtain ⟨y22,e23,h1⟩:=bnd h1
   refine st (c_ (Hw (e:=Bo) (y:=y22) rfl rfl tv rfl rfl tv e23) ?_)
   obtain ⟨y24,e25,h1⟩:=bnd h1
   refine st (YN (y':=b8 (Lh .i64 a0 (wi (8*p10)))) rfl rfl tv rfl rfl rfl rfl e25 (nl rfl) rfl rfl rfl rfl (At (It (An ⟨[(0,iV a0),(1,iV a1),(5,.own 512 0 1 ((p9.set ((wi ((wi (a1-1))-p10)).toNat) (b8 (Lh .i64 a0 (wi (8*p10))))).map Bo)),(10,iV ((List.replicate a1.toNat (0:UInt8)).length:Int)),(11,iV p10)],[],[]⟩ (fg ⟨rfl,rfl,congrArg (fun z=>some ((.own 512 0 1 z:V))) Rt,rfl,rfl,tv⟩ tv) (Ac (st (c_ (Aj t3 rfl tv) (st (Ag rfl tv (At ?_))))))))))
   obtain rfl:=sj h1
   exact hK1 _ rfl _ ⟨[(0,iV a0),(1,iV a1),(5,.own 512 0 1 ((p9.set ((wi ((wi (a1-1))-p10)).toNat) (b8 (Lh .i64 a0 (wi (8*p10))))).map Bo)),(10,iV ((List.replicate a1.toNat (0:UInt8)).length:Int)),(11,iV (wi (p10+1)))],[],[]⟩ (Ak (by kernel_rfl)) rfl
  ·replace h1:=Do c20 h1
   obtain rfl:=sj h1
   obtain rfl:=hx1 _ rfl
   refine Ke rfl ?_
   exact hE1 _ ⟨[(5,Bc 512 p9)],[],[]⟩ (Ak (by kernel_rfl)) ⟨_,rfl,rfl⟩

/- loop.example/g00149/impl.batchBytes -/
def CP:List Bi:=[⟨some 2,.nilS 1,none⟩]
def CQ:List Bi:=[⟨some 3,.nilS 1,none⟩]
def CR:=[m_ 7 0,n_ 8 7,i_ 9 0]
def CS:=[b_ .lss 10 9 8]
def CT:=[x_ 11 7 9 3,L_ 12 11 3,a_ 5 [.str [],.str [],.bool false],s_ 5 12 3]
def CU:List Bi:=[m_ 13 3,f_ 14 5 0,l_ 15 14 1,iQ 16 (.lenS (.t 15)),iQ 17 (.conv .u8 (.t 16)),⟨some 18,.mkS 1 [.int .u8 0] 1 [(0,.t 17)],none⟩,⟨some 19,.app 1 1 (.t 13) (.t 18),none⟩,m_ 3 19]
def CW:List Bi:=[m_ 20 3,f_ 21 5 0,l_ 22 21 1,⟨some 23,.app 1 1 (.t 20) (.t 22),none⟩,m_ 3 23]
def CX:=[f_ 24 5 1,l_ 25 24 1,iQ 26 (.lenS (.t 25)),B_ .add 27 26 1,m_ 6 27]
def CY:=[f_ 28 5 2,l_ 29 28 1]
def CZ:=[i_ 6 0]
def kO:=tk [m_ 30 3,m_ 31 6,f_ 34 5 1,l_ 35 34 1] (.alt [l_ 35 34 1,f_ 34 5 1,m_ 30 3] (q_ 32 331 [.t 31,.c (iV 2)]) (.alt [l_ 35 34 1,f_ 34 5 1] ⟨some 33,.app 1 1 (.t 30) (.t 32),none⟩ (.alt [] ⟨some 36,.app 1 1 (.t 33) (.t 35),none⟩ (.alt [] (m_ 3 36) .fin .stop) .stop) .stop) .stop)
def kP:=[B_ .add 37 9 1,m_ 9 37]
def CO:IR:=(sr CS (.seq (.ite (.t 10) .skip (.exit 0)) (.seq (.block 1 (sr CT (sr CU (sr CW (sr CX (.seq (sr CY (iz 29 (.reg CZ))) (.draw kO))))))) (.reg kP))))
def kQ:=[m_ 38 3,m_ 2 38]
def WQ:Dh:=⟨1,39,[.t 2],sr CP (sr CQ (.seq (sr CR (Li 0 CO)) (rr kQ)))⟩
def qI (D:Bf):Prop:=∀a0 r,nI a0=some r→D 395 ⟨[Af a0],[]⟩ ⟨Bc 0 r,[],[]⟩
theorem Aat (H331:qE C):qI (FO C WQ):=by
 intro a0 r h0
 refine f0 (Ab (Ac (st (Bw (At (An ⟨[(0,Af a0)],[],[]⟩ (Ak (by kernel_rfl)) (Ab (Ac (st (Bw (At (An ⟨[(0,Af a0),(3,.own 192 0 1 ([].map Bo))],[],[]⟩ (Ak (by kernel_rfl)) (Ab (Ab (Ac (st (Ag rfl tv (st (c_ (Cg (e:=Ad) (l0:=a0) rfl rfl tv) (st (Bg tv (At (An ⟨[(3,.own 192 0 1 ([].map Bo)),(7,Af a0),(8,iV (a0.length:Int)),(9,iV 0)],[],[]⟩ (Ak (by kernel_rfl)) (Be ?_))))))))))))))))))))))))
 obtain ⟨r47,e48,h0⟩:=bnd h0
 refine Cz (R:=(fun S=>∃p31:List UInt8,p31=r47∧S=⟨[(3,Bc 192 p31)],[],[]⟩)) (Sw a0) (fun s S=>match s with | (p14,p15)=>S=⟨[(3,Bc 192 p14),(7,Af a0),(8,iV (a0.length:Int)),(9,iV p15)],[],[]⟩) e48 ⟨[(3,.own 192 0 1 ([].map Bo)),(7,Af a0),(8,iV (a0.length:Int)),(9,iV 0)],[],[]⟩ (Ak (by kernel_rfl)) rfl 0 (fun _=>rfl) ?_ ?_
 ·rintro S _ hfg ⟨p31,rfl,rfl⟩
  refine An ⟨[(3,Bc 192 p31)],[],[]⟩ (Ft hfg (by kernel_rfl)) (Ab (Ac (st (Ag rfl tv (st (Ag rfl tv (At (An ⟨[(2,Bc 192 p31)],[],[]⟩ (Ak (by kernel_rfl)) ?_))))))))
  obtain rfl:=sj h0
  exact Cr (Bj rfl rfl rfl rfl rfl tv)
 ·rintro ⟨p14,p15⟩ o1 _ K1 rfl h1 hx1 hK1 hE1 hR1
  refine Ab (Ac (st (c_ (Aj t3 rfl tv) (At (An ⟨[(3,Bc 192 p14),(7,Af a0),(8,iV (a0.length:Int)),(9,iV p15),(10,.bool (decide (p15<(a0.length:Int))))],[],[]⟩ (Ak (by kernel_rfl)) (Ab (Bs (cb:=(decide (p15<(a0.length:Int)))) rfl (fun c32=>?_) (fun c32=>?_))))))))
  ·replace h1:=ip c32 h1
   refine Dn (An ⟨[(3,Bc 192 p14),(7,Af a0),(8,iV (a0.length:Int)),(9,iV p15)],[],[]⟩ (Ak (by kernel_rfl)) (Ab (Be (Ab (Ac ?_)))))
   obtain ⟨y33,e34,h1⟩:=bnd h1
   refine st (c_ (Eb (e:=Ad) (y:=y33) rfl rfl tv rfl rfl tv e34) (st (c_ (v:=.agg (Ad y33)) (Aj ⟨tv,tv⟩ rfl (nl rfl)) (st (Dt (st (El rfl rfl tv rfl rfl rfl (nl rfl) (At (An ⟨[(3,Bc 192 p14),(5,.ptr 320 0),(7,Af a0),(8,iV (a0.length:Int)),(9,iV p15)],[(320,Ad y33)],[]⟩ (Ak (by kernel_rfl)) (Ab (Ac (st (Ag rfl tv (st (c_ (Aj ⟨tv,tv⟩ rfl tv) (st (c_ (Aj ⟨tv,tv⟩ rfl (nl rfl)) (st (c_ (Aj ⟨tv,tv⟩ rfl tv) (st (c_ (PD (Aj ⟨tv,tv⟩ rfl tv)) (st (Fk ⟨tv,tv⟩ ⟨⟨nl rfl,rfl,rfl⟩,tv⟩ ?_)))))))))))))))))))))))
   obtain ⟨c35,h1⟩:=Kq h1
   refine st (Hc (e:=Bo) (l0:=p14) (l1:=([b8 (y33.key.length:Int)]:List UInt8)) rfl rfl tv rfl (by decide) c35 (st (Ag rfl tv (At (An ⟨[(3,Bc 192 (p14++([b8 (y33.key.length:Int)]:List UInt8))),(5,.ptr 320 0),(7,Af a0),(8,iV (a0.length:Int)),(9,iV p15)],[(320,Ad y33)],[]⟩ (Ak (by kernel_rfl)) (Ab (Ac (st (Ag rfl tv (st (c_ (Aj ⟨tv,tv⟩ rfl tv) (st (c_ (Aj ⟨tv,tv⟩ rfl (nl rfl)) ?_)))))))))))))
   obtain ⟨c36,h1⟩:=Kq h1
   refine st (Hc (e:=Bo) (l0:=p14++([b8 (y33.key.length:Int)]:List UInt8)) (l1:=y33.key) rfl rfl tv rfl (by decide) c36 (st (Ag rfl tv (At (An ⟨[(3,Bc 192 ((p14++([b8 (y33.key.length:Int)]:List UInt8))++y33.key)),(5,.ptr 320 0),(7,Af a0),(8,iV (a0.length:Int)),(9,iV p15)],[(320,Ad y33)],[]⟩ (Ak (by kernel_rfl)) (Ab (Ac (st (c_ (Aj ⟨tv,tv⟩ rfl tv) (st (c_ (Aj ⟨tv,tv⟩ rfl (nl rfl)) (st (c_ (Aj ⟨tv,tv⟩ rfl tv) (st (c_ (Aj t3 rfl tv) (st (Ag rfl tv (At (An ⟨[(3,Bc 192 ((p14++([b8 (y33.key.length:Int)]:List UInt8))++y33.key)),(5,.ptr 320 0),(6,iV (wi ((y33.value.length:Int)+1))),(7,Af a0),(8,iV (a0.length:Int)),(9,iV p15)],[(320,Ad y33)],[]⟩ (Ak (by kernel_rfl)) (Ab (Ab (Ac (st (c_ (Aj ⟨tv,tv⟩ rfl tv) (st (c_ (Aj ⟨tv,tv⟩ rfl (nl rfl)) (At (An ⟨[(3,Bc 192 ((p14++([b8 (y33.key.length:Int)]:List UInt8))++y33.key)),(5,.ptr 320 0),(6,iV (wi ((y33.value.length:Int)+1))),(7,Af a0),(8,iV (a0.length:Int)),(9,iV p15),(29,.bool y33.Dm)],[(320,Ad y33)],[]⟩ (Ak (by kernel_rfl)) (Zt (cb:=y33.Dm) (fun S=>∃p38:Int,S=⟨[(3,Bc 192 ((p14++([b8 (y33.key.length:Int)]:List UInt8))++y33.key)),(5,.ptr 320 0),(6,iV p38),(7,Af a0),(8,iV (a0.length:Int)),(9,iV p15)],[(320,Ad y33)],[]⟩∧Pr p14 p15 y33 p38=some o1) rfl ?_ (fun c46 J45=>?_) (fun c46 J45=>?_))))))))))))))))))))))))))))))
   ·rintro _ ⟨p38,rfl,h1⟩
    refine An ⟨[(3,Bc 192 ((p14++([b8 (y33.key.length:Int)]:List UInt8))++y33.key)),(5,.ptr 320 0),(6,iV p38),(7,Af a0),(8,iV (a0.length:Int)),(9,iV p15)],[(320,Ad y33)],[]⟩ (Ak (by kernel_rfl)) ?_
    obtain ⟨r39,e40,h1⟩:=bnd h1
    obtain ⟨c41,h1⟩:=Kq h1
    obtain ⟨c42,h1⟩:=Kq h1
    refine Ds (Ah tv (Ag rfl tv (⟨tv,Ah tv (Ag rfl tv (⟨tv,Ah tv (c_ (Aj ⟨tv,tv⟩ rfl tv) (⟨tv,Ah tv (c_ (Aj ⟨tv,tv⟩ rfl (nl rfl)) (⟨tv,Fm (Ax (r:=Bc 0 r39) false (H331 p38 2 r39 e40) ⟨tv,tv,tv⟩ rfl rfl (fun _=>(Cf (Jo (fun _=>rfl)) rfl)) (mP ⟨[(3,Bc 192 ((p14++([b8 (y33.key.length:Int)]:List UInt8))++y33.key)),(5,.ptr 320 0),(7,Af a0),(8,iV (a0.length:Int)),(9,iV p15),(30,Bc 192 ((p14++([b8 (y33.key.length:Int)]:List UInt8))++y33.key)),(32,Bc 2048 r39),(34,.ptr 320 1),(35,.str y33.value)],[(320,Ad y33)],[]⟩ (Ak (by kernel_rfl)) ⟨[],⟨⟨.inl tv,By (Aj ⟨tv,tv⟩ rfl (nl rfl)) rfl⟩,⟨.inl tv,By (Aj ⟨tv,tv⟩ rfl tv) rfl⟩,⟨.inl tv,By (Gx (v:=Bc 192 ((p14++([b8 (y33.key.length:Int)]:List UInt8))++y33.key)) rfl tv) rfl⟩,tv⟩,tv,Fm (Hc (e:=Bo) (l0:=(p14++([b8 (y33.key.length:Int)]:List UInt8))++y33.key) (l1:=r39) rfl rfl tv rfl (by decide) c41 (Wg ⟨[],⟨⟨.inl tv,By (Aj ⟨tv,tv⟩ rfl (nl rfl)) rfl⟩,⟨.inl tv,By (Aj ⟨tv,tv⟩ rfl tv) rfl⟩,tv⟩,tv,Fm (Hc (e:=Bo) (l0:=((p14++([b8 (y33.key.length:Int)]:List UInt8))++y33.key)++r39) (l1:=y33.value) rfl rfl tv rfl (by decide) c42 (Wg ⟨[],tv,tv,Fm (Ag rfl tv (Wg ⟨[],tv,tv,Iu (It ?_)⟩)) Dl⟩)) Dl⟩)) Dl⟩)) Dl⟩))⟩))⟩))⟩)))
    obtain ⟨v43,e44,h1⟩:=bl h1
    refine An ⟨[(3,Bc 192 v43),(7,Af a0),(8,iV (a0.length:Int)),(9,iV p15)],[],[]⟩ (Ak (by subst e44; kernel_rfl)) (Ac (st (c_ (Aj t3 rfl tv) (st (Ag rfl tv (At ?_))))))
    obtain rfl:=sj h1
    exact hK1 _ rfl _ ⟨[(3,Bc 192 v43),(7,Af a0),(8,iV (a0.length:Int)),(9,iV (wi (p15+1)))],[],[]⟩ (Ak (by kernel_rfl)) rfl
   ·replace h1:=ip c46 h1
    refine Ac (st (Bg tv (At ?_)))
    exact J45 _ ⟨[(3,Bc 192 ((p14++([b8 (y33.key.length:Int)]:List UInt8))++y33.key)),(5,.ptr 320 0),(6,iV 0),(7,Af a0),(8,iV (a0.length:Int)),(9,iV p15)],[(320,Ad y33)],[]⟩ (Ak (by kernel_rfl)) ⟨_,rfl,h1⟩
   ·replace h1:=Do c46 h1
    refine Dn ?_
    exact J45 _ ⟨[(3,Bc 192 ((p14++([b8 (y33.key.length:Int)]:List UInt8))++y33.key)),(5,.ptr 320 0),(6,iV (wi ((y33.value.length:Int)+1))),(7,Af a0),(8,iV (a0.length:Int)),(9,iV p15)],[(320,Ad y33)],[]⟩ (Ak (by kernel_rfl)) ⟨_,rfl,h1⟩
  ·replace h1:=Do c32 h1
   obtain rfl:=sj h1
   obtain rfl:=hx1 _ rfl
   refine Ke rfl ?_
   exact hE1 _ ⟨[(3,Bc 192 p14)],[],[]⟩ (Ak (by kernel_rfl)) ⟨_,rfl,rfl⟩

/- loop.example/g00149/impl.BatchBytes -/
def AI:List Bi:=[⟨some 2,.nilS 1,none⟩,i_ 3 0]
def AJ:=[m_ 5 0,q_ 6 393 [.t 5],N_ 7 6,m_ 4 7]
def AK:List Bi:=[⟨some 2,.nilS 1,none⟩,i_ 3 2]
def AL:=[m_ 9 0,q_ 10 394 [.t 9],N_ 11 10,m_ 8 11]
def AM:List Bi:=[⟨some 2,.nilS 1,none⟩,i_ 3 1]
def AN:=[m_ 12 0,q_ 13 395 [.t 12],m_ 2 13,i_ 3 0]
def WF:Dh:=⟨1,14,[.t 2,.t 3],sr AI (.seq (.block 0 (sr AJ (.ite (.t 4) (rr AK) (sr AL (iz 8 (rr AM)))))) (rr AN))⟩
def QU (D:Bf):Prop:=∀a0 r,nD a0=some r→D 380 ⟨[Af a0],[]⟩ ⟨.tup [Bc 0 r.1,iV r.2],[],[]⟩
theorem Aaj (H393:iF C) (H394:iG C) (H395:qI C):QU (FO C WF):=by
 intro a0 r h0
 refine f0 (Ab (Ac (st (Bw (st (Bg tv (At (An ⟨[(0,Af a0)],[],[]⟩ (Ak (by kernel_rfl)) (Ab (Be (Ab (Ac (st (Ag rfl tv ?_))))))))))))))
 obtain ⟨r1,e2,h0⟩:=bnd h0
 refine st (Ax (r:=.bool r1) false (H393 a0 r1 e2) ⟨tv,tv⟩ rfl rfl (fun _=>rfl) (st (c_ (Aj ⟨tv,tv⟩ rfl tv) (st (Ag rfl tv (At (An ⟨[(0,Af a0),(4,.bool (!r1))],[],[]⟩ (Ak (by kernel_rfl)) (Bs (cb:=(!r1)) rfl (fun c3=>?_) (fun c3=>?_)))))))))
 ·replace h0:=ip c3 h0
  refine Ab (Ac (st (Bw (st (Bg tv (At (An ⟨[(2,.own 128 0 1 ([].map Bo)),(3,iV 2)],[],[]⟩ (Ak (by kernel_rfl)) ?_)))))))
  obtain rfl:=sj h0
  exact Cr (Bj rfl rfl rfl rfl rfl tv)
 ·replace h0:=Do c3 h0
  refine Ab (Ac (st (Ag rfl tv ?_)))
  obtain ⟨r4,e5,h0⟩:=bnd h0
  refine st (Ax (r:=.bool r4) false (H394 a0 r4 e5) ⟨tv,tv⟩ rfl rfl (fun _=>rfl) (st (c_ (Aj ⟨tv,tv⟩ rfl tv) (st (Ag rfl tv (At (An ⟨[(0,Af a0),(8,.bool (!r4))],[],[]⟩ (Ak (by kernel_rfl)) (Bs (cb:=(!r4)) rfl (fun c6=>?_) (fun c6=>?_)))))))))
  ·replace h0:=ip c6 h0
   refine Ab (Ac (st (Bw (st (Bg tv (At (An ⟨[(2,.own 128 0 1 ([].map Bo)),(3,iV 1)],[],[]⟩ (Ak (by kernel_rfl)) ?_)))))))
   obtain rfl:=sj h0
   exact Cr (Bj rfl rfl rfl rfl rfl tv)
  ·replace h0:=Do c6 h0
   refine Dn (It (An ⟨[(0,Af a0)],[],[]⟩ (Ak (by kernel_rfl)) (Ab (Ac (st (Ag rfl tv ?_))))))
   obtain ⟨r7,e8,h0⟩:=bnd h0
   refine st (Ax (r:=Bc 0 r7) false (H395 a0 r7 e8) ⟨tv,tv⟩ rfl rfl (fun _=>(Cf (Jo (fun _=>rfl)) rfl)) (st (Ag rfl tv (st (Bg tv (At (An ⟨[(2,Bc 832 r7),(3,iV 0)],[],[]⟩ (Ak (by kernel_rfl)) ?_)))))))
   obtain rfl:=sj h0
   exact Cr (Bj rfl rfl rfl rfl rfl tv)

/- loop.example/g00149/impl.isShort[[]byte] -/
def sE:=[k_ 2 (.bool false)]
def sF:=[m_ 3 0,n_ 4 3,B_ .leq 5 4 65536,m_ 2 5]
def UW:Dh:=⟨1,6,[.t 2],sr sE (rr sF)⟩
def PW (D:Bf):Prop:=∀a0 r,KV a0=some r→D 264 ⟨[Bh a0],[]⟩ ⟨.bool r,[],[]⟩
theorem ZC:PW (FO C UW):=by
 intro a0 r h0
 refine f0 (Ab (Ac (st (Bg tv (At (An ⟨[(0,Bh a0)],[],[]⟩ (Ak (by kernel_rfl)) (Ab (Ac (st (Ag rfl tv (st (c_ (Cg (e:=Bo) (l0:=a0) rfl rfl tv) (st (c_ (Aj t3 rfl tv) (st (Ag rfl tv (At (An ⟨[(2,.bool (decide ((a0.length:Int)≤65536)))],[],[]⟩ (Ak (by kernel_rfl)) ?_))))))))))))))))))
 obtain rfl:=sj h0
 exact Cr (Bj rfl rfl rfl rfl rfl tv)

/- loop.example/g00149/impl.bigOf -/
def wY:=[i_ 2 0]
def wZ:=[i_ 3 0]
def xA:=[m_ 6 0,n_ 7 6,i_ 8 0]
def xB:=[b_ .lss 9 8 7]
def xC:=[x_ 10 6 8 1,l_ 11 10 1,m_ 5 11]
def xD:List Bi:=[m_ 12 3,⟨some 13,.p (.bin .shl (.t 12) (.c (.int .u64 8))),none⟩,m_ 14 5,iQ 15 (.conv .i64 (.t 14)),b_ .or 16 13 15,m_ 3 16]
def xE:=[B_ .add 17 8 1,m_ 8 17]
def wX:IR:=(sr xB (.seq (.ite (.t 9) .skip (.exit 0)) (.seq (.block 1 (sr xC (.reg xD))) (.reg xE))))
def xG:=[m_ 18 3,m_ 2 18]
def VT:Dh:=⟨1,19,[.t 2],sr wY (sr wZ (.seq (sr xA (Li 0 wX)) (rr xG)))⟩
def qG (D:Bf):Prop:=∀a0 r,bM a0=some r→D 333 ⟨[Bh a0],[]⟩ ⟨iV r,[],[]⟩
theorem ZY:qG (FO C VT):=by
 intro a0 r h0
 refine f0 (Ab (Ac (st (Bg tv (At (An ⟨[(0,Bh a0)],[],[]⟩ (Ak (by kernel_rfl)) (Ab (Ac (st (Bg tv (At (An ⟨[(0,Bh a0),(3,iV 0)],[],[]⟩ (Ak (by kernel_rfl)) (Ab (Ab (Ac (st (Ag rfl tv (st (c_ (Cg (e:=Bo) (l0:=a0) rfl rfl tv) (st (Bg tv (At (An ⟨[(3,iV 0),(6,Bh a0),(7,iV (a0.length:Int)),(8,iV 0)],[],[]⟩ (Ak (by kernel_rfl)) (Be ?_))))))))))))))))))))))))
 obtain ⟨r15,e16,h0⟩:=bnd h0
 refine Cz (R:=(fun S=>∃p11:Int,p11=r15∧S=⟨[(3,iV p11)],[],[]⟩)) (Mz a0) (fun s S=>match s with | (p4,p5)=>S=⟨[(3,iV p4),(6,Bh a0),(7,iV (a0.length:Int)),(8,iV p5)],[],[]⟩) e16 ⟨[(3,iV 0),(6,Bh a0),(7,iV (a0.length:Int)),(8,iV 0)],[],[]⟩ (Ak (by kernel_rfl)) rfl 0 (fun _=>rfl) ?_ ?_
 ·rintro S _ hfg ⟨p11,rfl,rfl⟩
  refine An ⟨[(3,iV p11)],[],[]⟩ (Ft hfg (by kernel_rfl)) (Ab (Ac (st (Ag rfl tv (st (Ag rfl tv (At (An ⟨[(2,iV p11)],[],[]⟩ (Ak (by kernel_rfl)) ?_))))))))
  obtain rfl:=sj h0
  exact Cr (Bj rfl rfl rfl rfl rfl tv)
 ·rintro ⟨p4,p5⟩ o1 _ K1 rfl h1 hx1 hK1 hE1 hR1
  refine Ab (Ac (st (c_ (Aj t3 rfl tv) (At (An ⟨[(3,iV p4),(6,Bh a0),(7,iV (a0.length:Int)),(8,iV p5),(9,.bool (decide (p5<(a0.length:Int))))],[],[]⟩ (Ak (by kernel_rfl)) (Ab (Bs (cb:=(decide (p5<(a0.length:Int)))) rfl (fun c12=>?_) (fun c12=>?_))))))))
  ·replace h1:=ip c12 h1
   refine Dn (An ⟨[(3,iV p4),(6,Bh a0),(7,iV (a0.length:Int)),(8,iV p5)],[],[]⟩ (Ak (by kernel_rfl)) (Ab (Be (Ab (Ac ?_)))))
   obtain ⟨y13,e14,h1⟩:=bnd h1
   refine st (c_ (Eb (e:=Bo) (y:=y13) rfl rfl tv rfl rfl tv e14) (st (c_ (Aj ⟨tv,tv⟩ rfl (nl rfl)) (st (Ag rfl tv (At (An ⟨[(3,iV p4),(5,.int .u8 ((y13).toNat:Int)),(6,Bh a0),(7,iV (a0.length:Int)),(8,iV p5)],[],[]⟩ (Ak (by kernel_rfl)) (Ac (st (Ag rfl tv (st (c_ (Aj ⟨tv,tv,tv⟩ rfl (by decide)) (st (Ag rfl tv (st (c_ (Aj ⟨tv,tv⟩ rfl tv) (st (c_ (Aj t3 rfl tv) (st (Ag rfl tv (At (It (An ⟨[(3,iV (YD .i64 (nS .i64 p4 8) (wi ((y13).toNat:Int)))),(6,Bh a0),(7,iV (a0.length:Int)),(8,iV p5)],[],[]⟩ (Ak (by kernel_rfl)) (Ac (st (c_ (Aj t3 rfl tv) (st (Ag rfl tv (At ?_)))))))))))))))))))))))))))))
   obtain rfl:=sj h1
   exact hK1 _ rfl _ ⟨[(3,iV (YD .i64 (nS .i64 p4 8) (wi ((y13).toNat:Int)))),(6,Bh a0),(7,iV (a0.length:Int)),(8,iV (wi (p5+1)))],[],[]⟩ (Ak (by kernel_rfl)) rfl
  ·replace h1:=Do c12 h1
   obtain rfl:=sj h1
   obtain rfl:=hx1 _ rfl
   refine Ke rfl ?_
   exact hE1 _ ⟨[(3,iV p4)],[],[]⟩ (Ak (by kernel_rfl)) ⟨_,rfl,rfl⟩

/- loop.example/g00149/impl.taken -/
def JU:List Bi:=[⟨some 4,.nilS 1,none⟩,⟨some 5,.nilS 1,none⟩,k_ 6 (.bool false)]
def JV:=[m_ 7 1,m_ 8 0,n_ 9 8,b_ .gtr 10 7 9]
def JW:List Bi:=[⟨some 4,.nilS 1,none⟩,⟨some 5,.nilS 1,none⟩,k_ 6 (.bool false)]
def JX:=tk [m_ 11 0,m_ 12 1,⟨some 13,.p (.slice (.t 11) none (some (.t 12)) 1),none⟩,m_ 14 0,m_ 15 1,⟨some 16,.p (.slice (.t 14) (some (.t 15)) none 1),none⟩,m_ 4 13,m_ 5 16,k_ 6 (.bool true)] .fin
def XT:Dh:=⟨2,17,[.t 4,.t 5,.t 6],sr JU (.seq (sr JV (iz 10 (rr JW))) (sd JX .ret))⟩
def SG (D:Bf):Prop:=∀a0 a1 r,bS a0 a1=some r→D 426 ⟨[Bh a0,iV a1],[]⟩ ⟨.tup [Bh r.1,Bh r.2.1,.bool r.2.2],[],[]⟩
theorem AaU:SG (FO C XT):=by
 intro a0 a1 r h0
 refine f0 (Ab (Ac (st (Bw (st (Bw (st (Bg tv (At (An ⟨[(0,Bh a0),(1,iV a1)],[],[]⟩ (Ak (by kernel_rfl)) (Ab (Ab (Ac (st (Ag rfl tv (st (Ag rfl tv (st (c_ (Cg (e:=Bo) (l0:=a0) rfl rfl tv) (st (c_ (Aj t3 rfl tv) (At (An ⟨[(0,Bh a0),(1,iV a1),(10,.bool (decide (a1>(a0.length:Int))))],[],[]⟩ (Ak (by kernel_rfl)) (Bs (cb:=(decide (a1>(a0.length:Int)))) rfl (fun c1=>?_) (fun c1=>?_)))))))))))))))))))))))))
 ·replace h0:=ip c1 h0
  refine Ab (Ac (st (Bw (st (Bw (st (Bg tv (At (An ⟨[(4,.lst 1 ([].map Bo)),(5,.lst 1 ([].map Bo)),(6,.bool false)],[],[]⟩ (mR [256,320] (by kernel_rfl)) ?_)))))))))
  obtain rfl:=sj h0
  exact Cr (Bj rfl rfl rfl rfl rfl tv)
 ·replace h0:=Do c1 h0
  refine Dn (An ⟨[(0,Bh a0),(1,iV a1)],[],[]⟩ (Ak (by kernel_rfl)) (Ab ?_))
  obtain ⟨s2,e3,h0⟩:=bnd h0
  obtain ⟨s4,e5,h0⟩:=bnd h0
  refine Ds (Ah tv (Ag rfl tv (⟨tv,Ah tv (Ag rfl tv (⟨tv,Ah tv (c_ (Gp (e:=Bo) (y:=s2) rfl rfl tv ⟨tv,tv⟩ rfl rfl e3) (⟨tv,Ah tv (Ag rfl tv (⟨tv,Ah tv (Ag rfl tv (⟨tv,Ah tv (c_ (Gp (e:=Bo) (y:=s4) rfl rfl tv ⟨tv,tv⟩ rfl rfl e5) (⟨tv,Ah tv (Ag rfl tv (⟨tv,Ah tv (Ag rfl tv (⟨tv,Ah tv (Bg tv (⟨tv,Iu (An ⟨[(4,Bh s2),(5,Bh s4),(6,.bool true)],[],[]⟩ (Ak (by kernel_rfl)) ?_)⟩))⟩))⟩))⟩))⟩))⟩))⟩))⟩))⟩)))
  obtain rfl:=sj h0
  exact Cr (Bj rfl rfl rfl rfl rfl tv)

/- loop.example/g00149/impl.readChange -/
def HA:List Bi:=[a_ 2 [.str [],.str [],.bool false],⟨some 3,.nilS 1,none⟩,k_ 4 (.bool false)]
def HB:=tk [m_ 12 0,⟨some 13,.p (.slice (.t 12) (some (.c (iV 1))) none 1),none⟩,m_ 14 0,⟨some 15,.p (.idxA (.t 14) (.c (iV 0)) 1),none⟩,l_ 16 15 1,iQ 17 (.conv .i64 (.t 16))] (.alt [] (q_ 18 426 [.t 13,.t 17]) (tk [m_ 11 18,e_ 19 11 0,e_ 20 11 1,e_ 21 11 2,m_ 5 19,m_ 6 20,m_ 7 21] .fin) .stop)
def HC:=[m_ 22 7,N_ 23 22]
def HD:List Bi:=[iQ 24 (.build [.str [],.str [],.bool false] []),s_ 2 24 3,⟨some 3,.nilS 1,none⟩,k_ 4 (.bool false)]
def HE:=[m_ 26 6,q_ 27 426 [.t 26,.c (iV 2)],m_ 25 27,e_ 28 25 0,e_ 29 25 1,e_ 30 25 2,m_ 8 28,m_ 6 29,m_ 7 30]
def HF:=[m_ 31 7,N_ 32 31]
def HG:List Bi:=[iQ 33 (.build [.str [],.str [],.bool false] []),s_ 2 33 3,⟨some 3,.nilS 1,none⟩,k_ 4 (.bool false)]
def HH:=[m_ 34 8,q_ 35 333 [.t 34],m_ 9 35]
def HI:List Bi:=[m_ 37 6,m_ 38 9,B_ .sub 39 38 1,⟨some 40,.p (.mx (.t 39) (.c (iV 0))),none⟩,q_ 41 426 [.t 37,.t 40],m_ 36 41,e_ 42 36 0,e_ 43 36 1,e_ 44 36 2,m_ 10 42,m_ 6 43,m_ 7 44]
def HJ:List Bi:=[m_ 45 5,iQ 46 (.toStr (.t 45)),m_ 47 10,iQ 48 (.toStr (.t 47)),m_ 49 9,B_ .eql 50 49 0,⟨some 51,.p (.build [.str [],.str [],.bool false] [(0,1,.t 46),(1,1,.t 48),(2,1,.t 50)]),none⟩,m_ 52 6,m_ 53 7,s_ 2 51 3,m_ 3 52,m_ 4 53]
def XH:Dh:=⟨1,54,[.cell 2 3 true,.t 3,.t 4],sr HA (sd HB (.seq (sr HC (iz 23 (rr HD))) (sr HE (.seq (sr HF (iz 32 (rr HG))) (sr HH (sr HI (rr HJ)))))))⟩
def RS (D:Bf):Prop:=∀a0 r,NK a0=some r→D 415 ⟨[Bh a0],[]⟩ ⟨.tup [.agg (Ad r.1),Bh r.2.1,.bool r.2.2],[],[]⟩
theorem AaJ (H333:qG C) (H426:SG C):RS (FO C XH):=by
 intro a0 r h0
 refine f0 (Ab (Ac (st (Dt (st (Bw (st (Bg tv (At (An ⟨[(0,Bh a0),(2,.ptr 128 0)],[(128,Bb ([]:List UInt8) ([]:List UInt8) false)],[]⟩ (Ak (by kernel_rfl)) (Ab ?_)))))))))))
 obtain ⟨s1,e2,h0⟩:=bnd h0
 obtain ⟨y3,e4,h0⟩:=bnd h0
 obtain ⟨r5,e6,h0⟩:=bnd h0
 refine Ds (Ah tv (Ag rfl tv (⟨tv,Ah tv (c_ (Gp (e:=Bo) (y:=s1) rfl rfl tv ⟨tv,tv⟩ rfl rfl e2) (⟨tv,Ah tv (Ag rfl tv (⟨tv,Ah tv (c_ (Eb (e:=Bo) (y:=y3) rfl rfl tv rfl rfl tv e4) (⟨tv,Ah tv (c_ (Aj ⟨tv,tv⟩ rfl (nl rfl)) (⟨tv,Ah tv (c_ (Aj ⟨tv,tv⟩ rfl tv) (⟨tv,Fm (Ax (r:=.tup [Bh r5.1,Bh r5.2.1,.bool r5.2.2]) true (H426 s1 (wi ((y3).toNat:Int)) r5 e6) ⟨tv,tv,tv⟩ rfl rfl (fun h=>nomatch h) (mP ⟨[(2,.ptr 128 0),(18,.tup [Bh r5.1,Bh r5.2.1,.bool r5.2.2])],[(128,Bb ([]:List UInt8) ([]:List UInt8) false)],[]⟩ (Ak (by kernel_rfl)) ⟨[],tv,tv,Ah tv (Ag rfl tv (⟨tv,Ah tv (c_ (Aj ⟨tv,tv⟩ rfl tv) (⟨tv,Ah tv (c_ (Aj ⟨tv,tv⟩ rfl tv) (⟨tv,Ah tv (c_ (Aj ⟨tv,tv⟩ rfl tv) (⟨tv,Ah tv (Ag rfl tv (⟨tv,Ah tv (Ag rfl tv (⟨tv,Ah tv (Ag rfl tv (⟨tv,Iu (An ⟨[(2,.ptr 128 0),(5,Bh r5.1),(6,Bh r5.2.1),(7,.bool r5.2.2)],[(128,Bb ([]:List UInt8) ([]:List UInt8) false)],[]⟩ (Ak (by kernel_rfl)) ?_)⟩))⟩))⟩))⟩))⟩))⟩))⟩))⟩)) Dl⟩))⟩))⟩))⟩))⟩))⟩)))
 refine Ab (Ab (Ac (st (Ag rfl tv (st (c_ (Aj ⟨tv,tv⟩ rfl tv) (At (An ⟨[(2,.ptr 128 0),(5,Bh r5.1),(6,Bh r5.2.1),(23,.bool (!r5.2.2))],[(128,Bb ([]:List UInt8) ([]:List UInt8) false)],[]⟩ (Ak (by kernel_rfl)) (Bs (cb:=(!r5.2.2)) rfl (fun c7=>?_) (fun c7=>?_))))))))))
 ·replace h0:=ip c7 h0
  refine Ab (Ac (st (c_ (v:=.agg (Bb ([]:List UInt8) ([]:List UInt8) false)) (Aj tv rfl tv) (st (El rfl rfl tv rfl rfl rfl (nl rfl) (st (Bw (st (Bg tv (At (An ⟨[(2,.ptr 128 0),(3,.lst 1 ([].map Bo)),(4,.bool false)],[(128,Bb ([]:List UInt8) ([]:List UInt8) false)],[]⟩ (mR [192] (by kernel_rfl)) ?_)))))))))))
  obtain rfl:=sj h0
  exact Cr (Bj rfl rfl rfl rfl rfl tv)
 ·replace h0:=Do c7 h0
  refine Dn (An ⟨[(2,.ptr 128 0),(5,Bh r5.1),(6,Bh r5.2.1)],[(128,Bb ([]:List UInt8) ([]:List UInt8) false)],[]⟩ (Ak (by kernel_rfl)) (Ab (Ac (st (Ag rfl tv ?_)))))
  obtain ⟨r8,e9,h0⟩:=bnd h0
  refine st (Ax (r:=.tup [Bh r8.1,Bh r8.2.1,.bool r8.2.2]) true (H426 r5.2.1 2 r8 e9) ⟨tv,tv,tv⟩ rfl rfl (fun h=>nomatch h) (st (Ag rfl tv (st (c_ (Aj ⟨tv,tv⟩ rfl tv) (st (c_ (Aj ⟨tv,tv⟩ rfl tv) (st (c_ (Aj ⟨tv,tv⟩ rfl tv) (st (Ag rfl tv (st (Ag rfl tv (st (Ag rfl tv (At (An ⟨[(2,.ptr 128 0),(5,Bh r5.1),(6,Bh r8.2.1),(7,.bool r8.2.2),(8,Bh r8.1)],[(128,Bb ([]:List UInt8) ([]:List UInt8) false)],[]⟩ (Ak (by kernel_rfl)) (Ab (Ab (Ac (st (Ag rfl tv (st (c_ (Aj ⟨tv,tv⟩ rfl tv) (At (An ⟨[(2,.ptr 128 0),(5,Bh r5.1),(6,Bh r8.2.1),(8,Bh r8.1),(32,.bool (!r8.2.2))],[(128,Bb ([]:List UInt8) ([]:List UInt8) false)],[]⟩ (Ak (by kernel_rfl)) (Bs (cb:=(!r8.2.2)) rfl (fun c10=>?_) (fun c10=>?_))))))))))))))))))))))))))))
  ·replace h0:=ip c10 h0
   refine Ab (Ac (st (c_ (v:=.agg (Bb ([]:List UInt8) ([]:List UInt8) false)) (Aj tv rfl tv) (st (El rfl rfl tv rfl rfl rfl (nl rfl) (st (Bw (st (Bg tv (At (An ⟨[(2,.ptr 128 0),(3,.lst 1 ([].map Bo)),(4,.bool false)],[(128,Bb ([]:List UInt8) ([]:List UInt8) false)],[]⟩ (mR [192] (by kernel_rfl)) ?_)))))))))))
   obtain rfl:=sj h0
   exact Cr (Bj rfl rfl rfl rfl rfl tv)
  ·replace h0:=Do c10 h0
   refine Dn (An ⟨[(2,.ptr 128 0),(5,Bh r5.1),(6,Bh r8.2.1),(8,Bh r8.1)],[(128,Bb ([]:List UInt8) ([]:List UInt8) false)],[]⟩ (Ak (by kernel_rfl)) (Ab (Ac (st (Ag rfl tv ?_)))))
   obtain ⟨r11,e12,h0⟩:=bnd h0
   refine st (Ax (r:=iV r11) false (H333 r8.1 r11 e12) ⟨tv,tv⟩ rfl rfl (fun _=>rfl) (st (Ag rfl tv (At (An ⟨[(2,.ptr 128 0),(5,Bh r5.1),(6,Bh r8.2.1),(9,iV r11)],[(128,Bb ([]:List UInt8) ([]:List UInt8) false)],[]⟩ (Ak (by kernel_rfl)) (Ab (Ac (st (Ag rfl tv (st (Ag rfl tv (st (c_ (Aj t3 rfl tv) (st (c_ (Aj ⟨tv,tv,tv⟩ rfl rfl) ?_)))))))))))))))
   obtain ⟨r13,e14,h0⟩:=bnd h0
   refine st (Ax (r:=.tup [Bh r13.1,Bh r13.2.1,.bool r13.2.2]) true (H426 r8.2.1 (if 0>(wi (r11-1)) then 0 else (wi (r11-1))) r13 e14) ⟨tv,tv,tv⟩ rfl rfl (fun h=>nomatch h) (st (Ag rfl tv (st (c_ (Aj ⟨tv,tv⟩ rfl tv) (st (c_ (Aj ⟨tv,tv⟩ rfl tv) (st (c_ (Aj ⟨tv,tv⟩ rfl tv) (st (Ag rfl tv (st (Ag rfl tv (st (Ag rfl tv (At (An ⟨[(2,.ptr 128 0),(5,Bh r5.1),(6,Bh r13.2.1),(7,.bool r13.2.2),(9,iV r11),(10,Bh r13.1)],[(128,Bb ([]:List UInt8) ([]:List UInt8) false)],[]⟩ (Ak (by kernel_rfl)) (Ab (Ac (st (Ag rfl tv (st (c_ (Sj (s:=r5.1) rfl rfl tv) (st (Ag rfl tv (st (c_ (Sj (s:=r13.1) rfl rfl tv) (st (Ag rfl tv (st (c_ (Aj t3 rfl tv) (st (c_ (v:=.agg (Bb r5.1 r13.1 (r11==0))) (Aj ⟨tv,tv,tv,tv⟩ rfl ⟨⟨rfl,rfl,nl rfl⟩,⟨rfl,rfl,nl rfl⟩,⟨rfl,rfl,nl rfl⟩,tv⟩) (st (Ag rfl tv (st (Ag rfl tv (st (El rfl rfl tv rfl rfl rfl (nl rfl) (st (Ag rfl tv (st (Ag rfl tv (At (An ⟨[(2,.ptr 128 0),(3,Bh r13.2.1),(4,.bool r13.2.2)],[(128,Bb r5.1 r13.1 (r11==0))],[]⟩ (Ak (by kernel_rfl)) ?_)))))))))))))))))))))))))))))))))))))))))))))
   obtain rfl:=sj h0
   exact Cr (Bj rfl rfl rfl rfl rfl tv)

/- loop.example/g00149/impl.readBatch -/
def DB:List Bi:=[⟨some 2,.nilS 3,none⟩,k_ 3 (.bool false)]
def DC:List Bi:=[⟨some 4,.nilS 3,none⟩]
def DD:=[m_ 8 0,n_ 9 8,B_ .gtr 10 9 0]
def DE:=[m_ 12 0,q_ 13 415 [.t 12],m_ 11 13,e_ 14 11 0,e_ 15 11 1,e_ 16 11 2,a_ 5 [.str [],.str [],.bool false],s_ 5 14 3,m_ 6 15,m_ 7 16]
def DF:List Bi:=[m_ 17 7,N_ 18 17,m_ 19 18,mF 19 20 4,pF 19 21 (.len (.t 20)),pF 19 22 (.bin .eql (.t 21) (.c (iV 30))),po 23 19 22,m_ 24 23,lF 24 25 5 3 true,⟨some 26,.call 414 [.t 25],some (24,false)⟩,pF 24 27 (.un .not (.t 26)),po 28 24 27]
def DG:List Bi:=[⟨some 2,.nilS 3,none⟩,k_ 3 (.bool false)]
def DH:List Bi:=[m_ 29 4,L_ 30 5 3,⟨some 31,.mkS 3 [.str [],.str [],.bool false] 1 [(0,.t 30)],none⟩,⟨some 32,.app 3 40 (.t 29) (.t 31),none⟩,m_ 4 32]
def DI:=[m_ 33 6,m_ 0 33]
def DA:IR:=(.seq (sr DD (.ite (.t 10) .skip (.exit 0))) (.block 1 (sr DE (.seq (sr DF (iz 28 (rr DG))) (sr DH (.reg DI))))))
def DJ:=[m_ 34 4,m_ 2 34,k_ 3 (.bool true)]
def WR:Dh:=⟨1,35,[.t 2,.t 3],sr DB (sr DC (.seq (Li 0 DA) (rr DJ)))⟩
def qJ (D:Bf):Prop:=∀a0 r,nJ a0=some r→D 396 ⟨[Bh a0],[]⟩ ⟨.tup [Ar 0 r.1,.bool r.2],[],[]⟩
theorem Aau (H414:qM C) (H415:RS C):qJ (FO C WR):=by
 intro a0 r h0
 refine f0 (Ab (Ac (st (Bw (st (Bg tv (At (An ⟨[(0,Bh a0)],[],[]⟩ (Ak (by kernel_rfl)) (Ab (Ac (st (Bw (At (An ⟨[(0,Bh a0),(4,.own 256 0 3 ([].map Ad))],[],[]⟩ (Ak (by kernel_rfl)) (Ab (Be ?_))))))))))))))))
 obtain ⟨r33,e34,h0⟩:=bnd h0
 refine Cz (R:=(fun S=>∃p23:List Ae,.inl p23=r33∧S=⟨[(4,Ar 256 p23)],[],[]⟩)) (Sx) (fun s S=>match s with | (p10,p11)=>S=⟨[(0,Bh p10),(4,Ar 256 p11)],[],[]⟩) e34 ⟨[(0,Bh a0),(4,.own 256 0 3 ([].map Ad))],[],[]⟩ (Ak (by kernel_rfl)) rfl 0 (fun _=>rfl) ?_ ?_
 ·rintro S _ hfg ⟨p23,rfl,rfl⟩
  refine An ⟨[(4,Ar 256 p23)],[],[]⟩ (Ft hfg (by kernel_rfl)) (Ab (Ac (st (Ag rfl tv (st (Ag rfl tv (st (Bg tv (At (An ⟨[(2,Ar 256 p23),(3,.bool true)],[],[]⟩ (Ak (by kernel_rfl)) ?_))))))))))
  obtain rfl:=sj h0
  exact Cr (Bj rfl rfl rfl rfl rfl tv)
 ·rintro ⟨p10,p11⟩ o1 _ K1 rfl h1 hx1 hK1 hE1 hR1
  refine Ab (Ab (Ac (st (Ag rfl tv (st (c_ (Cg (e:=Bo) (l0:=p10) rfl rfl tv) (st (c_ (Aj t3 rfl tv) (At (An ⟨[(0,Bh p10),(4,Ar 256 p11),(10,.bool (decide ((p10.length:Int)>0)))],[],[]⟩ (Ak (by kernel_rfl)) (Bs (cb:=(decide ((p10.length:Int)>0))) rfl (fun c24=>?_) (fun c24=>?_))))))))))))
  ·replace h1:=ip c24 h1
   refine Dn (An ⟨[(0,Bh p10),(4,Ar 256 p11)],[],[]⟩ (Ak (by kernel_rfl)) (Be (Ab (Ac (st (Ag rfl tv ?_))))))
   obtain ⟨r25,e26,h1⟩:=bnd h1
   refine st (Ax (r:=.tup [.agg (Ad r25.1),Bh r25.2.1,.bool r25.2.2]) true (H415 p10 r25 e26) ⟨tv,tv⟩ rfl rfl (fun h=>nomatch h) (st (Ag rfl tv (st (c_ (Aj ⟨tv,tv⟩ rfl tv) (st (c_ (Aj ⟨tv,tv⟩ rfl tv) (st (c_ (Aj ⟨tv,tv⟩ rfl tv) (st (Dt (st (El rfl rfl tv rfl rfl rfl (nl rfl) (sw ⟨[(4,Ar 256 p11),(5,.ptr 320 0),(15,Bh r25.2.1),(16,.bool r25.2.2)],[(320,Ad r25.1)],[]⟩ (Ak (by kernel_rfl)) (Ag rfl tv (st (Ag rfl tv (At (An ⟨[(4,Ar 256 p11),(5,.ptr 320 0),(6,Bh r25.2.1),(7,.bool r25.2.2)],[(320,Ad r25.1)],[]⟩ (Ak (by kernel_rfl)) (Ab (Ab (Ac (st (Ag rfl tv (st (c_ (Aj ⟨tv,tv⟩ rfl tv) (st (Ag rfl tv (st (Bu (u:=Ar 256 p11) rfl (fun hg=>(Gx (v:=Ar 256 p11) rfl tv)) (st (Bu (u:=iV (p11.length:Int)) rfl (fun hg=>(Ez (e:=Ad) (l0:=p11) rfl rfl (fun _=>hg))) (st (Bu (u:=.bool ((p11.length:Int)==30)) rfl (fun hg=>(Aj ⟨(fun _=>hg),tv,tv⟩ rfl tv)) (st (Ct rfl rfl rfl tv (fun h=>Sa h) rfl (st (Ag rfl tv (st (Bu (u:=.agg (Ad r25.1)) rfl (fun hg=>(Aj ⟨tv,tv⟩ rfl (nl rfl))) ?_))))))))))))))))))))))))))))))))))))))))
   obtain ⟨r27,e28,h1⟩:=bnd h1
   refine sw ⟨[(4,Ar 256 p11),(5,.ptr 320 0),(6,Bh r25.2.1),(24,.bool (bif (!r25.2.2) then true else ((p11.length:Int)==30))),(25,.may ((bif (!r25.2.2) then true else ((p11.length:Int)==30))==false) (.agg (Ad r25.1)))],[(320,Ad r25.1)],[]⟩ (Ak (by kernel_rfl)) (Hu (r:=.bool r27) rfl false (fun hg=>H414 r25.1 r27 (ip hg e28)) ⟨(fun hg=>hg),tv⟩ (fun _=>rfl) (fun _=>rfl) (fun _=>rfl) (fun h=>nomatch h) (st (Bu (u:=.bool (!r27)) rfl (fun hg=>(Aj ⟨(fun _=>hg),tv⟩ rfl tv)) (st (Ct rfl rfl rfl tv (fun h=>Sa h) rfl (At ?_))))))
   obtain ⟨v29,e30,h1⟩:=bl h1
   refine An ⟨[(4,Ar 256 p11),(5,.ptr 320 0),(6,Bh r25.2.1),(28,.bool v29)],[(320,Ad r25.1)],[]⟩ (Ak (by subst e30; kernel_rfl)) (Bs (cb:=v29) rfl (fun c31=>?_) (fun c31=>?_))
   ·replace h1:=ip c31 h1
    refine Ab (Ac (st (Bw (st (Bg tv (At (An ⟨[(2,.own 128 0 3 ([].map Ad)),(3,.bool false)],[],[]⟩ (Ak (by kernel_rfl)) ?_)))))))
    obtain rfl:=sj h1
    obtain rfl:=hx1 _ rfl
    obtain rfl:=sj h0
    exact Cr (hR1 _ (Bj rfl rfl rfl rfl rfl tv))
   ·replace h1:=Do c31 h1
    refine Dn (An ⟨[(4,Ar 256 p11),(5,.ptr 320 0),(6,Bh r25.2.1)],[(320,Ad r25.1)],[]⟩ (Ak (by kernel_rfl)) (Ab (Ac (st (Ag rfl tv (st (c_ (v:=.agg (Ad r25.1)) (Aj ⟨tv,tv⟩ rfl (nl rfl)) (st (Fk ⟨tv,tv⟩ ⟨⟨nl rfl,rfl,rfl⟩,tv⟩ ?_)))))))))
    obtain ⟨c32,h1⟩:=Kq h1
    refine st (Hc (e:=Ad) (l0:=p11) (l1:=([r25.1]:List Ae)) rfl rfl tv rfl (by decide) c32 (st (Ag rfl tv (At (An ⟨[(4,Ar 256 (p11++([r25.1]:List Ae))),(6,Bh r25.2.1)],[],[]⟩ (Ak (by kernel_rfl)) (Ac (st (Ag rfl tv (st (Ag rfl tv (At (It ?_))))))))))))
    obtain rfl:=sj h1
    exact hK1 _ rfl _ ⟨[(0,Bh r25.2.1),(4,Ar 256 (p11++([r25.1]:List Ae)))],[],[]⟩ (Ak (by kernel_rfl)) rfl
  ·replace h1:=Do c24 h1
   obtain rfl:=sj h1
   obtain rfl:=hx1 _ rfl
   refine Ke rfl ?_
   exact hE1 _ ⟨[(4,Ar 256 p11)],[],[]⟩ (Ak (by kernel_rfl)) ⟨_,rfl,rfl⟩

/- loop.example/g00149/impl.ReadBatch -/
def AO:List Bi:=[⟨some 2,.nilS 3,none⟩,i_ 3 0]
def AP:=[m_ 6 0,q_ 7 264 [.t 6],N_ 8 7]
def AQ:List Bi:=[⟨some 2,.nilS 3,none⟩,i_ 3 2]
def AR:=[m_ 10 0,q_ 11 396 [.t 10],m_ 9 11,e_ 12 9 0,e_ 13 9 1,m_ 4 12,m_ 5 13]
def AS:=[m_ 14 5,N_ 15 14]
def AT:List Bi:=[⟨some 2,.nilS 3,none⟩,i_ 3 3]
def AU:=[m_ 16 4,m_ 2 16,i_ 3 0]
def WG:Dh:=⟨1,17,[.t 2,.t 3],sr AO (.seq (sr AP (iz 8 (rr AQ))) (sr AR (.seq (sr AS (iz 15 (rr AT))) (rr AU))))⟩
def QV (D:Bf):Prop:=∀a0 r,MK a0=some r→D 381 ⟨[Bh a0],[]⟩ ⟨.tup [Ar 0 r.1,iV r.2],[],[]⟩
theorem Aak (H264:PW C) (H396:qJ C):QV (FO C WG):=by
 intro a0 r h0
 refine f0 (Ab (Ac (st (Bw (st (Bg tv (At (An ⟨[(0,Bh a0)],[],[]⟩ (Ak (by kernel_rfl)) (Ab (Ab (Ac (st (Ag rfl tv ?_)))))))))))))
 obtain ⟨r1,e2,h0⟩:=bnd h0
 refine st (Ax (r:=.bool r1) false (H264 a0 r1 e2) ⟨tv,tv⟩ rfl rfl (fun _=>rfl) (st (c_ (Aj ⟨tv,tv⟩ rfl tv) (At (An ⟨[(0,Bh a0),(8,.bool (!r1))],[],[]⟩ (Ak (by kernel_rfl)) (Bs (cb:=(!r1)) rfl (fun c3=>?_) (fun c3=>?_)))))))
 ·replace h0:=ip c3 h0
  refine Ab (Ac (st (Bw (st (Bg tv (At (An ⟨[(2,.own 128 0 3 ([].map Ad)),(3,iV 2)],[],[]⟩ (Ak (by kernel_rfl)) ?_)))))))
  obtain rfl:=sj h0
  exact Cr (Bj rfl rfl rfl rfl rfl tv)
 ·replace h0:=Do c3 h0
  refine Dn (An ⟨[(0,Bh a0)],[],[]⟩ (Ak (by kernel_rfl)) (Ab (Ac (st (Ag rfl tv ?_)))))
  obtain ⟨r4,e5,h0⟩:=bnd h0
  refine st (Ax (r:=.tup [Ar 0 r4.1,.bool r4.2]) false (H396 a0 r4 e5) ⟨tv,tv⟩ rfl rfl (fun _=>(Cf (Jo (fun _=>rfl)) (Cf rfl rfl))) (st (Ag rfl tv (st (c_ (Aj ⟨tv,tv⟩ rfl tv) (st (c_ (Aj ⟨tv,tv⟩ rfl tv) (st (Ag rfl tv (st (Ag rfl tv (At (An ⟨[(4,Ar 704 r4.1),(5,.bool r4.2)],[],[]⟩ (Ak (by kernel_rfl)) (Ab (Ab (Ac (st (Ag rfl tv (st (c_ (Aj ⟨tv,tv⟩ rfl tv) (At (An ⟨[(4,Ar 704 r4.1),(15,.bool (!r4.2))],[],[]⟩ (Ak (by kernel_rfl)) (Bs (cb:=(!r4.2)) rfl (fun c6=>?_) (fun c6=>?_))))))))))))))))))))))))
  ·replace h0:=ip c6 h0
   refine Ab (Ac (st (Bw (st (Bg tv (At (An ⟨[(2,.own 128 0 3 ([].map Ad)),(3,iV 3)],[],[]⟩ (Ak (by kernel_rfl)) ?_)))))))
   obtain rfl:=sj h0
   exact Cr (Bj rfl rfl rfl rfl rfl tv)
  ·replace h0:=Do c6 h0
   refine Dn (An ⟨[(4,Ar 704 r4.1)],[],[]⟩ (Ak (by kernel_rfl)) (Ab (Ac (st (Ag rfl tv (st (Ag rfl tv (st (Bg tv (At (An ⟨[(2,Ar 704 r4.1),(3,iV 0)],[],[]⟩ (Ak (by kernel_rfl)) ?_)))))))))))
   obtain rfl:=sj h0
   exact Cr (Bj rfl rfl rfl rfl rfl tv)

/- loop.example/g00149/impl.isList[loop.example/g00149/impl.Sector] -/
def sI:=[k_ 2 (.bool false)]
def sJ:=[m_ 3 0,n_ 4 3,B_ .leq 5 4 4096,m_ 2 5]
def UY:Dh:=⟨1,6,[.t 2],sr sI (rr sJ)⟩
def PY (D:Bf):Prop:=∀a0 r,SY a0=some r→D 269 ⟨[Ba a0],[]⟩ ⟨.bool r,[],[]⟩
theorem ZE:PY (FO C UY):=by
 intro a0 r h0
 refine f0 (Ab (Ac (st (Bg tv (At (An ⟨[(0,Ba a0)],[],[]⟩ (Ak (by kernel_rfl)) (Ab (Ac (st (Ag rfl tv (st (c_ (Cg (e:=Ay) (l0:=a0) rfl rfl tv) (st (c_ (Aj t3 rfl tv) (st (Ag rfl tv (At (An ⟨[(2,.bool (decide ((a0.length:Int)≤4096)))],[],[]⟩ (Ak (by kernel_rfl)) ?_))))))))))))))))))
 obtain rfl:=sj h0
 exact Cr (Bj rfl rfl rfl rfl rfl tv)

/- slices.IndexFunc[[]loop.example/g00149/impl.Sector,loop.example/g00149/impl.Sector] -/
def zA:=[i_ 4 0]
def zB:=[m_ 6 0,n_ 7 6,i_ 8 0]
def zC:=[b_ .lss 9 8 7]
def zD:=[m_ 10 8,m_ 5 10]
def zE:List Bi:=[m_ 11 1,m_ 12 0,m_ 13 5,x_ 14 12 13 2,L_ 15 14 2,⟨some 16,.callv (.t 11) [.t 15],none⟩]
def zF:=[m_ 17 5,m_ 4 17]
def zG:=[B_ .add 18 8 1,m_ 8 18]
def yZ:IR:=(sr zC (.seq (.ite (.t 9) .skip (.exit 0)) (.seq (.block 1 (sr zD (sr zE (iz 16 (rr zF))))) (.reg zG))))
def zH:=[i_ 4 (-1)]
def WA:Dh:=⟨2,19,[.t 4],sr zA (.seq (sr zB (Li 0 yZ)) (rr zH))⟩
def QR (C:Bf) (D:Bf:=C):Prop:=∀(a0:List As) (f1:Nat) (k1:List V) (is1:As→Option Bool) (hs1:Qr k1) (hf1:∀(x0:As) r,is1 x0=some r→C f1 ⟨.agg (Ay x0)::k1,[]⟩ ⟨.bool r,[],[]⟩) (r:Int),SZ a0 is1=some r→D 367 ⟨[Ba a0,.clo f1 k1],[]⟩ ⟨iV r,[],[]⟩
theorem Aaf:QR C (FO C WA):=by
 intro a0 f1 k1 is1 hs1 hf1 r h0
 refine f0 (Ab (Ac (st (Bg tv (At (An ⟨[(0,Ba a0),(1,.clo f1 k1)],[],[]⟩ (fg ⟨rfl,rfl,tv⟩ tv) (Ab (Ab (Ac (st (Ag rfl tv (st (c_ (Cg (e:=Ay) (l0:=a0) rfl rfl tv) (st (Bg tv (At (An ⟨[(0,Ba a0),(1,.clo f1 k1),(7,iV (a0.length:Int)),(8,iV 0)],[],[]⟩ (fg ⟨rfl,rfl,rfl,rfl,tv⟩ tv) (Be ?_))))))))))))))))))
 obtain ⟨r21,e22,h0⟩:=bnd h0
 refine Cz (R:=(fun S=>.inl ()=r21∧S=⟨[],[],[]⟩)) (dF a0 is1) (fun s S=>match s with | p7=>S=⟨[(0,Ba a0),(1,.clo f1 k1),(7,iV (a0.length:Int)),(8,iV p7)],[],[]⟩) e22 ⟨[(0,Ba a0),(1,.clo f1 k1),(7,iV (a0.length:Int)),(8,iV 0)],[],[]⟩ (fg ⟨rfl,rfl,rfl,rfl,tv⟩ tv) rfl 0 (fun _=>rfl) ?_ ?_
 ·rintro S _ hfg ⟨rfl,rfl⟩
  refine An ⟨[],[],[]⟩ (Ft hfg (by kernel_rfl)) (Ab (Ac (st (Bg tv (At (An ⟨[(4,iV (-1))],[],[]⟩ (Ak (by kernel_rfl)) ?_))))))
  obtain rfl:=sj h0
  exact Cr (Bj rfl rfl rfl rfl rfl tv)
 ·rintro p7 o1 _ K1 rfl h1 hx1 hK1 hE1 hR1
  refine Ab (Ac (st (c_ (Aj t3 rfl tv) (At (An ⟨[(0,Ba a0),(1,.clo f1 k1),(7,iV (a0.length:Int)),(8,iV p7),(9,.bool (decide (p7<(a0.length:Int))))],[],[]⟩ (fg ⟨rfl,rfl,rfl,rfl,rfl,tv⟩ tv) (Ab (Bs (cb:=(decide (p7<(a0.length:Int)))) rfl (fun c15=>?_) (fun c15=>?_))))))))
  ·replace h1:=ip c15 h1
   refine Dn (An ⟨[(0,Ba a0),(1,.clo f1 k1),(7,iV (a0.length:Int)),(8,iV p7)],[],[]⟩ (fg ⟨rfl,rfl,rfl,rfl,tv⟩ tv) (Ab (Be (Ab (Ac (st (Ag rfl tv (st (Ag rfl tv (At (An ⟨[(0,Ba a0),(1,.clo f1 k1),(5,iV p7),(7,iV (a0.length:Int)),(8,iV p7)],[],[]⟩ (fg ⟨rfl,rfl,rfl,rfl,rfl,tv⟩ tv) (Ab (Ac (st (Ag rfl tv (st (Ag rfl tv (st (Ag rfl tv ?_)))))))))))))))))))
   obtain ⟨y16,e17,h1⟩:=bnd h1
   refine st (c_ (Eb (e:=Ay) (y:=y16) rfl rfl tv rfl rfl tv e17) (st (c_ (v:=.agg (Ay y16)) (Aj ⟨tv,tv⟩ rfl (nl rfl)) ?_)))
   obtain ⟨r18,e19,h1⟩:=bnd h1
   refine st (Kj (r:=.bool r18) rfl false (hf1 _ r18 e19) ⟨tv,tv⟩ (Cf rfl hs1.2.2.1) (Gf rfl (hs1.2.1 _ _ _ _ _)) (fun _=>rfl) (At (An ⟨[(0,Ba a0),(1,.clo f1 k1),(5,iV p7),(7,iV (a0.length:Int)),(8,iV p7),(16,.bool r18)],[],[]⟩ (fg ⟨rfl,rfl,rfl,rfl,rfl,rfl,tv⟩ tv) (Bs (cb:=r18) rfl (fun c20=>?_) (fun c20=>?_)))))
   ·replace h1:=ip c20 h1
    refine Ab (Ac (st (Ag rfl tv (st (Ag rfl tv (At (An ⟨[(4,iV p7)],[],[]⟩ (Ak (by kernel_rfl)) ?_)))))))
    obtain rfl:=sj h1
    obtain rfl:=hx1 _ rfl
    obtain rfl:=sj h0
    exact Cr (hR1 _ (Bj rfl rfl rfl rfl rfl tv))
   ·replace h1:=Do c20 h1
    refine Dn (It (An ⟨[(0,Ba a0),(1,.clo f1 k1),(7,iV (a0.length:Int)),(8,iV p7)],[],[]⟩ (fg ⟨rfl,rfl,rfl,rfl,tv⟩ tv) (Ac (st (c_ (Aj t3 rfl tv) (st (Ag rfl tv (At ?_))))))))
    obtain rfl:=sj h1
    exact hK1 _ rfl _ ⟨[(0,Ba a0),(1,.clo f1 k1),(7,iV (a0.length:Int)),(8,iV (wi (p7+1)))],[],[]⟩ (fg ⟨rfl,rfl,rfl,rfl,tv⟩ tv) rfl
  ·replace h1:=Do c15 h1
   obtain rfl:=sj h1
   obtain rfl:=hx1 _ rfl
   refine Ke rfl ?_
   exact hE1 _ ⟨[],[],[]⟩ (Ak (by kernel_rfl)) ⟨rfl,rfl⟩

/- slices.ContainsFunc[[]loop.example/g00149/impl.Sector,loop.example/g00149/impl.Sector] -/
def vY:=[k_ 4 (.bool false)]
def vZ:=[m_ 5 0,m_ 6 1,q_ 7 367 [.t 5,.t 6],B_ .geq 8 7 0,m_ 4 8]
def VP:Dh:=⟨2,9,[.t 4],sr vY (rr vZ)⟩
def QK (C:Bf) (D:Bf:=C):Prop:=∀(a0:List As) (f1:Nat) (k1:List V) (is1:As→Option Bool) (hs1:Qr k1) (hf1:∀(x0:As) r,is1 x0=some r→C f1 ⟨.agg (Ay x0)::k1,[]⟩ ⟨.bool r,[],[]⟩) (r:Bool),LT a0 is1=some r→D 329 ⟨[Ba a0,.clo f1 k1],[]⟩ ⟨.bool r,[],[]⟩
theorem ZU (H367:QR C):QK C (FO C VP):=by
 intro a0 f1 k1 is1 hs1 hf1 r h0
 refine f0 (Ab (Ac (st (Bg tv (At (An ⟨[(0,Ba a0),(1,.clo f1 k1)],[],[]⟩ (fg ⟨rfl,rfl,tv⟩ tv) (Ab (Ac (st (Ag rfl tv (st (Ag rfl tv ?_))))))))))))
 obtain ⟨r1,e2,h0⟩:=bnd h0
 refine st (Ax (r:=iV r1) false (H367 a0 f1 k1 is1 hs1 hf1 r1 e2) ⟨tv,tv,tv⟩ rfl (Gf rfl (Gf (bD hs1) rfl)) (fun _=>rfl) (st (c_ (Aj t3 rfl tv) (st (Ag rfl tv (At (An ⟨[(4,.bool (decide (r1≥0)))],[],[]⟩ (Ak (by kernel_rfl)) ?_)))))))
 obtain rfl:=sj h0
 exact Cr (Bj rfl rfl rfl rfl rfl tv)

/- loop.example/g00149/impl.areAll[loop.example/g00149/impl.Sector]$1 -/
def wA:=[X_ 2 0,k_ 3 (.bool false)]
def wB:List Bi:=[l_ 4 1 1,L_ 5 2 2,⟨some 6,.callv (.t 4) [.t 5],none⟩,N_ 7 6,m_ 3 7]
def VQ:Dh:=⟨2,8,[.t 3],sr wA (rr wB)⟩
def QL (C:Bf) (D:Bf:=C):Prop:=∀(a0:As) (f1:Nat) (k1:List V) (is1:As→Option Bool) (hs1:Qr k1) (hf1:∀(x0:As) r,is1 x0=some r→C f1 ⟨.agg (Ay x0)::k1,[]⟩ ⟨.bool r,[],[]⟩) (r:Bool),LV a0 is1=some r→D 330 ⟨[.agg (Ay a0),.iptr [.clo f1 k1]],[]⟩ ⟨.bool r,[],[]⟩
theorem ZV:QL C (FO C VQ):=by
 intro a0 f1 k1 is1 hs1 hf1 r h0
 refine f0 (Ab (Ac (st (Hm rfl tv rfl (sw ⟨[(1,.iptr [.clo f1 k1]),(2,.ptr 128 0)],[(128,Ay a0)],[]⟩ (fg ⟨rfl,rfl,tv⟩ ⟨rfl,tv⟩) (Bg tv (At (An ⟨[(1,.iptr [.clo f1 k1]),(2,.ptr 128 0)],[(128,Ay a0)],[]⟩ (fg ⟨rfl,rfl,tv⟩ ⟨rfl,tv⟩) (Ab (Ac (st (c_ (Aj ⟨tv,tv⟩ rfl (nl rfl)) (st (c_ (v:=.agg (Ay a0)) (Aj ⟨tv,tv⟩ rfl (nl rfl)) ?_))))))))))))))
 obtain ⟨r1,e2,h0⟩:=bnd h0
 refine st (Kj (r:=.bool r1) rfl false (hf1 _ r1 e2) ⟨tv,tv⟩ (Cf rfl hs1.2.2.1) (Gf rfl (hs1.2.1 _ _ _ _ _)) (fun _=>rfl) (st (c_ (Aj ⟨tv,tv⟩ rfl tv) (st (Ag rfl tv (At (An ⟨[(3,.bool (!r1))],[],[]⟩ (Ak (by kernel_rfl)) ?_)))))))
 obtain rfl:=sj h0
 exact Cr (Bj rfl rfl rfl rfl rfl tv)

/- loop.example/g00149/impl.areAll[loop.example/g00149/impl.Sector] -/
def sK:=[X_ 3 1,k_ 4 (.bool false)]
def sL:=[m_ 5 0,iQ 6 (.fn 330 [.t 3]),q_ 7 329 [.t 5,.t 6],N_ 8 7,m_ 4 8]
def UZ:Dh:=⟨2,9,[.t 4],sr sK (rr sL)⟩
def PZ (C:Bf) (D:Bf:=C):Prop:=∀(a0:List As) (f1:Nat) (k1:List V) (is1:As→Option Bool) (hs1:Qr k1) (hf1:∀(x0:As) r,is1 x0=some r→C f1 ⟨.agg (Ay x0)::k1,[]⟩ ⟨.bool r,[],[]⟩) (r:Bool),KX a0 is1=some r→D 270 ⟨[Ba a0,.clo f1 k1],[]⟩ ⟨.bool r,[],[]⟩
theorem ZF (H329:QK C) (H330:QL C):PZ C (FO C UZ):=by
 intro a0 f1 k1 is1 hs1 hf1 r h0
 refine f0 (Ab (Ac (st (Hm (dA hs1) tv rfl (sw ⟨[(0,Ba a0),(3,.ptr 192 0)],[(192,[.clo f1 k1])],[]⟩ (fg ⟨rfl,rfl,tv⟩ ⟨rfl,tv⟩) (Bg tv (At (An ⟨[(0,Ba a0),(3,.ptr 192 0)],[(192,[.clo f1 k1])],[]⟩ (fg ⟨rfl,rfl,tv⟩ ⟨rfl,tv⟩) (Ab (Ac (st (Ag rfl tv (st (c_ (Aj ⟨tv,tv⟩ rfl rfl) ?_))))))))))))))
 obtain ⟨r1,e2,h0⟩:=bnd h0
 refine st (Ax (r:=.bool r1) false (H329 a0 330 [.iptr [.clo f1 k1]] (fun z330_0=>LV z330_0 is1) (⟨fun _ _ _ _ _=>rfl,fun _ _ _ _ _=>rfl,rfl,fun _ _ _ n=>by cases n<;>rfl,fun _=>rfl⟩) (fun z330_0 r h=>H330 z330_0 f1 k1 is1 hs1 hf1 r h) r1 e2) ⟨tv,tv,tv⟩ rfl (Gf rfl (Gf (congrArg (fun z=>V.clo 330 [.iptr [.clo f1 z]]) (hs1.2.2.2.1 _ _ _ _)) rfl)) (fun _=>rfl) (st (c_ (Aj ⟨tv,tv⟩ rfl tv) (st (Ag rfl tv (At (An ⟨[(4,.bool (!r1))],[],[]⟩ (Ak (by kernel_rfl)) ?_)))))))
 obtain rfl:=sj h0
 exact Cr (Bj rfl rfl rfl rfl rfl tv)

/- loop.example/g00149/impl.DeviceOK$1 -/
def sM:=[X_ 1 0,k_ 2 (.bool false)]
def sN:=[f_ 3 1 0,l_ 4 3 1,q_ 5 63 [.t 4,.c (iV 0),.c (iV 127)],m_ 6 5,fT 6 7 1 1,lT 6 8 7 1 false,pT 6 9 (.len (.t 8)),pT 6 10 (.bin .eql (.t 9) (.c (iV 32))),pa 11 6 10,m_ 2 11]
def VA:Dh:=⟨1,12,[.t 2],sr sM (rr sN)⟩
def QA (D:Bf):Prop:=∀a0 r,fP a0=some r→D 271 ⟨[.agg (Ay a0)],[]⟩ ⟨.bool r,[],[]⟩
theorem ZG (H63:UB C):QA (FO C VA):=by
 intro a0 r h0
 refine f0 (Ab (Ac (st (Hm rfl tv rfl (st (Bg tv (At (An ⟨[(1,.ptr 64 0)],[(64,Ay a0)],[]⟩ (Ak (by kernel_rfl)) (Ab (Ac (st (c_ (Aj ⟨tv,tv⟩ rfl tv) (st (c_ (Aj ⟨tv,tv⟩ rfl (nl rfl)) ?_))))))))))))))
 obtain ⟨r1,e2,h0⟩:=bnd h0
 refine st (Ax (r:=.bool r1) false (H63 a0.at_ 0 127 r1 e2) ⟨tv,tv,tv,tv⟩ rfl rfl (fun _=>rfl) (st (Ag rfl tv (st (Bu (u:=.ptr 64 1) rfl (fun hg=>(Aj ⟨tv,tv⟩ rfl tv)) (st (Bu (u:=Bh a0.data) rfl (fun hg=>(Aj ⟨(fun _=>hg),tv⟩ rfl (nl rfl))) (st (Bu (u:=iV (a0.data.length:Int)) rfl (fun hg=>(Cg (e:=Bo) (l0:=a0.data) rfl rfl (fun _=>hg))) (st (Bu (u:=.bool ((a0.data.length:Int)==32)) rfl (fun hg=>(Aj ⟨(fun _=>hg),tv,tv⟩ rfl tv)) (st (Ct rfl rfl rfl (fun h=>Zh h) tv rfl (st (Ag rfl tv (At (An ⟨[(2,.bool (bif r1 then ((a0.data.length:Int)==32) else false))],[],[]⟩ (Ak (by kernel_rfl)) ?_)))))))))))))))))
 obtain rfl:=sj h0
 exact Cr (Bj rfl rfl rfl rfl rfl tv)

/- loop.example/g00149/impl.DeviceOK -/
def rJ:=[X_ 1 0,k_ 2 (.bool false)]
def rK:List Bi:=[f_ 3 1 0,l_ 4 3 1,n_ 5 4,B_ .rem 6 5 32,B_ .eql 7 6 0,m_ 8 7,fT 8 9 1 0,lT 8 10 9 1 false,pT 8 11 (.len (.t 10)),pT 8 12 (.bin .leq (.t 11) (.c (iV 4096))),pa 13 8 12,m_ 14 13,fT 14 15 1 1,lT 14 16 15 1 false,⟨some 17,.call 269 [.t 16],some (14,true)⟩,pa 18 14 17,m_ 19 18,fT 19 20 1 1,lT 19 21 20 1 false,⟨some 22,.call 270 [.t 21,.c (.clo 271 [])],some (19,true)⟩,pa 23 19 22,m_ 2 23]
def UT:Dh:=⟨1,24,[.t 2],sr rJ (rr rK)⟩
def qA (D:Bf):Prop:=∀a0 r,mW a0=some r→D 216 ⟨[.agg (Ap a0)],[]⟩ ⟨.bool r,[],[]⟩
theorem YZ (H269:PY C) (H270:PZ C) (H271:QA C):qA (FO C UT):=by
 intro a0 r h0
 refine f0 (Ab (Ac (st (Hm rfl tv rfl (st (Bg tv (At (An ⟨[(1,.ptr 64 0)],[(64,Ap a0)],[]⟩ (Ak (by kernel_rfl)) (Ab (Ac (st (c_ (Aj ⟨tv,tv⟩ rfl tv) (st (c_ (Aj ⟨tv,tv⟩ rfl (nl rfl)) (st (c_ (Cg (e:=Bo) (l0:=a0.held) rfl rfl tv) (st (c_ (Aj ⟨tv,tv,tv⟩ rfl (by decide)) (st (c_ (Aj t3 rfl tv) (st (Ag rfl tv (st (Bu (u:=.ptr 64 0) rfl (fun hg=>(Aj ⟨tv,tv⟩ rfl tv)) (st (Bu (u:=Bh a0.held) rfl (fun hg=>(Aj ⟨(fun _=>hg),tv⟩ rfl (nl rfl))) (st (Bu (u:=iV (a0.held.length:Int)) rfl (fun hg=>(Cg (e:=Bo) (l0:=a0.held) rfl rfl (fun _=>hg))) (st (Bu (u:=.bool (decide ((a0.held.length:Int)≤4096))) rfl (fun hg=>(Aj ⟨(fun _=>hg),tv,tv⟩ rfl tv)) (st (Ct rfl rfl rfl (fun h=>Zh h) tv rfl (st (Ag rfl tv (st (Bu (u:=.ptr 64 1) rfl (fun hg=>(Aj ⟨tv,tv⟩ rfl tv)) (st (Bu (u:=Ba a0.Aq) rfl (fun hg=>(Aj ⟨(fun _=>hg),tv⟩ rfl (nl rfl))) ?_))))))))))))))))))))))))))))))))))))))
 obtain ⟨r1,e2,h0⟩:=bnd h0
 refine sw ⟨[(1,.ptr 64 0),(14,.bool (bif ((((a0.held.length:Int)).tmod 32)==0) then (decide ((a0.held.length:Int)≤4096)) else false)),(16,.may ((bif ((((a0.held.length:Int)).tmod 32)==0) then (decide ((a0.held.length:Int)≤4096)) else false)==true) (Ba a0.Aq))],[(64,Ap a0)],[]⟩ (Ak (by kernel_rfl)) (Hu (r:=.bool r1) rfl false (fun hg=>H269 a0.Aq r1 (ip hg e2)) ⟨(fun hg=>hg),tv⟩ (fun _=>rfl) (fun _=>rfl) (fun _=>rfl) (fun h=>nomatch h) (st (Ct rfl rfl rfl (fun h=>Zh h) tv rfl (st (Ag rfl tv (st (Bu (u:=.ptr 64 1) rfl (fun hg=>(Aj ⟨tv,tv⟩ rfl tv)) (st (Bu (u:=Ba a0.Aq) rfl (fun hg=>(Aj ⟨(fun _=>hg),tv⟩ rfl (nl rfl))) ?_)))))))))
 obtain ⟨r3,e4,h0⟩:=bnd h0
 refine sw ⟨[(19,.bool (bif (bif ((((a0.held.length:Int)).tmod 32)==0) then (decide ((a0.held.length:Int)≤4096)) else false) then r1 else false)),(21,.may ((bif (bif ((((a0.held.length:Int)).tmod 32)==0) then (decide ((a0.held.length:Int)≤4096)) else false) then r1 else false)==true) (Ba a0.Aq))],[],[]⟩ (Ak (by kernel_rfl)) (Hu (r:=.bool r3) rfl false (fun hg=>H270 a0.Aq 271 [] (fun z271_0=>fP z271_0) (⟨fun _ _ _ _ _=>rfl,fun _ _ _ _ _=>rfl,rfl,fun _ _ _ n=>by cases n<;>rfl,fun _=>rfl⟩) (fun z271_0 r h=>H271 z271_0 r h) r3 (ip hg e4)) ⟨(fun hg=>hg),tv,tv⟩ (fun _=>rfl) (fun _=>rfl) (fun _=>rfl) (fun h=>nomatch h) (st (Ct rfl rfl rfl (fun h=>Zh h) tv rfl (st (Ag rfl tv (At ?_))))))
 obtain ⟨v5,e6,h0⟩:=bl h0
 refine An ⟨[(2,.bool v5)],[],[]⟩ (Ak (by subst e6; kernel_rfl)) ?_
 obtain rfl:=sj h0
 exact Cr (Bj rfl rfl rfl rfl rfl tv)

/- slices.Clone[[]byte,byte] -/
def vB:List Bi:=[⟨some 2,.nilS 1,none⟩]
def vC:List Bi:=[m_ 3 0,⟨some 4,.isnil (.t 3) false,none⟩]
def vD:List Bi:=[⟨some 2,.nilS 1,none⟩]
def vE:List Bi:=[⟨some 5,.mkS 1 [.int .u8 0] 0 [],none⟩,m_ 6 0,⟨some 7,.app 1 1 (.t 5) (.t 6),none⟩,m_ 2 7]
def VL:Dh:=⟨1,8,[.t 2],sr vB (.seq (sr vC (iz 4 (rr vD))) (rr vE))⟩
def eV (D:Bf):Prop:=∀a0 r,Zl a0=some r→D 325 ⟨[Bh a0],[]⟩ ⟨Bc 0 r,[],[]⟩
theorem ZQ:eV (FO C VL):=by
 intro a0 r h0
 refine f0 ?_
 obtain ⟨hc,h0⟩:=Kq h0
 obtain rfl:=sj h0
 refine Ab (Ac (st (Bw (At (An ⟨[(0,Bh a0)],[],[]⟩ (fg ⟨rfl,tv⟩ tv) (Ab (Ab (Ac (st (Ag rfl tv (st (nT (e:=Bo) (l0:=a0) rfl fun b hb=>(At (cF (Bs (cb:=b) rfl (fun h=>?_) (fun h=>?_))))))))))))))))
 ·obtain rfl:=hb h
  refine Ab (Ac (st (Bw (At (cF ?_)))))
  refine Cr (Bj rfl rfl rfl rfl rfl tv)
 ·refine Dn ?_
  refine An ⟨[(0,Bh a0)],[],[]⟩ (fg ⟨rfl,tv⟩ tv) (Ab (Ac (st (Fk tv tv (st (Ag rfl tv (st (Hc (e:=Bo) (l0:=([]:List UInt8)) (l1:=a0) rfl rfl tv rfl (by decide) ?_ ?_))))))))
  rotate_left
  refine st (Ag rfl tv (At (cF ?_)))
  refine Cr (Bj rfl rfl rfl rfl rfl tv)
  have:=Nat.mul_le_mul_right 1 hc
  exact Nat.le_trans this (by decide)

/- loop.example/g00149/impl.put -/
def vF:List Bi:=[X_ 3 1,⟨some 4,.nilS 1,none⟩]
def vG:List Bi:=[f_ 6 3 0,l_ 7 6 1,B_ .add 8 7 1,⟨some 9,.p (.bin .mul (.c (iV 32)) (.t 8)),none⟩,m_ 5 9]
def vH:=[m_ 10 0,n_ 11 10,m_ 12 5,b_ .lss 13 11 12]
def vI:List Bi:=[m_ 14 0,m_ 15 5,m_ 16 0,n_ 17 16,b_ .sub 18 15 17,⟨some 19,.appz 1 1 [.int .u8 0] (.t 14) (.t 18),none⟩,m_ 0 19]
def vJ:=tk [m_ 20 0,f_ 21 3 0,l_ 22 21 1,⟨some 23,.p (.bin .mul (.c (iV 32)) (.t 22)),none⟩,⟨some 24,.p (.slice (.t 20) (some (.t 23)) none 1),none⟩,f_ 25 3 1,l_ 26 25 1] (.alt [] ⟨some 27,.copy 1 (.t 24) (.t 26),none⟩ .fin .stop)
def vK:=[m_ 28 0,m_ 4 28]
def VM:Dh:=⟨2,29,[.t 4],sr vF (.seq (sr vG (sr vH (iz 13 (.reg vI)))) (sd vJ (rr vK)))⟩
def QH (D:Bf):Prop:=∀a0 a1 r,LL a0 a1=some r→D 326 ⟨[Bc 1024000 a0,.agg (Ay a1)],[]⟩ ⟨Bc 0 r,[],[]⟩
theorem ZR:QH (FO C VM):=by
 intro a0 a1 r h0
 refine f0 (Ab (Ac (st (Hm rfl tv rfl (st (Bw (At (An ⟨[(0,Bc 1024000 a0),(3,.ptr 192 0)],[(192,Ay a1)],[]⟩ (Ak (by kernel_rfl)) (Ab (Ab (Ac (st (c_ (Aj ⟨tv,tv⟩ rfl tv) (st (c_ (Aj ⟨tv,tv⟩ rfl (nl rfl)) (st (c_ (Aj t3 rfl tv) (st (c_ (Aj t3 rfl tv) (st (Ag rfl tv (At (An ⟨[(0,Bc 1024000 a0),(3,.ptr 192 0),(5,iV (wi (32*(wi (a1.at_+1)))))],[(192,Ay a1)],[]⟩ (Ak (by kernel_rfl)) (Ab (Ac (st (Ag rfl tv (st (c_ (Ez (e:=Bo) (l0:=a0) rfl rfl tv) (st (Ag rfl tv (st (c_ (Aj t3 rfl tv) (At ?_))))))))))))))))))))))))))))))))))
 obtain ⟨v1,e2,h0⟩:=bl h0
 refine An ⟨[(0,Bc 1024000 a0),(3,.ptr 192 0),(5,iV (wi (32*(wi (a1.at_+1))))),(13,.bool v1)],[(192,Ay a1)],[]⟩ (Ak (by subst e2; kernel_rfl)) (Zt (cb:=v1) (fun S=>∃p6:List UInt8,S=⟨[(0,Bc 1024000 p6),(3,.ptr 192 0)],[(192,Ay a1)],[]⟩∧Pl a1 p6=some r) rfl ?_ (fun c12 J11=>?_) (fun c12 J11=>?_))
 ·rintro _ ⟨p6,rfl,h0⟩
  refine An ⟨[(0,Bc 1024000 p6),(3,.ptr 192 0)],[(192,Ay a1)],[]⟩ (Ak (by kernel_rfl)) (Ab ?_)
  obtain ⟨s7,e8,h0⟩:=bnd h0
  refine Ds (Ah tv (Ag rfl tv (⟨tv,Ah tv (c_ (Aj ⟨tv,tv⟩ rfl tv) (⟨tv,Ah tv (c_ (Aj ⟨tv,tv⟩ rfl (nl rfl)) (⟨tv,Ah tv (c_ (Aj t3 rfl tv) (⟨tv,Ah tv (c_ (De (e:=Bo) (y:=s7) rfl rfl tv ⟨tv,tv⟩ rfl rfl e8) (⟨tv,Ah tv (c_ (Aj ⟨tv,tv⟩ rfl tv) (⟨tv,Ah tv (c_ (Aj ⟨tv,tv⟩ rfl (nl rfl)) (⟨tv,Fm (copy_ (e:=Bo) (l1:=a1.data) rfl rfl tv rfl (Wg ⟨[],tv,tv,Iu (An ⟨[(0,Bc 1024000 (ovl p6 ((wi (32*a1.at_)).toNat) (a1.data.take s7.length)))],[],[]⟩ (fg ⟨congrArg (fun z=>some ((.own 1024000 0 1 z:V))) Ee,tv⟩ tv) (Ab (Ac (st (Ag rfl tv (st (Ag rfl tv (At ?_))))))))⟩)) Dl⟩))⟩))⟩))⟩))⟩))⟩))⟩)))
  obtain ⟨v9,e10,h0⟩:=bl h0
  refine An ⟨[(4,Bc 1024000 v9)],[],[]⟩ (Ak (by subst e10; kernel_rfl)) ?_
  obtain rfl:=sj h0
  exact Cr (Bj rfl rfl rfl rfl rfl tv)
 ·replace h0:=ip c12 h0
  refine Ac (st (Ag rfl tv (st (Ag rfl tv (st (Ag rfl tv (st (c_ (Ez (e:=Bo) (l0:=a0) rfl rfl tv) (st (c_ (Aj t3 rfl tv) ?_))))))))))
  obtain ⟨c13,h0⟩:=Kq h0
  obtain ⟨c14,h0⟩:=Kq h0
  refine st (iN (e:=Bo) (l0:=a0) (0:UInt8) rfl rfl rfl (by decide) c13 c14 (st (Ag rfl tv (At ?_))))
  exact J11 _ ⟨[(0,.own 1024000 0 1 ((a0++List.replicate (wi ((wi (32*(wi (a1.at_+1))))-(a0.length:Int))).toNat (0:UInt8)).map Bo)),(3,.ptr 192 0)],[(192,Ay a1)],[]⟩ (Ak (by kernel_rfl)) ⟨_,rfl,h0⟩
 ·replace h0:=Do c12 h0
  refine Dn ?_
  exact J11 _ ⟨[(0,Bc 1024000 a0),(3,.ptr 192 0)],[(192,Ay a1)],[]⟩ (Ak (by kernel_rfl)) ⟨_,rfl,h0⟩

/- (loop.example/g00149/impl.Device).read -/
def rW:List Bi:=[X_ 1 0,⟨some 2,.nilS 1,none⟩]
def rX:=[f_ 6 1 0,l_ 7 6 1,q_ 8 325 [.t 7],m_ 3 8]
def rY:=[f_ 9 1 1,l_ 10 9 1,n_ 11 10,i_ 12 0]
def rZ:=[b_ .lss 13 12 11]
def sA:=[x_ 14 10 12 2,L_ 15 14 2,a_ 5 [iV 0,.own 322 0 1 []],s_ 5 15 2]
def sB:=[m_ 16 3,L_ 17 5 2,q_ 18 326 [.t 16,.t 17],m_ 3 18]
def sC:=[B_ .add 19 12 1,m_ 12 19]
def rV:IR:=(sr rZ (.seq (.ite (.t 13) .skip (.exit 0)) (.seq (.block 1 (sr sA (.reg sB))) (.reg sC))))
def sD:=[m_ 20 3,m_ 2 20]
def UV:Dh:=⟨1,21,[.t 2],sr rW (sr rX (.seq (sr rY (Li 0 rV)) (rr sD)))⟩
def eU (D:Bf):Prop:=∀a0 r,bK a0=some r→D 263 ⟨[.agg (Ap a0)],[]⟩ ⟨Bc 0 r,[],[]⟩
theorem ZB (H325:eV C) (H326:QH C):eU (FO C UV):=by
 intro a0 r h0
 refine f0 (Ab (Ac (st (Hm rfl tv rfl (st (Bw (At (An ⟨[(1,.ptr 64 0)],[(64,Ap a0)],[]⟩ (Ak (by kernel_rfl)) (Ab (Ac (st (c_ (Aj ⟨tv,tv⟩ rfl tv) (st (c_ (Aj ⟨tv,tv⟩ rfl (nl rfl)) ?_))))))))))))))
 obtain ⟨r1,e2,h0⟩:=bnd h0
 refine st (Ax (r:=Bc 0 r1) false (H325 a0.held r1 e2) ⟨tv,tv⟩ rfl rfl (fun _=>(Cf (Jo (fun _=>rfl)) rfl)) (st (Ag rfl tv (At (An ⟨[(1,.ptr 64 0),(3,Bc 512 r1)],[(64,Ap a0)],[]⟩ (Ak (by kernel_rfl)) (Ab (Ab (Ac (st (c_ (Aj ⟨tv,tv⟩ rfl tv) (st (c_ (Aj ⟨tv,tv⟩ rfl (nl rfl)) (st (c_ (Cg (e:=Ay) (l0:=a0.Aq) rfl rfl tv) (st (Bg tv (At (An ⟨[(3,Bc 512 r1),(10,Ba a0.Aq),(11,iV (a0.Aq.length:Int)),(12,iV 0)],[],[]⟩ (Ak (by kernel_rfl)) (Be ?_)))))))))))))))))))
 obtain ⟨r23,e24,h0⟩:=bnd h0
 refine Cz (R:=(fun S=>∃p17:List UInt8,p17=r23∧S=⟨[(3,Bc 512 p17)],[],[]⟩)) (Pg a0) (fun s S=>match s with | (p8,p9)=>S=⟨[(3,Bc 512 p8),(10,Ba a0.Aq),(11,iV (a0.Aq.length:Int)),(12,iV p9)],[],[]⟩) e24 ⟨[(3,Bc 512 r1),(10,Ba a0.Aq),(11,iV (a0.Aq.length:Int)),(12,iV 0)],[],[]⟩ (Ak (by kernel_rfl)) rfl 0 (fun _=>rfl) ?_ ?_
 ·rintro S _ hfg ⟨p17,rfl,rfl⟩
  refine An ⟨[(3,Bc 512 p17)],[],[]⟩ (Ft hfg (by kernel_rfl)) (Ab (Ac (st (Ag rfl tv (st (Ag rfl tv (At (An ⟨[(2,Bc 512 p17)],[],[]⟩ (Ak (by kernel_rfl)) ?_))))))))
  obtain rfl:=sj h0
  exact Cr (Bj rfl rfl rfl rfl rfl tv)
 ·rintro ⟨p8,p9⟩ o1 _ K1 rfl h1 hx1 hK1 hE1 hR1
  refine Ab (Ac (st (c_ (Aj t3 rfl tv) (At (An ⟨[(3,Bc 512 p8),(10,Ba a0.Aq),(11,iV (a0.Aq.length:Int)),(12,iV p9),(13,.bool (decide (p9<(a0.Aq.length:Int))))],[],[]⟩ (Ak (by kernel_rfl)) (Ab (Bs (cb:=(decide (p9<(a0.Aq.length:Int)))) rfl (fun c18=>?_) (fun c18=>?_))))))))
  ·replace h1:=ip c18 h1
   refine Dn (An ⟨[(3,Bc 512 p8),(10,Ba a0.Aq),(11,iV (a0.Aq.length:Int)),(12,iV p9)],[],[]⟩ (Ak (by kernel_rfl)) (Ab (Be (Ab (Ac ?_)))))
   obtain ⟨y19,e20,h1⟩:=bnd h1
   refine st (c_ (Eb (e:=Ay) (y:=y19) rfl rfl tv rfl rfl tv e20) (st (c_ (v:=.agg (Ay y19)) (Aj ⟨tv,tv⟩ rfl (nl rfl)) (st (Dt (st (El rfl rfl tv rfl rfl rfl (nl rfl) (At (An ⟨[(3,Bc 512 p8),(5,.ptr 320 0),(10,Ba a0.Aq),(11,iV (a0.Aq.length:Int)),(12,iV p9)],[(320,Ay y19)],[]⟩ (Ak (by kernel_rfl)) (Ac (st (Ag rfl tv (st (c_ (v:=.agg (Ay y19)) (Aj ⟨tv,tv⟩ rfl (nl rfl)) ?_))))))))))))))
   obtain ⟨r21,e22,h1⟩:=bnd h1
   refine st (Gm [] [] [512] false (H326 p8 y19 r21 e22) ⟨tv,tv,tv⟩ (by kernel_rfl) (by kernel_rfl) (by kernel_rfl) (by kernel_rfl) (fun _=>Cf (Cf (Jo (fun _=>rfl)) rfl) rfl) (sw ⟨[(10,Ba a0.Aq),(11,iV (a0.Aq.length:Int)),(12,iV p9),(18,Bc 1152 r21)],[],[]⟩ (Ak (by kernel_rfl)) (Ag rfl tv (At (It (An ⟨[(3,Bc 1152 r21),(10,Ba a0.Aq),(11,iV (a0.Aq.length:Int)),(12,iV p9)],[],[]⟩ (Ak (by kernel_rfl)) (Ac (st (c_ (Aj t3 rfl tv) (st (Ag rfl tv (At ?_))))))))))))
   obtain rfl:=sj h1
   exact hK1 _ rfl _ ⟨[(3,Bc 512 r21),(10,Ba a0.Aq),(11,iV (a0.Aq.length:Int)),(12,iV (wi (p9+1)))],[],[]⟩ (Zi [] [(1152,512)] rfl (by kernel_rfl)) rfl
  ·replace h1:=Do c18 h1
   obtain rfl:=sj h1
   obtain rfl:=hx1 _ rfl
   refine Ke rfl ?_
   exact hE1 _ ⟨[(3,Bc 512 p8)],[],[]⟩ (Ak (by kernel_rfl)) ⟨_,rfl,rfl⟩

/- (loop.example/g00149/impl.Device).flush -/
def sG:=[X_ 1 0,a_ 2 [.own 129 0 1 [],.own 130 0 2 []]]
def sH:List Bi:=[L_ 3 1 2,q_ 4 263 [.t 3],⟨some 5,.p (.build [.own 321 0 1 [],.own 322 0 2 []] [(0,1,.t 4)]),none⟩,s_ 2 5 2]
def UX:Dh:=⟨1,6,[.cell 2 2 true],sr sG (rr sH)⟩
def PX (D:Bf):Prop:=∀a0 r,SX a0=some r→D 267 ⟨[.agg (Ap a0)],[]⟩ ⟨.agg (Bd r (Dp 0) (Dp 1)),[],[]⟩
theorem ZD (H263:eU C):PX (FO C UX):=by
 intro a0 r h0
 refine f0 (Ab (Ac (st (Hm rfl tv rfl (st (Dt (At (An ⟨[(1,.ptr 64 0),(2,.ptr 128 0)],[(64,Ap a0),(128,[Bc 129 [],Ai 130 []])],[]⟩ (Ak (by kernel_rfl)) (Ab (Ac (st (c_ (v:=.agg (Ap a0)) (Aj ⟨tv,tv⟩ rfl (nl rfl)) ?_))))))))))))
 obtain ⟨r1,e2,h0⟩:=bnd h0
 refine st (Ax (r:=Bc 0 r1) false (H263 a0 r1 e2) ⟨tv,tv⟩ rfl rfl (fun _=>(Cf (Jo (fun _=>rfl)) rfl)) (st (c_ (v:=.agg [Bc 256 r1,Ai 322 []]) (Aj ⟨tv,tv⟩ rfl ⟨⟨rfl,rfl,nl rfl⟩,tv⟩) (st (El rfl rfl tv rfl rfl rfl (nl rfl) (At (An ⟨[(2,.ptr 128 0)],[(128,[Bc 256 r1,Ai 322 []])],[]⟩ (Ak (by kernel_rfl)) ?_)))))))
 obtain rfl:=sj h0
 exact Cr (Bj rfl rfl rfl rfl rfl tv)

/- loop.example/g00149/impl.crc -/
def wN:=[i_ 2 0]
def wO:=[k_ 3 (.int .u32 4294967295)]
def wP:=[m_ 7 0,n_ 8 7,i_ 9 0]
def wQ:=[b_ .lss 10 9 8]
def wR:=[x_ 11 7 9 1,l_ 12 11 1,m_ 5 12]
def wS:=[m_ 13 3,m_ 14 5,iQ 15 (.conv .u32 (.t 14)),b_ .xor 16 13 15,m_ 3 16]
def wT:=[i_ 17 0]
def wU:=[B_ .lss 18 17 8]
def wV:List Bi:=[m_ 19 3,⟨some 20,.p (.bin .and (.t 19) (.c (.int .u32 1))),none⟩,m_ 6 20]
def wW:List Bi:=[m_ 21 3,⟨some 22,.p (.bin .shr (.t 21) (.c (.int .u64 1))),none⟩,m_ 3 22]
def iZ:List Bi:=[m_ 23 6,⟨some 24,.p (.bin .eql (.t 23) (.c (.int .u32 1))),none⟩]
def jA:List Bi:=[m_ 25 3,⟨some 26,.p (.bin .xor (.t 25) (.c (.int .u32 3988292384))),none⟩,m_ 3 26]
def jB:=[B_ .add 27 17 1,m_ 17 27]
def wL:IR:=(sr wU (.seq (.ite (.t 18) .skip (.exit 2)) (.seq (.block 3 (sr wV (sr wW (sr iZ (iz 24 (.reg jA)))))) (.reg jB))))
def jC:=[B_ .add 28 9 1,m_ 9 28]
def wM:IR:=(sr wQ (.seq (.ite (.t 10) .skip (.exit 0)) (.seq (.block 1 (sr wR (sr wS (sr wT (Li 2 wL))))) (.reg jC))))
def jD:=[m_ 29 3,iQ 30 (.un .xor (.t 29)),iQ 31 (.conv .i64 (.t 30)),m_ 2 31]
def VS:Dh:=⟨1,32,[.t 2],sr wN (sr wO (.seq (sr wP (Li 0 wM)) (rr jD)))⟩
def qF (D:Bf):Prop:=∀a0 r,nB a0=some r→D 332 ⟨[Bh a0],[]⟩ ⟨iV r,[],[]⟩
theorem ZX:qF (FO C VS):=by
 intro a0 r h0
 refine f0 (Ab (Ac (st (Bg tv (At (An ⟨[(0,Bh a0)],[],[]⟩ (Ak (by kernel_rfl)) (Ab (Ac (st (Bg tv (At (An ⟨[(0,Bh a0),(3,.int .u32 4294967295)],[],[]⟩ (Ak (by kernel_rfl)) (Ab (Ab (Ac (st (Ag rfl tv (st (c_ (Cg (e:=Bo) (l0:=a0) rfl rfl tv) (st (Bg tv (At (An ⟨[(3,.int .u32 4294967295),(7,Bh a0),(8,iV (a0.length:Int)),(9,iV 0)],[],[]⟩ (Ak (by kernel_rfl)) (Be ?_))))))))))))))))))))))))
 obtain ⟨r63,e64,h0⟩:=bnd h0
 refine Cz (R:=(fun S=>∃p39:Int,p39=r63∧S=⟨[(3,.int .u32 p39)],[],[]⟩)) (Mx a0) (fun s S=>match s with | (p19,p20)=>S=⟨[(3,.int .u32 p19),(7,Bh a0),(8,iV (a0.length:Int)),(9,iV p20)],[],[]⟩) e64 ⟨[(3,.int .u32 4294967295),(7,Bh a0),(8,iV (a0.length:Int)),(9,iV 0)],[],[]⟩ (Ak (by kernel_rfl)) rfl 0 (fun _=>rfl) ?_ ?_
 ·rintro S _ hfg ⟨p39,rfl,rfl⟩
  refine An ⟨[(3,.int .u32 p39)],[],[]⟩ (Ft hfg (by kernel_rfl)) (Ab (Ac (st (Ag rfl tv (st (c_ (Aj ⟨tv,tv⟩ rfl tv) (st (c_ (Aj ⟨tv,tv⟩ rfl tv) (st (Ag rfl tv (At (An ⟨[(2,iV (wi (TL .u32 p39)))],[],[]⟩ (Ak (by kernel_rfl)) ?_))))))))))))
  obtain rfl:=sj h0
  exact Cr (Bj rfl rfl rfl rfl rfl tv)
 ·rintro ⟨p19,p20⟩ o1 _ K1 rfl h1 hx1 hK1 hE1 hR1
  refine Ab (Ac (st (c_ (Aj t3 rfl tv) (At (An ⟨[(3,.int .u32 p19),(7,Bh a0),(8,iV (a0.length:Int)),(9,iV p20),(10,.bool (decide (p20<(a0.length:Int))))],[],[]⟩ (Ak (by kernel_rfl)) (Ab (Bs (cb:=(decide (p20<(a0.length:Int)))) rfl (fun c40=>?_) (fun c40=>?_))))))))
  ·replace h1:=ip c40 h1
   refine Dn (An ⟨[(3,.int .u32 p19),(7,Bh a0),(8,iV (a0.length:Int)),(9,iV p20)],[],[]⟩ (Ak (by kernel_rfl)) (Ab (Be (Ab (Ac ?_)))))
   obtain ⟨y41,e42,h1⟩:=bnd h1
   refine st (c_ (Eb (e:=Bo) (y:=y41) rfl rfl tv rfl rfl tv e42) (st (c_ (Aj ⟨tv,tv⟩ rfl (nl rfl)) (st (Ag rfl tv (At (An ⟨[(3,.int .u32 p19),(5,.int .u8 ((y41).toNat:Int)),(7,Bh a0),(8,iV (a0.length:Int)),(9,iV p20)],[],[]⟩ (Ak (by kernel_rfl)) (Ab (Ac (st (Ag rfl tv (st (Ag rfl tv (st (c_ (Aj ⟨tv,tv⟩ rfl tv) (st (c_ (Aj t3 rfl tv) (st (Ag rfl tv (At (An ⟨[(3,.int .u32 (Ks .u32 p19 (IntKind.u32.wrap ((y41).toNat:Int)))),(7,Bh a0),(8,iV (a0.length:Int)),(9,iV p20)],[],[]⟩ (Ak (by kernel_rfl)) (Ab (Ac (st (Bg tv (At (An ⟨[(3,.int .u32 (Ks .u32 p19 (IntKind.u32.wrap ((y41).toNat:Int)))),(7,Bh a0),(8,iV (a0.length:Int)),(9,iV p20),(17,iV 0)],[],[]⟩ (Ak (by kernel_rfl)) (Be ?_))))))))))))))))))))))))))))
   obtain ⟨r61,e62,h1⟩:=bnd h1
   refine Cz (R:=(fun S=>∃p55:Int,p55=r61∧S=⟨[(3,.int .u32 p55),(7,Bh a0),(8,iV (a0.length:Int)),(9,iV p20)],[],[]⟩)) (My) (fun s S=>match s with | (p48,p49)=>S=⟨[(3,.int .u32 p48),(7,Bh a0),(8,iV (a0.length:Int)),(9,iV p20),(17,iV p49)],[],[]⟩) e62 ⟨[(3,.int .u32 (Ks .u32 p19 (IntKind.u32.wrap ((y41).toNat:Int)))),(7,Bh a0),(8,iV (a0.length:Int)),(9,iV p20),(17,iV 0)],[],[]⟩ (Ak (by kernel_rfl)) rfl 2 (fun _=>rfl) ?_ ?_
   ·rintro S _ hfg ⟨p55,rfl,rfl⟩
    refine It (An ⟨[(3,.int .u32 p55),(7,Bh a0),(8,iV (a0.length:Int)),(9,iV p20)],[],[]⟩ (Ft hfg (by kernel_rfl)) (Ac (st (c_ (Aj t3 rfl tv) (st (Ag rfl tv (At ?_)))))))
    obtain rfl:=sj h1
    exact hK1 _ rfl _ ⟨[(3,.int .u32 p55),(7,Bh a0),(8,iV (a0.length:Int)),(9,iV (wi (p20+1)))],[],[]⟩ (Ak (by kernel_rfl)) rfl
   ·rintro ⟨p48,p49⟩ o2 _ K2 rfl h2 hx2 hK2 hE2 hR2
    refine Ab (Ac (st (c_ (Aj t3 rfl tv) (At (An ⟨[(3,.int .u32 p48),(7,Bh a0),(8,iV (a0.length:Int)),(9,iV p20),(17,iV p49),(18,.bool (decide (p49<8)))],[],[]⟩ (Ak (by kernel_rfl)) (Ab (Bs (cb:=(decide (p49<8))) rfl (fun pZ=>?_) (fun pZ=>?_))))))))
    ·replace h2:=ip pZ h2
     refine Dn (An ⟨[(3,.int .u32 p48),(7,Bh a0),(8,iV (a0.length:Int)),(9,iV p20),(17,iV p49)],[],[]⟩ (Ak (by kernel_rfl)) (Ab (Tn (fun S=>∃p58:Int,S=⟨[(3,.int .u32 p58),(7,Bh a0),(8,iV (a0.length:Int)),(9,iV p20),(17,iV p49)],[],[]⟩∧Sq p49 p58=some o2) ?_ (fun J59=>?_))))
     ·rintro _ ⟨p58,rfl,h2⟩
      refine An ⟨[(3,.int .u32 p58),(7,Bh a0),(8,iV (a0.length:Int)),(9,iV p20),(17,iV p49)],[],[]⟩ (Ak (by kernel_rfl)) (Ac (st (c_ (Aj t3 rfl tv) (st (Ag rfl tv (At ?_))))))
      obtain rfl:=sj h2
      exact hK2 _ rfl _ ⟨[(3,.int .u32 p58),(7,Bh a0),(8,iV (a0.length:Int)),(9,iV p20),(17,iV (wi (p49+1)))],[],[]⟩ (Ak (by kernel_rfl)) rfl
     ·refine Ab ?_
      refine Ac (st (Ag rfl tv (st (c_ (Aj t3 rfl tv) (st (Ag rfl tv (At (An ⟨[(3,.int .u32 p48),(6,.int .u32 (Zq .u32 p48 1)),(7,Bh a0),(8,iV (a0.length:Int)),(9,iV p20),(17,iV p49)],[],[]⟩ (Ak (by kernel_rfl)) (Ab (Ac (st (Ag rfl tv (st (c_ (Aj ⟨tv,tv,tv⟩ rfl (by decide)) (st (Ag rfl tv (At (An ⟨[(3,.int .u32 (Lh .u32 p48 1)),(6,.int .u32 (Zq .u32 p48 1)),(7,Bh a0),(8,iV (a0.length:Int)),(9,iV p20),(17,iV p49)],[],[]⟩ (Ak (by kernel_rfl)) (Ab (Ac (st (Ag rfl tv (st (c_ (Aj t3 rfl tv) (At (An ⟨[(3,.int .u32 (Lh .u32 p48 1)),(7,Bh a0),(8,iV (a0.length:Int)),(9,iV p20),(17,iV p49),(24,.bool ((Zq .u32 p48 1)==1))],[],[]⟩ (Ak (by kernel_rfl)) (Bs (cb:=((Zq .u32 p48 1)==1)) rfl (fun c60=>?_) (fun c60=>?_))))))))))))))))))))))))))))
      ·replace h2:=ip c60 h2
       refine Ac (st (Ag rfl tv (st (c_ (Aj t3 rfl tv) (st (Ag rfl tv (At (It ?_))))))))
       exact J59 _ ⟨[(3,.int .u32 (Ks .u32 (Lh .u32 p48 1) 3988292384)),(7,Bh a0),(8,iV (a0.length:Int)),(9,iV p20),(17,iV p49)],[],[]⟩ (Ak (by kernel_rfl)) ⟨_,rfl,h2⟩
      ·replace h2:=Do c60 h2
       refine Dn (It ?_)
       exact J59 _ ⟨[(3,.int .u32 (Lh .u32 p48 1)),(7,Bh a0),(8,iV (a0.length:Int)),(9,iV p20),(17,iV p49)],[],[]⟩ (Ak (by kernel_rfl)) ⟨_,rfl,h2⟩
    ·replace h2:=Do pZ h2
     obtain rfl:=sj h2
     obtain rfl:=hx2 _ rfl
     refine Ke rfl ?_
     exact hE2 _ ⟨[(3,.int .u32 p48),(7,Bh a0),(8,iV (a0.length:Int)),(9,iV p20)],[],[]⟩ (Ak (by kernel_rfl)) ⟨_,rfl,rfl⟩
  ·replace h1:=Do c40 h1
   obtain rfl:=sj h1
   obtain rfl:=hx1 _ rfl
   refine Ke rfl ?_
   exact hE1 _ ⟨[(3,.int .u32 p19)],[],[]⟩ (Ak (by kernel_rfl)) ⟨_,rfl,rfl⟩

/- loop.example/g00149/impl.frame -/
def sW:List Bi:=[⟨some 2,.nilS 1,none⟩]
def sX:List Bi:=[m_ 4 0,n_ 5 4,B_ .add 6 5 1,q_ 7 331 [.t 6,.c (iV 2)],m_ 8 0,⟨some 9,.app 1 1 (.t 7) (.t 8),none⟩,m_ 3 9]
def sY:List Bi:=[m_ 10 3,m_ 11 3,q_ 12 332 [.t 11],q_ 13 331 [.t 12,.c (iV 4)],⟨some 14,.app 1 1 (.t 10) (.t 13),none⟩,m_ 2 14]
def VC:Dh:=⟨1,15,[.t 2],sr sW (sr sX (rr sY))⟩
def QC (D:Bf):Prop:=∀a0 r,LC a0=some r→D 274 ⟨[Bh a0],[]⟩ ⟨Bc 0 r,[],[]⟩
theorem ZI (H331:qE C) (H332:qF C):QC (FO C VC):=by
 intro a0 r h0
 refine f0 (Ab (Ac (st (Bw (At (An ⟨[(0,Bh a0)],[],[]⟩ (Ak (by kernel_rfl)) (Ab (Ac (st (Ag rfl tv (st (c_ (Cg (e:=Bo) (l0:=a0) rfl rfl tv) (st (c_ (Aj t3 rfl tv) ?_))))))))))))))
 obtain ⟨r1,e2,h0⟩:=bnd h0
 refine st (Ax (r:=Bc 0 r1) false (H331 (wi ((a0.length:Int)+1)) 2 r1 e2) ⟨tv,tv,tv⟩ rfl rfl (fun _=>(Cf (Jo (fun _=>rfl)) rfl)) (st (Ag rfl tv ?_)))
 obtain ⟨c3,h0⟩:=Kq h0
 refine st (Hc (e:=Bo) (l0:=r1) (l1:=a0) rfl rfl tv rfl (by decide) c3 (st (Ag rfl tv (At (An ⟨[(3,Bc 448 (r1++a0))],[],[]⟩ (Ak (by kernel_rfl)) (Ab (Ac (st (Ag rfl tv (st (Ag rfl tv ?_)))))))))))
 obtain ⟨r4,e5,h0⟩:=bnd h0
 refine st (Ax (r:=iV r4) false (H332 (r1++a0) r4 e5) ⟨tv,tv⟩ rfl rfl (fun _=>rfl) ?_)
 obtain ⟨r6,e7,h0⟩:=bnd h0
 refine st (Ax (r:=Bc 0 r6) false (H331 r4 4 r6 e7) ⟨tv,tv,tv⟩ rfl rfl (fun _=>(Cf (Jo (fun _=>rfl)) rfl)) ?_)
 obtain ⟨c8,h0⟩:=Kq h0
 refine st (Hc (e:=Bo) (l0:=r1++a0) (l1:=r6) rfl rfl tv rfl (by decide) c8 (st (Ag rfl tv (At (An ⟨[(2,Bc 448 ((r1++a0)++r6))],[],[]⟩ (Ak (by kernel_rfl)) ?_)))))
 obtain rfl:=sj h0
 exact Cr (Bj rfl rfl rfl rfl rfl tv)

/- loop.example/g00149/impl.scan -/
def tA:List Bi:=[⟨some 2,.nilS 1,none⟩,i_ 3 0]
def tB:List Bi:=[⟨some 4,.nilS 1,none⟩]
def tC:=[i_ 5 0]
def tD:=[m_ 8 5,B_ .add 9 8 2,m_ 10 0,n_ 11 10,b_ .leq 12 9 11]
def tE:List Bi:=[m_ 13 0,m_ 14 5,m_ 15 5,B_ .add 16 15 2,⟨some 17,.p (.slice (.t 13) (some (.t 14)) (some (.t 16)) 1),none⟩,q_ 18 333 [.t 17],B_ .sub 19 18 1,m_ 6 19]
def tF:=[m_ 20 5,B_ .add 21 20 2,m_ 22 6,b_ .add 23 21 22,m_ 7 23]
def tG:=tk [m_ 24 6] (.alt [] (q_ 25 63 [.t 24,.c (iV 0),.c (iV 2000)]) (tk [N_ 26 25,m_ 27 26,mF 27 28 7,pF 27 29 (.bin .add (.t 28) (.c (iV 4))),mF 27 30 0,pF 27 31 (.len (.t 30)),pF 27 32 (.bin .gtr (.t 29) (.t 31)),po 33 27 32,m_ 34 33,mF 34 35 0,mF 34 36 5,mF 34 37 7,pF 34 38 (.slice (.t 35) (some (.t 36)) (some (.t 37)) 1),mF 34 40 0,mF 34 41 7,mF 34 42 7,pF 34 43 (.bin .add (.t 42) (.c (iV 4))),pF 34 44 (.slice (.t 40) (some (.t 41)) (some (.t 43)) 1)] (.alt [pF 34 44 (.slice (.t 40) (some (.t 41)) (some (.t 43)) 1),pF 34 43 (.bin .add (.t 42) (.c (iV 4))),mF 34 42 7,mF 34 41 7,mF 34 40 0] ⟨some 39,.call 332 [.t 38],some (34,false)⟩ (.alt [] ⟨some 45,.call 333 [.t 44],some (34,false)⟩ (tk [pF 34 46 (.bin .neq (.t 39) (.t 45)),po 47 34 46] .fin) .stop) .stop)) .stop)
def tH:List Bi:=[m_ 48 4,m_ 49 0,m_ 50 5,B_ .add 51 50 2,m_ 52 7,⟨some 53,.p (.slice (.t 49) (some (.t 51)) (some (.t 52)) 1),none⟩,q_ 54 325 [.t 53],⟨some 55,.mkS 1 [.lst 1 []] 1 [(0,.t 54)],none⟩,⟨some 56,.app 1 24 (.t 48) (.t 55),none⟩,m_ 4 56]
def tI:=[m_ 57 7,B_ .add 58 57 4,m_ 5 58]
def sZ:IR:=(.seq (sr tD (.ite (.t 12) .skip (.exit 0))) (.block 1 (sr tE (sr tF (.seq (sd tG (iz 47 (.exit 0))) (sr tH (.reg tI)))))))
def tJ:=[m_ 59 4,m_ 60 5,m_ 2 59,m_ 3 60]
def VD:Dh:=⟨1,61,[.t 2,.t 3],sr tA (sr tB (sr tC (.seq (Li 0 sZ) (rr tJ))))⟩
def qB (D:Bf):Prop:=∀a0 r,Zk a0=some r→D 275 ⟨[Bh a0],[]⟩ ⟨.tup [.own 0 0 1 (r.1.map (eL 1 Bo)),iV r.2],[],[]⟩
theorem ZJ (H63:UB C) (H325:eV C) (H332:qF C) (H333:qG C):qB (FO C VD):=by
 intro a0 r h0
 refine f0 (Ab (Ac (st (Bw (st (Bg tv (At (An ⟨[(0,Bh a0)],[],[]⟩ (Ak (by kernel_rfl)) (Ab (Ac (st (Bw (At (An ⟨[(0,Bh a0),(4,.own 256 0 1 ([].map (eL 1 Bo)))],[],[]⟩ (Ak (by kernel_rfl)) (Ab (Ac (st (Bg tv (At (An ⟨[(0,Bh a0),(4,.own 256 0 1 ([].map (eL 1 Bo))),(5,iV 0)],[],[]⟩ (Ak (by kernel_rfl)) (Ab (Be ?_))))))))))))))))))))))
 obtain ⟨r82,e83,h0⟩:=bnd h0
 refine Cz (R:=(fun S=>∃p55:List (List UInt8),∃p56:Int,(p55,p56)=r82∧S=⟨[(4,.own 256 0 1 (p55.map (eL 1 Bo))),(5,iV p56)],[],[]⟩)) (Hy a0) (fun s S=>match s with | (p26,p27)=>S=⟨[(0,Bh a0),(4,.own 256 0 1 (p26.map (eL 1 Bo))),(5,iV p27)],[],[]⟩) e83 ⟨[(0,Bh a0),(4,.own 256 0 1 ([].map (eL 1 Bo))),(5,iV 0)],[],[]⟩ (Ak (by kernel_rfl)) rfl 0 (fun _=>rfl) ?_ ?_
 ·rintro S _ hfg ⟨p55,p56,rfl,rfl⟩
  refine An ⟨[(4,.own 256 0 1 (p55.map (eL 1 Bo))),(5,iV p56)],[],[]⟩ (Ft hfg (by kernel_rfl)) (Ab (Ac (st (Ag rfl tv (st (Ag rfl tv (st (Ag rfl tv (st (Ag rfl tv (At (An ⟨[(2,.own 256 0 1 (p55.map (eL 1 Bo))),(3,iV p56)],[],[]⟩ (Ak (by kernel_rfl)) ?_))))))))))))
  obtain rfl:=sj h0
  exact Cr (Bj rfl rfl rfl rfl rfl tv)
 ·rintro ⟨p26,p27⟩ o1 _ K1 rfl h1 hx1 hK1 hE1 hR1
  refine Ab (Ab (Ac (st (Ag rfl tv (st (c_ (Aj t3 rfl tv) (st (Ag rfl tv (st (c_ (Cg (e:=Bo) (l0:=a0) rfl rfl tv) (st (c_ (Aj t3 rfl tv) (At (An ⟨[(0,Bh a0),(4,.own 256 0 1 (p26.map (eL 1 Bo))),(5,iV p27),(12,.bool (decide ((wi (p27+2))≤(a0.length:Int))))],[],[]⟩ (Ak (by kernel_rfl)) (Bs (cb:=(decide ((wi (p27+2))≤(a0.length:Int)))) rfl (fun c57=>?_) (fun c57=>?_))))))))))))))))
  ·replace h1:=ip c57 h1
   refine Dn (An ⟨[(0,Bh a0),(4,.own 256 0 1 (p26.map (eL 1 Bo))),(5,iV p27)],[],[]⟩ (Ak (by kernel_rfl)) (Be (Ab (Ac (st (Ag rfl tv (st (Ag rfl tv (st (Ag rfl tv (st (c_ (Aj t3 rfl tv) ?_))))))))))))
   obtain ⟨s58,e59,h1⟩:=bnd h1
   refine st (c_ (Gp (e:=Bo) (y:=s58) rfl rfl tv ⟨tv,tv,tv⟩ rfl rfl e59) ?_)
   obtain ⟨r60,e61,h1⟩:=bnd h1
   refine st (Ax (r:=iV r60) false (H333 s58 r60 e61) ⟨tv,tv⟩ rfl rfl (fun _=>rfl) (st (c_ (Aj t3 rfl tv) (st (Ag rfl tv (At (An ⟨[(0,Bh a0),(4,.own 256 0 1 (p26.map (eL 1 Bo))),(5,iV p27),(6,iV (wi (r60-1)))],[],[]⟩ (Ak (by kernel_rfl)) (Ab (Ac (st (Ag rfl tv (st (c_ (Aj t3 rfl tv) (st (Ag rfl tv (st (c_ (Aj t3 rfl tv) (st (Ag rfl tv (At ?_))))))))))))))))))))
   obtain ⟨v62,e63,h1⟩:=bl h1
   refine An ⟨[(0,Bh a0),(4,.own 256 0 1 (p26.map (eL 1 Bo))),(5,iV p27),(6,iV (wi (r60-1))),(7,iV v62)],[],[]⟩ (Ak (by subst e63; kernel_rfl)) (Ab (Ab ?_))
   obtain ⟨r64,e65,h1⟩:=bnd h1
   obtain ⟨s66,e67,h1⟩:=bnd h1
   obtain ⟨s68,e69,h1⟩:=bnd h1
   obtain ⟨r70,e71,h1⟩:=bnd h1
   obtain ⟨r72,e73,h1⟩:=bnd h1
   refine Ds (Ah tv (Ag rfl tv (⟨tv,Fm (Ax (r:=.bool r64) false (H63 (wi (r60-1)) 0 2000 r64 e65) ⟨tv,tv,tv,tv⟩ rfl rfl (fun _=>rfl) (mP ⟨[(0,Bh a0),(4,.own 256 0 1 (p26.map (eL 1 Bo))),(5,iV p27),(7,iV v62),(25,.bool r64)],[],[]⟩ (Ak (by kernel_rfl)) ⟨[],tv,tv,Ah tv (c_ (Aj ⟨tv,tv⟩ rfl tv) (⟨tv,Ah tv (Ag rfl tv (⟨tv,Ah tv (Bu (u:=iV v62) rfl (fun hg=>(Gx (v:=iV v62) rfl tv)) (⟨tv,Ah tv (Bu (u:=iV (wi (v62+4))) rfl (fun hg=>(Aj ⟨(fun _=>hg),tv,tv⟩ rfl tv)) (⟨tv,Ah tv (Bu (u:=Bh a0) rfl (fun hg=>(Gx (v:=Bh a0) rfl tv)) (⟨tv,Ah tv (Bu (u:=iV (a0.length:Int)) rfl (fun hg=>(Cg (e:=Bo) (l0:=a0) rfl rfl (fun _=>hg))) (⟨tv,Ah tv (Bu (u:=.bool (decide ((wi (v62+4))>(a0.length:Int)))) rfl (fun hg=>(Aj ⟨(fun _=>hg),(fun _=>hg),tv⟩ rfl tv)) (⟨tv,Ah tv (Ct rfl rfl rfl tv (fun h=>Sa h) rfl (⟨tv,Ah tv (Ag rfl tv (⟨tv,Ah tv (Bu (u:=Bh a0) rfl (fun hg=>(Gx (v:=Bh a0) rfl tv)) (⟨tv,Ah tv (Bu (u:=iV p27) rfl (fun hg=>(Gx (v:=iV p27) rfl tv)) (⟨tv,Ah tv (Bu (u:=iV v62) rfl (fun hg=>(Gx (v:=iV v62) rfl tv)) (⟨tv,Ah tv (Bu (u:=Bh s66) rfl (fun hg=>(Gp (e:=Bo) (y:=s66) rfl rfl (fun _=>hg) ⟨(fun _=>hg),(fun _=>hg),tv⟩ rfl rfl (ip hg e67))) (⟨tv,?_⟩))⟩))⟩))⟩))⟩))⟩))⟩))⟩))⟩))⟩))⟩))⟩))⟩))⟩)) Dl⟩)))
   refine Ah tv (Bu (u:=Bh a0) rfl (fun hg=>(Gx (v:=Bh a0) rfl tv)) (⟨tv,Ah tv (Bu (u:=iV v62) rfl (fun hg=>(Gx (v:=iV v62) rfl tv)) (⟨tv,Ah tv (Bu (u:=iV v62) rfl (fun hg=>(Gx (v:=iV v62) rfl tv)) (⟨tv,Ah tv (Bu (u:=iV (wi (v62+4))) rfl (fun hg=>(Aj ⟨(fun _=>hg),tv,tv⟩ rfl tv)) (⟨tv,Ah tv (Bu (u:=Bh s68) rfl (fun hg=>(Gp (e:=Bo) (y:=s68) rfl rfl (fun _=>hg) ⟨(fun _=>hg),(fun _=>hg),tv⟩ rfl rfl (ip hg e69))) (⟨tv,Fm (Hu (r:=iV r70) rfl false (fun hg=>H332 s66 r70 (ip hg e71)) ⟨(fun hg=>hg),tv⟩ (fun _=>rfl) (fun _=>rfl) (fun _=>rfl) (fun h=>nomatch h) (mP ⟨[(0,Bh a0),(4,.own 256 0 1 (p26.map (eL 1 Bo))),(5,iV p27),(7,iV v62),(34,.bool (bif (!r64) then true else (decide ((wi (v62+4))>(a0.length:Int))))),(39,.may ((bif (!r64) then true else (decide ((wi (v62+4))>(a0.length:Int))))==false) (iV r70)),(40,.may ((bif (!r64) then true else (decide ((wi (v62+4))>(a0.length:Int))))==false) (Bh a0)),(41,.may ((bif (!r64) then true else (decide ((wi (v62+4))>(a0.length:Int))))==false) (iV v62)),(42,.may ((bif (!r64) then true else (decide ((wi (v62+4))>(a0.length:Int))))==false) (iV v62)),(43,.may ((bif (!r64) then true else (decide ((wi (v62+4))>(a0.length:Int))))==false) (iV (wi (v62+4)))),(44,.may ((bif (!r64) then true else (decide ((wi (v62+4))>(a0.length:Int))))==false) (Bh s68))],[],[]⟩ (Ak (by kernel_rfl)) ⟨[],⟨⟨.inl tv,Ga (v:=Bh s68) rfl (fun hg=>(Gp (e:=Bo) (y:=s68) rfl rfl (fun _=>hg) ⟨(fun _=>hg),(fun _=>hg),tv⟩ rfl rfl (ip hg e69))) rfl⟩,⟨.inl tv,Ga (v:=iV (wi (v62+4))) rfl (fun hg=>(Aj ⟨(fun _=>hg),tv,tv⟩ rfl tv)) rfl⟩,⟨.inl tv,Ga (v:=iV v62) rfl (fun hg=>(Gx (v:=iV v62) rfl tv)) rfl⟩,⟨.inl tv,Ga (v:=iV v62) rfl (fun hg=>(Gx (v:=iV v62) rfl tv)) rfl⟩,⟨.inl tv,Ga (v:=Bh a0) rfl (fun hg=>(Gx (v:=Bh a0) rfl tv)) rfl⟩,tv⟩,tv,Fm (Hu (r:=iV r72) rfl false (fun hg=>H333 s68 r72 (ip hg e73)) ⟨(fun hg=>hg),tv⟩ (fun _=>rfl) (fun _=>rfl) (fun _=>rfl) (fun h=>nomatch h) (mP ⟨[(0,Bh a0),(4,.own 256 0 1 (p26.map (eL 1 Bo))),(5,iV p27),(7,iV v62),(34,.bool (bif (!r64) then true else (decide ((wi (v62+4))>(a0.length:Int))))),(39,.may ((bif (!r64) then true else (decide ((wi (v62+4))>(a0.length:Int))))==false) (iV r70)),(45,.may ((bif (!r64) then true else (decide ((wi (v62+4))>(a0.length:Int))))==false) (iV r72))],[],[]⟩ (Ak (by kernel_rfl)) ⟨[],tv,tv,Ah tv (Bu (u:=.bool (r70 != r72)) rfl (fun hg=>(Aj ⟨(fun _=>hg),(fun _=>hg),tv⟩ rfl tv)) (⟨tv,Ah tv (Ct rfl rfl rfl tv (fun h=>Sa h) rfl (⟨tv,Iu ?_⟩))⟩))⟩)) Dl⟩)) Dl⟩))⟩))⟩))⟩))⟩))
   obtain ⟨v74,e75,h1⟩:=bl h1
   refine An ⟨[(0,Bh a0),(4,.own 256 0 1 (p26.map (eL 1 Bo))),(5,iV p27),(7,iV v62),(47,.bool v74)],[],[]⟩ (Ak (by subst e75; kernel_rfl)) (Bs (cb:=v74) rfl (fun c76=>?_) (fun c76=>?_))
   ·replace h1:=ip c76 h1
    obtain rfl:=sj h1
    obtain rfl:=hx1 _ rfl
    refine Ke rfl ?_
    exact hE1 _ ⟨[(4,.own 256 0 1 (p26.map (eL 1 Bo))),(5,iV p27)],[],[]⟩ (Ak (by kernel_rfl)) ⟨_,_,rfl,rfl⟩
   ·replace h1:=Do c76 h1
    refine Dn (An ⟨[(0,Bh a0),(4,.own 256 0 1 (p26.map (eL 1 Bo))),(5,iV p27),(7,iV v62)],[],[]⟩ (Ak (by kernel_rfl)) (Ab (Ac (st (Ag rfl tv (st (Ag rfl tv (st (Ag rfl tv (st (c_ (Aj t3 rfl tv) (st (Ag rfl tv ?_)))))))))))))
    obtain ⟨s77,e78,h1⟩:=bnd h1
    refine st (c_ (Gp (e:=Bo) (y:=s77) rfl rfl tv ⟨tv,tv,tv⟩ rfl rfl e78) ?_)
    obtain ⟨r79,e80,h1⟩:=bnd h1
    refine st (Ax (r:=Bc 0 r79) false (H325 s77 r79 e80) ⟨tv,tv⟩ rfl rfl (fun _=>(Cf (Jo (fun _=>rfl)) rfl)) (st (Fk ⟨tv,tv⟩ ⟨⟨nl rfl,rfl,rfl⟩,tv⟩ ?_)))
    obtain ⟨c81,h1⟩:=Kq h1
    refine sw ⟨[(0,Bh a0),(7,iV v62),(48,.own 256 0 1 (p26.map (eL 1 Bo))),(55,.own 3520 0 1 (([r79]:List (List UInt8)).map (eL 1 Bo)))],[],[]⟩ (Ak (by kernel_rfl)) (Hc (e:=(eL 1 Bo)) (l0:=p26) (l1:=([r79]:List (List UInt8))) rfl rfl tv rfl (by decide) c81 (st (Ag rfl tv (At (An ⟨[(0,Bh a0),(4,.own 256 0 1 ((p26++([r79]:List (List UInt8))).map (eL 1 Bo))),(7,iV v62)],[],[]⟩ (Ak (by kernel_rfl)) (Ac (st (Ag rfl tv (st (c_ (Aj t3 rfl tv) (st (Ag rfl tv (At (It ?_))))))))))))))
    obtain rfl:=sj h1
    exact hK1 _ rfl _ ⟨[(0,Bh a0),(4,.own 256 0 1 ((p26++([r79]:List (List UInt8))).map (eL 1 Bo))),(5,iV (wi (v62+4)))],[],[]⟩ (Ak (by kernel_rfl)) rfl
  ·replace h1:=Do c57 h1
   obtain rfl:=sj h1
   obtain rfl:=hx1 _ rfl
   refine Ke rfl ?_
   exact hE1 _ ⟨[(4,.own 256 0 1 (p26.map (eL 1 Bo))),(5,iV p27)],[],[]⟩ (Ak (by kernel_rfl)) ⟨_,_,rfl,rfl⟩

/- loop.example/g00149/impl.isRoom -/
def vL:=[k_ 4 (.bool false)]
def vM:=[m_ 5 0,q_ 6 63 [.t 5,.c (iV 0),.c (iV 4096)],m_ 7 6,mT 7 8 0,mT 7 9 1,pT 7 10 (.bin .add (.t 8) (.t 9)),pT 7 11 (.bin .leq (.t 10) (.c (iV 4096))),pa 12 7 11,m_ 4 12]
def VN:Dh:=⟨2,13,[.t 4],sr vL (rr vM)⟩
def QI (D:Bf):Prop:=∀a0 a1 r,LO a0 a1=some r→D 327 ⟨[iV a0,iV a1],[]⟩ ⟨.bool r,[],[]⟩
theorem ZS (H63:UB C):QI (FO C VN):=by
 intro a0 a1 r h0
 refine f0 (Ab (Ac (st (Bg tv (At (An ⟨[(0,iV a0),(1,iV a1)],[],[]⟩ (Ak (by kernel_rfl)) (Ab (Ac (st (Ag rfl tv ?_))))))))))
 obtain ⟨r1,e2,h0⟩:=bnd h0
 refine st (Ax (r:=.bool r1) false (H63 a0 0 4096 r1 e2) ⟨tv,tv,tv,tv⟩ rfl rfl (fun _=>rfl) (st (Ag rfl tv (st (Bu (u:=iV a0) rfl (fun hg=>(Gx (v:=iV a0) rfl tv)) (st (Bu (u:=iV a1) rfl (fun hg=>(Gx (v:=iV a1) rfl tv)) (st (Bu (u:=iV (wi (a0+a1))) rfl (fun hg=>(Aj ⟨(fun _=>hg),(fun _=>hg),tv⟩ rfl tv)) (st (Bu (u:=.bool (decide ((wi (a0+a1))≤4096))) rfl (fun hg=>(Aj ⟨(fun _=>hg),tv,tv⟩ rfl tv)) (st (Ct rfl rfl rfl (fun h=>Zh h) tv rfl (st (Ag rfl tv (At ?_))))))))))))))))
 obtain ⟨v3,e4,h0⟩:=bl h0
 refine An ⟨[(4,.bool v3)],[],[]⟩ (Ak (by subst e4; kernel_rfl)) ?_
 obtain rfl:=sj h0
 exact Cr (Bj rfl rfl rfl rfl rfl tv)

/- (loop.example/g00149/impl.Device).own -/
def yR:=[X_ 1 0,a_ 2 [.own 129 0 1 [],.own 130 0 2 []]]
def yS:List Bi:=[f_ 6 1 0,l_ 7 6 1,q_ 8 325 [.t 7],⟨some 9,.p (.build [.own 577 0 1 [],.own 578 0 2 []] [(0,1,.t 8)]),none⟩,a_ 3 [.own 193 0 1 [],.own 194 0 2 []],s_ 3 9 2]
def yT:=[f_ 10 1 1,l_ 11 10 1,n_ 12 11,i_ 13 0]
def yU:=[b_ .lss 14 13 12]
def yV:=[x_ 15 11 13 2,L_ 16 15 2,a_ 5 [iV 0,.own 322 0 1 []],s_ 5 16 2]
def yW:=tk [f_ 17 3 1,l_ 18 17 1,f_ 19 5 0,l_ 20 19 1,f_ 21 5 1,l_ 22 21 1] (.alt [l_ 20 19 1,f_ 19 5 0,l_ 18 17 1,f_ 17 3 1] (q_ 23 325 [.t 22]) (tk [⟨some 24,.p (.build [iV 0,.own 1538 0 1 []] [(0,1,.t 20),(1,1,.t 23)]),none⟩] (.alt [l_ 18 17 1,f_ 17 3 1] ⟨some 25,.mkS 2 [iV 0,.lst 1 []] 1 [(0,.t 24)],none⟩ (.alt [] ⟨some 26,.app 2 32 (.t 18) (.t 25),none⟩ (tk [f_ 27 3 1] (.alt [] (s_ 27 26 1) .fin .stop)) .stop) .stop)) .stop)
def yX:=[B_ .add 28 13 1,m_ 13 28]
def yQ:IR:=(sr yU (.seq (.ite (.t 14) .skip (.exit 0)) (.seq (.block 1 (sr yV (.draw yW))) (.reg yX))))
def yY:=[L_ 29 3 2,s_ 2 29 2]
def VZ:Dh:=⟨1,30,[.cell 2 2 true],sr yR (sr yS (.seq (sr yT (Li 0 yQ)) (rr yY)))⟩
def QQ (D:Bf):Prop:=∀a0 r,ME a0=some r→D 366 ⟨[.agg (Ap a0)],[]⟩ ⟨.agg (Bd r (Dp 0) (Dp 1)),[],[]⟩
theorem Aae (H325:eV C):QQ (FO C VZ):=by
 intro a0 r h0
 refine f0 (Ab (Ac (st (Hm rfl tv rfl (st (Dt (At (An ⟨[(1,.ptr 64 0),(2,.ptr 128 0)],[(64,Ap a0),(128,[Bc 129 [],Ai 130 []])],[]⟩ (Ak (by kernel_rfl)) (Ab (Ac (st (c_ (Aj ⟨tv,tv⟩ rfl tv) (st (c_ (Aj ⟨tv,tv⟩ rfl (nl rfl)) ?_))))))))))))))
 obtain ⟨r1,e2,h0⟩:=bnd h0
 refine st (Ax (r:=Bc 0 r1) false (H325 a0.held r1 e2) ⟨tv,tv⟩ rfl rfl (fun _=>(Cf (Jo (fun _=>rfl)) rfl)) (st (c_ (v:=.agg [Bc 512 r1,Ai 578 []]) (Aj ⟨tv,tv⟩ rfl ⟨⟨rfl,rfl,nl rfl⟩,tv⟩) (st (Dt (st (El rfl rfl tv rfl rfl rfl (nl rfl) (At (An ⟨[(1,.ptr 64 0),(2,.ptr 128 0),(3,.ptr 192 0)],[(64,Ap a0),(128,[Bc 129 [],Ai 130 []]),(192,[Bc 512 r1,Ai 578 []])],[]⟩ (Ak (by kernel_rfl)) (Ab (Ab (Ac (st (c_ (Aj ⟨tv,tv⟩ rfl tv) (st (c_ (Aj ⟨tv,tv⟩ rfl (nl rfl)) (st (c_ (Cg (e:=Ay) (l0:=a0.Aq) rfl rfl tv) (st (Bg tv (At (An ⟨[(2,.ptr 128 0),(3,.ptr 192 0),(11,Ba a0.Aq),(12,iV (a0.Aq.length:Int)),(13,iV 0)],[(128,[Bc 129 [],Ai 130 []]),(192,[Bc 512 r1,Ai 578 []])],[]⟩ (Ak (by kernel_rfl)) (Be ?_)))))))))))))))))))))))
 obtain ⟨r26,e27,h0⟩:=bnd h0
 refine Cz (R:=(fun S=>∃p19:List As,p19=r26∧S=⟨[(2,.ptr 128 0),(3,.ptr 192 0)],[(128,[Bc 129 [],Ai 130 []]),(192,[Bc 512 r1,Ai 578 p19])],[]⟩)) (Nc a0) (fun s S=>match s with | (p9,p10)=>S=⟨[(2,.ptr 128 0),(3,.ptr 192 0),(11,Ba a0.Aq),(12,iV (a0.Aq.length:Int)),(13,iV p9)],[(128,[Bc 129 [],Ai 130 []]),(192,[Bc 512 r1,Ai 578 p10])],[]⟩) e27 ⟨[(2,.ptr 128 0),(3,.ptr 192 0),(11,Ba a0.Aq),(12,iV (a0.Aq.length:Int)),(13,iV 0)],[(128,[Bc 129 [],Ai 130 []]),(192,[Bc 512 r1,Ai 578 []])],[]⟩ (Ak (by kernel_rfl)) rfl 0 (fun _=>rfl) ?_ ?_
 ·rintro S _ hfg ⟨p19,rfl,rfl⟩
  refine An ⟨[(2,.ptr 128 0),(3,.ptr 192 0)],[(128,[Bc 129 [],Ai 130 []]),(192,[Bc 512 r1,Ai 578 p19])],[]⟩ (Ft hfg (by kernel_rfl)) (Ab (Ac (st (c_ (v:=.agg [Bc 512 r1,Ai 578 p19]) (Aj ⟨tv,tv⟩ rfl (nl rfl)) (st (El rfl rfl tv rfl rfl rfl (nl rfl) (At (An ⟨[(2,.ptr 128 0)],[(128,[Bc 512 r1,Ai 578 p19])],[]⟩ (Ak (by kernel_rfl)) ?_))))))))
  obtain rfl:=sj h0
  exact Cr (Bj rfl rfl rfl rfl rfl tv)
 ·rintro ⟨p9,p10⟩ o1 _ K1 rfl h1 hx1 hK1 hE1 hR1
  refine Ab (Ac (st (c_ (Aj t3 rfl tv) (At (An ⟨[(2,.ptr 128 0),(3,.ptr 192 0),(11,Ba a0.Aq),(12,iV (a0.Aq.length:Int)),(13,iV p9),(14,.bool (decide (p9<(a0.Aq.length:Int))))],[(128,[Bc 129 [],Ai 130 []]),(192,[Bc 512 r1,Ai 578 p10])],[]⟩ (Ak (by kernel_rfl)) (Ab (Bs (cb:=(decide (p9<(a0.Aq.length:Int)))) rfl (fun c20=>?_) (fun c20=>?_))))))))
  ·replace h1:=ip c20 h1
   refine Dn (An ⟨[(2,.ptr 128 0),(3,.ptr 192 0),(11,Ba a0.Aq),(12,iV (a0.Aq.length:Int)),(13,iV p9)],[(128,[Bc 129 [],Ai 130 []]),(192,[Bc 512 r1,Ai 578 p10])],[]⟩ (Ak (by kernel_rfl)) (Ab (Be (Ab (Ac ?_)))))
   obtain ⟨y21,e22,h1⟩:=bnd h1
   refine st (c_ (Eb (e:=Ay) (y:=y21) rfl rfl tv rfl rfl tv e22) (st (c_ (v:=.agg (Ay y21)) (Aj ⟨tv,tv⟩ rfl (nl rfl)) (st (Dt (st (El rfl rfl tv rfl rfl rfl (nl rfl) (At (An ⟨[(2,.ptr 128 0),(3,.ptr 192 0),(5,.ptr 320 0),(11,Ba a0.Aq),(12,iV (a0.Aq.length:Int)),(13,iV p9)],[(128,[Bc 129 [],Ai 130 []]),(192,[Bc 512 r1,Ai 578 p10]),(320,Ay y21)],[]⟩ (Ak (by kernel_rfl)) ?_)))))))))
   obtain ⟨r23,e24,h1⟩:=bnd h1
   obtain ⟨c25,h1⟩:=Kq h1
   refine Ds (Ah tv (c_ (Aj ⟨tv,tv⟩ rfl tv) (⟨tv,Ah tv (c_ (Aj ⟨tv,tv⟩ rfl (nl rfl)) (⟨tv,Ah tv (c_ (Aj ⟨tv,tv⟩ rfl tv) (⟨tv,Ah tv (c_ (Aj ⟨tv,tv⟩ rfl (nl rfl)) (⟨tv,Ah tv (c_ (Aj ⟨tv,tv⟩ rfl tv) (⟨tv,Ah tv (c_ (Aj ⟨tv,tv⟩ rfl (nl rfl)) (⟨tv,Fm (Ax (r:=Bc 0 r23) false (H325 y21.data r23 e24) ⟨tv,tv⟩ rfl rfl (fun _=>(Cf (Jo (fun _=>rfl)) rfl)) (mP ⟨[(2,.ptr 128 0),(3,.ptr 192 0),(5,.ptr 320 0),(11,Ba a0.Aq),(12,iV (a0.Aq.length:Int)),(13,iV p9),(17,.ptr 192 1),(18,Ai 578 p10),(19,.ptr 320 0),(20,iV y21.at_),(23,Bc 1472 r23)],[(128,[Bc 129 [],Ai 130 []]),(192,[Bc 512 r1,Ai 578 p10]),(320,Ay y21)],[]⟩ (Ak (by kernel_rfl)) ⟨[],⟨⟨.inl tv,By (Aj ⟨tv,tv⟩ rfl (nl rfl)) rfl⟩,⟨.inl tv,By (Aj ⟨tv,tv⟩ rfl tv) rfl⟩,⟨.inl tv,By (Aj ⟨tv,tv⟩ rfl (nl rfl)) rfl⟩,⟨.inl tv,By (Aj ⟨tv,tv⟩ rfl tv) rfl⟩,tv⟩,tv,Ah tv (c_ (v:=.agg [iV y21.at_,Bc 1472 r23]) (Aj ⟨tv,tv,tv⟩ rfl ⟨⟨rfl,rfl,nl rfl⟩,⟨rfl,rfl,nl rfl⟩,tv⟩) (⟨tv,Fm (Fk ⟨tv,tv⟩ ⟨⟨nl rfl,rfl,rfl⟩,tv⟩ (Wg ⟨[],⟨⟨.inl tv,By (Aj ⟨tv,tv⟩ rfl (nl rfl)) rfl⟩,⟨.inl tv,By (Aj ⟨tv,tv⟩ rfl tv) rfl⟩,tv⟩,tv,Fm (Hc (e:=Ay) (l0:=p10) (l1:=([As.mk y21.at_ r23]:List As)) rfl rfl tv rfl (by decide) c25 (Wg ⟨[],tv,tv,Ah tv (c_ (Aj ⟨tv,tv⟩ rfl tv) (⟨tv,Fm (El rfl rfl tv rfl rfl rfl (nl rfl) (Wg ⟨[],tv,tv,Iu (It (An ⟨[(2,.ptr 128 0),(3,.ptr 192 0),(11,Ba a0.Aq),(12,iV (a0.Aq.length:Int)),(13,iV p9)],[(128,[Bc 129 [],Ai 130 []]),(192,[Bc 512 r1,Ai 578 (p10++([As.mk y21.at_ r23]:List As))])],[]⟩ (Ak (by kernel_rfl)) (Ac (st (c_ (Aj t3 rfl tv) (st (Ag rfl tv ?_)))))))⟩)) Dl⟩))⟩)) Dl⟩)) Dl⟩))⟩)) Dl⟩))⟩))⟩))⟩))⟩))⟩)))
   refine At ?_
   obtain rfl:=sj h1
   exact hK1 _ rfl _ ⟨[(2,.ptr 128 0),(3,.ptr 192 0),(11,Ba a0.Aq),(12,iV (a0.Aq.length:Int)),(13,iV (wi (p9+1)))],[(128,[Bc 129 [],Ai 130 []]),(192,[Bc 512 r1,Ai 578 (p10++([As.mk y21.at_ r23]:List As))])],[]⟩ (Ak (by kernel_rfl)) rfl
  ·replace h1:=Do c20 h1
   obtain rfl:=sj h1
   obtain rfl:=hx1 _ rfl
   refine Ke rfl ?_
   exact hE1 _ ⟨[(2,.ptr 128 0),(3,.ptr 192 0)],[(128,[Bc 129 [],Ai 130 []]),(192,[Bc 512 r1,Ai 578 p10])],[]⟩ (Ak (by kernel_rfl)) ⟨_,rfl,rfl⟩
end Go.Ev
