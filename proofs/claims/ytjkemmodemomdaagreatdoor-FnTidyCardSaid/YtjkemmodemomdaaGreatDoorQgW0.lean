/- The walks of functions: the code comes to the answers that QgD tells. Written by a program of ours. -/
import Derived.Test.YtjkemmodemomdaaGreatDoorQgD
set_option linter.all false
set_option maxHeartbeats 4000000
set_option linter.unusedVariables false
set_option maxRecDepth 100000
namespace Go.Ev
variable {C:Bb}
theorem sj {α:Type} {a b:α} (h:some a=some b):a=b:=Option.some.inj h
abbrev wi:Int→Int:=IntKind.i64.wrap
theorem tv:True:=True.intro
abbrev iQ (n:Nat) (o:PU):Bq:=⟨some n,.p o,none⟩
abbrev iV (n:Int):V:=.int .i64 n
theorem nl {a b:Nat} (h:Nat.ble a b=true):a≤b:=Nat.le_of_ble_eq_true h
theorem t3:True∧True∧True:=⟨trivial,trivial,trivial⟩
abbrev m_ (d s:Nat):Bq:=⟨some d,.p (.mv (.t s)),none⟩
abbrev k_ (d:Nat) (v:V):Bq:=⟨some d,.p (.mv (.c v)),none⟩
abbrev i_ (d:Nat) (n:Int):Bq:=⟨some d,.p (.mv (.c (.int .i64 n))),none⟩
abbrev f_ (d x o:Nat):Bq:=⟨some d,.p (.fieldA (.t x) o),none⟩
abbrev l_ (d x n:Nat):Bq:=⟨some d,.p (.load (.t x) n false),none⟩
abbrev L_ (d x n:Nat):Bq:=⟨some d,.p (.load (.t x) n true),none⟩
abbrev x_ (d x y n:Nat):Bq:=⟨some d,.p (.idxA (.t x) (.t y) n),none⟩
abbrev e_ (d x n:Nat):Bq:=⟨some d,.p (.ext (.t x) n),none⟩
abbrev b_ (o:BinOp) (d x y:Nat):Bq:=⟨some d,.p (.bin o (.t x) (.t y)),none⟩
abbrev B_ (o:BinOp) (d x:Nat) (n:Int):Bq:=⟨some d,.p (.bin o (.t x) (.c (.int .i64 n))),none⟩
abbrev n_ (d x:Nat):Bq:=⟨some d,.p (.len (.t x)),none⟩
abbrev N_ (d x:Nat):Bq:=⟨some d,.p (.un .not (.t x)),none⟩
abbrev s_ (x y n:Nat):Bq:=⟨none,.store (.t x) (.t y) n,none⟩
abbrev a_ (d:Nat) (z:List V):Bq:=⟨some d,.alloc z,none⟩
abbrev X_ (d x:Nat):Bq:=⟨some d,.box (.t x),none⟩
abbrev q_ (d f:Nat) (l:List Ay):Bq:=⟨some d,.call f l,none⟩
abbrev pk (d:Nat) (a b c:Ay):Bq:=⟨some d,.pick a b c,none⟩
abbrev pT (g d:Nat) (o:PU):Bq:=⟨some d,.p o,some (g,true)⟩
abbrev pF (g d:Nat) (o:PU):Bq:=⟨some d,.p o,some (g,false)⟩
abbrev zV (a b c:Nat):List V:=[.int .i64 0,.int .i64 0,.own a 0 4 [],.own b 0 2 [],.own c 0 1 [],.bool false]
abbrev zT (a:Nat):List V:=[.int .i64 0,.int .i64 0,.own a 0 4 []]
abbrev mT (g d s:Nat):Bq:=⟨some d,.p (.mv (.t s)),some (g,true)⟩
abbrev mF (g d s:Nat):Bq:=⟨some d,.p (.mv (.t s)),some (g,false)⟩
abbrev lT (g d x n:Nat) (a:Bool):Bq:=⟨some d,.p (.load (.t x) n a),some (g,true)⟩
abbrev lF (g d x n:Nat) (a:Bool):Bq:=⟨some d,.p (.load (.t x) n a),some (g,false)⟩
abbrev fT (g d x n:Nat):Bq:=⟨some d,.p (.fieldA (.t x) n),some (g,true)⟩
abbrev fF (g d x n:Nat):Bq:=⟨some d,.p (.fieldA (.t x) n),some (g,false)⟩
abbrev xT (g d x y n:Nat):Bq:=⟨some d,.p (.idxA (.t x) (.t y) n),some (g,true)⟩
abbrev xF (g d x y n:Nat):Bq:=⟨some d,.p (.idxA (.t x) (.t y) n),some (g,false)⟩
abbrev pa (d a b:Nat):Bq:=⟨some d,.pick (.t a) (.t b) (.c (.bool false)),none⟩
abbrev po (d a b:Nat):Bq:=⟨some d,.pick (.t a) (.c (.bool true)) (.t b),none⟩
abbrev sr (l:List Bq) (b:IR):IR:=.seq (.reg l) b
abbrev sd (p:DP) (b:IR):IR:=.seq (.draw p) b
abbrev rr (l:List Bq):IR:=.seq (.reg l) .ret
abbrev iz (n:Nat) (a:IR):IR:=.ite (.t n) a .skip
abbrev sC (n:Nat) (a:IR):IR:=.block n (.loop a)
def tk:List Bq→DP→DP
  | [],p=>p
  | i::l,p=>.take i (tk l p)
abbrev FO (C:Bb) (c:Es):Bb:=fun _=>Yy C c
theorem f0 {C:Bb} {fn:Es} {args:List V} {bx:List (List V)} {t:Dh} (h:WL C [.c fn.body] (FQ fn.res bx.length t) .normal ⟨Lb args 0,Lc bx Au,[]⟩) (h0:Nat.ble args.length fn.nt=true:=by kernel_rfl):Yy C fn ⟨args,bx⟩ t:=AO (Nat.le_of_ble_eq_true h0) h
abbrev At (t k:Nat) (l:List (List V)):V:=.own t 0 k l
abbrev u_ (k:Nat) (l:List (List V)):V:=.lst k l
abbrev Av (l:List Ad):V:=.lst 4 (l.map Ac)
abbrev lI (l:List Int):V:=.lst 1 (l.map eI)
abbrev Gn (l:List UInt8):V:=.lst 1 (l.map Iy)
abbrev Al (t:Nat) (l:List Ad):V:=.own t 0 4 (l.map Ac)
abbrev oI (t:Nat) (l:List Int):V:=.own t 0 1 (l.map eI)
abbrev Jd (t:Nat) (l:List UInt8):V:=.own t 0 1 (l.map Iy)
abbrev Cu (w0:Nat→List (List V)→V) (x0:List UInt8) (x1:Int) (x2:Int):List V:=[w0 1 (x0.map Iy),iV x1,iV x2]
abbrev bS (x0:Int) (x1:Int) (x2:List UInt8) (x3:Bool):List V:=[iV x0,iV x1,.str x2,.bool x3]
abbrev Ah (x0:List UInt8) (w1:Nat→List (List V)→V) (x1:List UInt8) (x2:Int) (x3:Int) (x4:List UInt8) (x5:Int) (w6:Nat→List (List V)→V) (x6:List Ad):List V:=[.str x0,w1 1 (x1.map Iy),iV x2,iV x3,.str x4,iV x5,w6 4 (x6.map Ac)]
abbrev Aa (x:Aq) (w1:Nat→List (List V)→V) (w6:Nat→List (List V)→V):List V:=[.str x.name_,w1 1 (x.Cn.map Iy),iV x.Am,iV x.number,.str x.Ax,iV x.Gg,w6 4 (x.Ag.map Ac)]
abbrev mX (x0:Int) (x1:Int) (x2:Int) (x3:Int) (x4:List UInt8) (w5:Nat→List (List V)→V) (x5:List UInt8):List V:=[iV x0,iV x1,iV x2,iV x3,.str x4,w5 1 (x5.map Iy)]
abbrev An (x0:Int) (x1:Int) (w2:Nat→List (List V)→V) (x2:List UInt8):List V:=[iV x0,iV x1,w2 1 (x2.map Iy)]
abbrev Ao (x:Cd) (w2:Nat→List (List V)→V):List V:=[iV x.code_,iV x.number,w2 1 (x.bytes.map Iy)]

/- loop.example/g00149/laws.at -/
def sD:=[i_ 6 0]
def sE:=[m_ 7 2,B_ .leq 8 7 1]
def sF:=[i_ 6 0]
def sG:=[m_ 9 0,n_ 10 9,B_ .eql 11 10 0]
def sH:=[m_ 12 1,B_ .mul 13 12 7,m_ 14 2,b_ .rem 15 13 14,m_ 6 15]
def sI:=tk [m_ 16 0,m_ 17 1,m_ 18 0,n_ 19 18,b_ .rem 20 17 19,x_ 21 16 20 1,l_ 22 21 1,iQ 23 (.conv .i64 (.t 22)),B_ .mul 24 23 31,m_ 25 0,m_ 26 1,B_ .add 27 26 1,m_ 28 0,n_ 29 28,b_ .rem 30 27 29,x_ 31 25 30 1,l_ 32 31 1,iQ 33 (.conv .i64 (.t 32)),b_ .add 34 24 33,m_ 35 1,m_ 36 0,n_ 37 36,b_ .quo 38 35 37,b_ .add 39 34 38,m_ 40 2,b_ .rem 41 39 40,m_ 6 41] .fin
def uH:Es:=⟨3,42,[.t 6],sr sD (.seq (sr sE (iz 8 (rr sF))) (.seq (sr sG (iz 11 (rr sH))) (sd sI .ret)))⟩
def yV (D:Bb):Prop:=∀a0 a1 a2 r,wM a0 a1 a2=some r→D 40 ⟨Cu u_ a0 a1 a2,[]⟩ ⟨iV r,[],[]⟩
theorem AF:yV (FO C uH):=by
 intro a0 a1 a2 r h0
 refine f0 (Aj (Ak (st (Dn tv (Br (Bg ⟨[(0,Gn a0),(1,iV a1),(2,iV a2)],[],[]⟩ (Bc (by kernel_rfl)) (Aj (Aj (Ak (st (Ba rfl tv (st (c_ (Ap t3 rfl tv) (Br (Bg ⟨[(0,Gn a0),(1,iV a1),(2,iV a2),(8,.bool (decide (a2≤1)))],[],[]⟩ (Bc (by kernel_rfl)) (Fs (cb:=(decide (a2≤1))) rfl (fun c1=>?_) (fun c1=>?_)))))))))))))))))
 ·replace h0:=ip c1 h0
  refine Aj (Ak (st (Dn tv (Br (Bg ⟨[(6,iV 0)],[],[]⟩ (Bc (by kernel_rfl)) ?_)))))
  obtain rfl:=sj h0
  exact Gj (Co rfl rfl rfl rfl rfl tv)
 ·replace h0:=Ou c1 h0
  refine Rb (Bg ⟨[(0,Gn a0),(1,iV a1),(2,iV a2)],[],[]⟩ (Bc (by kernel_rfl)) (Aj (Aj (Ak (st (Ba rfl tv (st (c_ (Hm (e:=Iy) (l0:=a0) rfl rfl tv) (st (c_ (Ap t3 rfl tv) (Br (Bg ⟨[(0,Gn a0),(1,iV a1),(2,iV a2),(11,.bool ((a0.length:Int)==0))],[],[]⟩ (Bc (by kernel_rfl)) (Fs (cb:=((a0.length:Int)==0)) rfl (fun c2=>?_) (fun c2=>?_))))))))))))))
  ·replace h0:=ip c2 h0
   refine Aj (Ak (st (Ba rfl tv (st (c_ (Ap t3 rfl tv) (st (Ba rfl tv ?_)))))))
   obtain ⟨c3,h0⟩:=cM h0
   refine st (c_ (Ap ⟨tv,tv,tv⟩ rfl c3) (st (Ba rfl tv (Br (Bg ⟨[(6,iV (((wi (a1*7))).tmod a2))],[],[]⟩ (Bc (by kernel_rfl)) ?_)))))
   obtain rfl:=sj h0
   exact Gj (Co rfl rfl rfl rfl rfl tv)
  ·replace h0:=Ou c2 h0
   refine Rb (Bg ⟨[(0,Gn a0),(1,iV a1),(2,iV a2)],[],[]⟩ (Bc (by kernel_rfl)) (Aj ?_))
   obtain ⟨c4,h0⟩:=cM h0
   obtain ⟨y5,e6,h0⟩:=bnd h0
   obtain ⟨y7,e8,h0⟩:=bnd h0
   obtain ⟨c9,h0⟩:=cM h0
   refine Fk (Ai tv (Ba rfl tv (⟨tv,Ai tv (Ba rfl tv (⟨tv,Ai tv (Ba rfl tv (⟨tv,Ai tv (c_ (Hm (e:=Iy) (l0:=a0) rfl rfl tv) (⟨tv,Ai tv (c_ (Ap ⟨tv,tv,tv⟩ rfl c4) (⟨tv,Ai tv (c_ (Nz (e:=Iy) (y:=y5) rfl rfl tv rfl rfl tv e6) (⟨tv,Ai tv (c_ (Ap ⟨tv,tv⟩ rfl (nl rfl)) (⟨tv,Ai tv (c_ (Ap ⟨tv,tv⟩ rfl tv) (⟨tv,Ai tv (c_ (Ap t3 rfl tv) (⟨tv,Ai tv (Ba rfl tv (⟨tv,Ai tv (Ba rfl tv (⟨tv,Ai tv (c_ (Ap t3 rfl tv) (⟨tv,Ai tv (Ba rfl tv (⟨tv,Ai tv (c_ (Hm (e:=Iy) (l0:=a0) rfl rfl tv) (⟨tv,Ai tv (c_ (Ap ⟨tv,tv,tv⟩ rfl c4) (⟨tv,?_⟩))⟩))⟩))⟩))⟩))⟩))⟩))⟩))⟩))⟩))⟩))⟩))⟩))⟩))⟩)))
   refine Ai tv (c_ (Nz (e:=Iy) (y:=y7) rfl rfl tv rfl rfl tv e8) (⟨tv,Ai tv (c_ (Ap ⟨tv,tv⟩ rfl (nl rfl)) (⟨tv,Ai tv (c_ (Ap ⟨tv,tv⟩ rfl tv) (⟨tv,Ai tv (c_ (Ap t3 rfl tv) (⟨tv,Ai tv (Ba rfl tv (⟨tv,Ai tv (Ba rfl tv (⟨tv,Ai tv (c_ (Hm (e:=Iy) (l0:=a0) rfl rfl tv) (⟨tv,Ai tv (c_ (Ap ⟨tv,tv,tv⟩ rfl c4) (⟨tv,Ai tv (c_ (Ap t3 rfl tv) (⟨tv,Ai tv (Ba rfl tv (⟨tv,Ai tv (c_ (Ap ⟨tv,tv,tv⟩ rfl c9) (⟨tv,Ai tv (Ba rfl tv (⟨tv,Td ?_⟩))⟩))⟩))⟩))⟩))⟩))⟩))⟩))⟩))⟩))⟩))⟩))
   obtain ⟨v10,e11,h0⟩:=bl h0
   refine Bg ⟨[(6,iV v10)],[],[]⟩ (Bc (by subst e11; kernel_rfl)) ?_
   obtain rfl:=sj h0
   exact Gj (Co rfl rfl rfl rfl rfl tv)

/- loop.example/g00149/spec.l00Source -/
def tA:=[iQ 2 (.mv (.c .undef))]
def tB:List Bq:=[m_ 3 0,m_ 4 0,n_ 5 4,B_ .rem 6 5 1000,⟨some 7,.p (.build [.own 449 0 1 [],iV 0,iV 0] [(0,1,.t 3),(2,1,.t 6)]),none⟩,X_ 8 7,m_ 2 8]
def zX:Es:=⟨1,9,[.t 2],sr tA (rr tB)⟩
def yZ (D:Bb):Prop:=∀a0 r,zF a0=some r→D 83 ⟨[Gn a0],[]⟩ ⟨.ptr 0 0,[Ar r],[]⟩
theorem AK:yZ (FO C zX):=by
 intro a0 r h0
 refine f0 (Rh 3 [(0,Gn a0)] [] (Rl 3 (Ak (zJ rfl (st (c_ (Ap ⟨tv,tv,tv⟩ rfl (by decide)) (st (c_ (v:=.agg (Cu u_ a0 0 (((a0.length:Int)).tmod 1000))) (Ap ⟨tv,tv,tv⟩ rfl ⟨⟨rfl,rfl,nl rfl⟩,⟨rfl,rfl,nl rfl⟩,tv⟩) (o_ ?_)))))))))
 obtain rfl:=sj h0
 exact Wx 4

/- (*loop.example/g00149/spec.l00Src).byte -/
def gB:=[i_ 2 0]
def gC:=[m_ 3 0,iQ 4 (.nilc (.t 3)),f_ 5 4 1,l_ 6 5 1,B_ .add 7 6 1,iQ 8 (.nilc (.t 3)),f_ 9 8 1,s_ 9 7 1]
def gD:=tk [m_ 10 0,iQ 11 (.nilc (.t 10)),f_ 12 11 1,l_ 13 12 1,m_ 14 0,iQ 15 (.nilc (.t 14)),f_ 16 15 0,l_ 17 16 1,n_ 18 17,b_ .leq 19 13 18] .fin
def gE:=tk [m_ 20 0,m_ 21 0,iQ 22 (.nilc (.t 21)),f_ 23 22 2,l_ 24 23 1,B_ .mul 25 24 31,m_ 26 0,iQ 27 (.nilc (.t 26)),f_ 28 27 0,l_ 29 28 1,m_ 30 0,iQ 31 (.nilc (.t 30)),f_ 32 31 1,l_ 33 32 1,B_ .sub 34 33 1,x_ 35 29 34 1,l_ 36 35 1,iQ 37 (.conv .i64 (.t 36)),b_ .add 38 25 37,B_ .add 39 38 7,B_ .rem 40 39 2147483648,iQ 41 (.nilc (.t 20)),f_ 42 41 2] (.alt [] (s_ 42 40 1) .fin .stop)
def gF:=tk [m_ 43 0,iQ 44 (.nilc (.t 43)),f_ 45 44 0,l_ 46 45 1,m_ 47 0,iQ 48 (.nilc (.t 47)),f_ 49 48 1,l_ 50 49 1,B_ .sub 51 50 1,x_ 52 46 51 1,l_ 53 52 1,iQ 54 (.conv .i64 (.t 53)),m_ 2 54] .fin
def gG:=[m_ 55 0,iQ 56 (.nilc (.t 55)),f_ 57 56 1,l_ 58 57 1,B_ .gtr 59 58 3000]
def gH:=[i_ 2 0]
def gI:=[m_ 60 0,m_ 61 0,iQ 62 (.nilc (.t 61)),f_ 63 62 2,l_ 64 63 1,B_ .mul 65 64 1103515245,B_ .add 66 65 12345,B_ .rem 67 66 2147483648,iQ 68 (.nilc (.t 60)),f_ 69 68 2,s_ 69 67 1]
def gJ:=[m_ 70 0,iQ 71 (.nilc (.t 70)),f_ 72 71 2,l_ 73 72 1,B_ .quo 74 73 65536,B_ .rem 75 74 256,m_ 2 75]
def uT:Es:=⟨1,76,[.t 2],sr gB (sr gC (.seq (sd gD (iz 19 (sd gE (sd gF .ret)))) (.seq (sr gG (iz 59 (rr gH))) (sr gI (rr gJ)))))⟩
def qS (D:Bb):Prop:=∀a0 r,Ws a0=some r→D 139 ⟨[.ptr 1048576 0],[Ar a0]⟩ ⟨iV r.1,[Ar r.2],[]⟩
theorem xK:qS (FO C uT):=by
 intro a0 r h0
 refine f0 (Rh 14 [(0,.ptr 1048576 0)] [(1048576,Cu u_ a0.code_ (wi (a0.at_+1)) a0.Cn)] (Rl 7 (Fk ?_)))
 refine d_ (Rl 3 (Fk (Ai tv (c_ (Hm (e:=Iy) (l0:=a0.code_) rfl rfl tv) (⟨tv,d_ (Rh 2 [(0,.ptr 1048576 0),(19,.bool (decide ((wi (a0.at_+1))≤(a0.code_.length:Int))))] [(1048576,Cu u_ a0.code_ (wi (a0.at_+1)) a0.Cn)] (tQ h0 (fun c1 h0=>?_) (fun c1 h0=>?_)))⟩)))))
 ·refine Aj (bb h0 fun y2 e3 h0=>Rl 15 (Fk ?_))
  refine d_ (AD rfl rfl rfl e3 (Rl 4 (Fk (Ai tv (c_ (Ap ⟨tv,tv,tv⟩ rfl (by decide)) (⟨tv,d_ (Rl 2 (Fk (Gl (Ff rfl rfl tv rfl rfl rfl (nl rfl) (d0 tv (Td (bv h0 fun v4 e5 h0=>Bg ⟨[(0,.ptr 1048576 0)],[(1048576,Cu u_ a0.code_ (wi (a0.at_+1)) v4)],[]⟩ (Bc (by subst e5; kernel_rfl)) (Aj (bb h0 fun y6 e7 h0=>Rl 9 (Fk (d_ (AD rfl rfl rfl e7 (Fk (d_ ?_))))))))))) Dl)))⟩))))))
  obtain rfl:=sj h0
  exact Wx 5
 ·refine Rh 10 [(0,.ptr 1048576 0),(59,.bool (decide ((wi (a0.at_+1))>3000)))] [(1048576,Cu u_ a0.code_ (wi (a0.at_+1)) a0.Cn)] (tQ h0 (fun c8 h0=>?_) (fun c8 h0=>?_))
  ·obtain rfl:=sj h0
   exact Wx 4
  ·refine Rl 10 (Ak (st (c_ (Ap ⟨tv,tv,tv⟩ rfl (by decide)) (o_ (Rl 4 (bv h0 fun v9 e10 h0=>Bg ⟨[(0,.ptr 1048576 0)],[(1048576,Cu u_ a0.code_ (wi (a0.at_+1)) v9)],[]⟩ (Bc (by subst e10; kernel_rfl)) (Rl 5 (Ak (st (c_ (Ap ⟨tv,tv,tv⟩ rfl (by decide)) (st (c_ (Ap ⟨tv,tv,tv⟩ rfl (by decide)) (o_ ?_)))))))))))))
   obtain rfl:=sj h0
   exact Wx 3

/- (*loop.example/g00149/spec.l00Src).next -/
def fP:=[i_ 4 0]
def fQ:=[m_ 8 1,B_ .leq 9 8 1]
def fR:=[i_ 4 0]
def fS:=[m_ 10 1,B_ .leq 11 10 256]
def fU:=[m_ 12 0,q_ 13 139 [.t 12],m_ 14 1,b_ .rem 15 13 14,m_ 4 15]
def fV:=[m_ 16 0,q_ 17 139 [.t 16],m_ 5 17]
def fW:=[m_ 18 0,q_ 19 139 [.t 18],m_ 6 19]
def fX:=[m_ 20 0,q_ 21 139 [.t 20],m_ 7 21]
def fY:=[m_ 22 5,B_ .mul 23 22 65536,m_ 24 6,B_ .mul 25 24 256,b_ .add 26 23 25,m_ 27 7,b_ .add 28 26 27,m_ 29 1,b_ .rem 30 28 29,m_ 4 30]
def uR:Es:=⟨2,31,[.t 4],sr fP (.seq (sr fQ (iz 9 (rr fR))) (.seq (sr fS (iz 11 (rr fU))) (sr fV (sr fW (sr fX (rr fY))))))⟩
def aT (D:Bb):Prop:=∀a0 a1 r,Py a0 a1=some r→D 117 ⟨[.ptr 1048576 0,iV a1],[Ar a0]⟩ ⟨iV r.1,[Ar r.2],[]⟩
theorem xI (H139:qS C):aT (FO C uR):=by
 intro a0 a1 r h0
 refine f0 (Rh 9 [(0,.ptr 1048576 0),(1,iV a1),(9,.bool (decide (a1≤1)))] [(1048576,Ar a0)] (tQ h0 (fun c1 h0=>?_) (fun c1 h0=>?_)))
 ·obtain rfl:=sj h0
  exact Wx 4
 ·refine Rh 7 [(0,.ptr 1048576 0),(1,iV a1),(11,.bool (decide (a1≤256)))] [(1048576,Ar a0)] (tQ h0 (fun c2 h0=>?_) (fun c2 h0=>?_))
  ·refine Aj (Ak (st (Ba rfl tv (bb h0 fun r3 e4 h0=>vD [1048576] [] [] (H139 a0 r3 e4) (st (Ba rfl tv (gg h0 fun c5 h0=>st (c_ (Ap ⟨tv,tv,tv⟩ rfl c5) (o_ ?_)))))))))
   obtain rfl:=sj h0
   exact Wx 3
  ·refine Rl 4 (Ak (bb h0 fun r6 e7 h0=>vD [1048576] [] [] (H139 a0 r6 e7) (o_ (Rh 2 [(0,.ptr 1048576 0),(1,iV a1),(5,iV r6.1)] [(1048576,Ar r6.2)] (Aj (Ak (st (Ba rfl tv (bb h0 fun r8 e9 h0=>vD [1048576] [] [] (H139 r6.2 r8 e9) (o_ (Rh 2 [(0,.ptr 1048576 0),(1,iV a1),(5,iV r6.1),(6,iV r8.1)] [(1048576,Ar r8.2)] (Aj (Ak (st (Ba rfl tv (bb h0 fun r10 e11 h0=>vD [1048576] [] [] (H139 r8.2 r10 e11) (o_ (Rh 2 [(1,iV a1),(5,iV r6.1),(6,iV r8.1),(7,iV r10.1)] [(1048576,Ar r10.2)] (Rl 9 (Ak (gg h0 fun c12 h0=>st (c_ (Ap ⟨tv,tv,tv⟩ rfl c12) (st (Ba rfl tv (Br (bv h0 fun v13 e14 h0=>Bg ⟨[(4,iV v13)],[(1048576,Ar r10.2)],[]⟩ (Bc (by subst e14; kernel_rfl)) ?_))))))))))))))))))))))))))
   obtain rfl:=sj h0
   exact Gj (Co rfl rfl rfl rfl rfl tv)

/- (*loop.example/g00149/spec.l00Src).chance -/
def fZ:=[k_ 4 (.bool false)]
def gA:=[m_ 5 0,m_ 6 1,q_ 7 117 [.t 5,.t 6],m_ 8 1,B_ .sub 9 8 1,b_ .eql 10 7 9,m_ 4 10]
def uS:Es:=⟨2,11,[.t 4],sr fZ (rr gA)⟩
def qR (D:Bb):Prop:=∀a0 a1 r,nI a0 a1=some r→D 119 ⟨[.ptr 1048576 0,iV a1],[Ar a0]⟩ ⟨.bool r.1,[Ar r.2],[]⟩
theorem xJ (H117:aT C):qR (FO C uS):=by
 intro a0 a1 r h0
 refine f0 (Rh 3 [(0,.ptr 1048576 0),(1,iV a1)] [(1048576,Ar a0)] (Rl 3 (Ak (bb h0 fun r1 e2 h0=>vD [1048576] [] [] (H117 a0 a1 r1 e2) (o_ ?_)))))
 obtain rfl:=sj h0
 exact Wx 6

/- (*loop.example/g00149/spec.l00Src).edSeed -/
def mJ:List Bq:=[⟨some 2,.nilS 1,none⟩]
def mK:List Bq:=[⟨some 4,.make 1 1 [.int .u8 0] (.c (iV 32)) (.c (iV 32)),none⟩,m_ 3 4]
def mL:=[m_ 5 3,m_ 6 0,q_ 7 117 [.t 6,.c (iV 32)],m_ 8 0,q_ 9 117 [.t 8,.c (iV 256)],iQ 10 (.conv .u8 (.t 9)),x_ 11 5 7 1,s_ 11 10 1]
def mM:List Bq:=[m_ 12 3,m_ 13 0,q_ 14 117 [.t 13,.c (iV 4)],iQ 15 (.conv .u8 (.t 14)),⟨some 16,.p (.idxA (.t 12) (.c (iV 0)) 1),none⟩,s_ 16 15 1]
def mN:=[m_ 17 3,m_ 2 17]
def wB:Es:=⟨1,18,[.t 2],sr mJ (sr mK (sr mL (sr mM (rr mN))))⟩
def rT (D:Bb):Prop:=∀a0 r,oM a0=some r→D 506 ⟨[.ptr 1048576 0],[Ar a0]⟩ ⟨Jd 0 r.1,[Ar r.2],[]⟩
theorem yS (H117:aT C):rT (FO C wB):=by
 intro a0 r h0
 refine f0 (Aj (Ak (st (Ol (Br (Bg ⟨[(0,.ptr 1048576 0)],[(1048576,Ar a0)],[]⟩ (Bc (by kernel_rfl)) (Aj (Ak ?_))))))))
 obtain ⟨c1,h0⟩:=cM h0
 obtain ⟨c2,h0⟩:=cM h0
 refine st (wR (e:=Iy) (0:UInt8) rfl rfl c1 rfl c2 rfl (st (Ba rfl tv (Br (Bg ⟨[(0,.ptr 1048576 0),(3,Jd 256 (List.replicate (32:Int).toNat (0:UInt8)))],[(1048576,Ar a0)],[]⟩ (Bc (by kernel_rfl)) (Aj (Ak (st (Ba rfl tv (st (Ba rfl tv ?_)))))))))))
 obtain ⟨r3,e4,h0⟩:=bnd h0
 refine st (Eh [1048576] [] [] true (H117 a0 32 r3 e4) ⟨tv,tv,tv⟩ (by kernel_rfl) (by kernel_rfl) (by kernel_rfl) (by kernel_rfl) (fun h=>nomatch h) (sw ⟨[(0,.ptr 1048576 0),(3,Jd 256 (List.replicate (32:Int).toNat (0:UInt8))),(5,Jd 256 (List.replicate (32:Int).toNat (0:UInt8))),(7,iV r3.1)],[(1048576,Ar r3.2)],[]⟩ (Bc (by kernel_rfl)) (Ba rfl tv ?_)))
 obtain ⟨r5,e6,h0⟩:=bnd h0
 refine st (Eh [1048576] [] [] true (H117 r3.2 256 r5 e6) ⟨tv,tv,tv⟩ (by kernel_rfl) (by kernel_rfl) (by kernel_rfl) (by kernel_rfl) (fun h=>nomatch h) (sw ⟨[(0,.ptr 1048576 0),(3,Jd 256 (List.replicate (32:Int).toNat (0:UInt8))),(5,Jd 256 (List.replicate (32:Int).toNat (0:UInt8))),(7,iV r3.1),(9,iV r5.1)],[(1048576,Ar r5.2)],[]⟩ (Bc (by kernel_rfl)) (c_ (zY (Ap ⟨tv,tv⟩ rfl tv)) ?_)))
 obtain ⟨y7,e8,h0⟩:=bnd h0
 refine st (c_ (Um (e:=Iy) (y:=y7) rfl rfl tv rfl rfl tv e8) ?_)
 obtain ⟨y9,e10,h0⟩:=bnd h0
 refine st (tU (y':=b8 r5.1) rfl rfl tv rfl rfl rfl rfl e10 (nl rfl) rfl rfl rfl rfl (Br (Bg ⟨[(0,.ptr 1048576 0),(3,Jd 256 ((List.replicate (32:Int).toNat (0:UInt8)).set r3.1.toNat (b8 r5.1)))],[(1048576,Ar r5.2)],[]⟩ (fg ⟨rfl,congrArg (fun z=>some ((.own 256 0 1 z:V))) Kd,tv⟩ ⟨rfl,tv⟩) (Aj (Ak (st (Ba rfl tv (st (Ba rfl tv ?_)))))))))
 obtain ⟨r11,e12,h0⟩:=bnd h0
 refine st (Eh [1048576] [] [] true (H117 r5.2 4 r11 e12) ⟨tv,tv,tv⟩ (by kernel_rfl) (by kernel_rfl) (by kernel_rfl) (by kernel_rfl) (fun h=>nomatch h) (sw ⟨[(3,Jd 256 ((List.replicate (32:Int).toNat (0:UInt8)).set r3.1.toNat (b8 r5.1))),(12,Jd 256 ((List.replicate (32:Int).toNat (0:UInt8)).set r3.1.toNat (b8 r5.1))),(14,iV r11.1)],[(1048576,Ar r11.2)],[]⟩ (Bc (by kernel_rfl)) (c_ (zY (Ap ⟨tv,tv⟩ rfl tv)) ?_)))
 obtain ⟨y13,e14,h0⟩:=bnd h0
 refine st (c_ (Um (e:=Iy) (y:=y13) rfl rfl tv rfl rfl tv e14) ?_)
 obtain ⟨y15,e16,h0⟩:=bnd h0
 refine st (tU (y':=b8 r11.1) rfl rfl tv rfl rfl rfl rfl e16 (nl rfl) rfl rfl rfl rfl (Br (Bg ⟨[(3,Jd 256 (((List.replicate (32:Int).toNat (0:UInt8)).set r3.1.toNat (b8 r5.1)).set ((0:Int).toNat) (b8 r11.1)))],[(1048576,Ar r11.2)],[]⟩ (fg ⟨congrArg (fun z=>some ((.own 256 0 1 z:V))) Kd,tv⟩ ⟨rfl,tv⟩) (Aj (Ak (st (Ba rfl tv (st (Ba rfl tv (Br ?_))))))))))
 obtain ⟨v17,e18,h0⟩:=bl h0
 refine Bg ⟨[(2,Jd 256 v17)],[(1048576,Ar r11.2)],[]⟩ (Bc (by subst e18; kernel_rfl)) ?_
 obtain rfl:=sj h0
 exact Gj (Co rfl rfl rfl rfl rfl tv)

/- (*loop.example/g00149/spec.l00Src).authority -/
def lN:=[a_ 2 [.str [],.own 130 0 1 [],iV 0,iV 0,.str [],iV 0,.own 135 0 4 []]]
def lO:List Bq:=[m_ 5 0,q_ 6 506 [.t 5],m_ 7 0,q_ 8 117 [.t 7,.c (iV 5)],⟨some 9,.p (.bin .add (.c (iV 1)) (.t 8)),none⟩,⟨some 10,.p (.build [.str [],.own 642 0 1 [],iV 0,iV 0,.str [],iV 0,.own 647 0 4 []] [(0,1,.c (.str [82,111,111,116,32,67,65])),(1,1,.t 6),(2,1,.c (iV 1)),(3,1,.t 9),(4,1,.c (.str [108,111,99,97,108])),(5,1,.c (iV 100))]),none⟩,a_ 3 [.str [],.own 194 0 1 [],iV 0,iV 0,.str [],iV 0,.own 199 0 4 []],s_ 3 10 7]
def lP:=[m_ 11 0,q_ 12 117 [.t 11,.c (iV 5)],m_ 4 12]
def lQ:=[m_ 13 4,B_ .gtr 14 13 0]
def lR:=tk [f_ 17 3 6,l_ 18 17 1,f_ 19 3 2,l_ 20 19 1,m_ 21 0,m_ 24 0] (.alt [m_ 24 0,l_ 20 19 1,f_ 19 3 2,l_ 18 17 1,f_ 17 3 6] (q_ 22 117 [.t 21,.c (iV 200)]) (tk [⟨some 23,.p (.bin .add (.c (iV 1000)) (.t 22)),none⟩] (.alt [⟨some 23,.p (.bin .add (.c (iV 1000)) (.t 22)),none⟩,l_ 20 19 1,f_ 19 3 2,l_ 18 17 1,f_ 17 3 6] (q_ 25 119 [.t 24,.c (iV 2)]) (tk [⟨some 26,.p (.build [iV 0,iV 0,.str [],.bool false] [(0,1,.t 20),(1,1,.t 23),(2,1,.c (.str [97,46,108,111,99,97,108])),(3,1,.t 25)]),none⟩] (.alt [l_ 18 17 1,f_ 17 3 6] ⟨some 27,.mkS 4 [iV 0,iV 0,.str [],.bool false] 1 [(0,.t 26)],none⟩ (.alt [] ⟨some 28,.app 4 40 (.t 18) (.t 27),none⟩ (tk [f_ 29 3 6] (.alt [] (s_ 29 28 1) .fin .stop)) .stop) .stop)) .stop)) .stop)
def lS:=tk [f_ 30 3 2,l_ 31 30 1,m_ 32 0] (.alt [l_ 31 30 1,f_ 30 3 2] (q_ 33 117 [.t 32,.c (iV 2)]) (tk [⟨some 34,.p (.bin .add (.c (iV 1)) (.t 33)),none⟩,b_ .add 35 31 34,f_ 36 3 2] (.alt [] (s_ 36 35 1) .fin .stop)) .stop)
def lU:=[m_ 15 4,B_ .sub 16 15 1,m_ 4 16]
def lM:IR:=(.seq (sr lQ (.ite (.t 14) .skip (.exit 0))) (.seq (.block 1 (sd lR (.draw lS))) (.reg lU)))
def lV:=[L_ 37 3 7,s_ 2 37 7]
def vY:Es:=⟨1,38,[.cell 2 7 true],sr lN (sr lO (.seq (sr lP (sC 0 lM)) (rr lV)))⟩
def rQ (D:Bb):Prop:=∀a0 r,oK a0=some r→D 503 ⟨[.ptr 1048576 0],[Ar a0]⟩ ⟨.agg (Aa r.1 (At 0) (At 1)),[Ar r.2],[]⟩
theorem yP (H117:aT C) (H119:qR C) (H506:rT C):rQ (FO C vY):=by
 intro a0 r h0
 refine f0 (Aj (Ak (st (Ea (Br (Bg ⟨[(0,.ptr 1048576 0),(2,.ptr 128 0)],[(128,Ah ([]:List UInt8) (At 130) [] 0 0 ([]:List UInt8) 0 (At 135) []),(1048576,Ar a0)],[]⟩ (Bc (by kernel_rfl)) (Aj (Ak (st (Ba rfl tv ?_))))))))))
 obtain ⟨r1,e2,h0⟩:=bnd h0
 refine st (Eh [1048576] [] [] true (H506 a0 r1 e2) ⟨tv,tv⟩ (by kernel_rfl) (by kernel_rfl) (by kernel_rfl) (by kernel_rfl) (fun h=>nomatch h) (sw ⟨[(0,.ptr 1048576 0),(2,.ptr 128 0),(6,Jd 384 r1.1)],[(128,Ah ([]:List UInt8) (At 130) [] 0 0 ([]:List UInt8) 0 (At 135) []),(1048576,Ar r1.2)],[]⟩ (Bc (by kernel_rfl)) (Ba rfl tv ?_)))
 obtain ⟨r3,e4,h0⟩:=bnd h0
 refine st (Eh [1048576] [] [] true (H117 r1.2 5 r3 e4) ⟨tv,tv,tv⟩ (by kernel_rfl) (by kernel_rfl) (by kernel_rfl) (by kernel_rfl) (fun h=>nomatch h) (sw ⟨[(0,.ptr 1048576 0),(2,.ptr 128 0),(6,Jd 384 r1.1),(8,iV r3.1)],[(128,Ah ([]:List UInt8) (At 130) [] 0 0 ([]:List UInt8) 0 (At 135) []),(1048576,Ar r3.2)],[]⟩ (Bc (by kernel_rfl)) (c_ (Ap t3 rfl tv) (st (c_ (v:=.agg [.str ([82,111,111,116,32,67,65]:List UInt8),Jd 384 r1.1,iV 1,iV (wi (1+r3.1)),.str ([108,111,99,97,108]:List UInt8),iV 100,Al 647 []]) (Ap ⟨tv,tv,tv,tv,tv,tv,tv⟩ rfl ⟨⟨rfl,rfl,nl rfl⟩,⟨rfl,rfl,nl rfl⟩,⟨rfl,rfl,nl rfl⟩,⟨rfl,rfl,nl rfl⟩,⟨rfl,rfl,nl rfl⟩,⟨rfl,rfl,nl rfl⟩,tv⟩) (st (Ea (st (Ff rfl rfl tv rfl rfl rfl (nl rfl) (Br (Bg ⟨[(0,.ptr 1048576 0),(2,.ptr 128 0),(3,.ptr 192 0)],[(128,Ah ([]:List UInt8) (At 130) [] 0 0 ([]:List UInt8) 0 (At 135) []),(192,[.str ([82,111,111,116,32,67,65]:List UInt8),Jd 384 r1.1,iV 1,iV (wi (1+r3.1)),.str ([108,111,99,97,108]:List UInt8),iV 100,Al 647 []]),(1048576,Ar r3.2)],[]⟩ (Bc (by kernel_rfl)) (Aj (Aj (Ak (st (Ba rfl tv ?_))))))))))))))))
 obtain ⟨r5,e6,h0⟩:=bnd h0
 refine st (Eh [1048576] [] [] true (H117 r3.2 5 r5 e6) ⟨tv,tv,tv⟩ (by kernel_rfl) (by kernel_rfl) (by kernel_rfl) (by kernel_rfl) (fun h=>nomatch h) (sw ⟨[(0,.ptr 1048576 0),(2,.ptr 128 0),(3,.ptr 192 0),(12,iV r5.1)],[(128,Ah ([]:List UInt8) (At 130) [] 0 0 ([]:List UInt8) 0 (At 135) []),(192,[.str ([82,111,111,116,32,67,65]:List UInt8),Jd 384 r1.1,iV 1,iV (wi (1+r3.1)),.str ([108,111,99,97,108]:List UInt8),iV 100,Al 647 []]),(1048576,Ar r5.2)],[]⟩ (Bc (by kernel_rfl)) (Ba rfl tv (Br (Bg ⟨[(0,.ptr 1048576 0),(2,.ptr 128 0),(3,.ptr 192 0),(4,iV r5.1)],[(128,Ah ([]:List UInt8) (At 130) [] 0 0 ([]:List UInt8) 0 (At 135) []),(192,[.str ([82,111,111,116,32,67,65]:List UInt8),Jd 384 r1.1,iV 1,iV (wi (1+r3.1)),.str ([108,111,99,97,108]:List UInt8),iV 100,Al 647 []]),(1048576,Ar r5.2)],[]⟩ (Bc (by kernel_rfl)) (Fa ?_))))))
 obtain ⟨r54,e55,h0⟩:=bnd h0
 refine Qk (R:=(fun S=>∃p39:Int,∃p40:List Ad,∃p41:List UInt8,∃p42:Int,∃p43:Int,(p39,p40,p41,p42,p43)=r54∧S=⟨[(2,.ptr 128 0),(3,.ptr 192 0)],[(128,Ah ([]:List UInt8) (At 130) [] 0 0 ([]:List UInt8) 0 (At 135) []),(192,[.str ([82,111,111,116,32,67,65]:List UInt8),Jd 384 r1.1,iV p39,iV (wi (1+r3.1)),.str ([108,111,99,97,108]:List UInt8),iV 100,Al 647 p40]),(1048576,Cu u_ p41 p42 p43)],[]⟩)) (Pd) (fun s S=>match s with | (p17,p18,p19,p20,p21,p22)=>S=⟨[(0,.ptr 1048576 0),(2,.ptr 128 0),(3,.ptr 192 0),(4,iV p17)],[(128,Ah ([]:List UInt8) (At 130) [] 0 0 ([]:List UInt8) 0 (At 135) []),(192,[.str ([82,111,111,116,32,67,65]:List UInt8),Jd 384 r1.1,iV p18,iV (wi (1+r3.1)),.str ([108,111,99,97,108]:List UInt8),iV 100,Al 647 p19]),(1048576,Cu u_ p20 p21 p22)],[]⟩) e55 ⟨[(0,.ptr 1048576 0),(2,.ptr 128 0),(3,.ptr 192 0),(4,iV r5.1)],[(128,Ah ([]:List UInt8) (At 130) [] 0 0 ([]:List UInt8) 0 (At 135) []),(192,[.str ([82,111,111,116,32,67,65]:List UInt8),Jd 384 r1.1,iV 1,iV (wi (1+r3.1)),.str ([108,111,99,97,108]:List UInt8),iV 100,Al 647 []]),(1048576,Ar r5.2)],[]⟩ (Bc (by kernel_rfl)) rfl 0 (fun _=>rfl) ?_ ?_
 ·rintro S _ hfg ⟨p39,p40,p41,p42,p43,rfl,rfl⟩
  refine Bg ⟨[(2,.ptr 128 0),(3,.ptr 192 0)],[(128,Ah ([]:List UInt8) (At 130) [] 0 0 ([]:List UInt8) 0 (At 135) []),(192,[.str ([82,111,111,116,32,67,65]:List UInt8),Jd 384 r1.1,iV p39,iV (wi (1+r3.1)),.str ([108,111,99,97,108]:List UInt8),iV 100,Al 647 p40]),(1048576,Cu u_ p41 p42 p43)],[]⟩ (Zn hfg (by kernel_rfl)) (Aj (Ak (st (c_ (v:=.agg [.str ([82,111,111,116,32,67,65]:List UInt8),Jd 384 r1.1,iV p39,iV (wi (1+r3.1)),.str ([108,111,99,97,108]:List UInt8),iV 100,Al 647 p40]) (Ap ⟨tv,tv⟩ rfl (nl rfl)) (st (Ff rfl rfl tv rfl rfl rfl (nl rfl) (Br (Bg ⟨[(2,.ptr 128 0)],[(128,[.str ([82,111,111,116,32,67,65]:List UInt8),Jd 384 r1.1,iV p39,iV (wi (1+r3.1)),.str ([108,111,99,97,108]:List UInt8),iV 100,Al 647 p40]),(1048576,Cu u_ p41 p42 p43)],[]⟩ (Bc (by kernel_rfl)) ?_))))))))
  obtain rfl:=sj h0
  exact Gj (Co rfl rfl rfl rfl rfl tv)
 ·rintro ⟨p17,p18,p19,p20,p21,p22⟩ o1 _ K1 rfl h1 hx1 hK1 hE1 hR1
  refine Aj (Aj (Ak (st (Ba rfl tv (st (c_ (Ap t3 rfl tv) (Br (Bg ⟨[(0,.ptr 1048576 0),(2,.ptr 128 0),(3,.ptr 192 0),(4,iV p17),(14,.bool (decide (p17>0)))],[(128,Ah ([]:List UInt8) (At 130) [] 0 0 ([]:List UInt8) 0 (At 135) []),(192,[.str ([82,111,111,116,32,67,65]:List UInt8),Jd 384 r1.1,iV p18,iV (wi (1+r3.1)),.str ([108,111,99,97,108]:List UInt8),iV 100,Al 647 p19]),(1048576,Cu u_ p20 p21 p22)],[]⟩ (Bc (by kernel_rfl)) (Fs (cb:=(decide (p17>0))) rfl (fun c44=>?_) (fun c44=>?_))))))))))
  ·replace h1:=ip c44 h1
   refine Rb (Bg ⟨[(0,.ptr 1048576 0),(2,.ptr 128 0),(3,.ptr 192 0),(4,iV p17)],[(128,Ah ([]:List UInt8) (At 130) [] 0 0 ([]:List UInt8) 0 (At 135) []),(192,[.str ([82,111,111,116,32,67,65]:List UInt8),Jd 384 r1.1,iV p18,iV (wi (1+r3.1)),.str ([108,111,99,97,108]:List UInt8),iV 100,Al 647 p19]),(1048576,Cu u_ p20 p21 p22)],[]⟩ (Bc (by kernel_rfl)) (Aj (Fa (Aj ?_))))
   obtain ⟨r45,e46,h1⟩:=bnd h1
   obtain ⟨r47,e48,h1⟩:=bnd h1
   obtain ⟨c49,h1⟩:=cM h1
   refine Fk (Ai tv (c_ (Ap ⟨tv,tv⟩ rfl tv) (⟨tv,Ai tv (c_ (Ap ⟨tv,tv⟩ rfl (nl rfl)) (⟨tv,Ai tv (c_ (Ap ⟨tv,tv⟩ rfl tv) (⟨tv,Ai tv (c_ (Ap ⟨tv,tv⟩ rfl (nl rfl)) (⟨tv,Ai tv (Ba rfl tv (⟨tv,Ai tv (Ba rfl tv (⟨tv,Gl (Eh [1048576] [] [] true (H117 (Bs.mk p20 p21 p22) 200 r45 e46) ⟨tv,tv,tv⟩ (by kernel_rfl) (by kernel_rfl) (by kernel_rfl) (by kernel_rfl) (fun h=>nomatch h) (Wo ⟨[(0,.ptr 1048576 0),(2,.ptr 128 0),(3,.ptr 192 0),(4,iV p17),(17,.ptr 192 6),(18,Al 647 p19),(19,.ptr 192 2),(20,iV p18),(22,iV r45.1),(24,.ptr 1048576 0)],[(128,Ah ([]:List UInt8) (At 130) [] 0 0 ([]:List UInt8) 0 (At 135) []),(192,[.str ([82,111,111,116,32,67,65]:List UInt8),Jd 384 r1.1,iV p18,iV (wi (1+r3.1)),.str ([108,111,99,97,108]:List UInt8),iV 100,Al 647 p19]),(1048576,Ar r45.2)],[]⟩ (Bc (by kernel_rfl)) ⟨[],⟨⟨.inl tv,Cv (Zi (v:=.ptr 1048576 0) rfl tv) rfl⟩,⟨.inl tv,Cv (Ap ⟨tv,tv⟩ rfl (nl rfl)) rfl⟩,⟨.inl tv,Cv (Ap ⟨tv,tv⟩ rfl tv) rfl⟩,⟨.inl tv,Cv (Ap ⟨tv,tv⟩ rfl (nl rfl)) rfl⟩,⟨.inl tv,Cv (Ap ⟨tv,tv⟩ rfl tv) rfl⟩,tv⟩,tv,Ai tv (c_ (Ap t3 rfl tv) (⟨tv,Gl (Eh [1048576] [] [] true (H119 r45.2 2 r47 e48) ⟨tv,tv,tv⟩ (by kernel_rfl) (by kernel_rfl) (by kernel_rfl) (by kernel_rfl) (fun h=>nomatch h) (Wo ⟨[(0,.ptr 1048576 0),(2,.ptr 128 0),(3,.ptr 192 0),(4,iV p17),(17,.ptr 192 6),(18,Al 647 p19),(19,.ptr 192 2),(20,iV p18),(22,iV r45.1),(23,iV (wi (1000+r45.1))),(25,.bool r47.1)],[(128,Ah ([]:List UInt8) (At 130) [] 0 0 ([]:List UInt8) 0 (At 135) []),(192,[.str ([82,111,111,116,32,67,65]:List UInt8),Jd 384 r1.1,iV p18,iV (wi (1+r3.1)),.str ([108,111,99,97,108]:List UInt8),iV 100,Al 647 p19]),(1048576,Ar r47.2)],[]⟩ (Bc (by kernel_rfl)) ⟨[],⟨⟨.inl tv,Cv (Ap t3 rfl tv) rfl⟩,⟨.inl tv,Cv (Ap ⟨tv,tv⟩ rfl (nl rfl)) rfl⟩,⟨.inl tv,Cv (Ap ⟨tv,tv⟩ rfl tv) rfl⟩,⟨.inl tv,Cv (Ap ⟨tv,tv⟩ rfl (nl rfl)) rfl⟩,⟨.inl tv,Cv (Ap ⟨tv,tv⟩ rfl tv) rfl⟩,tv⟩,tv,Ai tv (c_ (v:=.agg [iV p18,iV (wi (1000+r45.1)),.str ([97,46,108,111,99,97,108]:List UInt8),.bool r47.1]) (Ap ⟨tv,tv,tv,tv,tv⟩ rfl ⟨⟨rfl,rfl,nl rfl⟩,⟨rfl,rfl,nl rfl⟩,⟨rfl,rfl,nl rfl⟩,⟨rfl,rfl,nl rfl⟩,tv⟩) (⟨tv,Gl (oS ⟨tv,tv⟩ ⟨⟨nl rfl,rfl,rfl⟩,tv⟩ (qC ⟨[],⟨⟨.inl tv,Cv (Ap ⟨tv,tv⟩ rfl (nl rfl)) rfl⟩,⟨.inl tv,Cv (Ap ⟨tv,tv⟩ rfl tv) rfl⟩,tv⟩,tv,Gl (fN (e:=Ac) (l0:=p19) (l1:=([Ad.mk p18 (wi (1000+r45.1)) ([97,46,108,111,99,97,108]:List UInt8) r47.1]:List Ad)) rfl rfl tv rfl (by decide) c49 (qC ⟨[],tv,tv,Ai tv (c_ (Ap ⟨tv,tv⟩ rfl tv) (⟨tv,Gl (Ff rfl rfl tv rfl rfl rfl (nl rfl) (qC ⟨[],tv,tv,Td ?_⟩)) Dl⟩))⟩)) Dl⟩)) Dl⟩))⟩)) Dl⟩))⟩)) Dl⟩))⟩))⟩))⟩))⟩))⟩)))
   obtain ⟨v50,e51,h1⟩:=bl h1
   refine Bg ⟨[(0,.ptr 1048576 0),(2,.ptr 128 0),(3,.ptr 192 0),(4,iV p17)],[(128,Ah ([]:List UInt8) (At 130) [] 0 0 ([]:List UInt8) 0 (At 135) []),(192,[.str ([82,111,111,116,32,67,65]:List UInt8),Jd 384 r1.1,iV p18,iV (wi (1+r3.1)),.str ([108,111,99,97,108]:List UInt8),iV 100,Al 647 v50]),(1048576,Ar r47.2)],[]⟩ (Bc (by subst e51; kernel_rfl)) ?_
   obtain ⟨r52,e53,h1⟩:=bnd h1
   refine Fk (Ai tv (c_ (Ap ⟨tv,tv⟩ rfl tv) (⟨tv,Ai tv (c_ (Ap ⟨tv,tv⟩ rfl (nl rfl)) (⟨tv,Ai tv (Ba rfl tv (⟨tv,Gl (Eh [1048576] [] [] true (H117 r47.2 2 r52 e53) ⟨tv,tv,tv⟩ (by kernel_rfl) (by kernel_rfl) (by kernel_rfl) (by kernel_rfl) (fun h=>nomatch h) (Wo ⟨[(0,.ptr 1048576 0),(2,.ptr 128 0),(3,.ptr 192 0),(4,iV p17),(30,.ptr 192 2),(31,iV p18),(33,iV r52.1)],[(128,Ah ([]:List UInt8) (At 130) [] 0 0 ([]:List UInt8) 0 (At 135) []),(192,[.str ([82,111,111,116,32,67,65]:List UInt8),Jd 384 r1.1,iV p18,iV (wi (1+r3.1)),.str ([108,111,99,97,108]:List UInt8),iV 100,Al 647 v50]),(1048576,Ar r52.2)],[]⟩ (Bc (by kernel_rfl)) ⟨[],⟨⟨.inl tv,Cv (Ap ⟨tv,tv⟩ rfl (nl rfl)) rfl⟩,⟨.inl tv,Cv (Ap ⟨tv,tv⟩ rfl tv) rfl⟩,tv⟩,tv,Ai tv (c_ (Ap t3 rfl tv) (⟨tv,Ai tv (c_ (Ap t3 rfl tv) (⟨tv,Ai tv (c_ (Ap ⟨tv,tv⟩ rfl tv) (⟨tv,Gl (Ff rfl rfl tv rfl rfl rfl (nl rfl) (qC ⟨[],tv,tv,Td (fO (Bg ⟨[(0,.ptr 1048576 0),(2,.ptr 128 0),(3,.ptr 192 0),(4,iV p17)],[(128,Ah ([]:List UInt8) (At 130) [] 0 0 ([]:List UInt8) 0 (At 135) []),(192,[.str ([82,111,111,116,32,67,65]:List UInt8),Jd 384 r1.1,iV (wi (p18+(wi (1+r52.1)))),iV (wi (1+r3.1)),.str ([108,111,99,97,108]:List UInt8),iV 100,Al 647 v50]),(1048576,Ar r52.2)],[]⟩ (Bc (by kernel_rfl)) (Ak (st (Ba rfl tv (st (c_ (Ap t3 rfl tv) (st (Ba rfl tv (Br ?_))))))))))⟩)) Dl⟩))⟩))⟩))⟩)) Dl⟩))⟩))⟩)))
   obtain rfl:=sj h1
   exact hK1 _ rfl _ ⟨[(0,.ptr 1048576 0),(2,.ptr 128 0),(3,.ptr 192 0),(4,iV (wi (p17-1)))],[(128,Ah ([]:List UInt8) (At 130) [] 0 0 ([]:List UInt8) 0 (At 135) []),(192,[.str ([82,111,111,116,32,67,65]:List UInt8),Jd 384 r1.1,iV (wi (p18+(wi (1+r52.1)))),iV (wi (1+r3.1)),.str ([108,111,99,97,108]:List UInt8),iV 100,Al 647 v50]),(1048576,Ar r52.2)],[]⟩ (Bc (by kernel_rfl)) rfl
  ·replace h1:=Ou c44 h1
   obtain rfl:=sj h1
   obtain rfl:=hx1 _ rfl
   refine tH rfl ?_
   exact hE1 _ ⟨[(2,.ptr 128 0),(3,.ptr 192 0)],[(128,Ah ([]:List UInt8) (At 130) [] 0 0 ([]:List UInt8) 0 (At 135) []),(192,[.str ([82,111,111,116,32,67,65]:List UInt8),Jd 384 r1.1,iV p18,iV (wi (1+r3.1)),.str ([108,111,99,97,108]:List UInt8),iV 100,Al 647 p19]),(1048576,Cu u_ p20 p21 p22)],[]⟩ (Bc (by kernel_rfl)) ⟨_,_,_,_,_,rfl,rfl⟩

/- loop.example/g00149/spec.AuthorityOf -/
def lC:=[a_ 2 [.str [],.own 130 0 1 [],iV 0,iV 0,.str [],iV 0,.own 135 0 4 []]]
def lD:=[m_ 3 0,q_ 4 83 [.t 3],q_ 5 503 [.t 4],s_ 2 5 7]
def vW:Es:=⟨1,6,[.cell 2 7 true],sr lC (rr lD)⟩
def rO (D:Bb):Prop:=∀a0 r,oH a0=some r→D 501 ⟨[Gn a0],[]⟩ ⟨.agg (Aa r (At 0) (At 1)),[],[]⟩
theorem yN (H83:yZ C) (H503:rQ C):rO (FO C vW):=by
 intro a0 r h0
 refine f0 (Aj (Ak (st (Ea (Br (Bg ⟨[(0,Gn a0),(2,.ptr 128 0)],[(128,Ah ([]:List UInt8) (At 130) [] 0 0 ([]:List UInt8) 0 (At 135) [])],[]⟩ (Bc (by kernel_rfl)) (Aj (Ak (st (Ba rfl tv ?_))))))))))
 obtain ⟨r1,e2,h0⟩:=bnd h0
 refine st (Eh [] [] [] true (H83 a0 r1 e2) ⟨tv,tv⟩ (by kernel_rfl) (by kernel_rfl) (by kernel_rfl) (by kernel_rfl) (fun h=>nomatch h) ?_)
 obtain ⟨r3,e4,h0⟩:=bnd h0
 refine sw ⟨[(2,.ptr 128 0),(4,.ptr 256 0)],[(128,Ah ([]:List UInt8) (At 130) [] 0 0 ([]:List UInt8) 0 (At 135) []),(256,Ar r1)],[]⟩ (Bc (by kernel_rfl)) (Eh [256] [] [] true (H503 r1 r3 e4) ⟨tv,tv⟩ (by kernel_rfl) (by kernel_rfl) (by kernel_rfl) (by kernel_rfl) (fun h=>nomatch h) (sw ⟨[(2,.ptr 128 0),(5,.agg (Aa r3.1 (At 320) (At 321)))],[(128,Ah ([]:List UInt8) (At 130) [] 0 0 ([]:List UInt8) 0 (At 135) [])],[]⟩ (Bc (by kernel_rfl)) (Ff rfl rfl tv rfl rfl rfl (nl rfl) (Br (Bg ⟨[(2,.ptr 128 0)],[(128,Aa r3.1 (At 320) (At 321))],[]⟩ (Bc (by kernel_rfl)) ?_)))))
 obtain rfl:=sj h0
 exact Gj (Co rfl rfl rfl rfl rfl tv)

/- loop.example/g00149/impl.within -/
def sY:=[k_ 6 (.bool false)]
def sZ:=[m_ 7 1,m_ 8 0,b_ .leq 9 7 8,m_ 10 9,mT 10 11 0,mT 10 12 2,pT 10 13 (.bin .leq (.t 11) (.t 12)),pa 14 10 13,m_ 6 14]
def zW:Es:=⟨3,15,[.t 6],sr sY (rr sZ)⟩
def rW (D:Bb):Prop:=∀a0 a1 a2 r,oO a0 a1 a2=some r→D 63 ⟨[iV a0,iV a1,iV a2],[]⟩ ⟨.bool r,[],[]⟩
theorem AJ:rW (FO C zW):=by
 intro a0 a1 a2 r h0
 refine f0 (Rh 3 [(0,iV a0),(1,iV a1),(2,iV a2)] [] (xE 9 (Ak (o_ ?_))))
 obtain rfl:=sj h0
 exact Wx 3

/- loop.example/g00149/impl.isSerial -/
def sN:=[k_ 2 (.bool false)]
def sO:=[m_ 3 0,q_ 4 63 [.t 3,.c (iV 1),.c (iV 1000000)],m_ 2 4]
def zS:Es:=⟨1,5,[.t 2],sr sN (rr sO)⟩
def yX (D:Bb):Prop:=∀a0 r,xD a0=some r→D 58 ⟨[iV a0],[]⟩ ⟨.bool r,[],[]⟩
theorem AH (H63:rW C):yX (FO C zS):=by
 intro a0 r h0
 refine f0 (Rh 3 [(0,iV a0)] [] (Aj (Ak (st (Ba rfl tv (bb h0 fun r1 e2 h0=>zB (H63 a0 1 1000000 r1 e2) (o_ ?_)))))))
 obtain rfl:=sj h0
 exact Wx 3

/- loop.example/g00149/impl.rises -/
def sQ:=[k_ 6 (.bool false)]
def sR:=[m_ 9 0,n_ 10 9,i_ 11 0]
def sS:=[b_ .lss 12 11 10]
def sT:=[m_ 13 11,x_ 14 9 11 1,l_ 15 14 1,m_ 7 13,m_ 8 15]
def sU:List Bq:=[m_ 16 8,m_ 17 1,m_ 18 2,q_ 19 63 [.t 16,.t 17,.t 18],N_ 20 19,m_ 21 20,mF 21 22 7,pF 21 23 (.bin .gtr (.t 22) (.c (iV 0))),mF 21 24 23,mT 24 25 0,mT 24 26 7,pT 24 27 (.bin .sub (.t 26) (.c (iV 1))),xT 24 28 25 27 1,lT 24 29 28 1 false,mT 24 30 8,pT 24 31 (.bin .geq (.t 29) (.t 30)),⟨some 32,.pick (.t 24) (.t 31) (.c (.bool false)),some (21,false)⟩,po 33 21 32]
def sV:=[k_ 6 (.bool false)]
def sW:=[B_ .add 34 11 1,m_ 11 34]
def sP:IR:=(sr sS (.seq (.ite (.t 12) .skip (.exit 0)) (.seq (.block 1 (sr sT (sr sU (iz 33 (rr sV))))) (.reg sW))))
def sX:=[k_ 6 (.bool true)]
def zU:Es:=⟨3,35,[.t 6],sr sQ (.seq (sr sR (sC 0 sP)) (rr sX))⟩
def yY (D:Bb):Prop:=∀a0 a1 a2 r,zE a0 a1 a2=some r→D 59 ⟨[lI a0,iV a1,iV a2],[]⟩ ⟨.bool r,[],[]⟩
abbrev Ve:=fun x0 x1 x2 (r:List (Nat×V))=>(0,lI x0)::(1,iV x1)::(2,iV x2)::(9,lI x0)::r
theorem AI (H63:rW C):yY (FO C zU):=by
 intro a0 a1 a2 r h0
 refine f0 (Rh 3 [(0,lI a0),(1,iV a1),(2,iV a2)] [] (Rl 3 (Ak (zJ rfl (o_ (Rh 2 (Ve a0 a1 a2 [(10,iV (a0.length:Int)),(11,iV 0)]) [] (Fa (bb h0 fun r33 e34 h0=>Qk (R:=(fun S=>.inl ()=r33∧S=⟨[],[],[]⟩)) (Pz a0 a1 a2) (fun s S=>match s with | p11=>S=⟨Ve a0 a1 a2 [(10,iV (a0.length:Int)),(11,iV p11)],[],[]⟩) e34 _ (Bc (by kernel_rfl)) rfl 0 (fun _=>rfl) ?_ ?_))))))))
 ·rintro S _ hfg ⟨rfl,rfl⟩
  refine Bg _ hfg ?_
  obtain rfl:=sj h0
  exact Wx 4
 ·rintro p11 o1 _ K1 rfl h1 hx1 hK1 hE1 hR1
  refine Rh 3 (Ve a0 a1 a2 [(10,iV (a0.length:Int)),(11,iV p11),(12,.bool (decide (p11<(a0.length:Int))))]) [] (Aj (tQ h1 (fun c23 h1=>?_) (fun c23 h1=>?_)))
  ·refine Rl 6 (Ak (bb h1 fun y24 e25 h1=>AC rfl rfl e25 (o_ (Rh 4 (Ve a0 a1 a2 [(7,iV p11),(8,iV y24),(10,iV (a0.length:Int)),(11,iV p11)]) [] (Rl 4 (Ak (bb h1 fun r26 e27 h1=>zB (H63 y24 a1 a2 r26 e27) (o_ (xE 8 (Ak (bb h1 fun y28 e29 h1=>st (Da (u:=.iptr [iV y28]) rfl (fun hg=>(Nz (e:=eI) (y:=y28) rfl rfl (fun _=>hg) rfl rfl (fun _=>hg) (ip hg e29))) (o_ (xE 3 (Ak (st (dL (u:=.bool (bif (decide (p11>0)) then (decide (y28≥y24)) else false)) rfl (fun hg=>qB rfl rfl (fun _=>hg) rfl rfl (fun h=>Fm hg (Ur h)) tv rfl) (o_ (xE 2 (bv h1 fun v30 e31 h1=>Bg ⟨Ve a0 a1 a2 [(10,iV (a0.length:Int)),(11,iV p11),(33,.bool v30)],[],[]⟩ (Bc (by subst e31; kernel_rfl)) (tQ h1 (fun c32 h1=>?_) (fun c32 h1=>?_))))))))))))))))))))))
   ·obtain rfl:=sj h1
    obtain rfl:=hx1 _ rfl
    obtain rfl:=sj h0
    exact AA 4 hR1
   ·refine Rl 6 ?_
    obtain rfl:=sj h1
    exact kn hK1 rfl rfl
  ·obtain rfl:=sj h1
   obtain rfl:=hx1 _ rfl
   refine tH rfl ?_
   exact jn hE1 ⟨rfl,rfl⟩

/- slices.IndexFunc[[]byte,byte] -/
def kE:=[i_ 4 0]
def kF:=[m_ 6 0,n_ 7 6,i_ 8 0]
def kG:=[b_ .lss 9 8 7]
def kH:=[m_ 10 8,m_ 5 10]
def kI:List Bq:=[m_ 11 1,m_ 12 0,m_ 13 5,x_ 14 12 13 1,l_ 15 14 1,⟨some 16,.callv (.t 11) [.t 15],none⟩]
def kJ:=[m_ 17 5,m_ 4 17]
def kK:=[B_ .add 18 8 1,m_ 8 18]
def kD:IR:=(sr kG (.seq (.ite (.t 9) .skip (.exit 0)) (.seq (.block 1 (sr kH (sr kI (iz 16 (rr kJ))))) (.reg kK))))
def kL:=[i_ 4 (-1)]
def vS:Es:=⟨2,19,[.t 4],sr kE (.seq (sr kF (sC 0 kD)) (rr kL))⟩
def rL (C:Bb) (D:Bb:=C):Prop:=∀(a0:List UInt8) (f1:Nat) (k1:List V) (is1:UInt8→Option Bool) (hs1:Pk k1) (hf1:∀(x0:UInt8) r,is1 x0=some r→C f1 ⟨.int .u8 ((x0).toNat:Int)::k1,[]⟩ ⟨.bool r,[],[]⟩) (r:Int),tJ a0 is1=some r→D 373 ⟨[Gn a0,.clo f1 k1],[]⟩ ⟨iV r,[],[]⟩
theorem yJ:rL C (FO C vS):=by
 intro a0 f1 k1 is1 hs1 hf1 r h0
 refine f0 (Aj (Ak (st (Dn tv (Br (Bg ⟨[(0,Gn a0),(1,.clo f1 k1)],[],[]⟩ (fg ⟨rfl,rfl,tv⟩ tv) (Aj (Aj (Ak (st (Ba rfl tv (st (c_ (Hm (e:=Iy) (l0:=a0) rfl rfl tv) (st (Dn tv (Br (Bg ⟨[(0,Gn a0),(1,.clo f1 k1),(7,iV (a0.length:Int)),(8,iV 0)],[],[]⟩ (fg ⟨rfl,rfl,rfl,rfl,tv⟩ tv) (Fa ?_))))))))))))))))))
 obtain ⟨r21,e22,h0⟩:=bnd h0
 refine Qk (R:=(fun S=>.inl ()=r21∧S=⟨[],[],[]⟩)) (Yg a0 is1) (fun s S=>match s with | p7=>S=⟨[(0,Gn a0),(1,.clo f1 k1),(7,iV (a0.length:Int)),(8,iV p7)],[],[]⟩) e22 ⟨[(0,Gn a0),(1,.clo f1 k1),(7,iV (a0.length:Int)),(8,iV 0)],[],[]⟩ (fg ⟨rfl,rfl,rfl,rfl,tv⟩ tv) rfl 0 (fun _=>rfl) ?_ ?_
 ·rintro S _ hfg ⟨rfl,rfl⟩
  refine Bg ⟨[],[],[]⟩ (Zn hfg (by kernel_rfl)) (Aj (Ak (st (Dn tv (Br (Bg ⟨[(4,iV (-1))],[],[]⟩ (Bc (by kernel_rfl)) ?_))))))
  obtain rfl:=sj h0
  exact Gj (Co rfl rfl rfl rfl rfl tv)
 ·rintro p7 o1 _ K1 rfl h1 hx1 hK1 hE1 hR1
  refine Aj (Ak (st (c_ (Ap t3 rfl tv) (Br (Bg ⟨[(0,Gn a0),(1,.clo f1 k1),(7,iV (a0.length:Int)),(8,iV p7),(9,.bool (decide (p7<(a0.length:Int))))],[],[]⟩ (fg ⟨rfl,rfl,rfl,rfl,rfl,tv⟩ tv) (Aj (Fs (cb:=(decide (p7<(a0.length:Int)))) rfl (fun c15=>?_) (fun c15=>?_))))))))
  ·replace h1:=ip c15 h1
   refine Rb (Bg ⟨[(0,Gn a0),(1,.clo f1 k1),(7,iV (a0.length:Int)),(8,iV p7)],[],[]⟩ (fg ⟨rfl,rfl,rfl,rfl,tv⟩ tv) (Aj (Fa (Aj (Ak (st (Ba rfl tv (st (Ba rfl tv (Br (Bg ⟨[(0,Gn a0),(1,.clo f1 k1),(5,iV p7),(7,iV (a0.length:Int)),(8,iV p7)],[],[]⟩ (fg ⟨rfl,rfl,rfl,rfl,rfl,tv⟩ tv) (Aj (Ak (st (Ba rfl tv (st (Ba rfl tv (st (Ba rfl tv ?_)))))))))))))))))))
   obtain ⟨y16,e17,h1⟩:=bnd h1
   refine st (c_ (Nz (e:=Iy) (y:=y16) rfl rfl tv rfl rfl tv e17) (st (c_ (Ap ⟨tv,tv⟩ rfl (nl rfl)) ?_)))
   obtain ⟨r18,e19,h1⟩:=bnd h1
   refine st (Mh (r:=.bool r18) rfl false (hf1 _ r18 e19) ⟨tv,tv⟩ (Fm rfl hs1.2.2.1) (Hi rfl (hs1.2.1 _ _ _ _ _)) (fun _=>rfl) (Br (Bg ⟨[(0,Gn a0),(1,.clo f1 k1),(5,iV p7),(7,iV (a0.length:Int)),(8,iV p7),(16,.bool r18)],[],[]⟩ (fg ⟨rfl,rfl,rfl,rfl,rfl,rfl,tv⟩ tv) (Fs (cb:=r18) rfl (fun c20=>?_) (fun c20=>?_)))))
   ·replace h1:=ip c20 h1
    refine Aj (Ak (st (Ba rfl tv (st (Ba rfl tv (Br (Bg ⟨[(4,iV p7)],[],[]⟩ (Bc (by kernel_rfl)) ?_)))))))
    obtain rfl:=sj h1
    obtain rfl:=hx1 _ rfl
    obtain rfl:=sj h0
    exact Gj (hR1 _ (Co rfl rfl rfl rfl rfl tv))
   ·replace h1:=Ou c20 h1
    refine Rb (fO (Bg ⟨[(0,Gn a0),(1,.clo f1 k1),(7,iV (a0.length:Int)),(8,iV p7)],[],[]⟩ (fg ⟨rfl,rfl,rfl,rfl,tv⟩ tv) (Ak (st (c_ (Ap t3 rfl tv) (st (Ba rfl tv (Br ?_))))))))
    obtain rfl:=sj h1
    exact hK1 _ rfl _ ⟨[(0,Gn a0),(1,.clo f1 k1),(7,iV (a0.length:Int)),(8,iV (wi (p7+1)))],[],[]⟩ (fg ⟨rfl,rfl,rfl,rfl,tv⟩ tv) rfl
  ·replace h1:=Ou c15 h1
   obtain rfl:=sj h1
   obtain rfl:=hx1 _ rfl
   refine tH rfl ?_
   exact hE1 _ ⟨[],[],[]⟩ (Bc (by kernel_rfl)) ⟨rfl,rfl⟩

/- slices.ContainsFunc[[]byte,byte] -/
def jO:=[k_ 4 (.bool false)]
def jP:=[m_ 5 0,m_ 6 1,q_ 7 373 [.t 5,.t 6],B_ .geq 8 7 0,m_ 4 8]
def vO:Es:=⟨2,9,[.t 4],sr jO (rr jP)⟩
def rI (C:Bb) (D:Bb:=C):Prop:=∀(a0:List UInt8) (f1:Nat) (k1:List V) (is1:UInt8→Option Bool) (hs1:Pk k1) (hf1:∀(x0:UInt8) r,is1 x0=some r→C f1 ⟨.int .u8 ((x0).toNat:Int)::k1,[]⟩ ⟨.bool r,[],[]⟩) (r:Bool),oB a0 is1=some r→D 368 ⟨[Gn a0,.clo f1 k1],[]⟩ ⟨.bool r,[],[]⟩
theorem yF (H373:rL C):rI C (FO C vO):=by
 intro a0 f1 k1 is1 hs1 hf1 r h0
 refine f0 (Aj (Ak (st (Dn tv (Br (Bg ⟨[(0,Gn a0),(1,.clo f1 k1)],[],[]⟩ (fg ⟨rfl,rfl,tv⟩ tv) (Aj (Ak (st (Ba rfl tv (st (Ba rfl tv ?_))))))))))))
 obtain ⟨r1,e2,h0⟩:=bnd h0
 refine st (Cp (r:=iV r1) false (H373 a0 f1 k1 is1 hs1 hf1 r1 e2) ⟨tv,tv,tv⟩ rfl (Hi rfl (Hi (Wl hs1) rfl)) (fun _=>rfl) (st (c_ (Ap t3 rfl tv) (st (Ba rfl tv (Br (Bg ⟨[(4,.bool (decide (r1≥0)))],[],[]⟩ (Bc (by kernel_rfl)) ?_)))))))
 obtain rfl:=sj h0
 exact Gj (Co rfl rfl rfl rfl rfl tv)

/- loop.example/g00149/impl.areAll[byte]$1 -/
def jQ:=[k_ 3 (.bool false)]
def jR:List Bq:=[l_ 4 1 1,m_ 5 0,⟨some 6,.callv (.t 4) [.t 5],none⟩,N_ 7 6,m_ 3 7]
def vP:Es:=⟨2,8,[.t 3],sr jQ (rr jR)⟩
def rJ (C:Bb) (D:Bb:=C):Prop:=∀(a0:UInt8) (f1:Nat) (k1:List V) (is1:UInt8→Option Bool) (hs1:Pk k1) (hf1:∀(x0:UInt8) r,is1 x0=some r→C f1 ⟨.int .u8 ((x0).toNat:Int)::k1,[]⟩ ⟨.bool r,[],[]⟩) (r:Bool),oD a0 is1=some r→D 369 ⟨[.int .u8 ((a0).toNat:Int),.iptr [.clo f1 k1]],[]⟩ ⟨.bool r,[],[]⟩
theorem yG:rJ C (FO C vP):=by
 intro a0 f1 k1 is1 hs1 hf1 r h0
 refine f0 (Aj (Ak (st (Dn tv (Br (Bg ⟨[(0,.int .u8 ((a0).toNat:Int)),(1,.iptr [.clo f1 k1])],[],[]⟩ (fg ⟨rfl,rfl,tv⟩ tv) (Aj (Ak (st (c_ (Ap ⟨tv,tv⟩ rfl (nl rfl)) (st (Ba rfl tv ?_))))))))))))
 obtain ⟨r1,e2,h0⟩:=bnd h0
 refine st (Mh (r:=.bool r1) rfl false (hf1 _ r1 e2) ⟨tv,tv⟩ (Fm rfl hs1.2.2.1) (Hi rfl (hs1.2.1 _ _ _ _ _)) (fun _=>rfl) (st (c_ (Ap ⟨tv,tv⟩ rfl tv) (st (Ba rfl tv (Br (Bg ⟨[(3,.bool (!r1))],[],[]⟩ (Bc (by kernel_rfl)) ?_)))))))
 obtain rfl:=sj h0
 exact Gj (Co rfl rfl rfl rfl rfl tv)

/- loop.example/g00149/impl.areAll[byte] -/
def iJ:=[X_ 3 1,k_ 4 (.bool false)]
def iK:=[m_ 5 0,iQ 6 (.fn 369 [.t 3]),q_ 7 368 [.t 5,.t 6],N_ 8 7,m_ 4 8]
def vF:Es:=⟨2,9,[.t 4],sr iJ (rr iK)⟩
def qZ (C:Bb) (D:Bb:=C):Prop:=∀(a0:List UInt8) (f1:Nat) (k1:List V) (is1:UInt8→Option Bool) (hs1:Pk k1) (hf1:∀(x0:UInt8) r,is1 x0=some r→C f1 ⟨.int .u8 ((x0).toNat:Int)::k1,[]⟩ ⟨.bool r,[],[]⟩) (r:Bool),nS a0 is1=some r→D 337 ⟨[Gn a0,.clo f1 k1],[]⟩ ⟨.bool r,[],[]⟩
theorem xW (H368:rI C) (H369:rJ C):qZ C (FO C vF):=by
 intro a0 f1 k1 is1 hs1 hf1 r h0
 refine f0 (Aj (Ak (st (Nj (Xz hs1) tv rfl (sw ⟨[(0,Gn a0),(3,.ptr 192 0)],[(192,[.clo f1 k1])],[]⟩ (fg ⟨rfl,rfl,tv⟩ ⟨rfl,tv⟩) (Dn tv (Br (Bg ⟨[(0,Gn a0),(3,.ptr 192 0)],[(192,[.clo f1 k1])],[]⟩ (fg ⟨rfl,rfl,tv⟩ ⟨rfl,tv⟩) (Aj (Ak (st (Ba rfl tv (st (c_ (Ap ⟨tv,tv⟩ rfl rfl) ?_))))))))))))))
 obtain ⟨r1,e2,h0⟩:=bnd h0
 refine st (Cp (r:=.bool r1) false (H368 a0 369 [.iptr [.clo f1 k1]] (fun z369_0=>oD z369_0 is1) (⟨fun _ _ _ _ _=>rfl,fun _ _ _ _ _=>rfl,rfl,fun _ _ _ n=>by cases n<;>rfl,fun _=>rfl⟩) (fun z369_0 r h=>H369 z369_0 f1 k1 is1 hs1 hf1 r h) r1 e2) ⟨tv,tv,tv⟩ rfl (Hi rfl (Hi (congrArg (fun z=>V.clo 369 [.iptr [.clo f1 z]]) (hs1.2.2.2.1 _ _ _ _)) rfl)) (fun _=>rfl) (st (c_ (Ap ⟨tv,tv⟩ rfl tv) (st (Ba rfl tv (Br (Bg ⟨[(4,.bool (!r1))],[],[]⟩ (Bc (by kernel_rfl)) ?_)))))))
 obtain rfl:=sj h0
 exact Gj (Co rfl rfl rfl rfl rfl tv)

/- loop.example/g00149/impl.isLetter -/
def iN:=[k_ 2 (.bool false)]
def iO:List Bq:=[m_ 3 0,⟨some 4,.p (.bin .geq (.t 3) (.c (.int .u8 97))),none⟩,m_ 5 4,mT 5 6 0,pT 5 7 (.bin .leq (.t 6) (.c (.int .u8 122))),pa 8 5 7,m_ 9 8,mF 9 10 0,pF 9 11 (.bin .geq (.t 10) (.c (.int .u8 65))),mF 9 12 11,mT 12 13 0,pT 12 14 (.bin .leq (.t 13) (.c (.int .u8 90))),⟨some 15,.pick (.t 12) (.t 14) (.c (.bool false)),some (9,false)⟩,po 16 9 15,m_ 2 16]
def vH:Es:=⟨1,17,[.t 2],sr iN (rr iO)⟩
def rB (D:Bb):Prop:=∀a0 r,wI a0=some r→D 339 ⟨[.int .u8 ((a0).toNat:Int)],[]⟩ ⟨.bool r,[],[]⟩
theorem xY:rB (FO C vH):=by
 intro a0 r h0
 refine f0 (Aj (Ak (st (Dn tv (Br (Bg ⟨[(0,.int .u8 ((a0).toNat:Int))],[],[]⟩ (Bc (by kernel_rfl)) (Aj (Ak (st (Ba rfl tv (st (c_ (Ap t3 rfl tv) (st (Ba rfl tv (st (Da (u:=.int .u8 ((a0).toNat:Int)) rfl (fun hg=>(Zi (v:=.int .u8 ((a0).toNat:Int)) rfl tv)) (st (Da (u:=.bool (decide (((a0).toNat:Int)≤122))) rfl (fun hg=>(Ap ⟨(fun _=>hg),tv,tv⟩ rfl tv)) (st (Di rfl rfl rfl (fun h=>Ur h) tv rfl (st (Ba rfl tv (st (Da (u:=.int .u8 ((a0).toNat:Int)) rfl (fun hg=>(Zi (v:=.int .u8 ((a0).toNat:Int)) rfl tv)) (st (Da (u:=.bool (decide (((a0).toNat:Int)≥65))) rfl (fun hg=>(Ap ⟨(fun _=>hg),tv,tv⟩ rfl tv)) (st (Da (u:=.bool (decide (((a0).toNat:Int)≥65))) rfl (fun hg=>(Zi (v:=.may ((bif (decide (((a0).toNat:Int)≥97)) then (decide (((a0).toNat:Int)≤122)) else false)==false) (.bool (decide (((a0).toNat:Int)≥65)))) rfl (fun _=>hg))) (st (Da (u:=.int .u8 ((a0).toNat:Int)) rfl (fun hg=>(Zi (v:=.int .u8 ((a0).toNat:Int)) rfl tv)) (st (Da (u:=.bool (decide (((a0).toNat:Int)≤90))) rfl (fun hg=>(Ap ⟨(fun _=>hg),tv,tv⟩ rfl tv)) (st (dL (u:=.bool (bif (decide (((a0).toNat:Int)≥65)) then (decide (((a0).toNat:Int)≤90)) else false)) rfl (fun hg=>qB rfl rfl (fun _=>hg) rfl rfl (fun h=>Fm hg (Ur h)) tv rfl) (st (Di rfl rfl rfl tv (fun h=>fG h) rfl (st (Ba rfl tv (Br ?_)))))))))))))))))))))))))))))))))))))))
 obtain ⟨v1,e2,h0⟩:=bl h0
 refine Bg ⟨[(2,.bool v1)],[],[]⟩ (Bc (by subst e2; kernel_rfl)) ?_
 obtain rfl:=sj h0
 exact Gj (Co rfl rfl rfl rfl rfl tv)

/- loop.example/g00149/impl.isDigit -/
def iP:=[k_ 2 (.bool false)]
def iR:List Bq:=[m_ 3 0,⟨some 4,.p (.bin .geq (.t 3) (.c (.int .u8 48))),none⟩,m_ 5 4,mT 5 6 0,pT 5 7 (.bin .leq (.t 6) (.c (.int .u8 57))),pa 8 5 7,m_ 2 8]
def vI:Es:=⟨1,9,[.t 2],sr iP (rr iR)⟩
def rC (D:Bb):Prop:=∀a0 r,wJ a0=some r→D 340 ⟨[.int .u8 ((a0).toNat:Int)],[]⟩ ⟨.bool r,[],[]⟩
theorem xZ:rC (FO C vI):=by
 intro a0 r h0
 refine f0 (Aj (Ak (st (Dn tv (Br (Bg ⟨[(0,.int .u8 ((a0).toNat:Int))],[],[]⟩ (Bc (by kernel_rfl)) (Aj (Ak (st (Ba rfl tv (st (c_ (Ap t3 rfl tv) (st (Ba rfl tv (st (Da (u:=.int .u8 ((a0).toNat:Int)) rfl (fun hg=>(Zi (v:=.int .u8 ((a0).toNat:Int)) rfl tv)) (st (Da (u:=.bool (decide (((a0).toNat:Int)≤57))) rfl (fun hg=>(Ap ⟨(fun _=>hg),tv,tv⟩ rfl tv)) (st (Di rfl rfl rfl (fun h=>Ur h) tv rfl (st (Ba rfl tv (Br ?_)))))))))))))))))))))))
 obtain ⟨v1,e2,h0⟩:=bl h0
 refine Bg ⟨[(2,.bool v1)],[],[]⟩ (Bc (by subst e2; kernel_rfl)) ?_
 obtain rfl:=sj h0
 exact Gj (Co rfl rfl rfl rfl rfl tv)

/- internal/stringslite.IndexByte -/
def jS:=[i_ 4 0]
def jT:=[m_ 5 0,m_ 6 1,iQ 7 (.xbyte (.t 5) (.t 6)),m_ 4 7]
def vQ:Es:=⟨2,8,[.t 4],sr jS (rr jT)⟩
def rK (D:Bb):Prop:=∀a0 a1 r,wL a0 a1=some r→D 370 ⟨[.str a0,.int .u8 ((a1).toNat:Int)],[]⟩ ⟨iV r,[],[]⟩
theorem yH:rK (FO C vQ):=by
 intro a0 a1 r h0
 refine f0 (Rh 3 [(0,.str a0),(1,.int .u8 ((a1).toNat:Int))] [] (Rl 3 (Ak (st (c_ (tC rfl rfl tv rfl rfl tv) (o_ ?_))))))
 obtain rfl:=sj h0
 exact Wx 3

/- strings.IndexByte -/
def iS:=[i_ 4 0]
def iT:=[m_ 5 0,m_ 6 1,q_ 7 370 [.t 5,.t 6],m_ 4 7]
def vJ:Es:=⟨2,8,[.t 4],sr iS (rr iT)⟩
def rD (D:Bb):Prop:=∀a0 a1 r,wK a0 a1=some r→D 341 ⟨[.str a0,.int .u8 ((a1).toNat:Int)],[]⟩ ⟨iV r,[],[]⟩
theorem yA (H370:rK C):rD (FO C vJ):=by
 intro a0 a1 r h0
 refine f0 (Rh 3 [(0,.str a0),(1,.int .u8 ((a1).toNat:Int))] [] (Rl 3 (Ak (bb h0 fun r1 e2 h0=>zB (H370 a0 a1 r1 e2) (o_ ?_)))))
 obtain rfl:=sj h0
 exact Wx 3

/- loop.example/g00149/impl.isPrintable$1 -/
def iL:=[k_ 2 (.bool false)]
def iM:List Bq:=[m_ 3 0,q_ 4 339 [.t 3],m_ 5 4,mF 5 6 0,⟨some 7,.call 340 [.t 6],some (5,false)⟩,po 8 5 7,m_ 9 8,mF 9 10 0,⟨some 11,.call 341 [.c (.str [39,40,41,43,44,45,46,47,58,61,63,32]),.t 10],some (9,false)⟩,pF 9 12 (.bin .geq (.t 11) (.c (iV 0))),po 13 9 12,m_ 2 13]
def vG:Es:=⟨1,14,[.t 2],sr iL (rr iM)⟩
def rA (D:Bb):Prop:=∀a0 r,cI a0=some r→D 338 ⟨[.int .u8 ((a0).toNat:Int)],[]⟩ ⟨.bool r,[],[]⟩
theorem xX (H339:rB C) (H340:rC C) (H341:rD C):rA (FO C vG):=by
 intro a0 r h0
 refine f0 (Aj (Ak (st (Dn tv (Br (Bg ⟨[(0,.int .u8 ((a0).toNat:Int))],[],[]⟩ (Bc (by kernel_rfl)) (Aj (Ak (st (Ba rfl tv ?_))))))))))
 obtain ⟨r1,e2,h0⟩:=bnd h0
 refine st (Cp (r:=.bool r1) false (H339 a0 r1 e2) ⟨tv,tv⟩ rfl rfl (fun _=>rfl) (st (Ba rfl tv (st (Da (u:=.int .u8 ((a0).toNat:Int)) rfl (fun hg=>(Zi (v:=.int .u8 ((a0).toNat:Int)) rfl tv)) ?_)))))
 obtain ⟨r3,e4,h0⟩:=bnd h0
 refine sw ⟨[(0,.int .u8 ((a0).toNat:Int)),(5,.bool r1),(6,.may (r1==false) (.int .u8 ((a0).toNat:Int)))],[],[]⟩ (Bc (by kernel_rfl)) (Fb (r:=.bool r3) rfl false (fun hg=>H340 a0 r3 (ip hg e4)) ⟨(fun hg=>hg),tv⟩ (fun _=>rfl) (fun _=>rfl) (fun _=>rfl) (fun h=>nomatch h) (st (Di rfl rfl rfl tv (fun h=>fG h) rfl (st (Ba rfl tv (st (Da (u:=.int .u8 ((a0).toNat:Int)) rfl (fun hg=>(Zi (v:=.int .u8 ((a0).toNat:Int)) rfl tv)) ?_)))))))
 obtain ⟨r5,e6,h0⟩:=bnd h0
 refine sw ⟨[(9,.bool (bif r1 then true else r3)),(10,.may ((bif r1 then true else r3)==false) (.int .u8 ((a0).toNat:Int)))],[],[]⟩ (Bc (by kernel_rfl)) (Fb (r:=iV r5) rfl false (fun hg=>H341 ([39,40,41,43,44,45,46,47,58,61,63,32]:List UInt8) a0 r5 (ip hg e6)) ⟨tv,(fun hg=>hg),tv⟩ (fun _=>rfl) (fun _=>rfl) (fun _=>rfl) (fun h=>nomatch h) (st (Da (u:=.bool (decide (r5≥0))) rfl (fun hg=>(Ap ⟨(fun _=>hg),tv,tv⟩ rfl tv)) (st (Di rfl rfl rfl tv (fun h=>fG h) rfl (st (Ba rfl tv (Br (Bg ⟨[(2,.bool (bif (bif r1 then true else r3) then true else (decide (r5≥0))))],[],[]⟩ (Bc (by kernel_rfl)) ?_)))))))))
 obtain rfl:=sj h0
 exact Gj (Co rfl rfl rfl rfl rfl tv)

/- loop.example/g00149/impl.isPrintable -/
def gS:=[k_ 2 (.bool false)]
def gT:List Bq:=[m_ 3 0,⟨some 4,.toBytes (.t 3),none⟩,q_ 5 337 [.t 4,.c (.clo 338 [])],m_ 2 5]
def uY:Es:=⟨1,6,[.t 2],sr gS (rr gT)⟩
def fK (D:Bb):Prop:=∀a0 r,cH a0=some r→D 283 ⟨[.str a0],[]⟩ ⟨.bool r,[],[]⟩
theorem xP (H337:qZ C) (H338:rA C):fK (FO C uY):=by
 intro a0 r h0
 refine f0 (Aj (Ak (st (Dn tv (Br (Bg ⟨[(0,.str a0)],[],[]⟩ (Bc (by kernel_rfl)) (Aj (Ak (st (Ba rfl tv (st (eH rfl ?_))))))))))))
 obtain ⟨r1,e2,h0⟩:=bnd h0
 refine st (Cp (r:=.bool r1) false (H337 a0 338 [] (fun z338_0=>cI z338_0) (⟨fun _ _ _ _ _=>rfl,fun _ _ _ _ _=>rfl,rfl,fun _ _ _ n=>by cases n<;>rfl,fun _=>rfl⟩) (fun z338_0 r h=>H338 z338_0 r h) r1 e2) ⟨tv,tv,tv⟩ rfl rfl (fun _=>rfl) (st (Ba rfl tv (Br (Bg ⟨[(2,.bool r1)],[],[]⟩ (Bc (by kernel_rfl)) ?_)))))
 obtain rfl:=sj h0
 exact Gj (Co rfl rfl rfl rfl rfl tv)

/- loop.example/g00149/impl.isSubject -/
def gO:=[k_ 2 (.bool false)]
def gP:List Bq:=[m_ 3 0,iQ 4 (.lenS (.t 3)),q_ 5 63 [.t 4,.c (iV 1),.c (iV 40)],m_ 6 5,mT 6 7 0,⟨some 8,.call 283 [.t 7],some (6,true)⟩,pa 9 6 8,m_ 2 9]
def uW:Es:=⟨1,10,[.t 2],sr gO (rr gP)⟩
def fI (D:Bb):Prop:=∀a0 r,cG a0=some r→D 281 ⟨[.str a0],[]⟩ ⟨.bool r,[],[]⟩
theorem xN (H63:rW C) (H283:fK C):fI (FO C uW):=by
 intro a0 r h0
 refine f0 (Aj (Ak (st (Dn tv (Br (Bg ⟨[(0,.str a0)],[],[]⟩ (Bc (by kernel_rfl)) (Aj (Ak (st (Ba rfl tv (st (c_ (Ap ⟨tv,tv⟩ rfl tv) ?_))))))))))))
 obtain ⟨r1,e2,h0⟩:=bnd h0
 refine st (Cp (r:=.bool r1) false (H63 (a0.length:Int) 1 40 r1 e2) ⟨tv,tv,tv,tv⟩ rfl rfl (fun _=>rfl) (st (Ba rfl tv (st (Da (u:=.str a0) rfl (fun hg=>(Zi (v:=.str a0) rfl tv)) ?_)))))
 obtain ⟨r3,e4,h0⟩:=bnd h0
 refine sw ⟨[(6,.bool r1),(7,.may (r1==true) (.str a0))],[],[]⟩ (Bc (by kernel_rfl)) (Fb (r:=.bool r3) rfl false (fun hg=>H283 a0 r3 (ip hg e4)) ⟨(fun hg=>hg),tv⟩ (fun _=>rfl) (fun _=>rfl) (fun _=>rfl) (fun h=>nomatch h) (st (Di rfl rfl rfl (fun h=>Ur h) tv rfl (st (Ba rfl tv (Br (Bg ⟨[(2,.bool (bif r1 then r3 else false))],[],[]⟩ (Bc (by kernel_rfl)) ?_)))))))
 obtain rfl:=sj h0
 exact Gj (Co rfl rfl rfl rfl rfl tv)

/- loop.example/g00149/impl.isSeed -/
def gQ:=[k_ 2 (.bool false)]
def gR:=[m_ 3 0,n_ 4 3,B_ .eql 5 4 32,m_ 2 5]
def uX:Es:=⟨1,6,[.t 2],sr gQ (rr gR)⟩
def fJ (D:Bb):Prop:=∀a0 r,nL a0=some r→D 282 ⟨[Gn a0],[]⟩ ⟨.bool r,[],[]⟩
theorem xO:fJ (FO C uX):=by
 intro a0 r h0
 refine f0 (Aj (Ak (st (Dn tv (Br (Bg ⟨[(0,Gn a0)],[],[]⟩ (Bc (by kernel_rfl)) (Aj (Ak (st (Ba rfl tv (st (c_ (Hm (e:=Iy) (l0:=a0) rfl rfl tv) (st (c_ (Ap t3 rfl tv) (st (Ba rfl tv (Br (Bg ⟨[(2,.bool ((a0.length:Int)==32))],[],[]⟩ (Bc (by kernel_rfl)) ?_))))))))))))))))))
 obtain rfl:=sj h0
 exact Gj (Co rfl rfl rfl rfl rfl tv)

/- loop.example/g00149/impl.serials -/
def gV:List Bq:=[⟨some 2,.nilS 1,none⟩]
def gW:List Bq:=[⟨some 3,.nilS 1,none⟩]
def gX:=[m_ 6 0,n_ 7 6,i_ 8 0]
def gY:=[b_ .lss 9 8 7]
def gZ:=[x_ 10 6 8 4,L_ 11 10 4,a_ 5 [iV 0,iV 0,.str [],.bool false],s_ 5 11 4]
def hO:List Bq:=[m_ 12 3,f_ 13 5 0,l_ 14 13 1,⟨some 15,.mkS 1 [iV 0] 1 [(0,.t 14)],none⟩,⟨some 16,.app 1 8 (.t 12) (.t 15),none⟩,m_ 3 16]
def hP:=[B_ .add 17 8 1,m_ 8 17]
def gU:IR:=(sr gY (.seq (.ite (.t 9) .skip (.exit 0)) (.seq (.block 1 (sr gZ (.reg hO))) (.reg hP))))
def hY:=[m_ 18 3,m_ 2 18]
def uZ:Es:=⟨1,19,[.t 2],sr gV (sr gW (.seq (sr gX (sC 0 gU)) (rr hY)))⟩
def qV (D:Bb):Prop:=∀a0 r,nM a0=some r→D 284 ⟨[Av a0],[]⟩ ⟨oI 0 r,[],[]⟩
theorem xQ:qV (FO C uZ):=by
 intro a0 r h0
 refine f0 (Aj (Ak (st (Ol (Br (Bg ⟨[(0,Av a0)],[],[]⟩ (Bc (by kernel_rfl)) (Aj (Ak (st (Ol (Br (Bg ⟨[(0,Av a0),(3,.own 192 0 1 ([].map eI))],[],[]⟩ (Bc (by kernel_rfl)) (Aj (Aj (Ak (st (Ba rfl tv (st (c_ (Hm (e:=Ac) (l0:=a0) rfl rfl tv) (st (Dn tv (Br (Bg ⟨[(3,.own 192 0 1 ([].map eI)),(6,Av a0),(7,iV (a0.length:Int)),(8,iV 0)],[],[]⟩ (Bc (by kernel_rfl)) (Fa ?_))))))))))))))))))))))))
 obtain ⟨r18,e19,h0⟩:=bnd h0
 refine Qk (R:=(fun S=>∃p13:List Int,p13=r18∧S=⟨[(3,oI 192 p13)],[],[]⟩)) (Mk a0) (fun s S=>match s with | (p5,p6)=>S=⟨[(3,oI 192 p5),(6,Av a0),(7,iV (a0.length:Int)),(8,iV p6)],[],[]⟩) e19 ⟨[(3,.own 192 0 1 ([].map eI)),(6,Av a0),(7,iV (a0.length:Int)),(8,iV 0)],[],[]⟩ (Bc (by kernel_rfl)) rfl 0 (fun _=>rfl) ?_ ?_
 ·rintro S _ hfg ⟨p13,rfl,rfl⟩
  refine Bg ⟨[(3,oI 192 p13)],[],[]⟩ (Zn hfg (by kernel_rfl)) (Aj (Ak (st (Ba rfl tv (st (Ba rfl tv (Br (Bg ⟨[(2,oI 192 p13)],[],[]⟩ (Bc (by kernel_rfl)) ?_))))))))
  obtain rfl:=sj h0
  exact Gj (Co rfl rfl rfl rfl rfl tv)
 ·rintro ⟨p5,p6⟩ o1 _ K1 rfl h1 hx1 hK1 hE1 hR1
  refine Aj (Ak (st (c_ (Ap t3 rfl tv) (Br (Bg ⟨[(3,oI 192 p5),(6,Av a0),(7,iV (a0.length:Int)),(8,iV p6),(9,.bool (decide (p6<(a0.length:Int))))],[],[]⟩ (Bc (by kernel_rfl)) (Aj (Fs (cb:=(decide (p6<(a0.length:Int)))) rfl (fun c14=>?_) (fun c14=>?_))))))))
  ·replace h1:=ip c14 h1
   refine Rb (Bg ⟨[(3,oI 192 p5),(6,Av a0),(7,iV (a0.length:Int)),(8,iV p6)],[],[]⟩ (Bc (by kernel_rfl)) (Aj (Fa (Aj (Ak ?_)))))
   obtain ⟨y15,e16,h1⟩:=bnd h1
   refine st (c_ (Nz (e:=Ac) (y:=y15) rfl rfl tv rfl rfl tv e16) (st (c_ (v:=.agg (Ac y15)) (Ap ⟨tv,tv⟩ rfl (nl rfl)) (st (Ea (st (Ff rfl rfl tv rfl rfl rfl (nl rfl) (Br (Bg ⟨[(3,oI 192 p5),(5,.ptr 320 0),(6,Av a0),(7,iV (a0.length:Int)),(8,iV p6)],[(320,Ac y15)],[]⟩ (Bc (by kernel_rfl)) (Ak (st (Ba rfl tv (st (c_ (Ap ⟨tv,tv⟩ rfl tv) (st (c_ (Ap ⟨tv,tv⟩ rfl (nl rfl)) (st (oS ⟨tv,tv⟩ ⟨⟨nl rfl,rfl,rfl⟩,tv⟩ ?_))))))))))))))))))
   obtain ⟨c17,h1⟩:=cM h1
   refine st (fN (e:=eI) (l0:=p5) (l1:=([y15.Am]:List Int)) rfl rfl tv rfl (by decide) c17 (st (Ba rfl tv (Br (fO (Bg ⟨[(3,oI 192 (p5++([y15.Am]:List Int))),(6,Av a0),(7,iV (a0.length:Int)),(8,iV p6)],[],[]⟩ (Bc (by kernel_rfl)) (Ak (st (c_ (Ap t3 rfl tv) (st (Ba rfl tv (Br ?_))))))))))))
   obtain rfl:=sj h1
   exact hK1 _ rfl _ ⟨[(3,oI 192 (p5++([y15.Am]:List Int))),(6,Av a0),(7,iV (a0.length:Int)),(8,iV (wi (p6+1)))],[],[]⟩ (Bc (by kernel_rfl)) rfl
  ·replace h1:=Ou c14 h1
   obtain rfl:=sj h1
   obtain rfl:=hx1 _ rfl
   refine tH rfl ?_
   exact hE1 _ ⟨[(3,oI 192 p5)],[],[]⟩ (Bc (by kernel_rfl)) ⟨_,rfl,rfl⟩

/- slices.IndexFunc[[]loop.example/g00149/impl.Issued,loop.example/g00149/impl.Issued] -/
def jV:=[i_ 4 0]
def jW:=[m_ 6 0,n_ 7 6,i_ 8 0]
def jX:=[b_ .lss 9 8 7]
def jY:=[m_ 10 8,m_ 5 10]
def jZ:List Bq:=[m_ 11 1,m_ 12 0,m_ 13 5,x_ 14 12 13 4,L_ 15 14 4,⟨some 16,.callv (.t 11) [.t 15],none⟩]
def kA:=[m_ 17 5,m_ 4 17]
def kB:=[B_ .add 18 8 1,m_ 8 18]
def jU:IR:=(sr jX (.seq (.ite (.t 9) .skip (.exit 0)) (.seq (.block 1 (sr jY (sr jZ (iz 16 (rr kA))))) (.reg kB))))
def kC:=[i_ 4 (-1)]
def vR:Es:=⟨2,19,[.t 4],sr jV (.seq (sr jW (sC 0 jU)) (rr kC))⟩
def fM (C:Bb) (D:Bb:=C):Prop:=∀(a0:List Ad) (f1:Nat) (k1:List V) (is1:Ad→Option Bool) (hs1:Pk k1) (hf1:∀(x0:Ad) r,is1 x0=some r→C f1 ⟨.agg (Ac x0)::k1,[]⟩ ⟨.bool r,[],[]⟩) (r:Int),oE a0 is1=some r→D 371 ⟨[Av a0,.clo f1 k1],[]⟩ ⟨iV r,[],[]⟩
theorem yI:fM C (FO C vR):=by
 intro a0 f1 k1 is1 hs1 hf1 r h0
 refine f0 (Aj (Ak (st (Dn tv (Br (Bg ⟨[(0,Av a0),(1,.clo f1 k1)],[],[]⟩ (fg ⟨rfl,rfl,tv⟩ tv) (Aj (Aj (Ak (st (Ba rfl tv (st (c_ (Hm (e:=Ac) (l0:=a0) rfl rfl tv) (st (Dn tv (Br (Bg ⟨[(0,Av a0),(1,.clo f1 k1),(7,iV (a0.length:Int)),(8,iV 0)],[],[]⟩ (fg ⟨rfl,rfl,rfl,rfl,tv⟩ tv) (Fa ?_))))))))))))))))))
 obtain ⟨r21,e22,h0⟩:=bnd h0
 refine Qk (R:=(fun S=>.inl ()=r21∧S=⟨[],[],[]⟩)) (Yf a0 is1) (fun s S=>match s with | p7=>S=⟨[(0,Av a0),(1,.clo f1 k1),(7,iV (a0.length:Int)),(8,iV p7)],[],[]⟩) e22 ⟨[(0,Av a0),(1,.clo f1 k1),(7,iV (a0.length:Int)),(8,iV 0)],[],[]⟩ (fg ⟨rfl,rfl,rfl,rfl,tv⟩ tv) rfl 0 (fun _=>rfl) ?_ ?_
 ·rintro S _ hfg ⟨rfl,rfl⟩
  refine Bg ⟨[],[],[]⟩ (Zn hfg (by kernel_rfl)) (Aj (Ak (st (Dn tv (Br (Bg ⟨[(4,iV (-1))],[],[]⟩ (Bc (by kernel_rfl)) ?_))))))
  obtain rfl:=sj h0
  exact Gj (Co rfl rfl rfl rfl rfl tv)
 ·rintro p7 o1 _ K1 rfl h1 hx1 hK1 hE1 hR1
  refine Aj (Ak (st (c_ (Ap t3 rfl tv) (Br (Bg ⟨[(0,Av a0),(1,.clo f1 k1),(7,iV (a0.length:Int)),(8,iV p7),(9,.bool (decide (p7<(a0.length:Int))))],[],[]⟩ (fg ⟨rfl,rfl,rfl,rfl,rfl,tv⟩ tv) (Aj (Fs (cb:=(decide (p7<(a0.length:Int)))) rfl (fun c15=>?_) (fun c15=>?_))))))))
  ·replace h1:=ip c15 h1
   refine Rb (Bg ⟨[(0,Av a0),(1,.clo f1 k1),(7,iV (a0.length:Int)),(8,iV p7)],[],[]⟩ (fg ⟨rfl,rfl,rfl,rfl,tv⟩ tv) (Aj (Fa (Aj (Ak (st (Ba rfl tv (st (Ba rfl tv (Br (Bg ⟨[(0,Av a0),(1,.clo f1 k1),(5,iV p7),(7,iV (a0.length:Int)),(8,iV p7)],[],[]⟩ (fg ⟨rfl,rfl,rfl,rfl,rfl,tv⟩ tv) (Aj (Ak (st (Ba rfl tv (st (Ba rfl tv (st (Ba rfl tv ?_)))))))))))))))))))
   obtain ⟨y16,e17,h1⟩:=bnd h1
   refine st (c_ (Nz (e:=Ac) (y:=y16) rfl rfl tv rfl rfl tv e17) (st (c_ (v:=.agg (Ac y16)) (Ap ⟨tv,tv⟩ rfl (nl rfl)) ?_)))
   obtain ⟨r18,e19,h1⟩:=bnd h1
   refine st (Mh (r:=.bool r18) rfl false (hf1 _ r18 e19) ⟨tv,tv⟩ (Fm rfl hs1.2.2.1) (Hi rfl (hs1.2.1 _ _ _ _ _)) (fun _=>rfl) (Br (Bg ⟨[(0,Av a0),(1,.clo f1 k1),(5,iV p7),(7,iV (a0.length:Int)),(8,iV p7),(16,.bool r18)],[],[]⟩ (fg ⟨rfl,rfl,rfl,rfl,rfl,rfl,tv⟩ tv) (Fs (cb:=r18) rfl (fun c20=>?_) (fun c20=>?_)))))
   ·replace h1:=ip c20 h1
    refine Aj (Ak (st (Ba rfl tv (st (Ba rfl tv (Br (Bg ⟨[(4,iV p7)],[],[]⟩ (Bc (by kernel_rfl)) ?_)))))))
    obtain rfl:=sj h1
    obtain rfl:=hx1 _ rfl
    obtain rfl:=sj h0
    exact Gj (hR1 _ (Co rfl rfl rfl rfl rfl tv))
   ·replace h1:=Ou c20 h1
    refine Rb (fO (Bg ⟨[(0,Av a0),(1,.clo f1 k1),(7,iV (a0.length:Int)),(8,iV p7)],[],[]⟩ (fg ⟨rfl,rfl,rfl,rfl,tv⟩ tv) (Ak (st (c_ (Ap t3 rfl tv) (st (Ba rfl tv (Br ?_))))))))
    obtain rfl:=sj h1
    exact hK1 _ rfl _ ⟨[(0,Av a0),(1,.clo f1 k1),(7,iV (a0.length:Int)),(8,iV (wi (p7+1)))],[],[]⟩ (fg ⟨rfl,rfl,rfl,rfl,tv⟩ tv) rfl
  ·replace h1:=Ou c15 h1
   obtain rfl:=sj h1
   obtain rfl:=hx1 _ rfl
   refine tH rfl ?_
   exact hE1 _ ⟨[],[],[]⟩ (Bc (by kernel_rfl)) ⟨rfl,rfl⟩

/- slices.ContainsFunc[[]loop.example/g00149/impl.Issued,loop.example/g00149/impl.Issued] -/
def iU:=[k_ 4 (.bool false)]
def iW:=[m_ 5 0,m_ 6 1,q_ 7 371 [.t 5,.t 6],B_ .geq 8 7 0,m_ 4 8]
def vK:Es:=⟨2,9,[.t 4],sr iU (rr iW)⟩
def rE (C:Bb) (D:Bb:=C):Prop:=∀(a0:List Ad) (f1:Nat) (k1:List V) (is1:Ad→Option Bool) (hs1:Pk k1) (hf1:∀(x0:Ad) r,is1 x0=some r→C f1 ⟨.agg (Ac x0)::k1,[]⟩ ⟨.bool r,[],[]⟩) (r:Bool),nV a0 is1=some r→D 342 ⟨[Av a0,.clo f1 k1],[]⟩ ⟨.bool r,[],[]⟩
theorem yB (H371:fM C):rE C (FO C vK):=by
 intro a0 f1 k1 is1 hs1 hf1 r h0
 refine f0 (Aj (Ak (st (Dn tv (Br (Bg ⟨[(0,Av a0),(1,.clo f1 k1)],[],[]⟩ (fg ⟨rfl,rfl,tv⟩ tv) (Aj (Ak (st (Ba rfl tv (st (Ba rfl tv ?_))))))))))))
 obtain ⟨r1,e2,h0⟩:=bnd h0
 refine st (Cp (r:=iV r1) false (H371 a0 f1 k1 is1 hs1 hf1 r1 e2) ⟨tv,tv,tv⟩ rfl (Hi rfl (Hi (Wl hs1) rfl)) (fun _=>rfl) (st (c_ (Ap t3 rfl tv) (st (Ba rfl tv (Br (Bg ⟨[(4,.bool (decide (r1≥0)))],[],[]⟩ (Bc (by kernel_rfl)) ?_)))))))
 obtain rfl:=sj h0
 exact Gj (Co rfl rfl rfl rfl rfl tv)

/- loop.example/g00149/impl.areAll[loop.example/g00149/impl.Issued]$1 -/
def iX:=[X_ 2 0,k_ 3 (.bool false)]
def iY:List Bq:=[l_ 4 1 1,L_ 5 2 4,⟨some 6,.callv (.t 4) [.t 5],none⟩,N_ 7 6,m_ 3 7]
def vL:Es:=⟨2,8,[.t 3],sr iX (rr iY)⟩
def rF (C:Bb) (D:Bb:=C):Prop:=∀(a0:Ad) (f1:Nat) (k1:List V) (is1:Ad→Option Bool) (hs1:Pk k1) (hf1:∀(x0:Ad) r,is1 x0=some r→C f1 ⟨.agg (Ac x0)::k1,[]⟩ ⟨.bool r,[],[]⟩) (r:Bool),nX a0 is1=some r→D 343 ⟨[.agg (Ac a0),.iptr [.clo f1 k1]],[]⟩ ⟨.bool r,[],[]⟩
theorem yC:rF C (FO C vL):=by
 intro a0 f1 k1 is1 hs1 hf1 r h0
 refine f0 (Aj (Ak (st (Nj rfl tv rfl (sw ⟨[(1,.iptr [.clo f1 k1]),(2,.ptr 128 0)],[(128,Ac a0)],[]⟩ (fg ⟨rfl,rfl,tv⟩ ⟨rfl,tv⟩) (Dn tv (Br (Bg ⟨[(1,.iptr [.clo f1 k1]),(2,.ptr 128 0)],[(128,Ac a0)],[]⟩ (fg ⟨rfl,rfl,tv⟩ ⟨rfl,tv⟩) (Aj (Ak (st (c_ (Ap ⟨tv,tv⟩ rfl (nl rfl)) (st (c_ (v:=.agg (Ac a0)) (Ap ⟨tv,tv⟩ rfl (nl rfl)) ?_))))))))))))))
 obtain ⟨r1,e2,h0⟩:=bnd h0
 refine st (Mh (r:=.bool r1) rfl false (hf1 _ r1 e2) ⟨tv,tv⟩ (Fm rfl hs1.2.2.1) (Hi rfl (hs1.2.1 _ _ _ _ _)) (fun _=>rfl) (st (c_ (Ap ⟨tv,tv⟩ rfl tv) (st (Ba rfl tv (Br (Bg ⟨[(3,.bool (!r1))],[],[]⟩ (Bc (by kernel_rfl)) ?_)))))))
 obtain rfl:=sj h0
 exact Gj (Co rfl rfl rfl rfl rfl tv)

/- loop.example/g00149/impl.areAll[loop.example/g00149/impl.Issued] -/
def hZ:=[X_ 3 1,k_ 4 (.bool false)]
def iA:=[m_ 5 0,iQ 6 (.fn 343 [.t 3]),q_ 7 342 [.t 5,.t 6],N_ 8 7,m_ 4 8]
def vA:Es:=⟨2,9,[.t 4],sr hZ (rr iA)⟩
def qW (C:Bb) (D:Bb:=C):Prop:=∀(a0:List Ad) (f1:Nat) (k1:List V) (is1:Ad→Option Bool) (hs1:Pk k1) (hf1:∀(x0:Ad) r,is1 x0=some r→C f1 ⟨.agg (Ac x0)::k1,[]⟩ ⟨.bool r,[],[]⟩) (r:Bool),nO a0 is1=some r→D 285 ⟨[Av a0,.clo f1 k1],[]⟩ ⟨.bool r,[],[]⟩
theorem xR (H342:rE C) (H343:rF C):qW C (FO C vA):=by
 intro a0 f1 k1 is1 hs1 hf1 r h0
 refine f0 (Aj (Ak (st (Nj (Xz hs1) tv rfl (sw ⟨[(0,Av a0),(3,.ptr 192 0)],[(192,[.clo f1 k1])],[]⟩ (fg ⟨rfl,rfl,tv⟩ ⟨rfl,tv⟩) (Dn tv (Br (Bg ⟨[(0,Av a0),(3,.ptr 192 0)],[(192,[.clo f1 k1])],[]⟩ (fg ⟨rfl,rfl,tv⟩ ⟨rfl,tv⟩) (Aj (Ak (st (Ba rfl tv (st (c_ (Ap ⟨tv,tv⟩ rfl rfl) ?_))))))))))))))
 obtain ⟨r1,e2,h0⟩:=bnd h0
 refine st (Cp (r:=.bool r1) false (H342 a0 343 [.iptr [.clo f1 k1]] (fun z343_0=>nX z343_0 is1) (⟨fun _ _ _ _ _=>rfl,fun _ _ _ _ _=>rfl,rfl,fun _ _ _ n=>by cases n<;>rfl,fun _=>rfl⟩) (fun z343_0 r h=>H343 z343_0 f1 k1 is1 hs1 hf1 r h) r1 e2) ⟨tv,tv,tv⟩ rfl (Hi rfl (Hi (congrArg (fun z=>V.clo 343 [.iptr [.clo f1 z]]) (hs1.2.2.2.1 _ _ _ _)) rfl)) (fun _=>rfl) (st (c_ (Ap ⟨tv,tv⟩ rfl tv) (st (Ba rfl tv (Br (Bg ⟨[(4,.bool (!r1))],[],[]⟩ (Bc (by kernel_rfl)) ?_)))))))
 obtain rfl:=sj h0
 exact Gj (Co rfl rfl rfl rfl rfl tv)

/- loop.example/g00149/impl.isTime -/
def iD:=[k_ 2 (.bool false)]
def iE:=[m_ 3 0,q_ 4 63 [.t 3,.c (iV 0),.c (iV 253402300799)],m_ 2 4]
def vC:Es:=⟨1,5,[.t 2],sr iD (rr iE)⟩
def qY (D:Bb):Prop:=∀a0 r,tI a0=some r→D 287 ⟨[iV a0],[]⟩ ⟨.bool r,[],[]⟩
theorem xU (H63:rW C):qY (FO C vC):=by
 intro a0 r h0
 refine f0 (Aj (Ak (st (Dn tv (Br (Bg ⟨[(0,iV a0)],[],[]⟩ (Bc (by kernel_rfl)) (Aj (Ak (st (Ba rfl tv ?_))))))))))
 obtain ⟨r1,e2,h0⟩:=bnd h0
 refine st (Cp (r:=.bool r1) false (H63 a0 0 253402300799 r1 e2) ⟨tv,tv,tv,tv⟩ rfl rfl (fun _=>rfl) (st (Ba rfl tv (Br (Bg ⟨[(2,.bool r1)],[],[]⟩ (Bc (by kernel_rfl)) ?_)))))
 obtain rfl:=sj h0
 exact Gj (Co rfl rfl rfl rfl rfl tv)

/- loop.example/g00149/impl.AuthorityOK$1 -/
def iB:=[X_ 1 0,k_ 2 (.bool false)]
def iC:List Bq:=[f_ 3 1 1,l_ 4 3 1,q_ 5 287 [.t 4],m_ 6 5,fT 6 7 1 2,lT 6 8 7 1 false,⟨some 9,.call 281 [.t 8],some (6,true)⟩,pa 10 6 9,m_ 2 10]
def vB:Es:=⟨1,11,[.t 2],sr iB (rr iC)⟩
def qX (D:Bb):Prop:=∀a0 r,Zo a0=some r→D 286 ⟨[.agg (Ac a0)],[]⟩ ⟨.bool r,[],[]⟩
theorem xS (H281:fI C) (H287:qY C):qX (FO C vB):=by
 intro a0 r h0
 refine f0 (Aj (Ak (st (Nj rfl tv rfl (st (Dn tv (Br (Bg ⟨[(1,.ptr 64 0)],[(64,Ac a0)],[]⟩ (Bc (by kernel_rfl)) (Aj (Ak (st (c_ (Ap ⟨tv,tv⟩ rfl tv) (st (c_ (Ap ⟨tv,tv⟩ rfl (nl rfl)) ?_))))))))))))))
 obtain ⟨r1,e2,h0⟩:=bnd h0
 refine st (Cp (r:=.bool r1) false (H287 a0.to_ r1 e2) ⟨tv,tv⟩ rfl rfl (fun _=>rfl) (st (Ba rfl tv (st (Da (u:=.ptr 64 2) rfl (fun hg=>(Ap ⟨tv,tv⟩ rfl tv)) (st (Da (u:=.str a0.Bx) rfl (fun hg=>(Ap ⟨(fun _=>hg),tv⟩ rfl (nl rfl))) ?_)))))))
 obtain ⟨r3,e4,h0⟩:=bnd h0
 refine sw ⟨[(6,.bool r1),(8,.may (r1==true) (.str a0.Bx))],[],[]⟩ (Bc (by kernel_rfl)) (Fb (r:=.bool r3) rfl false (fun hg=>H281 a0.Bx r3 (ip hg e4)) ⟨(fun hg=>hg),tv⟩ (fun _=>rfl) (fun _=>rfl) (fun _=>rfl) (fun h=>nomatch h) (st (Di rfl rfl rfl (fun h=>Ur h) tv rfl (st (Ba rfl tv (Br (Bg ⟨[(2,.bool (bif r1 then r3 else false))],[],[]⟩ (Bc (by kernel_rfl)) ?_)))))))
 obtain rfl:=sj h0
 exact Gj (Co rfl rfl rfl rfl rfl tv)

/- loop.example/g00149/impl.AuthorityOK -/
def gK:=[X_ 1 0,k_ 2 (.bool false)]
def gL:=tk [f_ 3 1 0,l_ 4 3 1] (.alt [] (q_ 5 281 [.t 4]) (tk [m_ 6 5,fT 6 7 1 1,lT 6 8 7 1 false] (.alt [] ⟨some 9,.call 282 [.t 8],some (6,true)⟩ (tk [pa 10 6 9,m_ 11 10,fT 11 12 1 2,lT 11 13 12 1 false] (.alt [] ⟨some 14,.call 58 [.t 13],some (11,true)⟩ (tk [pa 15 11 14,m_ 16 15,fT 16 17 1 3,lT 16 18 17 1 false] (.alt [] ⟨some 19,.call 58 [.t 18],some (16,true)⟩ (tk [pa 20 16 19,m_ 21 20,fT 21 22 1 4,lT 21 23 22 1 false,pT 21 24 (.lenS (.t 23)),pT 21 25 (.bin .leq (.t 24) (.c (iV 40))),pa 26 21 25,m_ 27 26,fT 27 28 1 4,lT 27 29 28 1 false] (.alt [] ⟨some 30,.call 283 [.t 29],some (27,true)⟩ (tk [pa 31 27 30,m_ 32 31,fT 32 33 1 5,lT 32 34 33 1 false] (.alt [] ⟨some 35,.call 63 [.t 34,.c (iV 1),.c (iV 253402300799)],some (32,true)⟩ (tk [pa 36 32 35,m_ 37 36,fT 37 38 1 6,lT 37 39 38 1 false,pT 37 40 (.len (.t 39)),pT 37 41 (.bin .leq (.t 40) (.c (iV 40))),pa 42 37 41,m_ 43 42,fT 43 44 1 6,lT 43 45 44 1 false,fT 43 47 1 2,lT 43 48 47 1 false,pT 43 49 (.bin .sub (.t 48) (.c (iV 1)))] (.alt [pT 43 49 (.bin .sub (.t 48) (.c (iV 1))),lT 43 48 47 1 false,fT 43 47 1 2] ⟨some 46,.call 284 [.t 45],some (43,true)⟩ (.alt [] ⟨some 50,.call 59 [.t 46,.c (iV 1),.t 49],some (43,true)⟩ (tk [pa 51 43 50,m_ 52 51,fT 52 53 1 6,lT 52 54 53 1 false] (.alt [] ⟨some 55,.call 285 [.t 54,.c (.clo 286 [])],some (52,true)⟩ (tk [pa 56 52 55,m_ 2 56] .fin) .stop)) .stop) .stop)) .stop)) .stop)) .stop)) .stop)) .stop)) .stop)
def uU:Es:=⟨1,57,[.t 2],sr gK (sd gL .ret)⟩
def qT (D:Bb):Prop:=∀a0 r,nJ a0=some r→D 226 ⟨[.agg (Ae a0)],[]⟩ ⟨.bool r,[],[]⟩
theorem xL (H58:yX C) (H59:yY C) (H63:rW C) (H281:fI C) (H282:fJ C) (H283:fK C) (H284:qV C) (H285:qW C) (H286:qX C):qT (FO C uU):=by
 intro a0 r h0
 refine f0 (Aj (Ak (st (Nj rfl tv rfl (st (Dn tv (Br (Bg ⟨[(1,.ptr 64 0)],[(64,Ae a0)],[]⟩ (Bc (by kernel_rfl)) (Aj ?_)))))))))
 obtain ⟨r1,e2,h0⟩:=bnd h0
 obtain ⟨r3,e4,h0⟩:=bnd h0
 obtain ⟨r5,e6,h0⟩:=bnd h0
 obtain ⟨r7,e8,h0⟩:=bnd h0
 obtain ⟨r9,e10,h0⟩:=bnd h0
 obtain ⟨r11,e12,h0⟩:=bnd h0
 obtain ⟨r13,e14,h0⟩:=bnd h0
 obtain ⟨r15,e16,h0⟩:=bnd h0
 obtain ⟨r17,e18,h0⟩:=bnd h0
 refine Fk (Ai tv (c_ (Ap ⟨tv,tv⟩ rfl tv) (⟨tv,Ai tv (c_ (Ap ⟨tv,tv⟩ rfl (nl rfl)) (⟨tv,Gl (Cp (r:=.bool r1) false (H281 a0.name_ r1 e2) ⟨tv,tv⟩ rfl rfl (fun _=>rfl) (Wo ⟨[(1,.ptr 64 0),(5,.bool r1)],[(64,Ae a0)],[]⟩ (Bc (by kernel_rfl)) ⟨[],tv,tv,Ai tv (Ba rfl tv (⟨tv,Ai tv (Da (u:=.ptr 64 1) rfl (fun hg=>(Ap ⟨tv,tv⟩ rfl tv)) (⟨tv,Ai tv (Da (u:=Gn a0.Cn) rfl (fun hg=>(Ap ⟨(fun _=>hg),tv⟩ rfl (nl rfl))) (⟨tv,Gl (Fb (r:=.bool r3) rfl false (fun hg=>H282 a0.Cn r3 (ip hg e4)) ⟨(fun hg=>hg),tv⟩ (fun _=>rfl) (fun _=>rfl) (fun _=>rfl) (fun h=>nomatch h) (Wo ⟨[(1,.ptr 64 0),(6,.bool r1),(9,.may (r1==true) (.bool r3))],[(64,Ae a0)],[]⟩ (Bc (by kernel_rfl)) ⟨[],tv,tv,Ai tv (Di rfl rfl rfl (fun h=>Ur h) tv rfl (⟨tv,Ai tv (Ba rfl tv (⟨tv,Ai tv (Da (u:=.ptr 64 2) rfl (fun hg=>(Ap ⟨tv,tv⟩ rfl tv)) (⟨tv,Ai tv (Da (u:=iV a0.Am) rfl (fun hg=>(Ap ⟨(fun _=>hg),tv⟩ rfl (nl rfl))) (⟨tv,Gl (Fb (r:=.bool r5) rfl false (fun hg=>H58 a0.Am r5 (ip hg e6)) ⟨(fun hg=>hg),tv⟩ (fun _=>rfl) (fun _=>rfl) (fun _=>rfl) (fun h=>nomatch h) (Wo ⟨[(1,.ptr 64 0),(11,.bool (bif r1 then r3 else false)),(14,.may ((bif r1 then r3 else false)==true) (.bool r5))],[(64,Ae a0)],[]⟩ (Bc (by kernel_rfl)) ⟨[],tv,tv,Ai tv (Di rfl rfl rfl (fun h=>Ur h) tv rfl (⟨tv,Ai tv (Ba rfl tv (⟨tv,Ai tv (Da (u:=.ptr 64 3) rfl (fun hg=>(Ap ⟨tv,tv⟩ rfl tv)) (⟨tv,?_⟩))⟩))⟩))⟩)) Dl⟩))⟩))⟩))⟩))⟩)) Dl⟩))⟩))⟩))⟩)) Dl⟩))⟩)))
 refine Ai tv (Da (u:=iV a0.number) rfl (fun hg=>(Ap ⟨(fun _=>hg),tv⟩ rfl (nl rfl))) (⟨tv,Gl (Fb (r:=.bool r7) rfl false (fun hg=>H58 a0.number r7 (ip hg e8)) ⟨(fun hg=>hg),tv⟩ (fun _=>rfl) (fun _=>rfl) (fun _=>rfl) (fun h=>nomatch h) (Wo ⟨[(1,.ptr 64 0),(16,.bool (bif (bif r1 then r3 else false) then r5 else false)),(19,.may ((bif (bif r1 then r3 else false) then r5 else false)==true) (.bool r7))],[(64,Ae a0)],[]⟩ (Bc (by kernel_rfl)) ⟨[],tv,tv,Ai tv (Di rfl rfl rfl (fun h=>Ur h) tv rfl (⟨tv,Ai tv (Ba rfl tv (⟨tv,Ai tv (Da (u:=.ptr 64 4) rfl (fun hg=>(Ap ⟨tv,tv⟩ rfl tv)) (⟨tv,Ai tv (Da (u:=.str a0.Ax) rfl (fun hg=>(Ap ⟨(fun _=>hg),tv⟩ rfl (nl rfl))) (⟨tv,Ai tv (Da (u:=iV (a0.Ax.length:Int)) rfl (fun hg=>(Ap ⟨(fun _=>hg),tv⟩ rfl tv)) (⟨tv,Ai tv (Da (u:=.bool (decide ((a0.Ax.length:Int)≤40))) rfl (fun hg=>(Ap ⟨(fun _=>hg),tv,tv⟩ rfl tv)) (⟨tv,Ai tv (Di rfl rfl rfl (fun h=>Ur h) tv rfl (⟨tv,Ai tv (Ba rfl tv (⟨tv,Ai tv (Da (u:=.ptr 64 4) rfl (fun hg=>(Ap ⟨tv,tv⟩ rfl tv)) (⟨tv,Ai tv (Da (u:=.str a0.Ax) rfl (fun hg=>(Ap ⟨(fun _=>hg),tv⟩ rfl (nl rfl))) (⟨tv,Gl (Fb (r:=.bool r9) rfl false (fun hg=>H283 a0.Ax r9 (ip hg e10)) ⟨(fun hg=>hg),tv⟩ (fun _=>rfl) (fun _=>rfl) (fun _=>rfl) (fun h=>nomatch h) (Wo ⟨[(1,.ptr 64 0),(27,.bool (bif (bif (bif (bif r1 then r3 else false) then r5 else false) then r7 else false) then (decide ((a0.Ax.length:Int)≤40)) else false)),(30,.may ((bif (bif (bif (bif r1 then r3 else false) then r5 else false) then r7 else false) then (decide ((a0.Ax.length:Int)≤40)) else false)==true) (.bool r9))],[(64,Ae a0)],[]⟩ (Bc (by kernel_rfl)) ⟨[],tv,tv,Ai tv (Di rfl rfl rfl (fun h=>Ur h) tv rfl (⟨tv,Ai tv (Ba rfl tv (⟨tv,Ai tv (Da (u:=.ptr 64 5) rfl (fun hg=>(Ap ⟨tv,tv⟩ rfl tv)) ?_)⟩))⟩))⟩)) Dl⟩))⟩))⟩))⟩))⟩))⟩))⟩))⟩))⟩))⟩))⟩)) Dl⟩))
 refine ⟨tv,Ai tv (Da (u:=iV a0.Gg) rfl (fun hg=>(Ap ⟨(fun _=>hg),tv⟩ rfl (nl rfl))) (⟨tv,Gl (Fb (r:=.bool r11) rfl false (fun hg=>H63 a0.Gg 1 253402300799 r11 (ip hg e12)) ⟨(fun hg=>hg),tv,tv,tv⟩ (fun _=>rfl) (fun _=>rfl) (fun _=>rfl) (fun h=>nomatch h) (Wo ⟨[(1,.ptr 64 0),(32,.bool (bif (bif (bif (bif (bif r1 then r3 else false) then r5 else false) then r7 else false) then (decide ((a0.Ax.length:Int)≤40)) else false) then r9 else false)),(35,.may ((bif (bif (bif (bif (bif r1 then r3 else false) then r5 else false) then r7 else false) then (decide ((a0.Ax.length:Int)≤40)) else false) then r9 else false)==true) (.bool r11))],[(64,Ae a0)],[]⟩ (Bc (by kernel_rfl)) ⟨[],tv,tv,Ai tv (Di rfl rfl rfl (fun h=>Ur h) tv rfl (⟨tv,Ai tv (Ba rfl tv (⟨tv,Ai tv (Da (u:=.ptr 64 6) rfl (fun hg=>(Ap ⟨tv,tv⟩ rfl tv)) (⟨tv,Ai tv (Da (u:=Av a0.Ag) rfl (fun hg=>(Ap ⟨(fun _=>hg),tv⟩ rfl (nl rfl))) (⟨tv,Ai tv (Da (u:=iV (a0.Ag.length:Int)) rfl (fun hg=>(Hm (e:=Ac) (l0:=a0.Ag) rfl rfl (fun _=>hg))) (⟨tv,Ai tv (Da (u:=.bool (decide ((a0.Ag.length:Int)≤40))) rfl (fun hg=>(Ap ⟨(fun _=>hg),tv,tv⟩ rfl tv)) (⟨tv,Ai tv (Di rfl rfl rfl (fun h=>Ur h) tv rfl (⟨tv,Ai tv (Ba rfl tv (⟨tv,Ai tv (Da (u:=.ptr 64 6) rfl (fun hg=>(Ap ⟨tv,tv⟩ rfl tv)) (⟨tv,Ai tv (Da (u:=Av a0.Ag) rfl (fun hg=>(Ap ⟨(fun _=>hg),tv⟩ rfl (nl rfl))) (⟨tv,Ai tv (Da (u:=.ptr 64 2) rfl (fun hg=>(Ap ⟨tv,tv⟩ rfl tv)) (⟨tv,Ai tv (Da (u:=iV a0.Am) rfl (fun hg=>(Ap ⟨(fun _=>hg),tv⟩ rfl (nl rfl))) (⟨tv,Ai tv (Da (u:=iV (wi (a0.Am-1))) rfl (fun hg=>(Ap ⟨(fun _=>hg),tv,tv⟩ rfl tv)) (⟨tv,?_⟩))⟩))⟩))⟩))⟩))⟩))⟩))⟩))⟩))⟩))⟩))⟩))⟩))⟩)) Dl⟩))⟩
 refine Gl (Fb (r:=oI 0 r13) rfl false (fun hg=>H284 a0.Ag r13 (ip hg e14)) ⟨(fun hg=>hg),tv⟩ (fun _=>rfl) (fun _=>rfl) (fun _=>(Fm (nG (fun _=>rfl)) rfl)) (fun h=>nomatch h) (Wo ⟨[(1,.ptr 64 0),(43,.bool (bif (bif (bif (bif (bif (bif (bif r1 then r3 else false) then r5 else false) then r7 else false) then (decide ((a0.Ax.length:Int)≤40)) else false) then r9 else false) then r11 else false) then (decide ((a0.Ag.length:Int)≤40)) else false)),(46,.may ((bif (bif (bif (bif (bif (bif (bif r1 then r3 else false) then r5 else false) then r7 else false) then (decide ((a0.Ax.length:Int)≤40)) else false) then r9 else false) then r11 else false) then (decide ((a0.Ag.length:Int)≤40)) else false)==true) (lI r13)),(47,.may ((bif (bif (bif (bif (bif (bif (bif r1 then r3 else false) then r5 else false) then r7 else false) then (decide ((a0.Ax.length:Int)≤40)) else false) then r9 else false) then r11 else false) then (decide ((a0.Ag.length:Int)≤40)) else false)==true) (.ptr 64 2)),(48,.may ((bif (bif (bif (bif (bif (bif (bif r1 then r3 else false) then r5 else false) then r7 else false) then (decide ((a0.Ax.length:Int)≤40)) else false) then r9 else false) then r11 else false) then (decide ((a0.Ag.length:Int)≤40)) else false)==true) (iV a0.Am)),(49,.may ((bif (bif (bif (bif (bif (bif (bif r1 then r3 else false) then r5 else false) then r7 else false) then (decide ((a0.Ax.length:Int)≤40)) else false) then r9 else false) then r11 else false) then (decide ((a0.Ag.length:Int)≤40)) else false)==true) (iV (wi (a0.Am-1))))],[(64,Ae a0)],[]⟩ (Bc (by kernel_rfl)) ⟨[],⟨⟨.inl tv,Gx (v:=iV (wi (a0.Am-1))) rfl (fun hg=>(Ap ⟨(fun _=>hg),tv,tv⟩ rfl tv)) rfl⟩,⟨.inl tv,Gx (v:=iV a0.Am) rfl (fun hg=>(Ap ⟨(fun _=>hg),tv⟩ rfl (nl rfl))) rfl⟩,⟨.inl tv,Gx (v:=.ptr 64 2) rfl (fun hg=>(Ap ⟨tv,tv⟩ rfl tv)) rfl⟩,tv⟩,tv,Gl (Fb (r:=.bool r15) rfl false (fun hg=>H59 r13 1 (wi (a0.Am-1)) r15 (ip hg e16)) ⟨(fun hg=>hg),tv,(fun hg=>hg),tv⟩ (fun _=>rfl) (fun _=>rfl) (fun _=>rfl) (fun h=>nomatch h) (Wo ⟨[(1,.ptr 64 0),(43,.bool (bif (bif (bif (bif (bif (bif (bif r1 then r3 else false) then r5 else false) then r7 else false) then (decide ((a0.Ax.length:Int)≤40)) else false) then r9 else false) then r11 else false) then (decide ((a0.Ag.length:Int)≤40)) else false)),(50,.may ((bif (bif (bif (bif (bif (bif (bif r1 then r3 else false) then r5 else false) then r7 else false) then (decide ((a0.Ax.length:Int)≤40)) else false) then r9 else false) then r11 else false) then (decide ((a0.Ag.length:Int)≤40)) else false)==true) (.bool r15))],[(64,Ae a0)],[]⟩ (Bc (by kernel_rfl)) ⟨[],tv,tv,Ai tv (Di rfl rfl rfl (fun h=>Ur h) tv rfl (⟨tv,Ai tv (Ba rfl tv (⟨tv,Ai tv (Da (u:=.ptr 64 6) rfl (fun hg=>(Ap ⟨tv,tv⟩ rfl tv)) (⟨tv,Ai tv (Da (u:=Av a0.Ag) rfl (fun hg=>(Ap ⟨(fun _=>hg),tv⟩ rfl (nl rfl))) (⟨tv,Gl (Fb (r:=.bool r17) rfl false (fun hg=>H285 a0.Ag 286 [] (fun z286_0=>Zo z286_0) (⟨fun _ _ _ _ _=>rfl,fun _ _ _ _ _=>rfl,rfl,fun _ _ _ n=>by cases n<;>rfl,fun _=>rfl⟩) (fun z286_0 r h=>H286 z286_0 r h) r17 (ip hg e18)) ⟨(fun hg=>hg),tv,tv⟩ (fun _=>rfl) (fun _=>rfl) (fun _=>rfl) (fun h=>nomatch h) (Wo ⟨[(52,.bool (bif (bif (bif (bif (bif (bif (bif (bif r1 then r3 else false) then r5 else false) then r7 else false) then (decide ((a0.Ax.length:Int)≤40)) else false) then r9 else false) then r11 else false) then (decide ((a0.Ag.length:Int)≤40)) else false) then r15 else false)),(55,.may ((bif (bif (bif (bif (bif (bif (bif (bif r1 then r3 else false) then r5 else false) then r7 else false) then (decide ((a0.Ax.length:Int)≤40)) else false) then r9 else false) then r11 else false) then (decide ((a0.Ag.length:Int)≤40)) else false) then r15 else false)==true) (.bool r17))],[],[]⟩ (Bc (by kernel_rfl)) ⟨[],tv,tv,Ai tv (Di rfl rfl rfl (fun h=>Ur h) tv rfl (⟨tv,Ai tv (Ba rfl tv (⟨tv,Td ?_⟩))⟩))⟩)) Dl⟩))⟩))⟩))⟩))⟩)) Dl⟩)) Dl
 obtain ⟨v19,e20,h0⟩:=bl h0
 refine Bg ⟨[(2,.bool v19)],[],[]⟩ (Bc (by subst e20; kernel_rfl)) ?_
 obtain rfl:=sj h0
 exact Gj (Co rfl rfl rfl rfl rfl tv)

/- slices.Clone[[]byte,byte] -/
def iF:List Bq:=[⟨some 2,.nilS 1,none⟩]
def iG:List Bq:=[m_ 3 0,⟨some 4,.isnil (.t 3) false,none⟩]
def iH:List Bq:=[⟨some 2,.nilS 1,none⟩]
def iI:List Bq:=[⟨some 5,.mkS 1 [.int .u8 0] 0 [],none⟩,m_ 6 0,⟨some 7,.app 1 1 (.t 5) (.t 6),none⟩,m_ 2 7]
def vE:Es:=⟨1,8,[.t 2],sr iF (.seq (sr iG (iz 4 (rr iH))) (rr iI))⟩
def fL (D:Bb):Prop:=∀a0 r,nR a0=some r→D 325 ⟨[Gn a0],[]⟩ ⟨Jd 0 r,[],[]⟩
theorem xV:fL (FO C vE):=by
 intro a0 r h0
 refine f0 ?_
 obtain ⟨hc,h0⟩:=cM h0
 obtain rfl:=sj h0
 refine Rh 3 [(0,Gn a0)] [] (Rl 3 (Ak (st (cS (e:=Iy) (l0:=a0) rfl fun b hb=>(Br (tW (Fs (cb:=b) rfl (fun h=>?_) (fun h=>?_))))))))
 ·obtain rfl:=hb h
  refine Aj (Ak (st (Ol (Br (tW ?_)))))
  refine Gj (Co rfl rfl rfl rfl rfl tv)
 ·refine Rb ?_
  refine Rh 0 [(0,Gn a0)] [] (Rl 3 (Ak (st (fN (e:=Iy) (l0:=([]:List UInt8)) (l1:=a0) rfl rfl tv rfl (by decide) ?_ ?_))))
  rotate_left
  refine st (Ba rfl tv (Br (tW ?_)))
  refine Gj (Co rfl rfl rfl rfl rfl tv)
  have:=Nat.mul_le_mul_right 1 hc
  exact Nat.le_trans this (by decide)

/- slices.Clone[[]loop.example/g00149/impl.Issued,loop.example/g00149/impl.Issued] -/
def jK:List Bq:=[⟨some 2,.nilS 4,none⟩]
def jL:List Bq:=[m_ 3 0,⟨some 4,.isnil (.t 3) false,none⟩]
def jM:List Bq:=[⟨some 2,.nilS 4,none⟩]
def jN:List Bq:=[⟨some 5,.mkS 4 [iV 0,iV 0,.str [],.bool false] 0 [],none⟩,m_ 6 0,⟨some 7,.app 4 40 (.t 5) (.t 6),none⟩,m_ 2 7]
def vN:Es:=⟨1,8,[.t 2],sr jK (.seq (sr jL (iz 4 (rr jM))) (rr jN))⟩
def rH (D:Bb):Prop:=∀a0 r,nZ a0=some r→D 349 ⟨[Av a0],[]⟩ ⟨Al 0 r,[],[]⟩
theorem yE:rH (FO C vN):=by
 intro a0 r h0
 refine f0 ?_
 obtain ⟨hc,h0⟩:=cM h0
 obtain rfl:=sj h0
 refine Aj (Ak (st (Ol (Br (Bg ⟨[(0,Av a0)],[],[]⟩ (fg ⟨rfl,tv⟩ tv) (Aj (Aj (Ak (st (Ba rfl tv (st (cS (e:=Ac) (l0:=a0) rfl fun b hb=>(Br (tW (Fs (cb:=b) rfl (fun h=>?_) (fun h=>?_))))))))))))))))
 ·obtain rfl:=hb h
  refine Aj (Ak (st (Ol (Br (tW ?_)))))
  refine Gj (Co rfl rfl rfl rfl rfl tv)
 ·refine Rb ?_
  refine Bg ⟨[(0,Av a0)],[],[]⟩ (fg ⟨rfl,tv⟩ tv) (Aj (Ak (st (oS tv tv (st (Ba rfl tv (st (fN (e:=Ac) (l0:=([]:List Ad)) (l1:=a0) rfl rfl tv rfl (by decide) ?_ ?_))))))))
  rotate_left
  refine st (Ba rfl tv (Br (tW ?_)))
  refine Gj (Co rfl rfl rfl rfl rfl tv)
  have:=Nat.mul_le_mul_right 40 hc
  exact Nat.le_trans this (by decide)

/- (loop.example/g00149/impl.Authority).own -/
def kM:=[X_ 1 0,a_ 2 [.str [],.own 130 0 1 [],iV 0,iV 0,.str [],iV 0,.own 135 0 4 []]]
def kN:=tk [f_ 3 1 1,l_ 4 3 1,f_ 6 1 6,l_ 7 6 1] (.alt [l_ 7 6 1,f_ 6 1 6] (q_ 5 325 [.t 4]) (tk [f_ 9 1 1] (.alt [f_ 9 1 1] (q_ 8 349 [.t 7]) (.alt [] (s_ 9 5 1) (tk [f_ 10 1 6] (.alt [] (s_ 10 8 1) .fin .stop)) .stop) .stop)) .stop)
def kO:=[L_ 11 1 7,s_ 2 11 7]
def vT:Es:=⟨1,12,[.cell 2 7 true],sr kM (sd kN (rr kO))⟩
def rM (D:Bb):Prop:=∀a0 r,oG a0=some r→D 376 ⟨[.agg (Ae a0)],[]⟩ ⟨.agg (Aa r (At 0) (At 1)),[],[]⟩
theorem yK (H325:fL C) (H349:rH C):rM (FO C vT):=by
 intro a0 r h0
 refine f0 (Aj (Ak (st (Nj rfl tv rfl (st (Ea (Br (Bg ⟨[(1,.ptr 64 0),(2,.ptr 128 0)],[(64,Ae a0),(128,Ah ([]:List UInt8) (At 130) [] 0 0 ([]:List UInt8) 0 (At 135) [])],[]⟩ (Bc (by kernel_rfl)) (Aj ?_)))))))))
 obtain ⟨r1,e2,h0⟩:=bnd h0
 obtain ⟨r3,e4,h0⟩:=bnd h0
 refine Fk (Ai tv (c_ (Ap ⟨tv,tv⟩ rfl tv) (⟨tv,Ai tv (c_ (Ap ⟨tv,tv⟩ rfl (nl rfl)) (⟨tv,Ai tv (c_ (Ap ⟨tv,tv⟩ rfl tv) (⟨tv,Ai tv (c_ (Ap ⟨tv,tv⟩ rfl (nl rfl)) (⟨tv,Gl (Cp (r:=Jd 0 r1) false (H325 a0.Cn r1 e2) ⟨tv,tv⟩ rfl rfl (fun _=>(Fm (nG (fun _=>rfl)) rfl)) (Wo ⟨[(1,.ptr 64 0),(2,.ptr 128 0),(5,Jd 320 r1),(6,.ptr 64 6),(7,Av a0.Ag)],[(64,Ae a0),(128,Ah ([]:List UInt8) (At 130) [] 0 0 ([]:List UInt8) 0 (At 135) [])],[]⟩ (Bc (by kernel_rfl)) ⟨[],⟨⟨.inl tv,Cv (Ap ⟨tv,tv⟩ rfl (nl rfl)) rfl⟩,⟨.inl tv,Cv (Ap ⟨tv,tv⟩ rfl tv) rfl⟩,tv⟩,tv,Ai tv (c_ (Ap ⟨tv,tv⟩ rfl tv) (⟨tv,Gl (Cp (r:=Al 0 r3) false (H349 a0.Ag r3 e4) ⟨tv,tv⟩ rfl rfl (fun _=>(Fm (nG (fun _=>rfl)) rfl)) (Wo ⟨[(1,.ptr 64 0),(2,.ptr 128 0),(5,Jd 320 r1),(8,Al 512 r3),(9,.ptr 64 1)],[(64,Ae a0),(128,Ah ([]:List UInt8) (At 130) [] 0 0 ([]:List UInt8) 0 (At 135) [])],[]⟩ (Bc (by kernel_rfl)) ⟨[],⟨⟨.inl tv,Cv (Ap ⟨tv,tv⟩ rfl tv) rfl⟩,tv⟩,tv,Gl (Ff rfl rfl tv rfl rfl rfl (nl rfl) (qC ⟨[],tv,tv,Ai tv (c_ (Ap ⟨tv,tv⟩ rfl tv) (⟨tv,Gl (Ff rfl rfl tv rfl rfl rfl (nl rfl) (qC ⟨[],tv,tv,Td (Bg ⟨[(1,.ptr 64 0),(2,.ptr 128 0)],[(64,Ah a0.name_ (At 320) r1 a0.Am a0.number a0.Ax a0.Gg (At 512) r3),(128,Ah ([]:List UInt8) (At 130) [] 0 0 ([]:List UInt8) 0 (At 135) [])],[]⟩ (Bc (by kernel_rfl)) (Aj (Ak (st (c_ (v:=.agg (Ah a0.name_ (At 320) r1 a0.Am a0.number a0.Ax a0.Gg (At 512) r3)) (Ap ⟨tv,tv⟩ rfl (nl rfl)) (st (Ff rfl rfl tv rfl rfl rfl (nl rfl) (Br (Bg ⟨[(2,.ptr 128 0)],[(128,Ah a0.name_ (At 320) r1 a0.Am a0.number a0.Ax a0.Gg (At 512) r3)],[]⟩ (Bc (by kernel_rfl)) ?_)))))))))⟩)) Dl⟩))⟩)) Dl⟩)) Dl⟩))⟩)) Dl⟩))⟩))⟩))⟩)))
 obtain rfl:=sj h0
 exact Gj (Co rfl rfl rfl rfl rfl tv)

/- loop.example/g00149/impl.isShort[[]byte] -/
def gM:=[k_ 2 (.bool false)]
def gN:=[m_ 3 0,n_ 4 3,B_ .leq 5 4 65536,m_ 2 5]
def uV:Es:=⟨1,6,[.t 2],sr gM (rr gN)⟩
def qU (D:Bb):Prop:=∀a0 r,wH a0=some r→D 264 ⟨[Gn a0],[]⟩ ⟨.bool r,[],[]⟩
theorem xM:qU (FO C uV):=by
 intro a0 r h0
 refine f0 (Rh 3 [(0,Gn a0)] [] (Aj (Ak (st (Ba rfl tv (zJ rfl (o_ ?_)))))))
 obtain rfl:=sj h0
 exact Wx 4

/- loop.example/g00149/impl.isShort[string] -/
def kP:=[k_ 2 (.bool false)]
def kQ:=[m_ 3 0,iQ 4 (.lenS (.t 3)),B_ .leq 5 4 65536,m_ 2 5]
def vU:Es:=⟨1,6,[.t 2],sr kP (rr kQ)⟩
def rN (D:Bb):Prop:=∀a0 r,wN a0=some r→D 401 ⟨[.str a0],[]⟩ ⟨.bool r,[],[]⟩
theorem yL:rN (FO C vU):=by
 intro a0 r h0
 refine f0 (Aj (Ak (st (Dn tv (Br (Bg ⟨[(0,.str a0)],[],[]⟩ (Bc (by kernel_rfl)) (Aj (Ak (st (Ba rfl tv (st (c_ (Ap ⟨tv,tv⟩ rfl tv) (st (c_ (Ap t3 rfl tv) (st (Ba rfl tv (Br (Bg ⟨[(2,.bool (decide ((a0.length:Int)≤65536)))],[],[]⟩ (Bc (by kernel_rfl)) ?_))))))))))))))))))
 obtain rfl:=sj h0
 exact Gj (Co rfl rfl rfl rfl rfl tv)

/- loop.example/g00149/impl.isAuAct -/
def lW:=[X_ 1 0,k_ 2 (.bool false)]
def lX:List Bq:=[f_ 3 1 4,l_ 4 3 1,q_ 5 401 [.t 4],m_ 6 5,fT 6 7 1 5,lT 6 8 7 1 false,⟨some 9,.call 264 [.t 8],some (6,true)⟩,pa 10 6 9,m_ 2 10]
def vZ:Es:=⟨1,11,[.t 2],sr lW (rr lX)⟩
def rR (D:Bb):Prop:=∀a0 r,tL a0=some r→D 504 ⟨[.agg (Bf a0)],[]⟩ ⟨.bool r,[],[]⟩
theorem yQ (H264:qU C) (H401:rN C):rR (FO C vZ):=by
 intro a0 r h0
 refine f0 (Aj (Ak (st (Nj rfl tv rfl (st (Dn tv (Br (Bg ⟨[(1,.ptr 64 0)],[(64,Bf a0)],[]⟩ (Bc (by kernel_rfl)) (Aj (Ak (st (c_ (Ap ⟨tv,tv⟩ rfl tv) (st (c_ (Ap ⟨tv,tv⟩ rfl (nl rfl)) ?_))))))))))))))
 obtain ⟨r1,e2,h0⟩:=bnd h0
 refine st (Cp (r:=.bool r1) false (H401 a0.Bx r1 e2) ⟨tv,tv⟩ rfl rfl (fun _=>rfl) (st (Ba rfl tv (st (Da (u:=.ptr 64 5) rfl (fun hg=>(Ap ⟨tv,tv⟩ rfl tv)) (st (Da (u:=Gn a0.key) rfl (fun hg=>(Ap ⟨(fun _=>hg),tv⟩ rfl (nl rfl))) ?_)))))))
 obtain ⟨r3,e4,h0⟩:=bnd h0
 refine sw ⟨[(6,.bool r1),(8,.may (r1==true) (Gn a0.key))],[],[]⟩ (Bc (by kernel_rfl)) (Fb (r:=.bool r3) rfl false (fun hg=>H264 a0.key r3 (ip hg e4)) ⟨(fun hg=>hg),tv⟩ (fun _=>rfl) (fun _=>rfl) (fun _=>rfl) (fun h=>nomatch h) (st (Di rfl rfl rfl (fun h=>Ur h) tv rfl (st (Ba rfl tv (Br (Bg ⟨[(2,.bool (bif r1 then r3 else false))],[],[]⟩ (Bc (by kernel_rfl)) ?_)))))))
 obtain rfl:=sj h0
 exact Gj (Co rfl rfl rfl rfl rfl tv)

/- slices.DeleteFunc[[]loop.example/g00149/impl.Issued,loop.example/g00149/impl.Issued] -/
def jA:List Bq:=[⟨some 4,.nilS 4,none⟩]
def jB:=[m_ 8 0,m_ 9 1,q_ 10 371 [.t 8,.t 9],m_ 5 10]
def jC:=[m_ 11 5,B_ .eql 12 11 (-1)]
def jD:=[m_ 13 0,m_ 4 13]
def jE:=[m_ 14 5,B_ .add 15 14 1,m_ 6 15]
def jF:=[m_ 16 6,m_ 17 0,n_ 18 17,b_ .lss 19 16 18]
def jG:=[m_ 22 0,m_ 23 6,x_ 24 22 23 4,L_ 25 24 4,a_ 7 [iV 0,iV 0,.str [],.bool false],s_ 7 25 4]
def jH:List Bq:=[m_ 26 1,L_ 27 7 4,⟨some 28,.callv (.t 26) [.t 27],none⟩,N_ 29 28]
def jI:=[m_ 30 0,m_ 31 5,L_ 32 7 4,x_ 33 30 31 4,s_ 33 32 4]
def jJ:=[m_ 34 5,B_ .add 35 34 1,m_ 5 35]
def bB:=[m_ 20 6,B_ .add 21 20 1,m_ 6 21]
def iZ:IR:=(.seq (sr jF (.ite (.t 19) .skip (.exit 0))) (.seq (.block 1 (sr jG (sr jH (iz 29 (sr jI (.reg jJ)))))) (.reg bB)))
def bC:List Bq:=[m_ 36 0,m_ 37 5,⟨some 38,.p (.slice (.t 36) (some (.t 37)) none 4),none⟩,⟨none,.clear 4 [iV 0,iV 0,.str [],.bool false] (.t 38),none⟩]
def bD:List Bq:=[m_ 39 0,m_ 40 5,⟨some 41,.p (.slice (.t 39) none (some (.t 40)) 4),none⟩,m_ 4 41]
def vM:Es:=⟨2,42,[.t 4],sr jA (sr jB (.seq (sr jC (iz 12 (rr jD))) (.seq (sr jE (sC 0 iZ)) (sr bC (rr bD)))))⟩
def rG (C:Bb) (D:Bb:=C):Prop:=∀(a0:List Ad) (f1:Nat) (k1:List V) (is1:Ad→Option Bool) (hs1:Pk k1) (hf1:∀(x0:Ad) r,is1 x0=some r→C f1 ⟨.agg (Ac x0)::k1,[]⟩ ⟨.bool r,[],[]⟩) (r:(List Ad)),cJ a0 is1=some r→D 348 ⟨[Al 1024000 a0,.clo f1 k1],[]⟩ ⟨Al 0 r,[],[]⟩
theorem yD (H371:fM C):rG C (FO C vM):=by
 intro a0 f1 k1 is1 hs1 hf1 r h0
 refine f0 (Aj (Ak (st (Ol (Br (Bg ⟨[(0,Al 1024000 a0),(1,.clo f1 k1)],[],[]⟩ (fg ⟨rfl,congrArg (fun z=>some z) (Xz hs1),tv⟩ tv) (Aj (Ak (st (Ba rfl tv (st (Ba rfl tv ?_))))))))))))
 obtain ⟨r1,e2,h0⟩:=bnd h0
 refine st (Cp (r:=iV r1) false (H371 a0 f1 k1 is1 hs1 hf1 r1 e2) ⟨tv,tv,tv⟩ rfl (Hi rfl (Hi (Wl hs1) rfl)) (fun _=>rfl) (st (Ba rfl tv (Br (Bg ⟨[(0,Al 1024000 a0),(1,.clo f1 k1),(5,iV r1)],[],[]⟩ (fg ⟨rfl,rfl,rfl,tv⟩ tv) (Aj (Aj (Ak (st (Ba rfl tv (st (c_ (Ap t3 rfl tv) (Br (Bg ⟨[(0,Al 1024000 a0),(1,.clo f1 k1),(5,iV r1),(12,.bool (r1==(-1)))],[],[]⟩ (fg ⟨rfl,rfl,rfl,rfl,tv⟩ tv) (Fs (cb:=(r1==(-1))) rfl (fun c3=>?_) (fun c3=>?_))))))))))))))))
 ·replace h0:=ip c3 h0
  refine Aj (Ak (st (Ba rfl tv (st (Ba rfl tv (Br (Bg ⟨[(4,Al 1024000 a0)],[],[]⟩ (Bc (by kernel_rfl)) ?_)))))))
  obtain rfl:=sj h0
  exact Gj (Co rfl rfl rfl rfl rfl tv)
 ·replace h0:=Ou c3 h0
  refine Rb (Bg ⟨[(0,Al 1024000 a0),(1,.clo f1 k1),(5,iV r1)],[],[]⟩ (fg ⟨rfl,rfl,rfl,tv⟩ tv) (Aj (Aj (Ak (st (Ba rfl tv (st (c_ (Ap t3 rfl tv) (st (Ba rfl tv (Br (Bg ⟨[(0,Al 1024000 a0),(1,.clo f1 k1),(5,iV r1),(6,iV (wi (r1+1)))],[],[]⟩ (fg ⟨rfl,rfl,rfl,rfl,tv⟩ tv) (Fa ?_)))))))))))))
  obtain ⟨r66,e67,h0⟩:=bnd h0
  refine Qk (R:=(fun S=>∃p38:List Ad,∃p39:Int,(p38,p39)=r66∧S=⟨[(0,Al 1024000 p38),(5,iV p39)],[],[]⟩)) (Yd is1) (fun s S=>match s with | (p18,p19,p20)=>S=⟨[(0,Al 1024000 p18),(1,.clo f1 k1),(5,iV p19),(6,iV p20)],[],[]⟩) e67 ⟨[(0,Al 1024000 a0),(1,.clo f1 k1),(5,iV r1),(6,iV (wi (r1+1)))],[],[]⟩ (fg ⟨rfl,rfl,rfl,rfl,tv⟩ tv) rfl 0 (fun _=>rfl) ?_ ?_
  ·rintro S _ hfg ⟨p38,p39,rfl,rfl⟩
   refine Bg ⟨[(0,Al 1024000 p38),(5,iV p39)],[],[]⟩ (Zn hfg (by kernel_rfl)) (Aj (Ak (st (Ba rfl tv (st (Ba rfl tv ?_))))))
   obtain ⟨s68,e69,h0⟩:=bnd h0
   refine st (c_ (Xw (e:=Ac) (y:=s68) rfl rfl tv ⟨tv,tv⟩ rfl rfl e69) (st (clear_ (e:=Ac) (z:=(Ad.mk 0 0 ([]:List UInt8) false)) rfl rfl (Br (Bg ⟨[(0,Al 1024000 (ovl p38 p39.toNat (List.replicate s68.length (Ad.mk 0 0 ([]:List UInt8) false)))),(5,iV p39)],[],[]⟩ (fg ⟨congrArg (fun z=>some ((.own 1024000 0 4 z:V))) Vi,rfl,tv⟩ tv) (Aj (Ak (st (Ba rfl tv (st (Ba rfl tv ?_)))))))))))
   obtain ⟨s70,e71,h0⟩:=bnd h0
   refine st (c_ (Xw (e:=Ac) (y:=s70) rfl rfl tv ⟨tv,tv⟩ rfl rfl e71) (st (Ba rfl tv (Br (Bg ⟨[(4,Al 1024000 s70)],[],[]⟩ (Bc (by kernel_rfl)) ?_)))))
   obtain rfl:=sj h0
   exact Gj (Co rfl rfl rfl rfl rfl tv)
  ·rintro ⟨p18,p19,p20⟩ o1 _ K1 rfl h1 hx1 hK1 hE1 hR1
   refine Aj (Aj (Ak (st (Ba rfl tv (st (Ba rfl tv (st (c_ (Un (e:=Ac) (l0:=p18) rfl rfl tv) (st (c_ (Ap t3 rfl tv) (Br (Bg ⟨[(0,Al 1024000 p18),(1,.clo f1 k1),(5,iV p19),(6,iV p20),(19,.bool (decide (p20<(p18.length:Int))))],[],[]⟩ (fg ⟨rfl,rfl,rfl,rfl,rfl,tv⟩ tv) (Fs (cb:=(decide (p20<(p18.length:Int)))) rfl (fun uH=>?_) (fun uH=>?_))))))))))))))
   ·replace h1:=ip uH h1
    refine Rb (Bg ⟨[(0,Al 1024000 p18),(1,.clo f1 k1),(5,iV p19),(6,iV p20)],[],[]⟩ (fg ⟨rfl,rfl,rfl,rfl,tv⟩ tv) (Aj (aZ (fun S=>∃p52:List Ad,∃p53:Int,S=⟨[(0,Al 1024000 p52),(1,.clo f1 k1),(5,iV p53),(6,iV p20)],[],[]⟩∧Tf p20 p52 p53=some o1) ?_ (fun J54=>?_))))
    ·rintro _ ⟨p52,p53,rfl,h1⟩
     refine Bg ⟨[(0,Al 1024000 p52),(1,.clo f1 k1),(5,iV p53),(6,iV p20)],[],[]⟩ (fg ⟨rfl,rfl,rfl,rfl,tv⟩ tv) (Ak (st (Ba rfl tv (st (c_ (Ap t3 rfl tv) (st (Ba rfl tv (Br ?_))))))))
     obtain rfl:=sj h1
     exact hK1 _ rfl _ ⟨[(0,Al 1024000 p52),(1,.clo f1 k1),(5,iV p53),(6,iV (wi (p20+1)))],[],[]⟩ (fg ⟨rfl,rfl,rfl,rfl,tv⟩ tv) rfl
    ·refine Aj ?_
     refine Ak (st (Ba rfl tv (st (Ba rfl tv ?_))))
     obtain ⟨y55,e56,h1⟩:=bnd h1
     refine st (c_ (Um (e:=Ac) (y:=y55) rfl rfl tv rfl rfl tv e56) ?_)
     obtain ⟨y57,e58,h1⟩:=bnd h1
     refine st (c_ (v:=.agg (Ac y57)) (Hs (e:=Ac) (y:=y57) (v:=.agg (Ac y57)) rfl rfl tv rfl rfl e58 rfl (nl rfl) rfl) (st (Ea (sw ⟨[(0,Al 1024000 p18),(1,.clo f1 k1),(5,iV p19),(6,iV p20),(7,.ptr 448 0),(25,.agg (Ac y57))],[(448,bS 0 0 ([]:List UInt8) false)],[]⟩ (fg ⟨rfl,congrArg (fun z=>some z) (Xz hs1),rfl,rfl,rfl,rfl,tv⟩ ⟨rfl,tv⟩) (Ff rfl rfl tv rfl rfl rfl (nl rfl) (Br (Bg ⟨[(0,Al 1024000 p18),(1,.clo f1 k1),(5,iV p19),(6,iV p20),(7,.ptr 448 0)],[(448,Ac y57)],[]⟩ (fg ⟨rfl,rfl,rfl,rfl,rfl,tv⟩ ⟨rfl,tv⟩) (Aj (Ak (st (Ba rfl tv (st (c_ (v:=.agg (Ac y57)) (Ap ⟨tv,tv⟩ rfl (nl rfl)) ?_)))))))))))))
     obtain ⟨r59,e60,h1⟩:=bnd h1
     refine st (Mh (r:=.bool r59) rfl false (hf1 _ r59 e60) ⟨tv,tv⟩ (Fm rfl hs1.2.2.1) (Hi rfl (hs1.2.1 _ _ _ _ _)) (fun _=>rfl) (st (c_ (Ap ⟨tv,tv⟩ rfl tv) (Br (Bg ⟨[(0,Al 1024000 p18),(1,.clo f1 k1),(5,iV p19),(6,iV p20),(7,.ptr 448 0),(29,.bool (!r59))],[(448,Ac y57)],[]⟩ (fg ⟨rfl,rfl,rfl,rfl,rfl,rfl,tv⟩ ⟨rfl,tv⟩) (Fs (cb:=(!r59)) rfl (fun c61=>?_) (fun c61=>?_)))))))
     ·replace h1:=ip c61 h1
      refine Aj (Ak (st (Ba rfl tv (st (Ba rfl tv (st (c_ (v:=.agg (Ac y57)) (Ap ⟨tv,tv⟩ rfl (nl rfl)) ?_)))))))
      obtain ⟨y62,e63,h1⟩:=bnd h1
      refine st (c_ (Um (e:=Ac) (y:=y62) rfl rfl tv rfl rfl tv e63) ?_)
      obtain ⟨y64,e65,h1⟩:=bnd h1
      refine st (tU (y':=y57) rfl rfl tv rfl rfl rfl rfl e65 (nl rfl) rfl rfl rfl rfl (Br (Bg ⟨[(0,Al 1024000 (p18.set p19.toNat y57)),(1,.clo f1 k1),(5,iV p19),(6,iV p20)],[],[]⟩ (fg ⟨congrArg (fun z=>some ((.own 1024000 0 4 z:V))) Kd,rfl,rfl,rfl,tv⟩ tv) (Ak (st (Ba rfl tv (st (c_ (Ap t3 rfl tv) (st (Ba rfl tv (Br (fO ?_))))))))))))
      exact J54 _ ⟨[(0,Al 1024000 (p18.set p19.toNat y57)),(1,.clo f1 k1),(5,iV (wi (p19+1))),(6,iV p20)],[],[]⟩ (fg ⟨rfl,rfl,rfl,rfl,tv⟩ tv) ⟨_,_,rfl,h1⟩
     ·replace h1:=Ou c61 h1
      refine Rb (fO ?_)
      exact J54 _ ⟨[(0,Al 1024000 p18),(1,.clo f1 k1),(5,iV p19),(6,iV p20)],[],[]⟩ (fg ⟨rfl,rfl,rfl,rfl,tv⟩ tv) ⟨_,_,rfl,h1⟩
   ·replace h1:=Ou uH h1
    obtain rfl:=sj h1
    obtain rfl:=hx1 _ rfl
    refine tH rfl ?_
    exact hE1 _ ⟨[(0,Al 1024000 p18),(5,iV p19)],[],[]⟩ (Bc (by kernel_rfl)) ⟨_,_,rfl,rfl⟩

/- loop.example/g00149/impl.later -/
def sJ:=[i_ 4 0]
def sK:List Bq:=[m_ 5 0,m_ 6 1,⟨some 7,.p (.bin .sub (.c (iV 9223372036854775807)) (.t 6)),none⟩,b_ .gtr 8 5 7]
def sL:=[i_ 4 9223372036854775807]
def sM:=[m_ 9 0,m_ 10 1,b_ .add 11 9 10,m_ 4 11]
def zR:Es:=⟨2,12,[.t 4],sr sJ (.seq (sr sK (iz 8 (rr sL))) (rr sM))⟩
def yW (D:Bb):Prop:=∀a0 a1 r,zD a0 a1=some r→D 54 ⟨[iV a0,iV a1],[]⟩ ⟨iV r,[],[]⟩
theorem AG:yW (FO C zR):=by
 intro a0 a1 r h0
 refine f0 (Rh 11 [(0,iV a0),(1,iV a1),(8,.bool (decide (a0>(wi (9223372036854775807-a1)))))] [] (tQ h0 (fun c1 h0=>?_) (fun c1 h0=>?_)))
 ·obtain rfl:=sj h0
  exact Wx 4
 ·obtain rfl:=sj h0
  exact Wx 9

/- (*loop.example/g00149/impl.Authority).tidy$1 -/
def mV:=[X_ 2 0,k_ 3 (.bool false)]
def mW:=tk [f_ 4 2 1,l_ 5 4 1,f_ 6 1 3,l_ 7 6 1,f_ 9 1 2,l_ 10 9 1] (.alt [l_ 10 9 1,f_ 9 1 2] (q_ 8 54 [.t 5,.t 7]) (tk [b_ .lss 11 8 10,m_ 3 11] .fin) .stop)
def wD:Es:=⟨2,12,[.t 3],sr mV (sd mW .ret)⟩
def rV (D:Bb):Prop:=∀a0 a1 r,Zp a0 a1=some r→D 517 ⟨[.agg (Ac a0),.iptr (Bf a1)],[]⟩ ⟨.bool r,[],[]⟩
theorem yU (H54:yW C):rV (FO C wD):=by
 intro a0 a1 r h0
 refine f0 (Aj (Ak (st (Nj rfl tv rfl (st (Dn tv (Br (Bg ⟨[(1,.iptr (Bf a1)),(2,.ptr 128 0)],[(128,Ac a0)],[]⟩ (Bc (by kernel_rfl)) (Aj ?_)))))))))
 obtain ⟨r1,e2,h0⟩:=bnd h0
 refine Fk (Ai tv (c_ (Ap ⟨tv,tv⟩ rfl tv) (⟨tv,Ai tv (c_ (Ap ⟨tv,tv⟩ rfl (nl rfl)) (⟨tv,Ai tv (c_ (Ap ⟨tv,tv⟩ rfl (nl rfl)) (⟨tv,Ai tv (c_ (Ap ⟨tv,tv⟩ rfl (nl rfl)) (⟨tv,Ai tv (c_ (Ap ⟨tv,tv⟩ rfl (nl rfl)) (⟨tv,Ai tv (c_ (Ap ⟨tv,tv⟩ rfl (nl rfl)) (⟨tv,Gl (Cp (r:=iV r1) false (H54 a0.to_ a1.ttl r1 e2) ⟨tv,tv,tv⟩ rfl rfl (fun _=>rfl) (Wo ⟨[(1,.iptr (Bf a1)),(8,iV r1),(9,.iptr [iV a1.now,iV a1.ttl,.str a1.Bx,Gn a1.key]),(10,iV a1.now)],[],[]⟩ (Bc (by kernel_rfl)) ⟨[],⟨⟨.inl tv,Cv (Ap ⟨tv,tv⟩ rfl (nl rfl)) rfl⟩,⟨.inl tv,Cv (Ap ⟨tv,tv⟩ rfl (nl rfl)) rfl⟩,tv⟩,tv,Ai tv (c_ (Ap t3 rfl tv) (⟨tv,Ai tv (Ba rfl tv (⟨tv,Td (Bg ⟨[(3,.bool (decide (r1<a1.now)))],[],[]⟩ (Bc (by kernel_rfl)) ?_)⟩))⟩))⟩)) Dl⟩))⟩))⟩))⟩))⟩))⟩)))
 obtain rfl:=sj h0
 exact Gj (Co rfl rfl rfl rfl rfl tv)

/- (*loop.example/g00149/impl.Authority).tidy -/
def mO:=[X_ 3 1,a_ 4 [iV 0,iV 0,.own 259 0 1 []]]
def mP:=[f_ 6 3 3,l_ 7 6 1,B_ .lss 8 7 0]
def mQ:List Bq:=[⟨some 9,.p (.build [iV 0,iV 0,.own 579 0 1 []] [(0,1,.c (iV 4))]),none⟩,s_ 4 9 3]
def mR:=[m_ 10 0,iQ 11 (.nilc (.t 10)),f_ 12 11 6,l_ 13 12 1,n_ 14 13,m_ 5 14]
def mS:=[m_ 15 0,m_ 16 0,iQ 17 (.nilc (.t 16)),f_ 18 17 6,l_ 19 18 1,iQ 20 (.fn 517 [.t 3]),q_ 21 348 [.t 19,.t 20],iQ 22 (.nilc (.t 15)),f_ 23 22 6,s_ 23 21 1]
def mU:List Bq:=[m_ 24 5,m_ 25 0,iQ 26 (.nilc (.t 25)),f_ 27 26 6,l_ 28 27 1,n_ 29 28,b_ .sub 30 24 29,⟨some 31,.p (.build [iV 0,iV 0,.own 1987 0 1 []] [(1,1,.t 30)]),none⟩,s_ 4 31 3]
def wC:Es:=⟨2,32,[.cell 4 3 true],sr mO (.seq (sr mP (iz 8 (rr mQ))) (sr mR (sr mS (rr mU))))⟩
def rU (D:Bb):Prop:=∀a0 a1 r,tN a0 a1=some r→D 510 ⟨[.ptr 1048576 0,.agg (Bf a1)],[Aa a0 u_ (At 1024000)]⟩ ⟨.agg (Ao r.1 (At 0)),[Aa r.2 u_ (At 1)],[]⟩
theorem yT (H348:rG C) (H517:rV C):rU (FO C wC):=by
 intro a0 a1 r h0
 refine f0 (Aj (Ak (st (Nj rfl tv rfl (st (Ea (Br (Bg ⟨[(0,.ptr 1048576 0),(3,.ptr 192 0),(4,.ptr 256 0)],[(192,Bf a1),(256,An 0 0 (At 259) []),(1048576,Aa a0 u_ (At 1024000))],[]⟩ (Bc (by kernel_rfl)) (Aj (Aj (Ak (st (c_ (Ap ⟨tv,tv⟩ rfl tv) (st (c_ (Ap ⟨tv,tv⟩ rfl (nl rfl)) (st (c_ (Ap t3 rfl tv) (Br (Bg ⟨[(0,.ptr 1048576 0),(3,.ptr 192 0),(4,.ptr 256 0),(8,.bool (decide (a1.ttl<0)))],[(192,Bf a1),(256,An 0 0 (At 259) []),(1048576,Aa a0 u_ (At 1024000))],[]⟩ (Bc (by kernel_rfl)) (Fs (cb:=(decide (a1.ttl<0))) rfl (fun c1=>?_) (fun c1=>?_)))))))))))))))))))))
 ·replace h0:=ip c1 h0
  refine Aj (Ak (st (c_ (v:=.agg (An 4 0 (At 579) [])) (Ap ⟨tv,tv⟩ rfl ⟨⟨rfl,rfl,nl rfl⟩,tv⟩) (st (Ff rfl rfl tv rfl rfl rfl (nl rfl) (Br (Bg ⟨[(4,.ptr 256 0)],[(256,An 4 0 (At 579) []),(1048576,Aa a0 u_ (At 1024000))],[]⟩ (Bc (by kernel_rfl)) ?_)))))))
  obtain rfl:=sj h0
  exact Gj (Co rfl rfl rfl rfl rfl tv)
 ·replace h0:=Ou c1 h0
  refine Rb (Bg ⟨[(0,.ptr 1048576 0),(3,.ptr 192 0),(4,.ptr 256 0)],[(192,Bf a1),(256,An 0 0 (At 259) []),(1048576,Aa a0 u_ (At 1024000))],[]⟩ (Bc (by kernel_rfl)) (Aj (Ak (st (Ba rfl tv (st (c_ (Ap ⟨tv,tv⟩ rfl tv) (st (c_ (Ap ⟨tv,tv⟩ rfl tv) (st (c_ (Ap ⟨tv,tv⟩ rfl (nl rfl)) (st (c_ (Un (e:=Ac) (l0:=a0.Ag) rfl rfl tv) (st (Ba rfl tv (Br (Bg ⟨[(0,.ptr 1048576 0),(3,.ptr 192 0),(4,.ptr 256 0),(5,iV (a0.Ag.length:Int))],[(192,Bf a1),(256,An 0 0 (At 259) []),(1048576,Aa a0 u_ (At 1024000))],[]⟩ (Bc (by kernel_rfl)) (Aj (Ak (st (Ba rfl tv (st (Ba rfl tv (st (c_ (Ap ⟨tv,tv⟩ rfl tv) (st (c_ (Ap ⟨tv,tv⟩ rfl tv) (st (c_ (Ap ⟨tv,tv⟩ rfl (nl rfl)) (st (c_ (Ap ⟨tv,tv⟩ rfl rfl) ?_)))))))))))))))))))))))))))))))
  obtain ⟨r2,e3,h0⟩:=bnd h0
  refine st (Eh [] [] [1024000] false (H348 a0.Ag 517 [.iptr (Bf a1)] (fun z517_0=>Zp z517_0 a1) (⟨fun _ _ _ _ _=>rfl,fun _ _ _ _ _=>rfl,rfl,fun _ _ _ n=>by cases n<;>rfl,fun _=>rfl⟩) (fun z517_0 r h=>H517 z517_0 a1 r h) r2 e3) ⟨tv,tv,tv⟩ (by kernel_rfl) (by kernel_rfl) (by kernel_rfl) (by kernel_rfl) (fun _=>Fm (Fm (nG (fun _=>rfl)) rfl) rfl) (sw ⟨[(0,.ptr 1048576 0),(4,.ptr 256 0),(5,iV (a0.Ag.length:Int)),(15,.ptr 1048576 0),(21,Al 1344 r2)],[(256,An 0 0 (At 259) []),(1048576,[.str a0.name_,Gn a0.Cn,iV a0.Am,iV a0.number,.str a0.Ax,iV a0.Gg,.undef])],[]⟩ (Bc (by kernel_rfl)) (c_ (Ap ⟨tv,tv⟩ rfl tv) (st (c_ (Ap ⟨tv,tv⟩ rfl tv) (st (Ff rfl rfl tv rfl rfl rfl (nl rfl) (Br (Bg ⟨[(0,.ptr 1048576 0),(4,.ptr 256 0),(5,iV (a0.Ag.length:Int))],[(256,An 0 0 (At 259) []),(1048576,Ah a0.name_ u_ a0.Cn a0.Am a0.number a0.Ax a0.Gg (At 1344) r2)],[]⟩ (Bc (by kernel_rfl)) (Aj (Ak (st (Ba rfl tv (st (Ba rfl tv (st (c_ (Ap ⟨tv,tv⟩ rfl tv) (st (c_ (Ap ⟨tv,tv⟩ rfl tv) (st (c_ (Ap ⟨tv,tv⟩ rfl (nl rfl)) (st (c_ (Un (e:=Ac) (l0:=r2) rfl rfl tv) (st (c_ (Ap t3 rfl tv) (st (c_ (v:=.agg (An 0 (wi ((a0.Ag.length:Int)-(r2.length:Int))) (At 1987) [])) (Ap ⟨tv,tv⟩ rfl ⟨⟨rfl,rfl,nl rfl⟩,tv⟩) (st (Ff rfl rfl tv rfl rfl rfl (nl rfl) (Br (Bg ⟨[(4,.ptr 256 0)],[(256,An 0 (wi ((a0.Ag.length:Int)-(r2.length:Int))) (At 1987) []),(1048576,Ah a0.name_ u_ a0.Cn a0.Am a0.number a0.Ax a0.Gg (At 1344) r2)],[]⟩ (Bc (by kernel_rfl)) ?_)))))))))))))))))))))))))))))))
  obtain rfl:=sj h0
  exact Gj (Co rfl rfl rfl rfl rfl tv)

/- (*loop.example/g00149/impl.Authority).act -/
def lY:=[X_ 3 1,a_ 4 [iV 0,iV 0,.own 259 0 1 []]]
def lZ:=[f_ 5 3 0,l_ 6 5 1]
def mA:=[B_ .eql 8 6 1,m_ 7 8]
def mB:=[m_ 9 0,L_ 10 3 6,q_ 11 507 [.t 9,.t 10],s_ 4 11 3]
def mC:=[B_ .eql 13 6 2,m_ 12 13]
def mD:=[m_ 14 0,f_ 15 3 1,l_ 16 15 1,q_ 17 508 [.t 14,.t 16],s_ 4 17 3]
def mE:=[B_ .eql 19 6 3,m_ 18 19]
def mG:=[m_ 20 0,L_ 21 3 6,q_ 22 509 [.t 20,.t 21],s_ 4 22 3]
def mH:=[B_ .eql 24 6 4,m_ 23 24]
def mI:=[m_ 25 0,L_ 26 3 6,q_ 27 510 [.t 25,.t 26],s_ 4 27 3]
def bM:=[B_ .eql 29 6 5,m_ 28 29]
def bN:=[f_ 30 3 5,l_ 31 30 1,q_ 32 282 [.t 31],N_ 33 32]
def bO:List Bq:=[⟨some 34,.p (.build [iV 0,iV 0,.own 2179 0 1 []] [(0,1,.c (iV 10))]),none⟩,s_ 4 34 3]
def bP:=[m_ 35 0,f_ 36 3 5,l_ 37 36 1,q_ 38 325 [.t 37],iQ 39 (.nilc (.t 35)),f_ 40 39 1,s_ 40 38 1]
def bQ:=[iQ 41 (.build [iV 0,iV 0,.own 2627 0 1 []] []),s_ 4 41 3]
def bR:List Bq:=[⟨some 42,.p (.build [iV 0,iV 0,.own 2691 0 1 []] [(0,1,.c (iV 16))]),none⟩,s_ 4 42 3]
def wA:Es:=⟨2,43,[.cell 4 3 true],sr lY (.seq (sr lZ (.block 0 (sr mA (.ite (.t 7) (rr mB) (sr mC (.ite (.t 12) (rr mD) (sr mE (.ite (.t 18) (rr mG) (sr mH (.ite (.t 23) (rr mI) (sr bM (iz 28 (.seq (sr bN (iz 33 (rr bO))) (sr bP (rr bQ))))))))))))))) (rr bR))⟩
def rS (D:Bb):Prop:=∀a0 a1 r,tM a0 a1=some r→D 505 ⟨[.ptr 1048576 0,.agg (Bf a1)],[Aa a0 u_ (At 1024000)]⟩ ⟨.agg (Ao r.1 (At 0)),[Aa r.2 u_ (At 1)],[]⟩
theorem yR (H282:fJ C) (H325:fL C) (H510:rU C):rS (FO C wA):=by
 intro a0 a1 r h0
 refine f0 (Aj (Ak (st (Nj rfl tv rfl (st (Ea (Br (Bg ⟨[(0,.ptr 1048576 0),(3,.ptr 192 0),(4,.ptr 256 0)],[(192,Bf a1),(256,An 0 0 (At 259) []),(1048576,Aa a0 u_ (At 1024000))],[]⟩ (Bc (by kernel_rfl)) (Aj (Aj (Ak (st (c_ (Ap ⟨tv,tv⟩ rfl tv) (st (c_ (Ap ⟨tv,tv⟩ rfl (nl rfl)) (Br (Bg ⟨[(0,.ptr 1048576 0),(3,.ptr 192 0),(4,.ptr 256 0),(6,iV a1.kind)],[(192,Bf a1),(256,An 0 0 (At 259) []),(1048576,Aa a0 u_ (At 1024000))],[]⟩ (Bc (by kernel_rfl)) (Fa (Aj (Ak (st (c_ (Ap t3 rfl tv) (st (Ba rfl tv (Br (Bg ⟨[(0,.ptr 1048576 0),(3,.ptr 192 0),(4,.ptr 256 0),(6,iV a1.kind),(7,.bool (a1.kind==1))],[(192,Bf a1),(256,An 0 0 (At 259) []),(1048576,Aa a0 u_ (At 1024000))],[]⟩ (Bc (by kernel_rfl)) (Fs (cb:=(a1.kind==1)) rfl (fun c1=>?_) (fun c1=>?_))))))))))))))))))))))))))))
 ·replace h0:=ip c1 h0
  refine Aj (Ak (st (Ba rfl tv (st (c_ (v:=.agg (Bf a1)) (Ap ⟨tv,tv⟩ rfl (nl rfl)) ?_)))))
  cases h0
 ·replace h0:=Ou c1 h0
  refine Aj (Ak (st (c_ (Ap t3 rfl tv) (st (Ba rfl tv (Br (Bg ⟨[(0,.ptr 1048576 0),(3,.ptr 192 0),(4,.ptr 256 0),(6,iV a1.kind),(12,.bool (a1.kind==2))],[(192,Bf a1),(256,An 0 0 (At 259) []),(1048576,Aa a0 u_ (At 1024000))],[]⟩ (Bc (by kernel_rfl)) (Fs (cb:=(a1.kind==2)) rfl (fun c2=>?_) (fun c2=>?_)))))))))
  ·replace h0:=ip c2 h0
   refine Aj (Ak (st (Ba rfl tv (st (c_ (Ap ⟨tv,tv⟩ rfl tv) (st (c_ (Ap ⟨tv,tv⟩ rfl (nl rfl)) ?_)))))))
   cases h0
  ·replace h0:=Ou c2 h0
   refine Aj (Ak (st (c_ (Ap t3 rfl tv) (st (Ba rfl tv (Br (Bg ⟨[(0,.ptr 1048576 0),(3,.ptr 192 0),(4,.ptr 256 0),(6,iV a1.kind),(18,.bool (a1.kind==3))],[(192,Bf a1),(256,An 0 0 (At 259) []),(1048576,Aa a0 u_ (At 1024000))],[]⟩ (Bc (by kernel_rfl)) (Fs (cb:=(a1.kind==3)) rfl (fun c3=>?_) (fun c3=>?_)))))))))
   ·replace h0:=ip c3 h0
    refine Aj (Ak (st (Ba rfl tv (st (c_ (v:=.agg (Bf a1)) (Ap ⟨tv,tv⟩ rfl (nl rfl)) ?_)))))
    cases h0
   ·replace h0:=Ou c3 h0
    refine Aj (Ak (st (c_ (Ap t3 rfl tv) (st (Ba rfl tv (Br (Bg ⟨[(0,.ptr 1048576 0),(3,.ptr 192 0),(4,.ptr 256 0),(6,iV a1.kind),(23,.bool (a1.kind==4))],[(192,Bf a1),(256,An 0 0 (At 259) []),(1048576,Aa a0 u_ (At 1024000))],[]⟩ (Bc (by kernel_rfl)) (Fs (cb:=(a1.kind==4)) rfl (fun c4=>?_) (fun c4=>?_)))))))))
    ·replace h0:=ip c4 h0
     refine Aj (Ak (st (Ba rfl tv (st (c_ (v:=.agg (Bf a1)) (Ap ⟨tv,tv⟩ rfl (nl rfl)) ?_)))))
     obtain ⟨r5,e6,h0⟩:=bnd h0
     refine st (Eh [1048576] [] [1024000] true (H510 a0 a1 r5 e6) ⟨tv,tv,tv⟩ (by kernel_rfl) (by kernel_rfl) (by kernel_rfl) (by kernel_rfl) (fun h=>nomatch h) (sw ⟨[(4,.ptr 256 0),(27,.agg (Ao r5.1 (At 1728)))],[(256,An 0 0 (At 259) []),(1048576,Aa r5.2 u_ (At 1729))],[]⟩ (Bc (by kernel_rfl)) (Ff rfl rfl tv rfl rfl rfl (nl rfl) (Br (Bg ⟨[(4,.ptr 256 0)],[(256,Ao r5.1 (At 1728)),(1048576,Aa r5.2 u_ (At 1729))],[]⟩ (Bc (by kernel_rfl)) ?_)))))
     obtain rfl:=sj h0
     exact Gj (Co rfl rfl rfl rfl rfl tv)
    ·replace h0:=Ou c4 h0
     refine Aj (Ak (st (c_ (Ap t3 rfl tv) (st (Ba rfl tv (Br (Bg ⟨[(0,.ptr 1048576 0),(3,.ptr 192 0),(4,.ptr 256 0),(28,.bool (a1.kind==5))],[(192,Bf a1),(256,An 0 0 (At 259) []),(1048576,Aa a0 u_ (At 1024000))],[]⟩ (Bc (by kernel_rfl)) (Fs (cb:=(a1.kind==5)) rfl (fun c7=>?_) (fun c7=>?_)))))))))
     ·replace h0:=ip c7 h0
      refine Aj (Aj (Ak (st (c_ (Ap ⟨tv,tv⟩ rfl tv) (st (c_ (Ap ⟨tv,tv⟩ rfl (nl rfl)) ?_))))))
      obtain ⟨r8,e9,h0⟩:=bnd h0
      refine st (Cp (r:=.bool r8) false (H282 a1.key r8 e9) ⟨tv,tv⟩ rfl rfl (fun _=>rfl) (st (c_ (Ap ⟨tv,tv⟩ rfl tv) (Br (Bg ⟨[(0,.ptr 1048576 0),(3,.ptr 192 0),(4,.ptr 256 0),(33,.bool (!r8))],[(192,Bf a1),(256,An 0 0 (At 259) []),(1048576,Aa a0 u_ (At 1024000))],[]⟩ (Bc (by kernel_rfl)) (Fs (cb:=(!r8)) rfl (fun c10=>?_) (fun c10=>?_)))))))
      ·replace h0:=ip c10 h0
       refine Aj (Ak (st (c_ (v:=.agg (An 10 0 (At 2179) [])) (Ap ⟨tv,tv⟩ rfl ⟨⟨rfl,rfl,nl rfl⟩,tv⟩) (st (Ff rfl rfl tv rfl rfl rfl (nl rfl) (Br (Bg ⟨[(4,.ptr 256 0)],[(256,An 10 0 (At 2179) []),(1048576,Aa a0 u_ (At 1024000))],[]⟩ (Bc (by kernel_rfl)) ?_)))))))
       obtain rfl:=sj h0
       exact Gj (Co rfl rfl rfl rfl rfl tv)
      ·replace h0:=Ou c10 h0
       refine Rb (Bg ⟨[(0,.ptr 1048576 0),(3,.ptr 192 0),(4,.ptr 256 0)],[(192,Bf a1),(256,An 0 0 (At 259) []),(1048576,Aa a0 u_ (At 1024000))],[]⟩ (Bc (by kernel_rfl)) (Aj (Ak (st (Ba rfl tv (st (c_ (Ap ⟨tv,tv⟩ rfl tv) (st (c_ (Ap ⟨tv,tv⟩ rfl (nl rfl)) ?_)))))))))
       obtain ⟨r11,e12,h0⟩:=bnd h0
       refine st (Cp (r:=Jd 0 r11) false (H325 a1.key r11 e12) ⟨tv,tv⟩ rfl rfl (fun _=>(Fm (nG (fun _=>rfl)) rfl)) (st (c_ (Ap ⟨tv,tv⟩ rfl tv) (st (c_ (Ap ⟨tv,tv⟩ rfl tv) (st (Ff rfl rfl tv rfl rfl rfl (nl rfl) (Br (Bg ⟨[(4,.ptr 256 0)],[(256,An 0 0 (At 259) []),(1048576,Ah a0.name_ (At 2432) r11 a0.Am a0.number a0.Ax a0.Gg (At 1024000) a0.Ag)],[]⟩ (Bc (by kernel_rfl)) (Aj (Ak (st (c_ (v:=.agg (An 0 0 (At 2627) [])) (Ap tv rfl tv) (st (Ff rfl rfl tv rfl rfl rfl (nl rfl) (Br (Bg ⟨[(4,.ptr 256 0)],[(256,An 0 0 (At 2627) []),(1048576,Ah a0.name_ u_ r11 a0.Am a0.number a0.Ax a0.Gg (At 1024000) a0.Ag)],[]⟩ (wG [2432] (by kernel_rfl)) ?_)))))))))))))))))
       obtain rfl:=sj h0
       exact Gj (Co rfl rfl rfl rfl rfl tv)
     ·replace h0:=Ou c7 h0
      refine Rb (fO (Bg ⟨[(4,.ptr 256 0)],[(256,An 0 0 (At 259) []),(1048576,Aa a0 u_ (At 1024000))],[]⟩ (Bc (by kernel_rfl)) (Aj (Ak (st (c_ (v:=.agg (An 16 0 (At 2691) [])) (Ap ⟨tv,tv⟩ rfl ⟨⟨rfl,rfl,nl rfl⟩,tv⟩) (st (Ff rfl rfl tv rfl rfl rfl (nl rfl) (Br (Bg ⟨[(4,.ptr 256 0)],[(256,An 16 0 (At 2691) []),(1048576,Aa a0 u_ (At 1024000))],[]⟩ (Bc (by kernel_rfl)) ?_))))))))))
      obtain rfl:=sj h0
      exact Gj (Co rfl rfl rfl rfl rfl tv)

/- loop.example/g00149/impl.StepAuthority -/
def lE:=[X_ 2 0,X_ 3 1,a_ 4 [.str [],.own 258 0 1 [],iV 0,iV 0,.str [],iV 0,.own 263 0 4 []],a_ 5 [iV 0,iV 0,.own 323 0 1 []],i_ 6 0]
def lG:List Bq:=[L_ 9 2 7,q_ 10 226 [.t 9],N_ 11 10,m_ 12 11,lF 12 13 3 6 true,⟨some 14,.call 504 [.t 13],some (12,false)⟩,pF 12 15 (.un .not (.t 14)),po 16 12 15]
def lH:=[iQ 17 (.build [.str [],.own 1090 0 1 [],iV 0,iV 0,.str [],iV 0,.own 1095 0 4 []] []),iQ 18 (.build [iV 0,iV 0,.own 1155 0 1 []] []),s_ 4 17 7,s_ 5 18 3,i_ 6 1]
def lJ:=[L_ 19 2 7,q_ 20 376 [.t 19],a_ 7 [.str [],.own 450 0 1 [],iV 0,iV 0,.str [],iV 0,.own 455 0 4 []],s_ 7 20 7]
def lK:=[L_ 21 3 6,q_ 22 505 [.t 7,.t 21],a_ 8 [iV 0,iV 0,.own 515 0 1 []],s_ 8 22 3]
def lL:=tk [L_ 23 7 7,L_ 24 8 3] (.alt [L_ 24 8 3] (s_ 4 23 7) (.alt [] (s_ 5 24 3) (tk [i_ 6 0] .fin) .stop) .stop)
def vX:Es:=⟨2,25,[.cell 4 7 true,.cell 5 3 true,.t 6],sr lE (.seq (sr lG (iz 16 (rr lH))) (sr lJ (sr lK (sd lL .ret))))⟩
def rP (D:Bb):Prop:=∀a0 a1 r,oJ a0 a1=some r→D 502 ⟨[.agg (Ae a0),.agg (Bf a1)],[]⟩ ⟨.tup [.agg (Aa r.1 u_ (At 0)),.agg (Ao r.2.1 (At 1)),iV r.2.2],[],[]⟩
theorem yO (H226:qT C) (H376:rM C) (H504:rR C) (H505:rS C):rP (FO C vX):=by
 intro a0 a1 r h0
 refine f0 (Aj (Ak (st (Nj rfl tv rfl (st (Nj rfl tv rfl (st (Ea (st (Ea (st (Dn tv (Br (Bg ⟨[(2,.ptr 128 0),(3,.ptr 192 0),(4,.ptr 256 0),(5,.ptr 320 0)],[(128,Ae a0),(192,Bf a1),(256,Ah ([]:List UInt8) (At 258) [] 0 0 ([]:List UInt8) 0 (At 263) []),(320,An 0 0 (At 323) [])],[]⟩ (Bc (by kernel_rfl)) (Aj (Aj (Ak (st (c_ (v:=.agg (Ae a0)) (Ap ⟨tv,tv⟩ rfl (nl rfl)) ?_)))))))))))))))))))
 obtain ⟨r1,e2,h0⟩:=bnd h0
 refine st (Cp (r:=.bool r1) false (H226 a0 r1 e2) ⟨tv,tv⟩ rfl rfl (fun _=>rfl) (st (c_ (Ap ⟨tv,tv⟩ rfl tv) (st (Ba rfl tv (st (Da (u:=.agg (Bf a1)) rfl (fun hg=>(Ap ⟨tv,tv⟩ rfl (nl rfl))) ?_)))))))
 obtain ⟨r3,e4,h0⟩:=bnd h0
 refine sw ⟨[(2,.ptr 128 0),(3,.ptr 192 0),(4,.ptr 256 0),(5,.ptr 320 0),(12,.bool (!r1)),(13,.may ((!r1)==false) (.agg (Bf a1)))],[(128,Ae a0),(192,Bf a1),(256,Ah ([]:List UInt8) (At 258) [] 0 0 ([]:List UInt8) 0 (At 263) []),(320,An 0 0 (At 323) [])],[]⟩ (Bc (by kernel_rfl)) (Fb (r:=.bool r3) rfl false (fun hg=>H504 a1 r3 (ip hg e4)) ⟨(fun hg=>hg),tv⟩ (fun _=>rfl) (fun _=>rfl) (fun _=>rfl) (fun h=>nomatch h) (st (Da (u:=.bool (!r3)) rfl (fun hg=>(Ap ⟨(fun _=>hg),tv⟩ rfl tv)) (st (Di rfl rfl rfl tv (fun h=>fG h) rfl (Br (Bg ⟨[(2,.ptr 128 0),(3,.ptr 192 0),(4,.ptr 256 0),(5,.ptr 320 0),(16,.bool (bif (!r1) then true else (!r3)))],[(128,Ae a0),(192,Bf a1),(256,Ah ([]:List UInt8) (At 258) [] 0 0 ([]:List UInt8) 0 (At 263) []),(320,An 0 0 (At 323) [])],[]⟩ (Bc (by kernel_rfl)) (Fs (cb:=(bif (!r1) then true else (!r3))) rfl (fun c5=>?_) (fun c5=>?_)))))))))
 ·replace h0:=ip c5 h0
  refine Aj (Ak (st (c_ (v:=.agg (Ah ([]:List UInt8) (At 1090) [] 0 0 ([]:List UInt8) 0 (At 1095) [])) (Ap tv rfl tv) (st (c_ (v:=.agg (An 0 0 (At 1155) [])) (Ap tv rfl tv) (st (Ff rfl rfl tv rfl rfl rfl (nl rfl) (st (Ff rfl rfl tv rfl rfl rfl (nl rfl) (st (Dn tv (Br (Bg ⟨[(4,.ptr 256 0),(5,.ptr 320 0),(6,iV 1)],[(256,Ah ([]:List UInt8) u_ [] 0 0 ([]:List UInt8) 0 (At 1095) []),(320,An 0 0 (At 1155) [])],[]⟩ (wG [1090] (by kernel_rfl)) ?_)))))))))))))
  obtain rfl:=sj h0
  exact Gj (Co rfl rfl rfl rfl rfl tv)
 ·replace h0:=Ou c5 h0
  refine Rb (Bg ⟨[(2,.ptr 128 0),(3,.ptr 192 0),(4,.ptr 256 0),(5,.ptr 320 0)],[(128,Ae a0),(192,Bf a1),(256,Ah ([]:List UInt8) (At 258) [] 0 0 ([]:List UInt8) 0 (At 263) []),(320,An 0 0 (At 323) [])],[]⟩ (Bc (by kernel_rfl)) (Aj (Ak (st (c_ (v:=.agg (Ae a0)) (Ap ⟨tv,tv⟩ rfl (nl rfl)) ?_)))))
  obtain ⟨r6,e7,h0⟩:=bnd h0
  refine st (Cp (r:=.agg (Aa r6 (At 0) (At 1))) false (H376 a0 r6 e7) ⟨tv,tv⟩ rfl rfl (fun _=>(Fm rfl (Fm (nG (fun _=>rfl)) (Fm rfl (Fm rfl (Fm rfl (Fm rfl (Fm (nG (fun _=>rfl)) rfl)))))))) (st (Ea (st (Ff rfl rfl tv rfl rfl rfl (nl rfl) (Br (Bg ⟨[(3,.ptr 192 0),(4,.ptr 256 0),(5,.ptr 320 0),(7,.ptr 448 0)],[(192,Bf a1),(256,Ah ([]:List UInt8) (At 258) [] 0 0 ([]:List UInt8) 0 (At 263) []),(320,An 0 0 (At 323) []),(448,Aa r6 (At 1280) (At 1281))],[]⟩ (Bc (by kernel_rfl)) (Aj (Ak (st (c_ (v:=.agg (Bf a1)) (Ap ⟨tv,tv⟩ rfl (nl rfl)) ?_)))))))))))
  obtain ⟨r8,e9,h0⟩:=bnd h0
  refine st (Eh [448] [] [1281] true (H505 r6 a1 r8 e9) ⟨tv,tv,tv⟩ (by kernel_rfl) (by kernel_rfl) (by kernel_rfl) (by kernel_rfl) (fun h=>nomatch h) (sw ⟨[(4,.ptr 256 0),(5,.ptr 320 0),(7,.ptr 448 0),(22,.agg (Ao r8.1 (At 1408)))],[(256,Ah ([]:List UInt8) (At 258) [] 0 0 ([]:List UInt8) 0 (At 263) []),(320,An 0 0 (At 323) []),(448,Aa r8.2 u_ (At 1409))],[]⟩ (Bc (by kernel_rfl)) (Ea (st (Ff rfl rfl tv rfl rfl rfl (nl rfl) (Br (Bg ⟨[(4,.ptr 256 0),(5,.ptr 320 0),(7,.ptr 448 0),(8,.ptr 512 0)],[(256,Ah ([]:List UInt8) (At 258) [] 0 0 ([]:List UInt8) 0 (At 263) []),(320,An 0 0 (At 323) []),(448,Aa r8.2 u_ (At 1409)),(512,Ao r8.1 (At 1408))],[]⟩ (Bc (by kernel_rfl)) (Aj (Fk (Ai tv (c_ (v:=.agg (Aa r8.2 u_ (At 1409))) (Ap ⟨tv,tv⟩ rfl (nl rfl)) (⟨tv,Ai tv (c_ (v:=.agg (Ao r8.1 (At 1408))) (Ap ⟨tv,tv⟩ rfl (nl rfl)) (⟨tv,Gl (Ff rfl rfl tv rfl rfl rfl (nl rfl) (qC ⟨[],⟨⟨.inl tv,Cv (Ap ⟨tv,tv⟩ rfl (nl rfl)) rfl⟩,tv⟩,tv,Gl (Ff rfl rfl tv rfl rfl rfl (nl rfl) (qC ⟨[],tv,tv,Ai tv (Dn tv (⟨tv,Td (Bg ⟨[(4,.ptr 256 0),(5,.ptr 320 0),(6,iV 0)],[(256,Aa r8.2 u_ (At 1409)),(320,Ao r8.1 (At 1408))],[]⟩ (Bc (by kernel_rfl)) ?_)⟩))⟩)) Dl⟩)) Dl⟩))⟩))))))))))))
  obtain rfl:=sj h0
  exact Gj (Co rfl rfl rfl rfl rfl tv)

/- loop.example/g00149/laws.FnTidy -/
def kS:=[k_ 4 (.bool false)]
def kT:=[m_ 13 0,n_ 14 13,B_ .gtr 15 14 1048576,m_ 16 15,mF 16 17 1,pF 16 18 (.len (.t 17)),pF 16 19 (.bin .gtr (.t 18) (.c (iV 1048576))),po 20 16 19]
def kU:=[k_ 4 (.bool true)]
def kV:=[m_ 21 0,q_ 22 501 [.t 21],a_ 5 [.str [],.own 322 0 1 [],iV 0,iV 0,.str [],iV 0,.own 327 0 4 []],s_ 5 22 7]
def kW:List Bq:=[m_ 23 1,q_ 24 40 [.t 23,.c (iV 0),.c (iV 300)],⟨some 25,.p (.bin .add (.c (iV 1000)) (.t 24)),none⟩,m_ 6 25]
def kX:=[m_ 26 1,q_ 27 40 [.t 26,.c (iV 1),.c (iV 50)],m_ 7 27]
def kY:List Bq:=[L_ 29 5 7,m_ 30 6,m_ 31 7,⟨some 32,.p (.build [iV 0,iV 0,iV 0,iV 0,.str [],.own 2054 0 1 []] [(0,1,.c (iV 4)),(2,1,.t 30),(3,1,.t 31)]),none⟩,q_ 33 502 [.t 29,.t 32],m_ 28 33,e_ 34 28 0,e_ 35 28 1,e_ 36 28 2,a_ 8 [.str [],.own 514 0 1 [],iV 0,iV 0,.str [],iV 0,.own 519 0 4 []],a_ 9 [iV 0,iV 0,.own 579 0 1 []],s_ 8 34 7,s_ 9 35 3,m_ 10 36]
def kZ:=[m_ 37 10,B_ .neq 38 37 0,m_ 39 38,fF 39 40 9 0,lF 39 41 40 1 false,pF 39 42 (.bin .neq (.t 41) (.c (iV 0))),po 43 39 42,m_ 44 43,fF 44 45 8 2,lF 44 46 45 1 false,fF 44 47 5 2,lF 44 48 47 1 false,pF 44 49 (.bin .neq (.t 46) (.t 48)),po 50 44 49,m_ 51 50,fF 51 52 8 3,lF 51 53 52 1 false,fF 51 54 5 3,lF 51 55 54 1 false,pF 51 56 (.bin .neq (.t 53) (.t 55)),po 57 51 56]
def lA:=[k_ 4 (.bool false)]
def lB:=[i_ 11 0]
def bE:=[i_ 12 0]
def bF:=[m_ 58 12,f_ 59 5 6,l_ 60 59 1,n_ 61 60,b_ .lss 62 58 61]
def bG:=[f_ 65 5 6,l_ 66 65 1,m_ 67 12,x_ 68 66 67 4,f_ 69 68 1,l_ 70 69 1,m_ 71 7,b_ .add 72 70 71,m_ 73 6,b_ .lss 74 72 73]
def bH:=tk [m_ 75 11,f_ 76 8 6,l_ 77 76 1,n_ 78 77,b_ .geq 79 75 78,m_ 80 79,fF 80 81 8 6,lF 80 82 81 1 false,mF 80 83 11,xF 80 84 82 83 4,lF 80 85 84 4 true,fF 80 86 5 6,lF 80 87 86 1 false,mF 80 88 12,xF 80 89 87 88 4,lF 80 90 89 4 true,pF 80 91 (.eqs true [0,0,2,1] (.t 85) (.t 90)),po 92 80 91] .fin
def bI:=[k_ 4 (.bool false)]
def bJ:=[m_ 93 11,B_ .add 94 93 1,m_ 11 94]
def bK:=[m_ 63 12,B_ .add 64 63 1,m_ 12 64]
def kR:IR:=(.seq (sr bF (.ite (.t 62) .skip (.exit 0))) (.seq (.block 1 (.seq (sr bG (iz 74 (.exit 1))) (.seq (sd bH (iz 92 (rr bI))) (.reg bJ)))) (.reg bK)))
def bL:=[m_ 95 11,f_ 96 8 6,l_ 97 96 1,n_ 98 97,b_ .eql 99 95 98,m_ 100 99,fT 100 101 9 1,lT 100 102 101 1 false,fT 100 103 5 6,lT 100 104 103 1 false,pT 100 105 (.len (.t 104)),mT 100 106 11,pT 100 107 (.bin .sub (.t 105) (.t 106)),pT 100 108 (.bin .eql (.t 102) (.t 107)),pa 109 100 108,m_ 4 109]
def vV:Es:=⟨2,110,[.t 4],sr kS (.seq (sr kT (iz 20 (rr kU))) (sr kV (sr kW (sr kX (sr kY (.seq (sr kZ (iz 57 (rr lA))) (sr lB (.seq (sr bE (sC 0 kR)) (rr bL)))))))))⟩
def uN (D:Bb):Prop:=∀a0 a1 r,tK a0 a1=some r→D 500 ⟨[Gn a0,Gn a1],[]⟩ ⟨.bool r,[],[]⟩
theorem yM (H40:yV C) (H501:rO C) (H502:rP C):uN (FO C vV):=by
 intro a0 a1 r h0
 refine f0 (Aj (Ak (st (Dn tv (Br (Bg ⟨[(0,Gn a0),(1,Gn a1)],[],[]⟩ (Bc (by kernel_rfl)) (Aj (Aj (Ak (st (Ba rfl tv (st (c_ (Hm (e:=Iy) (l0:=a0) rfl rfl tv) (st (c_ (Ap t3 rfl tv) (st (Ba rfl tv (st (Da (u:=Gn a1) rfl (fun hg=>(Zi (v:=Gn a1) rfl tv)) (st (Da (u:=iV (a1.length:Int)) rfl (fun hg=>(Hm (e:=Iy) (l0:=a1) rfl rfl (fun _=>hg))) (st (Da (u:=.bool (decide ((a1.length:Int)>1048576))) rfl (fun hg=>(Ap ⟨(fun _=>hg),tv,tv⟩ rfl tv)) (st (Di rfl rfl rfl tv (fun h=>fG h) rfl (Br ?_))))))))))))))))))))))))))
 obtain ⟨v1,e2,h0⟩:=bl h0
 refine Bg ⟨[(0,Gn a0),(1,Gn a1),(20,.bool v1)],[],[]⟩ (Bc (by subst e2; kernel_rfl)) (Fs (cb:=v1) rfl (fun c3=>?_) (fun c3=>?_))
 ·replace h0:=ip c3 h0
  refine Aj (Ak (st (Dn tv (Br (Bg ⟨[(4,.bool true)],[],[]⟩ (Bc (by kernel_rfl)) ?_)))))
  obtain rfl:=sj h0
  exact Gj (Co rfl rfl rfl rfl rfl tv)
 ·replace h0:=Ou c3 h0
  refine Rb (Bg ⟨[(0,Gn a0),(1,Gn a1)],[],[]⟩ (Bc (by kernel_rfl)) (Aj (Ak (st (Ba rfl tv ?_)))))
  obtain ⟨r4,e5,h0⟩:=bnd h0
  refine st (Cp (r:=.agg (Aa r4 (At 0) (At 1))) false (H501 a0 r4 e5) ⟨tv,tv⟩ rfl rfl (fun _=>(Fm rfl (Fm (nG (fun _=>rfl)) (Fm rfl (Fm rfl (Fm rfl (Fm rfl (Fm (nG (fun _=>rfl)) rfl)))))))) (st (Ea (st (Ff rfl rfl tv rfl rfl rfl (nl rfl) (Br (Bg ⟨[(1,Gn a1),(5,.ptr 320 0)],[(320,Aa r4 (At 1408) (At 1409))],[]⟩ (Bc (by kernel_rfl)) (Aj (Ak (st (Ba rfl tv ?_)))))))))))
  obtain ⟨r6,e7,h0⟩:=bnd h0
  refine st (Cp (r:=iV r6) false (H40 a1 0 300 r6 e7) ⟨tv,tv,tv,tv⟩ rfl rfl (fun _=>rfl) (st (c_ (Ap t3 rfl tv) (st (Ba rfl tv (Br (Bg ⟨[(1,Gn a1),(5,.ptr 320 0),(6,iV (wi (1000+r6)))],[(320,Aa r4 (At 1408) (At 1409))],[]⟩ (Bc (by kernel_rfl)) (Aj (Ak (st (Ba rfl tv ?_)))))))))))
  obtain ⟨r8,e9,h0⟩:=bnd h0
  refine st (Cp (r:=iV r8) false (H40 a1 1 50 r8 e9) ⟨tv,tv,tv,tv⟩ rfl rfl (fun _=>rfl) (st (Ba rfl tv (Br (Bg ⟨[(5,.ptr 320 0),(6,iV (wi (1000+r6))),(7,iV r8)],[(320,Aa r4 (At 1408) (At 1409))],[]⟩ (Bc (by kernel_rfl)) (Aj (Ak (st (c_ (v:=.agg (Aa r4 (At 1408) (At 1409))) (Ap ⟨tv,tv⟩ rfl (nl rfl)) (st (Ba rfl tv (st (Ba rfl tv (st (c_ (v:=.agg (mX 4 0 (wi (1000+r6)) r8 ([]:List UInt8) (At 2054) [])) (Ap ⟨tv,tv,tv,tv⟩ rfl ⟨⟨rfl,rfl,nl rfl⟩,⟨rfl,rfl,nl rfl⟩,⟨rfl,rfl,nl rfl⟩,tv⟩) ?_)))))))))))))))
  obtain ⟨r10,e11,h0⟩:=bnd h0
  refine st (Cp (r:=.tup [.agg (Aa r10.1 u_ (At 0)),.agg (Ao r10.2.1 (At 1)),iV r10.2.2]) true (H502 r4 (Fl.mk 4 0 (wi (1000+r6)) r8 ([]:List UInt8) ([]:List UInt8)) r10 e11) ⟨tv,tv,tv⟩ rfl rfl (fun h=>nomatch h) (sw ⟨[(5,.ptr 320 0),(6,iV (wi (1000+r6))),(7,iV r8),(33,.tup [.agg (Aa r10.1 u_ (At 2112)),.agg (Ao r10.2.1 (At 2113)),iV r10.2.2])],[(320,Ae r4)],[]⟩ (Bc (by kernel_rfl)) (Ba rfl tv (st (c_ (Ap ⟨tv,tv⟩ rfl tv) (st (c_ (Ap ⟨tv,tv⟩ rfl tv) (st (c_ (Ap ⟨tv,tv⟩ rfl tv) (st (Ea (st (Ea (st (Ff rfl rfl tv rfl rfl rfl (nl rfl) (st (Ff rfl rfl tv rfl rfl rfl (nl rfl) (sw ⟨[(5,.ptr 320 0),(6,iV (wi (1000+r6))),(7,iV r8),(8,.ptr 512 0),(9,.ptr 576 0),(36,iV r10.2.2)],[(320,Ae r4),(512,Aa r10.1 u_ (At 2112)),(576,Ao r10.2.1 (At 2113))],[]⟩ (Bc (by kernel_rfl)) (Ba rfl tv (Br (Bg ⟨[(5,.ptr 320 0),(6,iV (wi (1000+r6))),(7,iV r8),(8,.ptr 512 0),(9,.ptr 576 0),(10,iV r10.2.2)],[(320,Ae r4),(512,Aa r10.1 u_ (At 2112)),(576,Ao r10.2.1 (At 2113))],[]⟩ (Bc (by kernel_rfl)) (Aj (Aj (Ak (st (Ba rfl tv (st (c_ (Ap t3 rfl tv) (st (Ba rfl tv (st (Da (u:=.ptr 576 0) rfl (fun hg=>(Ap ⟨tv,tv⟩ rfl tv)) (st (Da (u:=iV r10.2.1.code_) rfl (fun hg=>(Ap ⟨(fun _=>hg),tv⟩ rfl (nl rfl))) (st (Da (u:=.bool (r10.2.1.code_ != 0)) rfl (fun hg=>(Ap ⟨(fun _=>hg),tv,tv⟩ rfl tv)) (st (Di rfl rfl rfl tv (fun h=>fG h) rfl (st (Ba rfl tv (st (Da (u:=.ptr 512 2) rfl (fun hg=>(Ap ⟨tv,tv⟩ rfl tv)) (st (Da (u:=iV r10.1.Am) rfl (fun hg=>(Ap ⟨(fun _=>hg),tv⟩ rfl (nl rfl))) (st (Da (u:=.ptr 320 2) rfl (fun hg=>(Ap ⟨tv,tv⟩ rfl tv)) (st (Da (u:=iV r4.Am) rfl (fun hg=>(Ap ⟨(fun _=>hg),tv⟩ rfl (nl rfl))) (st (Da (u:=.bool (r10.1.Am != r4.Am)) rfl (fun hg=>(Ap ⟨(fun _=>hg),(fun _=>hg),tv⟩ rfl tv)) (st (Di rfl rfl rfl tv (fun h=>fG h) rfl (st (Ba rfl tv (sw ⟨[(5,.ptr 320 0),(6,iV (wi (1000+r6))),(7,iV r8),(8,.ptr 512 0),(9,.ptr 576 0),(51,.bool (bif (bif (r10.2.2 != 0) then true else (r10.2.1.code_ != 0)) then true else (r10.1.Am != r4.Am)))],[(320,Ae r4),(512,Aa r10.1 u_ (At 2112)),(576,Ao r10.2.1 (At 2113))],[]⟩ (Bc (by kernel_rfl)) (Da (u:=.ptr 512 3) rfl (fun hg=>(Ap ⟨tv,tv⟩ rfl tv)) ?_))))))))))))))))))))))))))))))))))))))))))))))))))))))))
  refine st (Da (u:=iV r10.1.number) rfl (fun hg=>(Ap ⟨(fun _=>hg),tv⟩ rfl (nl rfl))) (st (Da (u:=.ptr 320 3) rfl (fun hg=>(Ap ⟨tv,tv⟩ rfl tv)) (st (Da (u:=iV r4.number) rfl (fun hg=>(Ap ⟨(fun _=>hg),tv⟩ rfl (nl rfl))) (st (Da (u:=.bool (r10.1.number != r4.number)) rfl (fun hg=>(Ap ⟨(fun _=>hg),(fun _=>hg),tv⟩ rfl tv)) (st (Di rfl rfl rfl tv (fun h=>fG h) rfl (Br ?_))))))))))
  obtain ⟨v12,e13,h0⟩:=bl h0
  refine Bg ⟨[(5,.ptr 320 0),(6,iV (wi (1000+r6))),(7,iV r8),(8,.ptr 512 0),(9,.ptr 576 0),(57,.bool v12)],[(320,Ae r4),(512,Aa r10.1 u_ (At 2112)),(576,Ao r10.2.1 (At 2113))],[]⟩ (Bc (by subst e13; kernel_rfl)) (Fs (cb:=v12) rfl (fun c14=>?_) (fun c14=>?_))
  ·replace h0:=ip c14 h0
   refine Aj (Ak (st (Dn tv (Br (Bg ⟨[(4,.bool false)],[],[]⟩ (Bc (by kernel_rfl)) ?_)))))
   obtain rfl:=sj h0
   exact Gj (Co rfl rfl rfl rfl rfl tv)
  ·replace h0:=Ou c14 h0
   refine Rb (Bg ⟨[(5,.ptr 320 0),(6,iV (wi (1000+r6))),(7,iV r8),(8,.ptr 512 0),(9,.ptr 576 0)],[(320,Ae r4),(512,Aa r10.1 u_ (At 2112)),(576,Ao r10.2.1 (At 2113))],[]⟩ (Bc (by kernel_rfl)) (Aj (Ak (st (Dn tv (Br (Bg ⟨[(5,.ptr 320 0),(6,iV (wi (1000+r6))),(7,iV r8),(8,.ptr 512 0),(9,.ptr 576 0),(11,iV 0)],[(320,Ae r4),(512,Aa r10.1 u_ (At 2112)),(576,Ao r10.2.1 (At 2113))],[]⟩ (Bc (by kernel_rfl)) (Aj (Aj (Ak (st (Dn tv (Br (Bg ⟨[(5,.ptr 320 0),(6,iV (wi (1000+r6))),(7,iV r8),(8,.ptr 512 0),(9,.ptr 576 0),(11,iV 0),(12,iV 0)],[(320,Ae r4),(512,Aa r10.1 u_ (At 2112)),(576,Ao r10.2.1 (At 2113))],[]⟩ (Bc (by kernel_rfl)) (Fa ?_)))))))))))))))
   obtain ⟨r83,e84,h0⟩:=bnd h0
   refine Qk (R:=(fun S=>∃p51:Int,.inl p51=r83∧S=⟨[(5,.ptr 320 0),(8,.ptr 512 0),(9,.ptr 576 0),(11,iV p51)],[(320,Ae r4),(512,Aa r10.1 u_ (At 2112)),(576,Ao r10.2.1 (At 2113))],[]⟩)) (Kp r4 r6 r8 r10) (fun s S=>match s with | (p31,p32)=>S=⟨[(5,.ptr 320 0),(6,iV (wi (1000+r6))),(7,iV r8),(8,.ptr 512 0),(9,.ptr 576 0),(11,iV p31),(12,iV p32)],[(320,Ae r4),(512,Aa r10.1 u_ (At 2112)),(576,Ao r10.2.1 (At 2113))],[]⟩) e84 ⟨[(5,.ptr 320 0),(6,iV (wi (1000+r6))),(7,iV r8),(8,.ptr 512 0),(9,.ptr 576 0),(11,iV 0),(12,iV 0)],[(320,Ae r4),(512,Aa r10.1 u_ (At 2112)),(576,Ao r10.2.1 (At 2113))],[]⟩ (Bc (by kernel_rfl)) rfl 0 (fun _=>rfl) ?_ ?_
   ·rintro S _ hfg ⟨p51,rfl,rfl⟩
    refine Bg ⟨[(5,.ptr 320 0),(8,.ptr 512 0),(9,.ptr 576 0),(11,iV p51)],[(320,Ae r4),(512,Aa r10.1 u_ (At 2112)),(576,Ao r10.2.1 (At 2113))],[]⟩ (Zn hfg (by kernel_rfl)) (Aj (Ak (st (Ba rfl tv (st (c_ (Ap ⟨tv,tv⟩ rfl tv) (st (c_ (Ap ⟨tv,tv⟩ rfl (nl rfl)) (st (c_ (Un (e:=Ac) (l0:=r10.1.Ag) rfl rfl tv) (st (c_ (Ap t3 rfl tv) (st (Ba rfl tv (st (Da (u:=.ptr 576 1) rfl (fun hg=>(Ap ⟨tv,tv⟩ rfl tv)) (st (Da (u:=iV r10.2.1.number) rfl (fun hg=>(Ap ⟨(fun _=>hg),tv⟩ rfl (nl rfl))) (st (Da (u:=.ptr 320 6) rfl (fun hg=>(Ap ⟨tv,tv⟩ rfl tv)) (st (Da (u:=Av r4.Ag) rfl (fun hg=>(Ap ⟨(fun _=>hg),tv⟩ rfl (nl rfl))) (st (Da (u:=iV (r4.Ag.length:Int)) rfl (fun hg=>(Hm (e:=Ac) (l0:=r4.Ag) rfl rfl (fun _=>hg))) (st (Da (u:=iV p51) rfl (fun hg=>(Zi (v:=iV p51) rfl tv)) (st (Da (u:=iV (wi ((r4.Ag.length:Int)-p51))) rfl (fun hg=>(Ap ⟨(fun _=>hg),(fun _=>hg),tv⟩ rfl tv)) (st (Da (u:=.bool (r10.2.1.number==(wi ((r4.Ag.length:Int)-p51)))) rfl (fun hg=>(Ap ⟨(fun _=>hg),(fun _=>hg),tv⟩ rfl tv)) (st (Di rfl rfl rfl (fun h=>Ur h) tv rfl (sw ⟨[(109,.bool (bif (p51==(r10.1.Ag.length:Int)) then (r10.2.1.number==(wi ((r4.Ag.length:Int)-p51))) else false))],[],[]⟩ (Bc (by kernel_rfl)) (Ba rfl tv (Br ?_)))))))))))))))))))))))))))))))))))
    obtain ⟨v85,e86,h0⟩:=bl h0
    refine Bg ⟨[(4,.bool v85)],[],[]⟩ (Bc (by subst e86; kernel_rfl)) ?_
    obtain rfl:=sj h0
    exact Gj (Co rfl rfl rfl rfl rfl tv)
   ·rintro ⟨p31,p32⟩ o1 _ K1 rfl h1 hx1 hK1 hE1 hR1
    refine Aj (Aj (Ak (st (Ba rfl tv (st (c_ (Ap ⟨tv,tv⟩ rfl tv) (st (c_ (Ap ⟨tv,tv⟩ rfl (nl rfl)) (st (c_ (Hm (e:=Ac) (l0:=r4.Ag) rfl rfl tv) (st (c_ (Ap t3 rfl tv) (Br (Bg ⟨[(5,.ptr 320 0),(6,iV (wi (1000+r6))),(7,iV r8),(8,.ptr 512 0),(9,.ptr 576 0),(11,iV p31),(12,iV p32),(62,.bool (decide (p32<(r4.Ag.length:Int))))],[(320,Ae r4),(512,Aa r10.1 u_ (At 2112)),(576,Ao r10.2.1 (At 2113))],[]⟩ (Bc (by kernel_rfl)) (Fs (cb:=(decide (p32<(r4.Ag.length:Int)))) rfl (fun c52=>?_) (fun c52=>?_))))))))))))))))
    ·replace h1:=ip c52 h1
     refine Rb (Bg ⟨[(5,.ptr 320 0),(6,iV (wi (1000+r6))),(7,iV r8),(8,.ptr 512 0),(9,.ptr 576 0),(11,iV p31),(12,iV p32)],[(320,Ae r4),(512,Aa r10.1 u_ (At 2112)),(576,Ao r10.2.1 (At 2113))],[]⟩ (Bc (by kernel_rfl)) (Aj (aZ (fun S=>∃p67:Int,S=⟨[(5,.ptr 320 0),(6,iV (wi (1000+r6))),(7,iV r8),(8,.ptr 512 0),(9,.ptr 576 0),(11,iV p67),(12,iV p32)],[(320,Ae r4),(512,Aa r10.1 u_ (At 2112)),(576,Ao r10.2.1 (At 2113))],[]⟩∧Ml p32 p67=some o1) ?_ (fun J68=>?_))))
     ·rintro _ ⟨p67,rfl,h1⟩
      refine Bg ⟨[(5,.ptr 320 0),(6,iV (wi (1000+r6))),(7,iV r8),(8,.ptr 512 0),(9,.ptr 576 0),(11,iV p67),(12,iV p32)],[(320,Ae r4),(512,Aa r10.1 u_ (At 2112)),(576,Ao r10.2.1 (At 2113))],[]⟩ (Bc (by kernel_rfl)) (Ak (st (Ba rfl tv (st (c_ (Ap t3 rfl tv) (st (Ba rfl tv (Br ?_))))))))
      obtain rfl:=sj h1
      exact hK1 _ rfl _ ⟨[(5,.ptr 320 0),(6,iV (wi (1000+r6))),(7,iV r8),(8,.ptr 512 0),(9,.ptr 576 0),(11,iV p67),(12,iV (wi (p32+1)))],[(320,Ae r4),(512,Aa r10.1 u_ (At 2112)),(576,Ao r10.2.1 (At 2113))],[]⟩ (Bc (by kernel_rfl)) rfl
     ·refine Aj ?_
      refine Aj (Ak (st (c_ (Ap ⟨tv,tv⟩ rfl tv) (st (c_ (Ap ⟨tv,tv⟩ rfl (nl rfl)) (st (Ba rfl tv ?_)))))))
      obtain ⟨y69,e70,h1⟩:=bnd h1
      refine st (c_ (Nz (e:=Ac) (y:=y69) rfl rfl tv rfl rfl tv e70) (st (c_ (Ap ⟨tv,tv⟩ rfl (nl rfl)) (st (c_ (Ap ⟨tv,tv⟩ rfl (nl rfl)) (st (Ba rfl tv (st (c_ (Ap t3 rfl tv) (st (Ba rfl tv (st (c_ (Ap t3 rfl tv) (Br ?_))))))))))))))
      obtain ⟨v71,e72,h1⟩:=bl h1
      refine Bg ⟨[(5,.ptr 320 0),(6,iV (wi (1000+r6))),(7,iV r8),(8,.ptr 512 0),(9,.ptr 576 0),(11,iV p31),(12,iV p32),(74,.bool v71)],[(320,Ae r4),(512,Aa r10.1 u_ (At 2112)),(576,Ao r10.2.1 (At 2113))],[]⟩ (Bc (by subst e72; kernel_rfl)) (Fs (cb:=v71) rfl (fun c73=>?_) (fun c73=>?_))
      ·replace h1:=ip c73 h1
       refine AN rfl ?_
       exact J68 _ ⟨[(5,.ptr 320 0),(6,iV (wi (1000+r6))),(7,iV r8),(8,.ptr 512 0),(9,.ptr 576 0),(11,iV p31),(12,iV p32)],[(320,Ae r4),(512,Aa r10.1 u_ (At 2112)),(576,Ao r10.2.1 (At 2113))],[]⟩ (Bc (by kernel_rfl)) ⟨_,rfl,h1⟩
      ·replace h1:=Ou c73 h1
       refine Rb (Bg ⟨[(5,.ptr 320 0),(6,iV (wi (1000+r6))),(7,iV r8),(8,.ptr 512 0),(9,.ptr 576 0),(11,iV p31),(12,iV p32)],[(320,Ae r4),(512,Aa r10.1 u_ (At 2112)),(576,Ao r10.2.1 (At 2113))],[]⟩ (Bc (by kernel_rfl)) (Aj (Aj ?_)))
       obtain ⟨y74,e75,h1⟩:=bnd h1
       obtain ⟨y76,e77,h1⟩:=bnd h1
       obtain ⟨y78,e79,h1⟩:=bnd h1
       refine Fk (Ai tv (Ba rfl tv (⟨tv,Ai tv (c_ (Ap ⟨tv,tv⟩ rfl tv) (⟨tv,Ai tv (c_ (Ap ⟨tv,tv⟩ rfl (nl rfl)) (⟨tv,Ai tv (c_ (Un (e:=Ac) (l0:=r10.1.Ag) rfl rfl tv) (⟨tv,Ai tv (c_ (Ap t3 rfl tv) (⟨tv,Ai tv (Ba rfl tv (⟨tv,Ai tv (Da (u:=.ptr 512 6) rfl (fun hg=>(Ap ⟨tv,tv⟩ rfl tv)) (⟨tv,Ai tv (Da (u:=Al 2112 r10.1.Ag) rfl (fun hg=>(Ap ⟨(fun _=>hg),tv⟩ rfl (nl rfl))) (⟨tv,Ai tv (Da (u:=iV p31) rfl (fun hg=>(Zi (v:=iV p31) rfl tv)) (⟨tv,Ai tv (Da (u:=.optr 2112 4 (0+p31.toNat) 0) rfl (fun hg=>(Um (e:=Ac) (y:=y74) rfl rfl (fun _=>hg) rfl rfl (fun _=>hg) (ip hg e75))) (⟨tv,tD (Da (u:=.agg (Ac y76)) rfl (fun hg=>(Hs (e:=Ac) (y:=y76) (v:=.agg (Ac y76)) rfl rfl (fun _=>hg) rfl rfl (ip hg e77) rfl (nl rfl) rfl)) (⟨⟨Gx (v:=.agg (Ac y76)) rfl (fun hg=>(Hs (e:=Ac) (y:=y76) (v:=.agg (Ac y76)) rfl rfl (fun _=>hg) rfl rfl (ip hg e77) rfl (nl rfl) rfl)) rfl,tv⟩,Ai tv (Da (u:=.ptr 320 6) rfl (fun hg=>(Ap ⟨tv,tv⟩ rfl tv)) (⟨⟨Gx (v:=.agg (Ac y76)) rfl (fun hg=>(Hs (e:=Ac) (y:=y76) (v:=.agg (Ac y76)) rfl rfl (fun _=>hg) rfl rfl (ip hg e77) rfl (nl rfl) rfl)) rfl,tv⟩,Ai tv (Da (u:=Av r4.Ag) rfl (fun hg=>(Ap ⟨(fun _=>hg),tv⟩ rfl (nl rfl))) (⟨⟨Gx (v:=.agg (Ac y76)) rfl (fun hg=>(Hs (e:=Ac) (y:=y76) (v:=.agg (Ac y76)) rfl rfl (fun _=>hg) rfl rfl (ip hg e77) rfl (nl rfl) rfl)) rfl,tv⟩,Ai tv (Da (u:=iV p32) rfl (fun hg=>(Zi (v:=iV p32) rfl tv)) (⟨⟨Gx (v:=.agg (Ac y76)) rfl (fun hg=>(Hs (e:=Ac) (y:=y76) (v:=.agg (Ac y76)) rfl rfl (fun _=>hg) rfl rfl (ip hg e77) rfl (nl rfl) rfl)) rfl,tv⟩,Ai tv (Da (u:=.iptr (Ac y78)) rfl (fun hg=>(Nz (e:=Ac) (y:=y78) rfl rfl (fun _=>hg) rfl rfl (fun _=>hg) (ip hg e79))) (⟨⟨Gx (v:=.agg (Ac y76)) rfl (fun hg=>(Hs (e:=Ac) (y:=y76) (v:=.agg (Ac y76)) rfl rfl (fun _=>hg) rfl rfl (ip hg e77) rfl (nl rfl) rfl)) rfl,tv⟩,?_⟩))⟩))⟩))⟩))⟩))⟩))⟩))⟩))⟩))⟩))⟩))⟩))⟩))⟩))⟩)))
       refine Ai tv (Da (u:=.agg (Ac y78)) rfl (fun hg=>(Ap ⟨(fun _=>hg),tv⟩ rfl (nl rfl))) (⟨⟨Gx (v:=.agg (Ac y76)) rfl (fun hg=>(Hs (e:=Ac) (y:=y76) (v:=.agg (Ac y76)) rfl rfl (fun _=>hg) rfl rfl (ip hg e77) rfl (nl rfl) rfl)) rfl,tv⟩,Ai tv (Da (u:=.bool (!((y76.Am==y78.Am)&&((y76.to_==y78.to_)&&((y76.Bx==y78.Bx)&&((y76.Kv==y78.Kv)&&true)))))) rfl (fun hg=>(Ap ⟨(fun _=>hg),(fun _=>hg),tv⟩ rfl tv)) (⟨⟨Gx (v:=.agg (Ac y76)) rfl (fun hg=>(Hs (e:=Ac) (y:=y76) (v:=.agg (Ac y76)) rfl rfl (fun _=>hg) rfl rfl (ip hg e77) rfl (nl rfl) rfl)) rfl,tv⟩,Ai tv (Di rfl rfl rfl tv (fun h=>fG h) rfl (⟨⟨Gx (v:=.agg (Ac y76)) rfl (fun hg=>(Hs (e:=Ac) (y:=y76) (v:=.agg (Ac y76)) rfl rfl (fun _=>hg) rfl rfl (ip hg e77) rfl (nl rfl) rfl)) rfl,tv⟩,Td ?_⟩))⟩))⟩))
       obtain ⟨v80,e81,h1⟩:=bl h1
       refine Bg ⟨[(5,.ptr 320 0),(6,iV (wi (1000+r6))),(7,iV r8),(8,.ptr 512 0),(9,.ptr 576 0),(11,iV p31),(12,iV p32),(92,.bool v80)],[(320,Ae r4),(512,Aa r10.1 u_ (At 2112)),(576,Ao r10.2.1 (At 2113))],[]⟩ (Bc (by subst e81; kernel_rfl)) (Fs (cb:=v80) rfl (fun c82=>?_) (fun c82=>?_))
       ·replace h1:=ip c82 h1
        refine Aj (Ak (st (Dn tv (Br (Bg ⟨[(4,.bool false)],[],[]⟩ (Bc (by kernel_rfl)) ?_)))))
        obtain rfl:=sj h1
        obtain rfl:=hx1 _ rfl
        obtain rfl:=sj h0
        exact Gj (hR1 _ (Co rfl rfl rfl rfl rfl tv))
       ·replace h1:=Ou c82 h1
        refine Rb (Bg ⟨[(5,.ptr 320 0),(6,iV (wi (1000+r6))),(7,iV r8),(8,.ptr 512 0),(9,.ptr 576 0),(11,iV p31),(12,iV p32)],[(320,Ae r4),(512,Aa r10.1 u_ (At 2112)),(576,Ao r10.2.1 (At 2113))],[]⟩ (Bc (by kernel_rfl)) (Ak (st (Ba rfl tv (st (c_ (Ap t3 rfl tv) (st (Ba rfl tv (Br (fO ?_))))))))))
        exact J68 _ ⟨[(5,.ptr 320 0),(6,iV (wi (1000+r6))),(7,iV r8),(8,.ptr 512 0),(9,.ptr 576 0),(11,iV (wi (p31+1))),(12,iV p32)],[(320,Ae r4),(512,Aa r10.1 u_ (At 2112)),(576,Ao r10.2.1 (At 2113))],[]⟩ (Bc (by kernel_rfl)) ⟨_,rfl,h1⟩
    ·replace h1:=Ou c52 h1
     obtain rfl:=sj h1
     obtain rfl:=hx1 _ rfl
     refine tH rfl ?_
     exact hE1 _ ⟨[(5,.ptr 320 0),(8,.ptr 512 0),(9,.ptr 576 0),(11,iV p31)],[(320,Ae r4),(512,Aa r10.1 u_ (At 2112)),(576,Ao r10.2.1 (At 2113))],[]⟩ (Bc (by kernel_rfl)) ⟨_,rfl,rfl⟩
end Go.Ev
