/- The walks of functions: the code comes to the answers that QgD tells. Written by a program of ours. -/
import Derived.Test.YtdmclbbhhcpjfaaQgD
set_option linter.all false
set_option maxHeartbeats 4000000
set_option linter.unusedVariables false
set_option maxRecDepth 100000
namespace Go.Ev
variable {C:Av}
theorem sj {α:Type} {a b:α} (h:some a=some b):a=b:=Option.some.inj h
abbrev wi:Int→Int:=IntKind.i64.wrap
theorem tv:True:=True.intro
abbrev iQ (n:Nat) (o:PU):Bg:=⟨some n,.p o,none⟩
abbrev iV (n:Int):V:=.int .i64 n
theorem nl {a b:Nat} (h:Nat.ble a b=true):a≤b:=Nat.le_of_ble_eq_true h
theorem t3:True∧True∧True:=⟨trivial,trivial,trivial⟩
abbrev m_ (d s:Nat):Bg:=⟨some d,.p (.mv (.t s)),none⟩
abbrev k_ (d:Nat) (v:V):Bg:=⟨some d,.p (.mv (.c v)),none⟩
abbrev i_ (d:Nat) (n:Int):Bg:=⟨some d,.p (.mv (.c (.int .i64 n))),none⟩
abbrev f_ (d x o:Nat):Bg:=⟨some d,.p (.fieldA (.t x) o),none⟩
abbrev l_ (d x n:Nat):Bg:=⟨some d,.p (.load (.t x) n false),none⟩
abbrev L_ (d x n:Nat):Bg:=⟨some d,.p (.load (.t x) n true),none⟩
abbrev x_ (d x y n:Nat):Bg:=⟨some d,.p (.idxA (.t x) (.t y) n),none⟩
abbrev e_ (d x n:Nat):Bg:=⟨some d,.p (.ext (.t x) n),none⟩
abbrev b_ (o:BinOp) (d x y:Nat):Bg:=⟨some d,.p (.bin o (.t x) (.t y)),none⟩
abbrev B_ (o:BinOp) (d x:Nat) (n:Int):Bg:=⟨some d,.p (.bin o (.t x) (.c (.int .i64 n))),none⟩
abbrev n_ (d x:Nat):Bg:=⟨some d,.p (.len (.t x)),none⟩
abbrev N_ (d x:Nat):Bg:=⟨some d,.p (.un .not (.t x)),none⟩
abbrev s_ (x y n:Nat):Bg:=⟨none,.store (.t x) (.t y) n,none⟩
abbrev a_ (d:Nat) (z:List V):Bg:=⟨some d,.alloc z,none⟩
abbrev X_ (d x:Nat):Bg:=⟨some d,.box (.t x),none⟩
abbrev q_ (d f:Nat) (l:List As):Bg:=⟨some d,.call f l,none⟩
abbrev pk (d:Nat) (a b c:As):Bg:=⟨some d,.pick a b c,none⟩
abbrev pT (g d:Nat) (o:PU):Bg:=⟨some d,.p o,some (g,true)⟩
abbrev pF (g d:Nat) (o:PU):Bg:=⟨some d,.p o,some (g,false)⟩
abbrev zV (a b c:Nat):List V:=[.int .i64 0,.int .i64 0,.own a 0 4 [],.own b 0 2 [],.own c 0 1 [],.bool false]
abbrev zT (a:Nat):List V:=[.int .i64 0,.int .i64 0,.own a 0 4 []]
abbrev mT (g d s:Nat):Bg:=⟨some d,.p (.mv (.t s)),some (g,true)⟩
abbrev mF (g d s:Nat):Bg:=⟨some d,.p (.mv (.t s)),some (g,false)⟩
abbrev lT (g d x n:Nat) (a:Bool):Bg:=⟨some d,.p (.load (.t x) n a),some (g,true)⟩
abbrev lF (g d x n:Nat) (a:Bool):Bg:=⟨some d,.p (.load (.t x) n a),some (g,false)⟩
abbrev fT (g d x n:Nat):Bg:=⟨some d,.p (.fieldA (.t x) n),some (g,true)⟩
abbrev fF (g d x n:Nat):Bg:=⟨some d,.p (.fieldA (.t x) n),some (g,false)⟩
abbrev xT (g d x y n:Nat):Bg:=⟨some d,.p (.idxA (.t x) (.t y) n),some (g,true)⟩
abbrev xF (g d x y n:Nat):Bg:=⟨some d,.p (.idxA (.t x) (.t y) n),some (g,false)⟩
abbrev pa (d a b:Nat):Bg:=⟨some d,.pick (.t a) (.t b) (.c (.bool false)),none⟩
abbrev po (d a b:Nat):Bg:=⟨some d,.pick (.t a) (.c (.bool true)) (.t b),none⟩
abbrev sr (l:List Bg) (b:IR):IR:=.seq (.reg l) b
abbrev sd (p:DP) (b:IR):IR:=.seq (.draw p) b
abbrev rr (l:List Bg):IR:=.seq (.reg l) .ret
abbrev iz (n:Nat) (a:IR):IR:=.ite (.t n) a .skip
abbrev No (n:Nat) (a:IR):IR:=.block n (.loop a)
def tk:List Bg→DP→DP
  | [],p=>p
  | i::l,p=>.take i (tk l p)
abbrev FO (C:Av) (c:Er):Av:=fun _=>cP C c
theorem f0 {C:Av} {fn:Er} {args:List V} {bx:List (List V)} {t:De} (h:WL C [.c fn.body] (FQ fn.res bx.length t) .normal ⟨Mi args 0,Mj bx Am,[]⟩) (h0:Nat.ble args.length fn.nt=true:=by kernel_rfl):cP C fn ⟨args,bx⟩ t:=OZ (Nat.le_of_ble_eq_true h0) h
abbrev Cf (t k:Nat) (l:List (List V)):V:=.own t 0 k l
abbrev u_ (k:Nat) (l:List (List V)):V:=.lst k l
abbrev lB (l:List Bool):V:=.lst 1 (l.map eB)
abbrev Ai (l:List Af):V:=.lst 4 (l.map Ap)
abbrev Al (l:List Ac):V:=.lst 2 (l.map Ao)
abbrev lI (l:List Int):V:=.lst 1 (l.map eI)
abbrev Em (l:List UInt8):V:=.lst 1 (l.map Im)
abbrev oB (t:Nat) (l:List Bool):V:=.own t 0 1 (l.map eB)
abbrev Ay (t:Nat) (l:List Af):V:=.own t 0 4 (l.map Ap)
abbrev Ab (t:Nat) (l:List Ac):V:=.own t 0 2 (l.map Ao)
abbrev oI (t:Nat) (l:List Int):V:=.own t 0 1 (l.map eI)
abbrev Au (t:Nat) (l:List UInt8):V:=.own t 0 1 (l.map Im)
abbrev Ak (x:Ae) (w0:Nat→List (List V)→V) (w1:Nat→List (List V)→V):List V:=[w0 1 (x.held.map Im),w1 2 (x.Aa.map Ao)]
abbrev Nq (x0:Int) (x1:Int) (w2:Nat→List (List V)→V) (x2:List UInt8) (w3:Nat→List (List V)→V) (x3:List Bool):List V:=[iV x0,iV x1,w2 1 (x2.map Im),w3 1 (x3.map eB)]
abbrev kJ (x:Af) (w2:Nat→List (List V)→V) (w3:Nat→List (List V)→V):List V:=[iV x.kind,iV x.at_,w2 1 (x.data.map Im),w3 1 (x.keep.map eB)]

/- loop.example/g00149/laws.eqIntS -/
def GB:=[k_ 4 (.bool false)]
def GC:=[m_ 6 0,n_ 7 6,m_ 8 1,n_ 9 8,b_ .neq 10 7 9]
def GD:=[k_ 4 (.bool false)]
def GE:=[i_ 5 0]
def GF:=[m_ 11 5,m_ 12 0,n_ 13 12,b_ .lss 14 11 13]
def GG:=tk [m_ 17 0,m_ 18 5,x_ 19 17 18 1,l_ 20 19 1,m_ 21 1,m_ 22 5,x_ 23 21 22 1,l_ 24 23 1,b_ .neq 25 20 24] .fin
def GH:=[k_ 4 (.bool false)]
def GI:=[m_ 15 5,B_ .add 16 15 1,m_ 5 16]
def GA:IR:=(.seq (sr GF (.ite (.t 14) .skip (.exit 0))) (.seq (.block 1 (sd GG (iz 25 (rr GH)))) (.reg GI)))
def GJ:=[k_ 4 (.bool true)]
def LO:Er:=⟨2,26,[.t 4],sr GB (.seq (sr GC (iz 10 (rr GD))) (.seq (sr GE (No 0 GA)) (rr GJ)))⟩
def NQ (D:Av):Prop:=∀a0 a1 r,IM a0 a1=some r→D 36 ⟨[lI a0,lI a1],[]⟩ ⟨.bool r,[],[]⟩
theorem OS:NQ (FO C LO):=by
 intro a0 a1 r h0
 refine f0 (At 3 [(0,lI a0),(1,lI a1)] [] (Bb 3 (Aj (Gr rfl (st (Ce rfl tv (Gr rfl (o_ (At 2 [(0,lI a0),(1,lI a1),(10,.bool ((a0.length:Int) != (a1.length:Int)))] [] (Cv h0 (fun c1 h0=>?_) (fun c1 h0=>?_)))))))))))
 ·obtain rfl:=sj h0
  exact Dt 4
 ·refine At 6 [(0,lI a0),(1,lI a1),(5,iV 0)] [] (Bp (bb h0 fun r22 e23 h0=>Cw (R:=(fun S=>.inl ()=r22∧S=⟨[],[],[]⟩)) (Sz a0 a1) (fun s S=>match s with | p8=>S=⟨[(0,lI a0),(1,lI a1),(5,iV p8)],[],[]⟩) e23 _ (Fz (by kernel_rfl)) rfl 0 (fun _=>rfl) ?_ ?_))
  ·rintro S _ hfg ⟨rfl,rfl⟩
   refine Fs _ hfg ?_
   obtain rfl:=sj h0
   exact Dt 4
  ·rintro p8 o1 _ K1 rfl h1 hx1 hK1 hE1 hR1
   refine Bb 4 (Aj (Gr rfl (o_ (At 2 [(0,lI a0),(1,lI a1),(5,iV p8),(14,.bool (decide (p8<(a0.length:Int))))] [] (Cv h1 (fun c16 h1=>?_) (fun c16 h1=>?_))))))
   ·refine aD 5 (bb h1 fun y17 e18 h1=>bb h1 fun y19 e20 h1=>Bb 2 (Cr (d_ (eP rfl rfl rfl e18 (Bb 3 (Cr (d_ (eP rfl rfl rfl e20 (At 3 [(0,lI a0),(1,lI a1),(5,iV p8),(25,.bool (y17 != y19))] [] (Cv h1 (fun c21 h1=>?_) (fun c21 h1=>?_)))))))))))
    ·obtain rfl:=sj h1
     obtain rfl:=hx1 _ rfl
     obtain rfl:=sj h0
     exact lK 4 hR1
    ·refine Bb 7 ?_
     obtain rfl:=sj h1
     exact kn hK1 rfl rfl
   ·obtain rfl:=sj h1
    obtain rfl:=hx1 _ rfl
    refine Nt rfl ?_
    exact jn hE1 ⟨rfl,rfl⟩

/- loop.example/g00149/laws.markIntS -/
def GL:=[i_ 4 0]
def GM:=[i_ 5 0]
def GN:=[m_ 6 5,m_ 7 0,n_ 8 7,b_ .lss 9 6 8]
def GO:=[m_ 12 0,m_ 13 5,m_ 14 1,x_ 15 12 13 1,s_ 15 14 1]
def GP:=[m_ 16 1,B_ .add 17 16 1,m_ 1 17]
def GQ:=[m_ 10 5,B_ .add 11 10 1,m_ 5 11]
def GK:IR:=(.seq (sr GN (.ite (.t 9) .skip (.exit 0))) (.seq (.block 1 (sr GO (.reg GP))) (.reg GQ)))
def GR:=[m_ 18 1,m_ 4 18]
def IK:Er:=⟨2,19,[.t 4],sr GL (.seq (sr GM (No 0 GK)) (rr GR))⟩
def NS (D:Av):Prop:=∀a0 a1 r,LS a0 a1=some r→D 37 ⟨[oI 2097152 a0,iV a1],[]⟩ ⟨iV r.1,[],[(0,1,r.2.map eI)]⟩
theorem OT:NS (FO C IK):=by
 intro a0 a1 r h0
 refine f0 (At 8 [(0,oI 2097152 a0),(1,iV a1),(5,iV 0)] [] (Bp (bb h0 fun r24 e25 h0=>Cw (R:=(fun S=>∃p17:List Int,∃p18:Int,(p17,p18)=r24∧S=⟨[(0,oI 2097152 p17),(1,iV p18)],[],[]⟩)) (Ta) (fun s S=>match s with | (p6,p7,p8)=>S=⟨[(0,oI 2097152 p6),(1,iV p7),(5,iV p8)],[],[]⟩) e25 _ (Fz (by kernel_rfl)) rfl 0 (fun _=>rfl) ?_ ?_)))
 ·rintro S _ hfg ⟨p17,p18,rfl,rfl⟩
  refine Fs _ hfg (At 4 [(0,oI 2097152 p17),(4,iV p18)] [] ?_)
  obtain rfl:=sj h0
  exact Wa (Iv rfl rfl rfl rfl rfl ⟨⟨rfl,Zz (fun _=>rfl)⟩,tv⟩)
 ·rintro ⟨p6,p7,p8⟩ o1 _ K1 rfl h1 hx1 hK1 hE1 hR1
  refine Bb 4 (Aj (eX rfl (o_ (At 2 [(0,oI 2097152 p6),(1,iV p7),(5,iV p8),(9,.bool (decide (p8<(p6.length:Int))))] [] (Cv h1 (fun c19 h1=>?_) (fun c19 h1=>?_))))))
  ·refine Bb 8 (Aj (bb h1 fun y20 e21 h1=>eZ rfl rfl e21 (bb h1 fun y22 e23 h1=>LI p7 rfl rfl e23 (o_ (At 7 [(0,oI 2097152 (p6.set p8.toNat p7)),(1,iV (wi (p7+1))),(5,iV p8)] [] (Bb 4 ?_))))))
   obtain rfl:=sj h1
   exact kn hK1 rfl rfl
  ·obtain rfl:=sj h1
   obtain rfl:=hx1 _ rfl
   refine Nt rfl ?_
   exact jn hE1 ⟨_,_,rfl,rfl⟩

/- loop.example/g00149/laws.heldIntS -/
def GT:=[i_ 4 0]
def GU:=[i_ 5 0]
def GV:=[m_ 6 5,m_ 7 0,n_ 8 7,b_ .lss 9 6 8]
def GW:=[m_ 12 0,m_ 13 5,x_ 14 12 13 1,l_ 15 14 1,m_ 16 1,b_ .neq 17 15 16]
def GX:=[i_ 4 (-1)]
def GY:=[m_ 18 1,B_ .add 19 18 1,m_ 1 19]
def GZ:=[m_ 10 5,B_ .add 11 10 1,m_ 5 11]
def GS:IR:=(.seq (sr GV (.ite (.t 9) .skip (.exit 0))) (.seq (.block 1 (.seq (sr GW (iz 17 (rr GX))) (.reg GY))) (.reg GZ)))
def HA:=[m_ 20 1,m_ 4 20]
def OM:Er:=⟨2,21,[.t 4],sr GT (.seq (sr GU (No 0 GS)) (rr HA))⟩
def NT (D:Av):Prop:=∀a0 a1 r,KV a0 a1=some r→D 38 ⟨[lI a0,iV a1],[]⟩ ⟨iV r,[],[]⟩
theorem OU:NT (FO C OM):=by
 intro a0 a1 r h0
 refine f0 (At 8 [(0,lI a0),(1,iV a1),(5,iV 0)] [] (Bp (bb h0 fun r18 e19 h0=>Cw (R:=(fun S=>∃p13:Int,.inl p13=r18∧S=⟨[(1,iV p13)],[],[]⟩)) (Qb a0) (fun s S=>match s with | (p5,p6)=>S=⟨[(0,lI a0),(1,iV p5),(5,iV p6)],[],[]⟩) e19 _ (Fz (by kernel_rfl)) rfl 0 (fun _=>rfl) ?_ ?_)))
 ·rintro S _ hfg ⟨p13,rfl,rfl⟩
  refine Fs _ hfg ?_
  obtain rfl:=sj h0
  exact Dt 5
 ·rintro ⟨p5,p6⟩ o1 _ K1 rfl h1 hx1 hK1 hE1 hR1
  refine Bb 4 (Aj (Gr rfl (o_ (At 2 [(0,lI a0),(1,iV p5),(5,iV p6),(9,.bool (decide (p6<(a0.length:Int))))] [] (Cv h1 (fun c14 h1=>?_) (fun c14 h1=>?_))))))
  ·refine Bb 8 (Aj (bb h1 fun y15 e16 h1=>aO rfl rfl e16 (o_ (At 4 [(0,lI a0),(1,iV p5),(5,iV p6),(17,.bool (y15 != p5))] [] (Cv h1 (fun c17 h1=>?_) (fun c17 h1=>?_))))))
   ·obtain rfl:=sj h1
    obtain rfl:=hx1 _ rfl
    obtain rfl:=sj h0
    exact lK 4 hR1
   ·refine At 7 [(0,lI a0),(1,iV (wi (p5+1))),(5,iV p6)] [] (Bb 4 ?_)
    obtain rfl:=sj h1
    exact kn hK1 rfl rfl
  ·obtain rfl:=sj h1
   obtain rfl:=hx1 _ rfl
   refine Nt rfl ?_
   exact jn hE1 ⟨_,rfl,rfl⟩

/- loop.example/g00149/impl.isList[loop.example/g00149/impl.Sector] -/
def tA:=[k_ 2 (.bool false)]
def tB:=[m_ 3 0,n_ 4 3,B_ .leq 5 4 4096,m_ 2 5]
def JS:Er:=⟨1,6,[.t 2],sr tA (rr tB)⟩
def EY (D:Av):Prop:=∀a0 r,HI a0=some r→D 269 ⟨[Al a0],[]⟩ ⟨.bool r,[],[]⟩
theorem MO:EY (FO C JS):=by
 intro a0 r h0
 refine f0 (At 3 [(0,Al a0)] [] (Bu (Aj (st (Ce rfl tv (Gr rfl (o_ ?_)))))))
 obtain rfl:=sj h0
 exact Dt 4

/- loop.example/g00149/impl.within -/
def HB:=[k_ 6 (.bool false)]
def HC:=[m_ 7 1,m_ 8 0,b_ .leq 9 7 8,m_ 10 9,mT 10 11 0,mT 10 12 2,pT 10 13 (.bin .leq (.t 11) (.t 12)),pa 14 10 13,m_ 6 14]
def ON:Er:=⟨3,15,[.t 6],sr HB (rr HC)⟩
def NU (D:Av):Prop:=∀a0 a1 a2 r,LT a0 a1 a2=some r→D 63 ⟨[iV a0,iV a1,iV a2],[]⟩ ⟨.bool r,[],[]⟩
theorem OV:NU (FO C ON):=by
 intro a0 a1 a2 r h0
 refine f0 (At 3 [(0,iV a0),(1,iV a1),(2,iV a2)] [] (KX 9 (Aj (o_ ?_))))
 obtain rfl:=sj h0
 exact Dt 3

/- loop.example/g00149/impl.isRoom -/
def yB:=[k_ 4 (.bool false)]
def yC:=[m_ 5 0,q_ 6 63 [.t 5,.c (iV 0),.c (iV 4096)],m_ 7 6,mT 7 8 0,mT 7 9 1,pT 7 10 (.bin .add (.t 8) (.t 9)),pT 7 11 (.bin .leq (.t 10) (.c (iV 4096))),pa 12 7 11,m_ 4 12]
def KJ:Er:=⟨2,13,[.t 4],sr yB (rr yC)⟩
def FL (D:Av):Prop:=∀a0 a1 r,CE a0 a1=some r→D 327 ⟨[iV a0,iV a1],[]⟩ ⟨.bool r,[],[]⟩
theorem NH (H63:NU C):FL (FO C KJ):=by
 intro a0 a1 r h0
 refine f0 (At 3 [(0,iV a0),(1,iV a1)] [] (Bu (Aj (st (Ce rfl tv (bb h0 fun r1 e2 h0=>Rv (H63 a0 0 4096 r1 e2) (o_ (KX 8 (bv h0 fun v3 e4 h0=>Fs ⟨[(4,.bool v3)],[],[]⟩ (Fz (by subst e4; kernel_rfl)) ?_)))))))))
 obtain rfl:=sj h0
 exact Wa (Iv rfl rfl rfl rfl rfl tv)

/- slices.Clone[[]byte,byte] -/
def xQ:List Bg:=[⟨some 2,.nilS 1,none⟩]
def xR:List Bg:=[m_ 3 0,⟨some 4,.isnil (.t 3) false,none⟩]
def xS:List Bg:=[⟨some 2,.nilS 1,none⟩]
def xU:List Bg:=[⟨some 5,.mkS 1 [.int .u8 0] 0 [],none⟩,m_ 6 0,⟨some 7,.app 1 1 (.t 5) (.t 6),none⟩,m_ 2 7]
def KH:Er:=⟨1,8,[.t 2],sr xQ (.seq (sr xR (iz 4 (rr xS))) (rr xU))⟩
def cQ (D:Av):Prop:=∀a0 r,Ya a0=some r→D 325 ⟨[Em a0],[]⟩ ⟨Au 0 r,[],[]⟩
theorem NE:cQ (FO C KH):=by
 intro a0 r h0
 refine f0 ?_
 obtain ⟨hc,h0⟩:=OB h0
 obtain rfl:=sj h0
 refine At 3 [(0,Em a0)] [] (Bb 3 (Aj (st (HP (e:=Im) (l0:=a0) rfl fun b hb=>(Pa (eY (HQ (cb:=b) rfl (fun h=>?_) (fun h=>?_))))))))
 ·obtain rfl:=hb h
  refine Bu (Aj (st (bX (Pa (eY ?_)))))
  refine Wa (Iv rfl rfl rfl rfl rfl tv)
 ·refine aH ?_
  refine At 0 [(0,Em a0)] [] (Bb 3 (Aj (st (Ms (e:=Im) (l0:=([]:List UInt8)) (l1:=a0) rfl rfl tv rfl (by decide) ?_ ?_))))
  rotate_left
  refine st (Ce rfl tv (Pa (eY ?_)))
  refine Wa (Iv rfl rfl rfl rfl rfl tv)
  have:=Nat.mul_le_mul_right 1 hc
  exact Nat.le_trans this (by decide)

/- loop.example/g00149/impl.put -/
def xV:List Bg:=[X_ 3 1,⟨some 4,.nilS 1,none⟩]
def xW:List Bg:=[f_ 6 3 0,l_ 7 6 1,B_ .add 8 7 1,⟨some 9,.p (.bin .mul (.c (iV 32)) (.t 8)),none⟩,m_ 5 9]
def xX:=[m_ 10 0,n_ 11 10,m_ 12 5,b_ .lss 13 11 12]
def xY:List Bg:=[m_ 14 0,m_ 15 5,m_ 16 0,n_ 17 16,b_ .sub 18 15 17,⟨some 19,.appz 1 1 [.int .u8 0] (.t 14) (.t 18),none⟩,m_ 0 19]
def xZ:=tk [m_ 20 0,f_ 21 3 0,l_ 22 21 1,⟨some 23,.p (.bin .mul (.c (iV 32)) (.t 22)),none⟩,⟨some 24,.p (.slice (.t 20) (some (.t 23)) none 1),none⟩,f_ 25 3 1,l_ 26 25 1] (.alt [] ⟨some 27,.copy 1 (.t 24) (.t 26),none⟩ .fin .stop)
def yA:=[m_ 28 0,m_ 4 28]
def KI:Er:=⟨2,29,[.t 4],sr xV (.seq (sr xW (sr xX (iz 13 (.reg xY)))) (sd xZ (rr yA)))⟩
def nD (D:Av):Prop:=∀a0 a1 r,jZ a0 a1=some r→D 326 ⟨[Au 1024000 a0,.agg (Ao a1)],[]⟩ ⟨Au 0 r,[],[]⟩
theorem NG:nD (FO C KI):=by
 intro a0 a1 r h0
 refine f0 (At 13 [(0,Au 1024000 a0),(3,.ptr 192 0),(5,iV (wi (32*(wi (a1.at_+1)))))] [(192,Ao a1)] (Bu (Aj (st (Ce rfl tv (eX rfl (o_ (Bb 3 (bv h0 fun v1 e2 h0=>Fs ⟨[(0,Au 1024000 a0),(3,.ptr 192 0),(5,iV (wi (32*(wi (a1.at_+1))))),(13,.bool v1)],[(192,Ao a1)],[]⟩ (Fz (by subst e2; kernel_rfl)) (LA (cb:=v1) (fun S=>∃p6:List UInt8,S=⟨[(0,Au 1024000 p6),(3,.ptr 192 0)],[(192,Ao a1)],[]⟩∧Oi a1 p6=some r) rfl ?_ (fun c12 J11=>?_) (fun c12 J11=>?_)))))))))))
 ·rintro _ ⟨p6,rfl,h0⟩
  refine aD 2 (bb h0 fun s7 e8 h0=>Bb 4 (Cr (Ck tv (c_ (Jd (e:=Im) (y:=s7) rfl rfl tv ⟨tv,tv⟩ rfl rfl e8) (⟨tv,d_ (Bb 2 (Cr (Do (copy_ (e:=Im) (l1:=a1.data) rfl rfl tv rfl (d0 tv (dC (Fs ⟨[(0,Au 1024000 (ovl p6 ((wi (32*a1.at_)).toNat) (a1.data.take s7.length)))],[],[]⟩ (fg ⟨congrArg (fun z=>some ((.own 1024000 0 1 z:V))) Ib,tv⟩ tv) (Bb 4 (bv h0 fun v9 e10 h0=>Fs ⟨[(4,Au 1024000 v9)],[],[]⟩ (Fz (by subst e10; kernel_rfl)) ?_)))))) Cd)))⟩)))))
  obtain rfl:=sj h0
  exact Wa (Iv rfl rfl rfl rfl rfl tv)
 ·replace h0:=ip c12 h0
  refine Bb 3 (Aj (eX rfl (st (c_ (Bx t3 rfl tv) (gg h0 fun c13 h0=>gg h0 fun c14 h0=>st (fJ (e:=Im) (l0:=a0) (0:UInt8) rfl rfl rfl (by decide) c13 c14 (st (Ce rfl tv (Pa ?_)))))))))
  exact jn J11 ⟨_,rfl,h0⟩
 ·replace h0:=OD c12 h0
  refine aH ?_
  exact jn J11 ⟨_,rfl,h0⟩

/- (loop.example/g00149/impl.Device).read -/
def rX:List Bg:=[X_ 1 0,⟨some 2,.nilS 1,none⟩]
def rY:=[f_ 6 1 0,l_ 7 6 1,q_ 8 325 [.t 7],m_ 3 8]
def rZ:=[f_ 9 1 1,l_ 10 9 1,n_ 11 10,i_ 12 0]
def sA:=[b_ .lss 13 12 11]
def sB:=[x_ 14 10 12 2,L_ 15 14 2,a_ 5 [iV 0,.own 322 0 1 []],s_ 5 15 2]
def sC:=[m_ 16 3,L_ 17 5 2,q_ 18 326 [.t 16,.t 17],m_ 3 18]
def sD:=[B_ .add 19 12 1,m_ 12 19]
def rW:IR:=(sr sA (.seq (.ite (.t 13) .skip (.exit 0)) (.seq (.block 1 (sr sB (.reg sC))) (.reg sD))))
def sE:=[m_ 20 3,m_ 2 20]
def JN:Er:=⟨1,21,[.t 2],sr rX (sr rY (.seq (sr rZ (No 0 rW)) (rr sE)))⟩
def nA (D:Av):Prop:=∀a0 r,jU a0=some r→D 263 ⟨[.agg (Ah a0)],[]⟩ ⟨Au 0 r,[],[]⟩
theorem MJ (H325:cQ C) (H326:nD C):nA (FO C JN):=by
 intro a0 r h0
 refine f0 (At 4 [(1,.ptr 64 0)] [(64,Ah a0)] (Bb 3 (Aj (bb h0 fun r1 e2 h0=>Ru (H325 a0.held r1 e2) (af rfl) (o_ (At 2 [(1,.ptr 64 0),(3,Au 512 r1)] [(64,Ah a0)] (Bb 4 (Aj (Gr rfl (o_ (At 2 [(3,Au 512 r1),(10,Al a0.Aa),(11,iV (a0.Aa.length:Int)),(12,iV 0)] [] (Bp (bb h0 fun r23 e24 h0=>Cw (R:=(fun S=>∃p17:List UInt8,p17=r23∧S=⟨[(3,Au 512 p17)],[],[]⟩)) (Oc a0) (fun s S=>match s with | (p8,p9)=>S=⟨[(3,Au 512 p8),(10,Al a0.Aa),(11,iV (a0.Aa.length:Int)),(12,iV p9)],[],[]⟩) e24 _ (Fz (by kernel_rfl)) rfl 0 (fun _=>rfl) ?_ ?_)))))))))))))
 ·rintro S _ hfg ⟨p17,rfl,rfl⟩
  refine Fs _ hfg ?_
  obtain rfl:=sj h0
  exact Dt 5
 ·rintro ⟨p8,p9⟩ o1 _ K1 rfl h1 hx1 hK1 hE1 hR1
  refine At 3 [(3,Au 512 p8),(10,Al a0.Aa),(11,iV (a0.Aa.length:Int)),(12,iV p9),(13,.bool (decide (p9<(a0.Aa.length:Int))))] [] (Bu (Cv h1 (fun c18 h1=>?_) (fun c18 h1=>?_)))
  ·refine aD 5 (Aj (bb h1 fun y19 e20 h1=>aO rfl rfl e20 (o_ (At 4 [(3,Au 512 p8),(5,.ptr 320 0),(10,Al a0.Aa),(11,iV (a0.Aa.length:Int)),(12,iV p9)] [(320,Ao y19)] (Bb 2 (Aj (bb h1 fun r21 e22 h1=>LN [] [] [512] (H326 p8 y19 r21 e22) (Ek (af rfl) rfl) (o_ (At 3 [(3,Au 1152 r21),(10,Al a0.Aa),(11,iV (a0.Aa.length:Int)),(12,iV p9)] [] (Bb 3 ?_))))))))))
   obtain rfl:=sj h1
   exact hK1 _ rfl _ _ (Ge [] [(1152,512)] rfl (by kernel_rfl)) rfl
  ·obtain rfl:=sj h1
   obtain rfl:=hx1 _ rfl
   refine Nt rfl ?_
   exact jn hE1 ⟨_,rfl,rfl⟩

/- (loop.example/g00149/impl.Device).own -/
def AK:=[X_ 1 0,a_ 2 [.own 129 0 1 [],.own 130 0 2 []]]
def AL:List Bg:=[f_ 6 1 0,l_ 7 6 1,q_ 8 325 [.t 7],⟨some 9,.p (.build [.own 577 0 1 [],.own 578 0 2 []] [(0,1,.t 8)]),none⟩,a_ 3 [.own 193 0 1 [],.own 194 0 2 []],s_ 3 9 2]
def AM:=[f_ 10 1 1,l_ 11 10 1,n_ 12 11,i_ 13 0]
def AN:=[b_ .lss 14 13 12]
def AO:=[x_ 15 11 13 2,L_ 16 15 2,a_ 5 [iV 0,.own 322 0 1 []],s_ 5 16 2]
def AP:=tk [f_ 17 3 1,l_ 18 17 1,f_ 19 5 0,l_ 20 19 1,f_ 21 5 1,l_ 22 21 1] (.alt [l_ 20 19 1,f_ 19 5 0,l_ 18 17 1,f_ 17 3 1] (q_ 23 325 [.t 22]) (tk [⟨some 24,.p (.build [iV 0,.own 1538 0 1 []] [(0,1,.t 20),(1,1,.t 23)]),none⟩] (.alt [l_ 18 17 1,f_ 17 3 1] ⟨some 25,.mkS 2 [iV 0,.lst 1 []] 1 [(0,.t 24)],none⟩ (.alt [] ⟨some 26,.app 2 32 (.t 18) (.t 25),none⟩ (tk [f_ 27 3 1] (.alt [] (s_ 27 26 1) .fin .stop)) .stop) .stop)) .stop)
def AQ:=[B_ .add 28 13 1,m_ 13 28]
def AJ:IR:=(sr AN (.seq (.ite (.t 14) .skip (.exit 0)) (.seq (.block 1 (sr AO (.draw AP))) (.reg AQ))))
def AR:=[L_ 29 3 2,s_ 2 29 2]
def KR:Er:=⟨1,30,[.cell 2 2 true],sr AK (sr AL (.seq (sr AM (No 0 AJ)) (rr AR)))⟩
def FU (D:Av):Prop:=∀a0 r,CN a0=some r→D 366 ⟨[.agg (Ah a0)],[]⟩ ⟨.agg (Ak r (Cf 0) (Cf 33)),[],[]⟩
abbrev Ik:=fun (r:List (Nat×List V))=>(128,[Au 129 [],Ab 162 []])::r
abbrev Kz:=fun (r:List (Nat×V))=>(2,.ptr 128 0)::(3,.ptr 192 0)::r
theorem NP (H325:cQ C):FU (FO C KR):=by
 intro a0 r h0
 refine f0 (HU 4 [] [(130,162)] [(1,.ptr 64 0),(2,.ptr 128 0)] (Ik [(64,Ah a0)]) (Bb 3 (Aj (bb h0 fun r1 e2 h0=>Ru (H325 a0.held r1 e2) (af rfl) (st (c_ (v:=.agg [Au 512 r1,Ab 578 []]) (Bx ⟨tv,tv⟩ rfl ⟨⟨rfl,rfl,nl rfl⟩,tv⟩) (sw ⟨[(1,.ptr 64 0),(2,.ptr 128 0),(9,.agg [Au 512 r1,Ab 610 []])],Ik [(64,Ah a0)],[]⟩ (Ge [] [(578,610)] rfl (by kernel_rfl)) (Gk (sw ⟨Kz [(1,.ptr 64 0),(9,.agg [Au 512 r1,Ab 610 []])],Ik [(64,Ah a0),(192,[Au 193 [],Ab 226 []])],[]⟩ (Ge [] [(194,226)] rfl (by kernel_rfl)) (Jz rfl rfl tv rfl rfl rfl (nl rfl) (o_ (At 1 (Kz [(1,.ptr 64 0)]) (Ik [(64,Ah a0),(192,[Au 512 r1,Ab 610 []])]) (Bb 4 (Aj (Gr rfl (o_ (At 2 (Kz [(11,Al a0.Aa),(12,iV (a0.Aa.length:Int)),(13,iV 0)]) (Ik [(192,[Au 512 r1,Ab 610 []])]) (Bp (bb h0 fun r26 e27 h0=>Cw (R:=(fun S=>∃p19:List Ac,p19=r26∧S=⟨Kz [],Ik [(192,[Au 512 r1,Ab 610 p19])],[]⟩)) (Lw a0) (fun s S=>match s with | (p9,p10)=>S=⟨Kz [(11,Al a0.Aa),(12,iV (a0.Aa.length:Int)),(13,iV p9)],Ik [(192,[Au 512 r1,Ab 610 p10])],[]⟩) e27 _ (Fz (by kernel_rfl)) rfl 0 (fun _=>rfl) ?_ ?_)))))))))))))))))))
 ·rintro S _ hfg ⟨p19,rfl,rfl⟩
  refine Fs _ hfg ?_
  obtain rfl:=sj h0
  exact Dt 5
 ·rintro ⟨p9,p10⟩ o1 _ K1 rfl h1 hx1 hK1 hE1 hR1
  refine At 3 (Kz [(11,Al a0.Aa),(12,iV (a0.Aa.length:Int)),(13,iV p9),(14,.bool (decide (p9<(a0.Aa.length:Int))))]) (Ik [(192,[Au 512 r1,Ab 610 p10])]) (Bu (Cv h1 (fun c20 h1=>?_) (fun c20 h1=>?_)))
  ·refine aD 5 (Aj (bb h1 fun y21 e22 h1=>aO rfl rfl e22 (o_ (At 4 (Kz [(5,.ptr 320 0),(11,Al a0.Aa),(12,iV (a0.Aa.length:Int)),(13,iV p9)]) (Ik [(192,[Au 512 r1,Ab 610 p10]),(320,Ao y21)]) (bb h1 fun r23 e24 h1=>gg h1 fun c25 h1=>Bb 6 (Cr (LQ (H325 y21.data r23 e24) (af rfl) (dw [(2,.ptr 128 0),(3,.ptr 192 0),(5,.ptr 320 0),(11,Al a0.Aa),(12,iV (a0.Aa.length:Int)),(13,iV p9),(17,.ptr 192 1),(18,Ab 610 p10),(19,.ptr 320 0),(20,iV y21.at_),(23,Au 1472 r23)] [(128,[Au 129 [],Ab 162 []]),(192,[Au 512 r1,Ab 610 p10]),(320,Ao y21)] hB (Ck tv (c_ (v:=.agg [iV y21.at_,Au 1472 r23]) (Bx ⟨tv,tv,tv⟩ rfl ⟨⟨rfl,rfl,nl rfl⟩,⟨rfl,rfl,nl rfl⟩,tv⟩) (⟨tv,Do (LC rfl tv rfl rfl (Ek Ui (Ek (cC (fun _=>rfl)) rfl)) rfl (dw [(2,.ptr 128 0),(3,.ptr 192 0),(11,Al a0.Aa),(12,iV (a0.Aa.length:Int)),(13,iV p9),(17,.ptr 192 1),(18,Ab 610 p10),(25,Ab 1632 ([Ac.mk y21.at_ r23]:List Ac))] [(128,[Au 129 [],Ab 162 []]),(192,[Au 512 r1,Ab 610 p10])] hB (Do (DW (e:=Ao) (l0:=p10) (l1:=([Ac.mk y21.at_ r23]:List Ac)) rfl rfl (by decide) (by decide) (by decide) c25 (d0 tv (Ck tv (c_ (Bx ⟨tv,tv⟩ rfl tv) (⟨tv,Do (Jz rfl rfl tv rfl rfl rfl (nl rfl) (d0 tv (d_ (At 2 (Kz [(11,Al a0.Aa),(12,iV (a0.Aa.length:Int)),(13,iV p9)]) (Ik [(192,[Au 512 r1,Ab 610 (p10++([Ac.mk y21.at_ r23]:List Ac))])]) (Bb 2 (Aj ?_)))))) Cd⟩))))) Cd))) Cd⟩)))) Cd)))))))
   refine Pa ?_
   obtain rfl:=sj h1
   exact kn hK1 rfl rfl
  ·obtain rfl:=sj h1
   obtain rfl:=hx1 _ rfl
   refine Nt rfl ?_
   exact jn hE1 ⟨_,rfl,rfl⟩

/- (loop.example/g00149/impl.Device).write -/
def yE:=[X_ 3 0,a_ 6 [.own 385 0 1 [],.own 386 0 2 []]]
def yF:=[L_ 13 3 2,q_ 14 366 [.t 13],a_ 7 [.own 449 0 1 [],.own 450 0 2 []],s_ 7 14 2]
def yG:=[m_ 15 2,n_ 16 15,B_ .eql 17 16 0]
def yH:=[L_ 18 7 2,s_ 6 18 2]
def yI:=[L_ 19 3 2,q_ 20 263 [.t 19],m_ 8 20]
def yJ:=[m_ 21 1,m_ 22 2,n_ 23 22,b_ .add 24 21 23,m_ 9 24]
def yK:=[m_ 25 9,B_ .sub 26 25 1,B_ .quo 27 26 32,m_ 10 27]
def yL:List Bg:=[m_ 28 10,B_ .add 29 28 1,⟨some 30,.p (.bin .mul (.c (iV 32)) (.t 29)),none⟩,m_ 11 30]
def yM:=[m_ 31 8,n_ 32 31,m_ 33 11,b_ .lss 34 32 33]
def yN:List Bg:=[m_ 35 8,m_ 36 11,m_ 37 8,n_ 38 37,b_ .sub 39 36 38,⟨some 40,.appz 1 1 [.int .u8 0] (.t 35) (.t 39),none⟩,m_ 8 40]
def iT:List Bg:=[m_ 41 8,m_ 42 1,⟨some 43,.p (.slice (.t 41) (some (.t 42)) none 1),none⟩,m_ 44 2,⟨some 45,.copy 1 (.t 43) (.t 44),none⟩]
def iU:=[m_ 46 1,B_ .quo 47 46 32,m_ 12 47]
def iW:=[m_ 48 12,m_ 49 10,b_ .leq 50 48 49]
def iX:=tk [f_ 53 7 1,l_ 54 53 1,m_ 55 12,m_ 56 8,m_ 57 12,⟨some 58,.p (.bin .mul (.c (iV 32)) (.t 57)),none⟩,m_ 59 12,B_ .add 60 59 1,⟨some 61,.p (.bin .mul (.c (iV 32)) (.t 60)),none⟩,⟨some 62,.p (.slice (.t 56) (some (.t 58)) (some (.t 61)) 1),none⟩] (.alt [m_ 55 12,l_ 54 53 1,f_ 53 7 1] (q_ 63 325 [.t 62]) (tk [⟨some 64,.p (.build [iV 0,.own 4098 0 1 []] [(0,1,.t 55),(1,1,.t 63)]),none⟩] (.alt [l_ 54 53 1,f_ 53 7 1] ⟨some 65,.mkS 2 [iV 0,.lst 1 []] 1 [(0,.t 64)],none⟩ (.alt [] ⟨some 66,.app 2 32 (.t 54) (.t 65),none⟩ (tk [f_ 67 7 1] (.alt [] (s_ 67 66 1) .fin .stop)) .stop) .stop)) .stop)
def iY:=[m_ 51 12,B_ .add 52 51 1,m_ 12 52]
def yD:IR:=(.seq (sr iW (.ite (.t 50) .skip (.exit 0))) (.seq (.block 1 (.draw iX)) (.reg iY)))
def iZ:=[L_ 68 7 2,s_ 6 68 2]
def KK:Er:=⟨3,69,[.cell 6 2 true],sr yE (sr yF (.seq (sr yG (iz 17 (rr yH))) (sr yI (sr yJ (sr yK (.seq (sr yL (sr yM (iz 34 (.reg yN)))) (sr iT (.seq (sr iU (No 0 yD)) (rr iZ)))))))))⟩
def FM (D:Av):Prop:=∀a0 a1 a2 r,CF a0 a1 a2=some r→D 328 ⟨[.agg (Ah a0),iV a1,Em a2],[]⟩ ⟨.agg (Ak r (Cf 0) (Cf 33)),[],[]⟩
abbrev Jm:=fun x0 (r:List (Nat×List V))=>(384,[Au 385 [],Ab 418 []])::(448,Ak x0 (Cf 896) (Cf 929))::r
abbrev Jn:=fun x0 x1 (r:List (Nat×V))=>(1,iV x0)::(2,Em x1)::(6,.ptr 384 0)::(7,.ptr 448 0)::r
abbrev Qk:=fun (r:List (Nat×List V))=>(384,[Au 385 [],Ab 418 []])::r
abbrev Ww:=fun x0 (r:List (Nat×V))=>(6,.ptr 384 0)::(7,.ptr 448 0)::(10,iV x0)::r
theorem NI (H263:nA C) (H325:cQ C) (H366:FU C):FM (FO C KK):=by
 intro a0 a1 a2 r h0
 refine f0 (HU 4 [] [(386,418)] [(1,iV a1),(2,Em a2),(3,.ptr 192 0),(6,.ptr 384 0)] (Qk [(192,Ah a0)]) (Bb 2 (Aj (bb h0 fun r1 e2 h0=>Ru (H366 a0 r1 e2) (af (Ek (Sx rfl) rfl)) (st (Gk (sw ⟨Jn a1 a2 [(3,.ptr 192 0),(14,.agg (Ak r1 (Cf 896) (Cf 929)))],Qk [(192,Ah a0),(448,[Au 449 [],Ab 482 []])],[]⟩ (Ge [] [(450,482)] rfl (by kernel_rfl)) (Jz rfl rfl tv rfl rfl rfl (nl rfl) (o_ (At 1 (Jn a1 a2 [(3,.ptr 192 0)]) (Jm r1 [(192,Ah a0)]) (Bb 3 (Aj (Gr rfl (o_ (At 2 (Jn a1 a2 [(3,.ptr 192 0),(17,.bool ((a2.length:Int)==0))]) (Jm r1 [(192,Ah a0)]) (Cv h0 (fun c3 h0=>?_) (fun c3 h0=>?_)))))))))))))))))
 ·obtain rfl:=sj h0
  exact Dt 5
 ·refine Bb 4 (Aj (bb h0 fun r4 e5 h0=>Ru (H263 a0 r4 e5) (af rfl) (o_ (At 2 (Jn a1 a2 [(8,Au 1280 r4)]) (Jm r1 []) (Bb 3 (Aj (Gr rfl (o_ (At 3 (Jn a1 a2 [(8,Au 1280 r4),(9,iV (wi (a1+(a2.length:Int))))]) (Jm r1 []) (Bb 3 (Aj (st (c_ (Bx ⟨tv,tv,tv⟩ rfl (by decide)) (st (Ce rfl tv (Pa (bv h0 fun v6 e7 h0=>Fs ⟨Jn a1 a2 [(8,Au 1280 r4),(10,iV v6)],Jm r1 [],[]⟩ (Fz (by subst e7; kernel_rfl)) (At 7 (Jn a1 a2 [(8,Au 1280 r4),(10,iV v6),(11,iV (wi (32*(wi (v6+1)))))]) (Jm r1 []) (Bu (Aj (st (Ce rfl tv (eX rfl (o_ (Bb 3 (bv h0 fun v8 e9 h0=>Fs ⟨Jn a1 a2 [(8,Au 1280 r4),(10,iV v6),(11,iV (wi (32*(wi (v6+1))))),(34,.bool v8)],Jm r1 [],[]⟩ (Fz (by subst e9; kernel_rfl)) (LA (cb:=v8) (fun S=>∃p13:List UInt8,S=⟨Jn a1 a2 [(8,Au 1280 p13),(10,iV v6)],Jm r1 [],[]⟩∧Oj a1 a2 r1 v6 p13=some r) rfl ?_ (fun c44 J43=>?_) (fun c44 J43=>?_))))))))))))))))))))))))))))
  ·rintro _ ⟨p13,rfl,h0⟩
   refine Bb 4 (Aj (bb h0 fun s14 e15 h0=>st (c_ (Jd (e:=Im) (y:=s14) rfl rfl tv ⟨tv,tv⟩ rfl rfl e15) (st (Ce rfl tv (st (copy_ (e:=Im) (l1:=a2) rfl rfl tv rfl (Pa (Fs ⟨[(1,iV a1),(6,.ptr 384 0),(7,.ptr 448 0),(8,Au 1280 (ovl p13 a1.toNat (a2.take s14.length))),(10,iV v6)],[(384,[Au 385 [],Ab 418 []]),(448,Ak r1 (Cf 896) (Cf 929))],[]⟩ (fg ⟨rfl,rfl,rfl,congrArg (fun z=>some ((.own 1280 0 1 z:V))) Ib,rfl,tv⟩ ⟨rfl,rfl,tv⟩) (Bb 3 (Aj (st (c_ (Bx ⟨tv,tv,tv⟩ rfl (by decide)) (o_ (At 2 (Ww v6 [(8,Au 1280 (ovl p13 a1.toNat (a2.take s14.length))),(12,iV (wi ((a1).tdiv 32)))]) (Jm r1 []) (Bp (bb h0 fun r41 e42 h0=>Cw (R:=(fun S=>∃p34:List Ac,p34=r41∧S=⟨[(6,.ptr 384 0),(7,.ptr 448 0)],Qk [(448,[Au 896 r1.held,Ab 929 p34])],[]⟩)) (Ol a1 a2 v6 p13 s14) (fun s S=>match s with | (p24,p25)=>S=⟨Ww v6 [(8,Au 1280 (ovl p13 a1.toNat (a2.take s14.length))),(12,iV p24)],Qk [(448,[Au 896 r1.held,Ab 929 p25])],[]⟩) e42 _ (Fz (by kernel_rfl)) rfl 0 (fun _=>rfl) ?_ ?_)))))))))))))))))
   ·rintro S _ hfg ⟨p34,rfl,rfl⟩
    refine Fs _ hfg ?_
    obtain rfl:=sj h0
    exact Dt 5
   ·rintro ⟨p24,p25⟩ o1 _ K1 rfl h1 hx1 hK1 hE1 hR1
    refine At 6 (Ww v6 [(8,Au 1280 (ovl p13 a1.toNat (a2.take s14.length))),(12,iV p24),(50,.bool (decide (p24≤v6)))]) (Qk [(448,[Au 896 r1.held,Ab 929 p25])]) (Cv h1 (fun c35 h1=>?_) (fun c35 h1=>?_))
    ·refine aD 4 (bb h1 fun s36 e37 h1=>bb h1 fun r38 e39 h1=>gg h1 fun c40 h1=>Bb 9 (Cr (Ck tv (c_ (Jd (e:=Im) (y:=s36) rfl rfl tv ⟨tv,tv,tv⟩ rfl rfl e37) (⟨tv,LQ (H325 s36 r38 e39) (af rfl) (dw [(6,.ptr 384 0),(7,.ptr 448 0),(8,Au 1280 (ovl p13 a1.toNat (a2.take s14.length))),(10,iV v6),(12,iV p24),(53,.ptr 448 1),(54,Ab 929 p25),(55,iV p24),(63,Au 4032 r38)] [(384,[Au 385 [],Ab 418 []]),(448,[Au 896 r1.held,Ab 929 p25])] hB (Ck tv (c_ (v:=.agg [iV p24,Au 4032 r38]) (Bx ⟨tv,tv,tv⟩ rfl ⟨⟨rfl,rfl,nl rfl⟩,⟨rfl,rfl,nl rfl⟩,tv⟩) (⟨tv,Do (LC rfl tv rfl rfl (Ek Ui (Ek (cC (fun _=>rfl)) rfl)) rfl (dw [(6,.ptr 384 0),(7,.ptr 448 0),(8,Au 1280 (ovl p13 a1.toNat (a2.take s14.length))),(10,iV v6),(12,iV p24),(53,.ptr 448 1),(54,Ab 929 p25),(65,Ab 4192 ([Ac.mk p24 r38]:List Ac))] [(384,[Au 385 [],Ab 418 []]),(448,[Au 896 r1.held,Ab 929 p25])] hB (Do (DW (e:=Ao) (l0:=p25) (l1:=([Ac.mk p24 r38]:List Ac)) rfl rfl (by decide) (by decide) (by decide) c40 (d0 tv (Ck tv (c_ (Bx ⟨tv,tv⟩ rfl tv) (⟨tv,?_⟩))))) Cd))) Cd⟩)))) Cd⟩)))))
     refine Do (Jz rfl rfl tv rfl rfl rfl (nl rfl) (d0 tv (d_ (At 2 (Ww v6 [(8,Au 1280 (ovl p13 a1.toNat (a2.take s14.length))),(12,iV p24)]) (Qk [(448,[Au 896 r1.held,Ab 929 (p25++([Ac.mk p24 r38]:List Ac))])]) (Bb 4 ?_))))) Cd
     obtain rfl:=sj h1
     exact kn hK1 rfl rfl
    ·obtain rfl:=sj h1
     obtain rfl:=hx1 _ rfl
     refine Nt rfl ?_
     exact jn hE1 ⟨_,rfl,rfl⟩
  ·replace h0:=ip c44 h0
   refine Bb 3 (Aj (eX rfl (st (c_ (Bx t3 rfl tv) (gg h0 fun c45 h0=>gg h0 fun c46 h0=>st (fJ (e:=Im) (l0:=r4) (0:UInt8) rfl rfl rfl (by decide) c45 c46 (st (Ce rfl tv (Pa ?_)))))))))
   exact jn J43 ⟨_,rfl,h0⟩
  ·replace h0:=OD c44 h0
   refine aH ?_
   exact jn J43 ⟨_,rfl,h0⟩

/- (loop.example/g00149/impl.Device).written -/
def sF:=[X_ 3 0,a_ 6 [.own 385 0 1 [],.own 386 0 2 []],i_ 7 0]
def sG:=[m_ 9 1,m_ 10 2,n_ 11 10,q_ 12 327 [.t 9,.t 11],N_ 13 12]
def sH:=[iQ 14 (.build [.own 897 0 1 [],.own 898 0 2 []] []),s_ 6 14 2,i_ 7 9]
def sI:=[L_ 15 3 2,m_ 16 1,m_ 17 2,q_ 18 328 [.t 15,.t 16,.t 17],a_ 8 [.own 513 0 1 [],.own 514 0 2 []],s_ 8 18 2]
def sJ:=[f_ 19 8 1,l_ 20 19 1,q_ 21 269 [.t 20],N_ 22 21]
def sK:=[iQ 23 (.build [.own 1473 0 1 [],.own 1474 0 2 []] []),s_ 6 23 2,i_ 7 6]
def sL:=[L_ 24 8 2,s_ 6 24 2,i_ 7 0]
def JO:Er:=⟨3,25,[.cell 6 2 true,.t 7],sr sF (.seq (sr sG (iz 13 (rr sH))) (sr sI (.seq (sr sJ (iz 22 (rr sK))) (rr sL))))⟩
def EU (D:Av):Prop:=∀a0 a1 a2 r,Zu a0 a1 a2=some r→D 265 ⟨[.agg (Ah a0),iV a1,Em a2],[]⟩ ⟨.tup [.agg (Ak r.1 (Cf 0) (Cf 33)),iV r.2],[],[]⟩
abbrev Ky:=fun (r:List (Nat×List V))=>(384,[Au 385 [],Ab 418 []])::r
theorem MK (H269:EY C) (H327:FL C) (H328:FM C):EU (FO C JO):=by
 intro a0 a1 a2 r h0
 refine f0 (Bb 3 (Aj (sw ⟨[(1,iV a1),(2,Em a2),(3,.ptr 192 0),(6,.ptr 384 0)],Ky [(192,Ah a0)],[]⟩ (Ge [] [(386,418)] rfl (by kernel_rfl)) (HS tv (o_ (At 1 [(1,iV a1),(2,Em a2),(3,.ptr 192 0),(6,.ptr 384 0)] (Ky [(192,Ah a0)]) (Bb 4 (Aj (Gr rfl (bb h0 fun r1 e2 h0=>Rv (H327 a1 (a2.length:Int) r1 e2) (o_ (At 2 [(1,iV a1),(2,Em a2),(3,.ptr 192 0),(6,.ptr 384 0),(13,.bool (!r1))] (Ky [(192,Ah a0)]) (Cv h0 (fun c3 h0=>?_) (fun c3 h0=>?_))))))))))))))
 ·refine Bb 2 (Aj (sw ⟨[(6,.ptr 384 0),(14,.agg [Au 897 [],Ab 930 []])],Ky [],[]⟩ (Ge [] [(898,930)] rfl (by kernel_rfl)) (Jz rfl rfl tv rfl rfl rfl (nl rfl) (o_ (At 2 [(6,.ptr 384 0),(7,iV 9)] [(384,[Au 897 [],Ab 930 []])] ?_)))))
  obtain rfl:=sj h0
  exact Wa (Iv rfl rfl rfl rfl rfl tv)
 ·refine Bb 6 (Aj (bb h0 fun r4 e5 h0=>Ru (H328 a0 a1 a2 r4 e5) (af (Ek (Sx rfl) rfl)) (st (Gk (sw ⟨[(6,.ptr 384 0),(8,.ptr 512 0),(18,.agg (Ak r4 (Cf 1152) (Cf 1185)))],Ky [(512,[Au 513 [],Ab 546 []])],[]⟩ (Ge [] [(514,546)] rfl (by kernel_rfl)) (Jz rfl rfl tv rfl rfl rfl (nl rfl) (o_ (At 1 [(6,.ptr 384 0),(8,.ptr 512 0)] (Ky [(512,Ak r4 (Cf 1152) (Cf 1185))]) (Bb 4 (Aj (bb h0 fun r6 e7 h0=>Rv (H269 r4.Aa r6 e7) (o_ (At 2 [(6,.ptr 384 0),(8,.ptr 512 0),(22,.bool (!r6))] (Ky [(512,Ak r4 (Cf 1152) (Cf 1185))]) (Cv h0 (fun c8 h0=>?_) (fun c8 h0=>?_)))))))))))))))
  ·refine Bb 2 (Aj (sw ⟨[(6,.ptr 384 0),(23,.agg [Au 1473 [],Ab 1506 []])],Ky [],[]⟩ (Ge [] [(1474,1506)] rfl (by kernel_rfl)) (Jz rfl rfl tv rfl rfl rfl (nl rfl) (o_ (At 2 [(6,.ptr 384 0),(7,iV 6)] [(384,[Au 1473 [],Ab 1506 []])] ?_)))))
   obtain rfl:=sj h0
   exact Wa (Iv rfl rfl rfl rfl rfl tv)
  ·obtain rfl:=sj h0
   exact Dt 8

/- loop.example/g00149/impl.isList[loop.example/g00149/impl.DevAct] -/
def sM:=[k_ 2 (.bool false)]
def sN:=[m_ 3 0,n_ 4 3,B_ .leq 5 4 4096,m_ 2 5]
def JP:Er:=⟨1,6,[.t 2],sr sM (rr sN)⟩
def EV (D:Av):Prop:=∀a0 r,HH a0=some r→D 266 ⟨[Ai a0],[]⟩ ⟨.bool r,[],[]⟩
theorem ML:EV (FO C JP):=by
 intro a0 r h0
 refine f0 (At 3 [(0,Ai a0)] [] (Bu (Aj (st (Ce rfl tv (Gr rfl (o_ ?_)))))))
 obtain rfl:=sj h0
 exact Dt 4

/- (loop.example/g00149/impl.Device).flush -/
def sO:=[X_ 1 0,a_ 2 [.own 129 0 1 [],.own 130 0 2 []]]
def sP:List Bg:=[L_ 3 1 2,q_ 4 263 [.t 3],⟨some 5,.p (.build [.own 321 0 1 [],.own 322 0 2 []] [(0,1,.t 4)]),none⟩,s_ 2 5 2]
def JQ:Er:=⟨1,6,[.cell 2 2 true],sr sO (rr sP)⟩
def EW (D:Av):Prop:=∀a0 r,dL a0=some r→D 267 ⟨[.agg (Ah a0)],[]⟩ ⟨.agg (Ak r (Cf 0) (Cf 33)),[],[]⟩
theorem MM (H263:nA C):EW (FO C JQ):=by
 intro a0 r h0
 refine f0 (HU 4 [] [(130,162)] [(1,.ptr 64 0),(2,.ptr 128 0)] [(64,Ah a0),(128,[Au 129 [],Ab 162 []])] (Bb 2 (Aj (bb h0 fun r1 e2 h0=>Ru (H263 a0 r1 e2) (af rfl) (st (c_ (v:=.agg [Au 256 r1,Ab 322 []]) (Bx ⟨tv,tv⟩ rfl ⟨⟨rfl,rfl,nl rfl⟩,tv⟩) (sw ⟨[(2,.ptr 128 0),(5,.agg [Au 256 r1,Ab 354 []])],[(128,[Au 129 [],Ab 162 []])],[]⟩ (Ge [] [(322,354)] rfl (by kernel_rfl)) (Jz rfl rfl tv rfl rfl rfl (nl rfl) (o_ (At 1 [(2,.ptr 128 0)] [(128,[Au 256 r1,Ab 354 []])] ?_))))))))))
 obtain rfl:=sj h0
 exact Wa (Iv rfl rfl rfl rfl rfl tv)

/- (loop.example/g00149/impl.Device).crash -/
def sR:=[X_ 2 0,a_ 4 [.own 257 0 1 [],.own 258 0 2 []]]
def sS:=[f_ 8 2 0,l_ 9 8 1,q_ 10 325 [.t 9],m_ 5 10]
def sT:=[f_ 11 2 1,l_ 12 11 1,n_ 13 12,i_ 14 0]
def sU:=[b_ .lss 15 14 13]
def sV:=[m_ 16 14,x_ 17 12 14 2,L_ 18 17 2,a_ 7 [iV 0,.own 450 0 1 []],m_ 6 16,s_ 7 18 2]
def sW:=[m_ 19 6,m_ 20 1,n_ 21 20,b_ .lss 22 19 21,m_ 23 22,mT 23 24 1,mT 23 25 6,xT 23 26 24 25 1,lT 23 27 26 1 false,pa 28 23 27]
def sX:=[m_ 29 5,L_ 30 7 2,q_ 31 326 [.t 29,.t 30],m_ 5 31]
def sY:=[B_ .add 32 14 1,m_ 14 32]
def sQ:IR:=(sr sU (.seq (.ite (.t 15) .skip (.exit 0)) (.seq (.block 1 (sr sV (sr sW (iz 28 (.reg sX))))) (.reg sY))))
def sZ:List Bg:=[m_ 33 5,⟨some 34,.p (.build [.own 2177 0 1 [],.own 2178 0 2 []] [(0,1,.t 33)]),none⟩,s_ 4 34 2]
def JR:Er:=⟨2,35,[.cell 4 2 true],sr sR (sr sS (.seq (sr sT (No 0 sQ)) (rr sZ)))⟩
def EX (D:Av):Prop:=∀a0 a1 r,Zv a0 a1=some r→D 268 ⟨[.agg (Ah a0),lB a1],[]⟩ ⟨.agg (Ak r (Cf 0) (Cf 33)),[],[]⟩
abbrev Ij:=fun (r:List (Nat×List V))=>(256,[Au 257 [],Ab 290 []])::r
abbrev Qi:=fun x0 x1 (r:List (Nat×V))=>(1,lB x0)::(4,.ptr 256 0)::(12,Al x1)::r
theorem MN (H325:cQ C) (H326:nD C):EX (FO C JR):=by
 intro a0 a1 r h0
 refine f0 (HU 4 [] [(258,290)] [(1,lB a1),(2,.ptr 128 0),(4,.ptr 256 0)] (Ij [(128,Ah a0)]) (Bb 3 (Aj (bb h0 fun r1 e2 h0=>Ru (H325 a0.held r1 e2) (af rfl) (o_ (At 2 [(1,lB a1),(2,.ptr 128 0),(4,.ptr 256 0),(5,Au 640 r1)] (Ij [(128,Ah a0)]) (Bb 4 (Aj (Gr rfl (o_ (At 2 (Qi a1 a0.Aa [(5,Au 640 r1),(13,iV (a0.Aa.length:Int)),(14,iV 0)]) (Ij []) (Bp (bb h0 fun r43 e44 h0=>Cw (R:=(fun S=>∃p25:List UInt8,p25=r43∧S=⟨[(4,.ptr 256 0),(5,Au 640 p25)],Ij [],[]⟩)) (Lp a0 a1) (fun s S=>match s with | (p12,p13)=>S=⟨Qi a1 a0.Aa [(5,Au 640 p12),(13,iV (a0.Aa.length:Int)),(14,iV p13)],Ij [],[]⟩) e44 _ (Fz (by kernel_rfl)) rfl 0 (fun _=>rfl) ?_ ?_)))))))))))))
 ·rintro S _ hfg ⟨p25,rfl,rfl⟩
  refine Fs _ hfg (Bu (Aj (st (Ce rfl tv (st (c_ (v:=.agg [Au 640 p25,Ab 2178 []]) (Bx ⟨tv,tv⟩ rfl ⟨⟨rfl,rfl,nl rfl⟩,tv⟩) (sw ⟨[(4,.ptr 256 0),(34,.agg [Au 640 p25,Ab 2210 []])],Ij [],[]⟩ (Ge [] [(2178,2210)] rfl (by kernel_rfl)) (Jz rfl rfl tv rfl rfl rfl (nl rfl) (o_ (At 1 [(4,.ptr 256 0)] [(256,[Au 640 p25,Ab 2210 []])] ?_))))))))))
  obtain rfl:=sj h0
  exact Wa (Iv rfl rfl rfl rfl rfl tv)
 ·rintro ⟨p12,p13⟩ o1 _ K1 rfl h1 hx1 hK1 hE1 hR1
  refine At 3 (Qi a1 a0.Aa [(5,Au 640 p12),(13,iV (a0.Aa.length:Int)),(14,iV p13),(15,.bool (decide (p13<(a0.Aa.length:Int))))]) (Ij []) (Bu (Cv h1 (fun c26 h1=>?_) (fun c26 h1=>?_)))
  ·refine aD 3 (Zj (fun S=>∃p34:List UInt8,S=⟨Qi a1 a0.Aa [(5,Au 1984 p34),(13,iV (a0.Aa.length:Int)),(14,iV p13)],Ij [],[]⟩∧Rz p13 p34=some o1) ?_ (fun J35=>?_))
   ·rintro _ ⟨p34,rfl,h1⟩
    refine Bb 4 ?_
    obtain rfl:=sj h1
    exact hK1 _ rfl _ _ (Ge [] [(1984,640)] rfl (by kernel_rfl)) rfl
   ·refine Bu ?_
    refine Aj (st (Ce rfl tv (bb h1 fun y36 e37 h1=>aO rfl rfl e37 (o_ (At 5 (Qi a1 a0.Aa [(5,Au 640 p12),(6,iV p13),(7,.ptr 448 0),(13,iV (a0.Aa.length:Int)),(14,iV p13)]) (Ij [(448,Ao y36)]) (Bb 3 (Aj (Gr rfl (o_ (KX 4 (Aj (bb h1 fun y38 e39 h1=>st (Po (u:=.iptr [.bool y38]) rfl (fun hg=>(jF (e:=eB) (y:=y38) rfl rfl (fun _=>hg) rfl rfl (fun _=>hg) (ip hg e39))) (o_ (OQ 3 (Qi a1 a0.Aa [(5,Au 640 p12),(7,.ptr 448 0),(13,iV (a0.Aa.length:Int)),(14,iV p13),(28,.bool (bif (decide (p13<(a1.length:Int))) then y38 else false))]) (Ij [(448,Ao y36)]) (Cv h1 (fun c40 h1=>?_) (fun c40 h1=>?_)))))))))))))))))
    ·refine Bb 2 (Aj (bb h1 fun r41 e42 h1=>LN [] [] [640] (H326 p12 y36 r41 e42) (Ek (af rfl) rfl) (st (Ce rfl tv (Pa (cV ?_))))))
     exact jn J35 ⟨_,rfl,h1⟩
    ·refine aH (cV ?_)
     exact J35 _ _ (Ge [] [(640,1984)] rfl (by kernel_rfl)) ⟨_,rfl,h1⟩
  ·obtain rfl:=sj h1
   obtain rfl:=hx1 _ rfl
   refine Nt rfl ?_
   exact jn hE1 ⟨_,rfl,rfl⟩

/- loop.example/g00149/impl.DeviceRun -/
def nR:List Bg:=[⟨some 2,.nilS 1,none⟩,a_ 3 [.own 193 0 1 [],.own 194 0 2 []],i_ 4 0]
def nS:=[m_ 12 0,q_ 13 266 [.t 12],N_ 14 13,m_ 11 14]
def nT:List Bg:=[iQ 15 (.build [.own 961 0 1 [],.own 962 0 2 []] []),⟨some 2,.nilS 1,none⟩,s_ 3 15 2,i_ 4 2]
def nU:=[m_ 17 0,n_ 18 17,B_ .gtr 19 18 200,m_ 16 19]
def nV:List Bg:=[iQ 20 (.build [.own 1281 0 1 [],.own 1282 0 2 []] []),⟨some 2,.nilS 1,none⟩,s_ 3 20 2,i_ 4 6]
def nW:=[a_ 5 [.own 321 0 1 [],.own 322 0 2 []]]
def nX:List Bg:=[⟨some 6,.nilS 1,none⟩]
def nY:=[m_ 21 0,n_ 22 21,i_ 23 0]
def nZ:=[b_ .lss 24 23 22]
def oA:=[x_ 25 21 23 4,L_ 26 25 4,a_ 8 [iV 0,iV 0,.own 515 0 1 [],.own 516 0 1 []],s_ 8 26 4]
def gS:=[i_ 9 0]
def gT:=[f_ 27 8 0,l_ 28 27 1]
def gU:=[B_ .eql 30 28 1,m_ 29 30]
def gV:=[a_ 10 [.own 641 0 1 [],.own 642 0 2 []]]
def gW:=[L_ 32 5 2,f_ 33 8 1,l_ 34 33 1,f_ 35 8 2,l_ 36 35 1,q_ 37 265 [.t 32,.t 34,.t 36],m_ 31 37,e_ 38 31 0,e_ 39 31 1,s_ 10 38 2,m_ 9 39]
def gX:=[m_ 40 9,B_ .eql 41 40 0]
def gY:=[L_ 42 10 2,s_ 5 42 2]
def gZ:=[B_ .eql 44 28 2,m_ 43 44]
def hO:=[L_ 45 5 2,q_ 46 267 [.t 45],s_ 5 46 2]
def hY:=[B_ .eql 48 28 3,m_ 47 48]
def hZ:=[L_ 49 5 2,f_ 50 8 3,l_ 51 50 1,q_ 52 268 [.t 49,.t 51],s_ 5 52 2]
def iA:=[i_ 9 16]
def iB:List Bg:=[m_ 53 6,m_ 54 9,⟨some 55,.mkS 1 [iV 0] 1 [(0,.t 54)],none⟩,⟨some 56,.app 1 8 (.t 53) (.t 55),none⟩,m_ 6 56]
def iC:=[B_ .add 57 23 1,m_ 23 57]
def nQ:IR:=(sr nZ (.seq (.ite (.t 24) .skip (.exit 1)) (.seq (.block 2 (sr oA (sr gS (.seq (sr gT (.block 3 (sr gU (.ite (.t 29) (sr gV (sr gW (sr gX (iz 41 (.reg gY))))) (sr gZ (.ite (.t 43) (.reg hO) (sr hY (.ite (.t 47) (.reg hZ) (.reg iA))))))))) (.reg iB))))) (.reg iC))))
def iD:=tk [m_ 58 6,L_ 59 5 2,m_ 2 58] (.alt [] (s_ 3 59 2) (tk [i_ 4 0] .fin) .stop)
def JB:Er:=⟨1,60,[.t 2,.cell 3 2 true,.t 4],sr nR (.seq (.block 0 (sr nS (.ite (.t 11) (rr nT) (sr nU (iz 16 (rr nV)))))) (sr nW (sr nX (.seq (sr nY (No 1 nQ)) (sd iD .ret)))))⟩
def EK (D:Av):Prop:=∀a0 r,jS a0=some r→D 215 ⟨[Ai a0],[]⟩ ⟨.tup [oI 0 r.1,.agg (Ak r.2.1 (Cf 1) (Cf 34)),iV r.2.2],[],[]⟩
abbrev Db:=fun (r:List (Nat×List V))=>(192,[Au 193 [],Ab 226 []])::r
abbrev Jl:=fun x0 x1 x2 (r:List (Nat×V))=>(3,.ptr 192 0)::(5,.ptr 320 0)::(6,oI 384 x0)::(21,Ai x1)::(23,iV x2)::r
abbrev Qh:=fun x0 (r:List (Nat×V))=>(0,Ai x0)::(3,.ptr 192 0)::r
theorem LX (H265:EU C) (H266:EV C) (H267:EW C) (H268:EX C):EK (FO C JB):=by
 intro a0 r h0
 refine f0 (Bb 3 (Aj (sw ⟨Qh a0 [],Db [],[]⟩ (Ge [] [(194,226)] rfl (by kernel_rfl)) (HS tv (o_ (At 1 (Qh a0 []) (Db []) (Bb 4 (Aj (bb h0 fun r1 e2 h0=>Rv (H266 a0 r1 e2) (o_ (At 3 (Qh a0 [(11,.bool (!r1))]) (Db []) (Cv h0 (fun c3 h0=>?_) (fun c3 h0=>?_)))))))))))))
 ·refine Bb 2 (Aj (sw ⟨[(3,.ptr 192 0),(15,.agg [Au 961 [],Ab 994 []])],Db [],[]⟩ (Ge [] [(962,994)] rfl (by kernel_rfl)) (bX (o_ (At 3 [(2,.own 128 0 1 ([].map eI)),(3,.ptr 192 0),(4,iV 2)] [(192,[Au 961 [],Ab 994 []])] ?_)))))
  obtain rfl:=sj h0
  exact Wa (Iv rfl rfl rfl rfl rfl tv)
 ·refine Bu (Aj (st (Ce rfl tv (Gr rfl (o_ (At 3 (Qh a0 [(16,.bool (decide ((a0.length:Int)>200)))]) (Db []) (Cv h0 (fun c4 h0=>?_) (fun c4 h0=>?_))))))))
  ·refine Bb 2 (Aj (sw ⟨[(3,.ptr 192 0),(20,.agg [Au 1281 [],Ab 1314 []])],Db [],[]⟩ (Ge [] [(1282,1314)] rfl (by kernel_rfl)) (bX (o_ (At 3 [(2,.own 128 0 1 ([].map eI)),(3,.ptr 192 0),(4,iV 6)] [(192,[Au 1281 [],Ab 1314 []])] ?_)))))
   obtain rfl:=sj h0
   exact Wa (Iv rfl rfl rfl rfl rfl tv)
  ·refine HU 6 [] [(322,354)] (Qh a0 [(5,.ptr 320 0)]) (Db [(320,[Au 321 [],Ab 354 []])]) (At 3 (Qh a0 [(5,.ptr 320 0),(6,.own 384 0 1 ([].map eI))]) (Db [(320,[Au 321 [],Ab 354 []])]) (Bb 3 (Aj (Gr rfl (o_ (At 2 [(3,.ptr 192 0),(5,.ptr 320 0),(6,.own 384 0 1 ([].map eI)),(21,Ai a0),(22,iV (a0.length:Int)),(23,iV 0)] (Db [(320,[Au 321 [],Ab 354 []])]) (Bp (bb h0 fun r78 e79 h0=>Cw (R:=(fun S=>∃p47:List Int,∃p48:List UInt8,∃p49:List Ac,(p47,p48,p49)=r78∧S=⟨[(3,.ptr 192 0),(5,.ptr 320 0),(6,oI 384 p47)],Db [(320,[Au 321 p48,Ab 354 p49])],[]⟩)) (Ga a0) (fun s S=>match s with | (p22,p23,p24,p25)=>S=⟨Jl p22 a0 p23 [(22,iV (a0.length:Int))],Db [(320,[Au 321 p24,Ab 354 p25])],[]⟩) e79 _ (Fz (by kernel_rfl)) rfl 1 (fun _=>rfl) ?_ ?_))))))))
   ·rintro S _ hfg ⟨p47,p48,p49,rfl,rfl⟩
    refine Fs _ hfg (Bb 4 (Cr (Do (Jz rfl rfl tv rfl rfl rfl (nl rfl) (d0 tv (d_ (At 2 [(2,oI 384 p47),(3,.ptr 192 0),(4,iV 0)] [(192,[Au 321 p48,Ab 354 p49])] ?_)))) Cd)))
    obtain rfl:=sj h0
    exact Wa (Iv rfl rfl rfl rfl rfl tv)
   ·rintro ⟨p22,p23,p24,p25⟩ o1 _ K1 rfl h1 hx1 hK1 hE1 hR1
    refine At 3 (Jl p22 a0 p23 [(22,iV (a0.length:Int)),(24,.bool (decide (p23<(a0.length:Int))))]) (Db [(320,[Au 321 p24,Ab 354 p25])]) (Bu (Cv h1 (fun c50 h1=>?_) (fun c50 h1=>?_)))
    ·refine aD 5 (Aj (bb h1 fun y51 e52 h1=>aO rfl rfl e52 (o_ (At 14 (Jl p22 a0 p23 [(8,.ptr 512 0),(9,iV 0),(22,iV (a0.length:Int)),(28,iV y51.kind)]) (Db [(320,[Au 321 p24,Ab 354 p25]),(512,Ap y51)]) (Zj (fun S=>∃p63:Int,∃p64:List UInt8,∃p65:List Ac,S=⟨Jl p22 a0 p23 [(9,iV p63),(22,iV (a0.length:Int))],Db [(320,[Au 2368 p64,Ab 2401 p65])],[]⟩∧Jg p22 p23 p63 p64 p65=some o1) ?_ (fun J67=>?_))))))
     ·rintro _ ⟨p63,p64,p65,rfl,h1⟩
      refine Bb 4 (Aj (gg h1 fun c66 h1=>st (Ms (e:=eI) (l0:=p22) (l1:=([p63]:List Int)) rfl rfl tv rfl (by decide) c66 (o_ (At 3 [(3,.ptr 192 0),(5,.ptr 320 0),(6,oI 384 (p22++([p63]:List Int))),(21,Ai a0),(22,iV (a0.length:Int)),(23,iV p23)] (Db [(320,[Au 2368 p64,Ab 2401 p65])]) (Bb 3 ?_))))))
      obtain rfl:=sj h1
      exact hK1 _ rfl _ _ (Ge [] [(2368,321),(2401,354)] rfl (by kernel_rfl)) rfl
     ·refine Bu ?_
      refine At 3 (Jl p22 a0 p23 [(8,.ptr 512 0),(9,iV 0),(22,iV (a0.length:Int)),(28,iV y51.kind),(29,.bool (y51.kind==1))]) (Db [(320,[Au 321 p24,Ab 354 p25]),(512,Ap y51)]) (Cv h1 (fun c68 h1=>?_) (fun c68 h1=>?_))
      ·refine HU 3 [] [(642,674)] (Jl p22 a0 p23 [(8,.ptr 512 0),(10,.ptr 640 0),(22,iV (a0.length:Int))]) (Db [(320,[Au 321 p24,Ab 354 p25]),(512,Ap y51),(640,[Au 641 [],Ab 674 []])]) (Bb 6 (Aj (bb h1 fun r69 e70 h1=>Ru (H265 (Ae.mk p24 p25) y51.at_ y51.data r69 e70) (af (Ek (Sx rfl) (Ek rfl rfl))) (o_ (At 11 (Jl p22 a0 p23 [(9,iV r69.2),(10,.ptr 640 0),(22,iV (a0.length:Int)),(41,.bool (r69.2==0))]) (Db [(320,[Au 321 p24,Ab 354 p25]),(640,Ak r69.1 (Cf 2368) (Cf 2401))]) (Cv h1 (fun c71 h1=>?_) (fun c71 h1=>?_)))))))
       ·refine Bb 4 ?_
        exact jn J67 ⟨_,_,_,rfl,h1⟩
       ·refine aH (cV ?_)
        exact J67 _ _ (Ge [] [(321,2368),(354,2401)] rfl (by kernel_rfl)) ⟨_,_,_,rfl,h1⟩
      ·refine At 4 (Jl p22 a0 p23 [(8,.ptr 512 0),(9,iV 0),(22,iV (a0.length:Int)),(28,iV y51.kind),(43,.bool (y51.kind==2))]) (Db [(320,[Au 321 p24,Ab 354 p25]),(512,Ap y51)]) (Cv h1 (fun c72 h1=>?_) (fun c72 h1=>?_))
       ·refine Aj (st (c_ (v:=.agg [Au 321 p24,Ab 354 p25]) (Bx ⟨tv,tv⟩ rfl (nl rfl)) (bb h1 fun r73 e74 h1=>Ru (H267 (Ae.mk p24 p25) r73 e74) (af (Ek (Sx rfl) rfl)) (o_ (Bb 3 ?_)))))
        exact J67 _ _ (Ge [] [(2944,2368),(2977,2401)] rfl (by kernel_rfl)) ⟨_,_,_,rfl,h1⟩
       ·refine At 4 (Jl p22 a0 p23 [(8,.ptr 512 0),(9,iV 0),(22,iV (a0.length:Int)),(47,.bool (y51.kind==3))]) (Db [(320,[Au 321 p24,Ab 354 p25]),(512,Ap y51)]) (Cv h1 (fun c75 h1=>?_) (fun c75 h1=>?_))
        ·refine Bb 3 (Aj (bb h1 fun r76 e77 h1=>Ru (H268 (Ae.mk p24 p25) y51.keep r76 e77) (af (Ek (Sx rfl) rfl)) (o_ (Bb 3 ?_))))
         exact J67 _ _ (Ge [] [(3328,2368),(3361,2401)] rfl (by kernel_rfl)) ⟨_,_,_,rfl,h1⟩
        ·refine Aj (st (HS tv (Pa (cV ?_))))
         exact J67 _ _ (Ge [] [(321,2368),(354,2401)] rfl (by kernel_rfl)) ⟨_,_,_,rfl,h1⟩
    ·obtain rfl:=sj h1
     obtain rfl:=hx1 _ rfl
     refine Nt rfl ?_
     exact jn hE1 ⟨_,_,_,rfl,rfl⟩

/- loop.example/g00149/laws.eqByteS -/
def oS:=[k_ 4 (.bool false)]
def oT:=[m_ 6 0,n_ 7 6,m_ 8 1,n_ 9 8,b_ .neq 10 7 9]
def oU:=[k_ 4 (.bool false)]
def oV:=[i_ 5 0]
def oW:=[m_ 11 5,m_ 12 0,n_ 13 12,b_ .lss 14 11 13]
def oX:=tk [m_ 17 0,m_ 18 5,x_ 19 17 18 1,l_ 20 19 1,m_ 21 1,m_ 22 5,x_ 23 21 22 1,l_ 24 23 1,b_ .neq 25 20 24] .fin
def oY:=[k_ 4 (.bool false)]
def oZ:=[m_ 15 5,B_ .add 16 15 1,m_ 5 16]
def oR:IR:=(.seq (sr oW (.ite (.t 14) .skip (.exit 0))) (.seq (.block 1 (sd oX (iz 25 (rr oY)))) (.reg oZ)))
def pA:=[k_ 4 (.bool true)]
def JE:Er:=⟨2,26,[.t 4],sr oS (.seq (sr oT (iz 10 (rr oU))) (.seq (sr oV (No 0 oR)) (rr pA)))⟩
def fA (D:Av):Prop:=∀a0 a1 r,dI a0 a1=some r→D 233 ⟨[Em a0,Em a1],[]⟩ ⟨.bool r,[],[]⟩
theorem MA:fA (FO C JE):=by
 intro a0 a1 r h0
 refine f0 (At 3 [(0,Em a0),(1,Em a1)] [] (Bb 3 (Aj (Gr rfl (st (Ce rfl tv (Gr rfl (o_ (At 2 [(0,Em a0),(1,Em a1),(10,.bool ((a0.length:Int) != (a1.length:Int)))] [] (Cv h0 (fun c1 h0=>?_) (fun c1 h0=>?_)))))))))))
 ·obtain rfl:=sj h0
  exact Dt 4
 ·refine At 6 [(0,Em a0),(1,Em a1),(5,iV 0)] [] (Bp (bb h0 fun r22 e23 h0=>Cw (R:=(fun S=>.inl ()=r22∧S=⟨[],[],[]⟩)) (Nw a0 a1) (fun s S=>match s with | p8=>S=⟨[(0,Em a0),(1,Em a1),(5,iV p8)],[],[]⟩) e23 _ (Fz (by kernel_rfl)) rfl 0 (fun _=>rfl) ?_ ?_))
  ·rintro S _ hfg ⟨rfl,rfl⟩
   refine Fs _ hfg ?_
   obtain rfl:=sj h0
   exact Dt 4
  ·rintro p8 o1 _ K1 rfl h1 hx1 hK1 hE1 hR1
   refine Bb 4 (Aj (Gr rfl (o_ (At 2 [(0,Em a0),(1,Em a1),(5,iV p8),(14,.bool (decide (p8<(a0.length:Int))))] [] (Cv h1 (fun c16 h1=>?_) (fun c16 h1=>?_))))))
   ·refine aD 5 (bb h1 fun y17 e18 h1=>bb h1 fun y19 e20 h1=>Bb 2 (Cr (d_ (eP rfl rfl rfl e18 (Bb 3 (Cr (d_ (eP rfl rfl rfl e20 (At 3 [(0,Em a0),(1,Em a1),(5,iV p8),(25,.bool (((y17).toNat:Int) != ((y19).toNat:Int)))] [] (Cv h1 (fun c21 h1=>?_) (fun c21 h1=>?_)))))))))))
    ·obtain rfl:=sj h1
     obtain rfl:=hx1 _ rfl
     obtain rfl:=sj h0
     exact lK 4 hR1
    ·refine Bb 7 ?_
     obtain rfl:=sj h1
     exact kn hK1 rfl rfl
   ·obtain rfl:=sj h1
    obtain rfl:=hx1 _ rfl
    refine Nt rfl ?_
    exact jn hE1 ⟨rfl,rfl⟩

/- loop.example/g00149/laws.eqSector -/
def yO:=[X_ 2 0,X_ 3 1,k_ 4 (.bool false)]
def yP:=[f_ 5 2 0,l_ 6 5 1,f_ 7 3 0,l_ 8 7 1,b_ .neq 9 6 8]
def yQ:=[k_ 4 (.bool false)]
def yR:=[f_ 10 2 1,l_ 11 10 1,f_ 12 3 1,l_ 13 12 1,q_ 14 233 [.t 11,.t 13],N_ 15 14]
def yS:=[k_ 4 (.bool false)]
def yT:=[k_ 4 (.bool true)]
def KL:Er:=⟨2,16,[.t 4],sr yO (.seq (sr yP (iz 9 (rr yQ))) (.seq (sr yR (iz 15 (rr yS))) (rr yT)))⟩
def FN (D:Av):Prop:=∀a0 a1 r,kA a0 a1=some r→D 347 ⟨[.agg (Ao a0),.agg (Ao a1)],[]⟩ ⟨.bool r,[],[]⟩
theorem NJ (H233:fA C):FN (FO C KL):=by
 intro a0 a1 r h0
 refine f0 (At 14 [(2,.ptr 128 0),(3,.ptr 192 0),(9,.bool (a0.at_ != a1.at_))] [(128,Ao a0),(192,Ao a1)] (Cv h0 (fun c1 h0=>?_) (fun c1 h0=>?_)))
 ·obtain rfl:=sj h0
  exact Dt 4
 ·refine Bb 8 (Aj (bb h0 fun r2 e3 h0=>Rv (H233 a0.data a1.data r2 e3) (o_ (At 2 [(15,.bool (!r2))] [] (Cv h0 (fun c4 h0=>?_) (fun c4 h0=>?_))))))
  ·obtain rfl:=sj h0
   exact Dt 4
  ·obtain rfl:=sj h0
   exact Dt 6

/- loop.example/g00149/laws.eqSectorS -/
def uE:=[k_ 4 (.bool false)]
def uF:=[m_ 6 0,n_ 7 6,m_ 8 1,n_ 9 8,b_ .neq 10 7 9]
def uG:=[k_ 4 (.bool false)]
def uH:=[i_ 5 0]
def uI:=[m_ 11 5,m_ 12 0,n_ 13 12,b_ .lss 14 11 13]
def uJ:=tk [m_ 17 0,m_ 18 5,x_ 19 17 18 2,L_ 20 19 2,m_ 21 1,m_ 22 5,x_ 23 21 22 2,L_ 24 23 2] (.alt [] (q_ 25 347 [.t 20,.t 24]) (tk [N_ 26 25] .fin) .stop)
def uK:=[k_ 4 (.bool false)]
def uL:=[m_ 15 5,B_ .add 16 15 1,m_ 5 16]
def uD:IR:=(.seq (sr uI (.ite (.t 14) .skip (.exit 0))) (.seq (.block 1 (sd uJ (iz 26 (rr uK)))) (.reg uL)))
def uM:=[k_ 4 (.bool true)]
def JX:Er:=⟨2,27,[.t 4],sr uE (.seq (sr uF (iz 10 (rr uG))) (.seq (sr uH (No 0 uD)) (rr uM)))⟩
def FD (D:Av):Prop:=∀a0 a1 r,BV a0 a1=some r→D 295 ⟨[Al a0,Al a1],[]⟩ ⟨.bool r,[],[]⟩
theorem MT (H347:FN C):FD (FO C JX):=by
 intro a0 a1 r h0
 refine f0 (At 3 [(0,Al a0),(1,Al a1)] [] (Bb 3 (Aj (Gr rfl (st (Ce rfl tv (Gr rfl (o_ (At 2 [(0,Al a0),(1,Al a1),(10,.bool ((a0.length:Int) != (a1.length:Int)))] [] (Cv h0 (fun c1 h0=>?_) (fun c1 h0=>?_)))))))))))
 ·obtain rfl:=sj h0
  exact Dt 4
 ·refine At 6 [(0,Al a0),(1,Al a1),(5,iV 0)] [] (Bp (bb h0 fun r28 e29 h0=>Cw (R:=(fun S=>.inl ()=r28∧S=⟨[],[],[]⟩)) (Oe a0 a1) (fun s S=>match s with | p10=>S=⟨[(0,Al a0),(1,Al a1),(5,iV p10)],[],[]⟩) e29 _ (Fz (by kernel_rfl)) rfl 0 (fun _=>rfl) ?_ ?_))
  ·rintro S _ hfg ⟨rfl,rfl⟩
   refine Fs _ hfg ?_
   obtain rfl:=sj h0
   exact Dt 4
  ·rintro p10 o1 _ K1 rfl h1 hx1 hK1 hE1 hR1
   refine Bb 4 (Aj (Gr rfl (o_ (At 2 [(0,Al a0),(1,Al a1),(5,iV p10),(14,.bool (decide (p10<(a0.length:Int))))] [] (Cv h1 (fun c20 h1=>?_) (fun c20 h1=>?_))))))
   ·refine aD 5 (bb h1 fun y21 e22 h1=>bb h1 fun y23 e24 h1=>bb h1 fun r25 e26 h1=>Bb 2 (Cr (d_ (eP rfl rfl rfl e22 (Bb 3 (Cr (d_ (eP rfl rfl rfl e24 (Cr (Ck tv (c_ (v:=.agg (Ao y23)) (Bx ⟨tv,tv⟩ rfl (nl rfl)) (⟨tv,LQ (H347 y21 y23 r25 e26) rfl (dw [(0,Al a0),(1,Al a1),(5,iV p10),(25,.bool r25)] [] tv (d_ (At 2 [(0,Al a0),(1,Al a1),(5,iV p10),(26,.bool (!r25))] [] (Cv h1 (fun c27 h1=>?_) (fun c27 h1=>?_))))) Cd⟩))))))))))))
    ·obtain rfl:=sj h1
     obtain rfl:=hx1 _ rfl
     obtain rfl:=sj h0
     exact lK 4 hR1
    ·refine Bb 7 ?_
     obtain rfl:=sj h1
     exact kn hK1 rfl rfl
   ·obtain rfl:=sj h1
    obtain rfl:=hx1 _ rfl
    refine Nt rfl ?_
    exact jn hE1 ⟨rfl,rfl⟩

/- loop.example/g00149/laws.eqDevice -/
def oL:=[X_ 2 0,X_ 3 1,k_ 4 (.bool false)]
def oM:=[f_ 5 2 0,l_ 6 5 1,f_ 7 3 0,l_ 8 7 1,q_ 9 233 [.t 6,.t 8],N_ 10 9]
def oN:=[k_ 4 (.bool false)]
def oO:=[f_ 11 2 1,l_ 12 11 1,f_ 13 3 1,l_ 14 13 1,q_ 15 295 [.t 12,.t 14],N_ 16 15]
def oP:=[k_ 4 (.bool false)]
def oQ:=[k_ 4 (.bool true)]
def JD:Er:=⟨2,17,[.t 4],sr oL (.seq (sr oM (iz 10 (rr oN))) (.seq (sr oO (iz 16 (rr oP))) (rr oQ)))⟩
def EM (D:Av):Prop:=∀a0 a1 r,dG a0 a1=some r→D 232 ⟨[.agg (Ah a0),.agg (Ah a1)],[]⟩ ⟨.bool r,[],[]⟩
theorem LZ (H233:fA C) (H295:FD C):EM (FO C JD):=by
 intro a0 a1 r h0
 refine f0 (At 5 [(2,.ptr 128 0),(3,.ptr 192 0)] [(128,Ah a0),(192,Ah a1)] (Bb 6 (Aj (bb h0 fun r1 e2 h0=>Rv (H233 a0.held a1.held r1 e2) (o_ (At 2 [(2,.ptr 128 0),(3,.ptr 192 0),(10,.bool (!r1))] [(128,Ah a0),(192,Ah a1)] (Cv h0 (fun c3 h0=>?_) (fun c3 h0=>?_))))))))
 ·obtain rfl:=sj h0
  exact Dt 4
 ·refine Bb 8 (Aj (bb h0 fun r4 e5 h0=>Rv (H295 a0.Aa a1.Aa r4 e5) (o_ (At 2 [(16,.bool (!r4))] [] (Cv h0 (fun c6 h0=>?_) (fun c6 h0=>?_))))))
  ·obtain rfl:=sj h0
   exact Dt 4
  ·obtain rfl:=sj h0
   exact Dt 6

/- loop.example/g00149/laws.markByteS -/
def pH:=[i_ 4 0]
def pI:=[i_ 5 0]
def pJ:=[m_ 6 5,m_ 7 0,n_ 8 7,b_ .lss 9 6 8]
def pK:=[m_ 12 0,m_ 13 5,m_ 14 1,iQ 15 (.conv .u8 (.t 14)),x_ 16 12 13 1,s_ 16 15 1]
def pL:=[m_ 17 1,B_ .add 18 17 1,m_ 1 18]
def pM:=[m_ 10 5,B_ .add 11 10 1,m_ 5 11]
def pG:IR:=(.seq (sr pJ (.ite (.t 9) .skip (.exit 0))) (.seq (.block 1 (sr pK (.reg pL))) (.reg pM)))
def pN:=[m_ 19 1,m_ 4 19]
def JG:Er:=⟨2,20,[.t 4],sr pH (.seq (sr pI (No 0 pG)) (rr pN))⟩
def fB (D:Av):Prop:=∀a0 a1 r,dJ a0 a1=some r→D 235 ⟨[Au 2097152 a0,iV a1],[]⟩ ⟨iV r.1,[],[(0,1,r.2.map Im)]⟩
theorem MC:fB (FO C JG):=by
 intro a0 a1 r h0
 refine f0 (At 8 [(0,Au 2097152 a0),(1,iV a1),(5,iV 0)] [] (Bp (bb h0 fun r24 e25 h0=>Cw (R:=(fun S=>∃p17:List UInt8,∃p18:Int,(p17,p18)=r24∧S=⟨[(0,Au 2097152 p17),(1,iV p18)],[],[]⟩)) (Ny) (fun s S=>match s with | (p6,p7,p8)=>S=⟨[(0,Au 2097152 p6),(1,iV p7),(5,iV p8)],[],[]⟩) e25 _ (Fz (by kernel_rfl)) rfl 0 (fun _=>rfl) ?_ ?_)))
 ·rintro S _ hfg ⟨p17,p18,rfl,rfl⟩
  refine Fs _ hfg (At 4 [(0,Au 2097152 p17),(4,iV p18)] [] ?_)
  obtain rfl:=sj h0
  exact Wa (Iv rfl rfl rfl rfl rfl ⟨⟨rfl,Zz (fun _=>rfl)⟩,tv⟩)
 ·rintro ⟨p6,p7,p8⟩ o1 _ K1 rfl h1 hx1 hK1 hE1 hR1
  refine Bb 4 (Aj (eX rfl (o_ (At 2 [(0,Au 2097152 p6),(1,iV p7),(5,iV p8),(9,.bool (decide (p8<(p6.length:Int))))] [] (Cv h1 (fun c19 h1=>?_) (fun c19 h1=>?_))))))
  ·refine Bb 8 (Aj (st (c_ (OO (Bx ⟨tv,tv⟩ rfl tv)) (bb h1 fun y20 e21 h1=>eZ rfl rfl e21 (bb h1 fun y22 e23 h1=>LI (b8 p7) rfl rfl e23 (o_ (At 7 [(0,Au 2097152 (p6.set p8.toNat (b8 p7))),(1,iV (wi (p7+1))),(5,iV p8)] [] (Bb 4 ?_))))))))
   obtain rfl:=sj h1
   exact kn hK1 rfl rfl
  ·obtain rfl:=sj h1
   obtain rfl:=hx1 _ rfl
   refine Nt rfl ?_
   exact jn hE1 ⟨_,_,rfl,rfl⟩

/- loop.example/g00149/laws.markSectorS -/
def uO:=[i_ 4 0]
def uP:=[i_ 5 0]
def uQ:=[m_ 6 5,m_ 7 0,n_ 8 7,b_ .lss 9 6 8]
def uR:=[m_ 12 0,m_ 13 5,m_ 14 1,x_ 15 12 13 2,f_ 16 15 0,s_ 16 14 1]
def uS:=[m_ 17 1,B_ .add 18 17 1,m_ 1 18]
def uT:=[m_ 19 0,m_ 20 5,x_ 21 19 20 2,f_ 22 21 1,l_ 23 22 1,m_ 24 1,q_ 25 235 [.t 23,.t 24],m_ 1 25]
def uU:=[m_ 10 5,B_ .add 11 10 1,m_ 5 11]
def uN:IR:=(.seq (sr uQ (.ite (.t 9) .skip (.exit 0))) (.seq (.block 1 (sr uR (sr uS (.reg uT)))) (.reg uU)))
def uV:=[m_ 26 1,m_ 4 26]
def JY:Er:=⟨2,27,[.t 4],sr uO (.seq (sr uP (No 0 uN)) (rr uV))⟩
def FE (D:Av):Prop:=∀a0 a1 r,BW a0 a1=some r→D 296 ⟨[Ab 2097184 a0,iV a1],[]⟩ ⟨iV r.1,[],[(0,2,r.2.map Ao)]⟩
theorem MU (H235:fB C):FE (FO C JY):=by
 intro a0 a1 r h0
 refine f0 (At 8 [(0,Ab 2097184 a0),(1,iV a1),(5,iV 0)] [] (Bp (bb h0 fun r51 e52 h0=>Cw (R:=(fun S=>∃p35:List Ac,∃p36:Int,(p35,p36)=r51∧S=⟨[(0,Ab 2097184 p35),(1,iV p36)],[],[]⟩)) (Ls) (fun s S=>match s with | (p15,p16,p17)=>S=⟨[(0,Ab 2097184 p15),(1,iV p16),(5,iV p17)],[],[]⟩) e52 _ (Fz (by kernel_rfl)) rfl 0 (fun _=>rfl) ?_ ?_)))
 ·rintro S _ hfg ⟨p35,p36,rfl,rfl⟩
  refine Fs _ hfg (At 4 [(0,Ab 2097184 p35),(4,iV p36)] [] ?_)
  obtain rfl:=sj h0
  exact Wa (Iv rfl rfl rfl rfl rfl ⟨⟨rfl,Zz (fun _=>rfl)⟩,tv⟩)
 ·rintro ⟨p15,p16,p17⟩ o1 _ K1 rfl h1 hx1 hK1 hE1 hR1
  refine Bb 4 (Aj (eX rfl (o_ (At 2 [(0,Ab 2097184 p15),(1,iV p16),(5,iV p17),(9,.bool (decide (p17<(p15.length:Int))))] [] (Cv h1 (fun IK h1=>?_) (fun IK h1=>?_))))))
  ·refine Bb 8 (Aj (bb h1 fun y38 e39 h1=>eZ rfl rfl e39 (st (c_ (Bx ⟨tv,tv⟩ rfl tv) (bb h1 fun y40 e41 h1=>st (cJ (y':=(Ac.mk p16 y40.data)) rfl rfl tv rfl rfl rfl rfl e41 (nl rfl) rfl (Ek Ui rfl) rfl rfl (Pa (Fs ⟨[(0,Ab 2097184 (p15.set p17.toNat (Ac.mk p16 y40.data))),(1,iV p16),(5,iV p17)],[],[]⟩ (fg ⟨congrArg (fun z=>some ((.own 2097184 0 2 z:V))) Gi,rfl,rfl,tv⟩ tv) (At 5 [(0,Ab 2097184 (p15.set p17.toNat (Ac.mk p16 y40.data))),(1,iV (wi (p16+1))),(5,iV p17)] [] (Bb 2 (Aj (bb h1 fun y42 e43 h1=>eZ rfl rfl e43 (st (c_ (Bx ⟨tv,tv⟩ rfl tv) (bb h1 fun y44 e45 h1=>st (c_ (Zo (e:=Ao) (y:=y44) (v:=.nrow 2097184 (0+p17.toNat) 1 1 (y44.data.map Im)) rfl rfl tv rfl rfl e45 rfl (nl rfl) rfl) (st (Ce rfl tv (bb h1 fun r46 e47 h1=>gg h1 fun c48 h1=>st (Zk (e0:=Ao) (L0:=p15.set p17.toNat (Ac.mk p16 y40.data)) (e:=Im) (xs:=y44.data) (xs':=r46.2) (y:=y44) (r:=iV r46.1) (H235 y44.data (wi (p16+1)) r46 e47) ⟨tv,tv,tv⟩ ⟨.inl ⟨rfl,rfl⟩,⟨.inr ⟨rfl,rfl,rfl⟩,tv⟩⟩ rfl rfl e45 rfl rfl c48 (fun _=>rfl) (sw ⟨[(0,Ab 2097184 ((p15.set p17.toNat (Ac.mk p16 y40.data)).set p17.toNat (Ac.mk y44.at_ r46.2))),(5,iV p17),(25,iV r46.1)],[],[]⟩ (fg ⟨congrArg (fun z=>some ((z:V))) (Wy (y:=y44) (y':=(Ac.mk y44.at_ r46.2)) e45 rfl),rfl,rfl,tv⟩ tv) (Ce rfl tv (Pa (cV (bv h1 fun v49 e50 h1=>Fs ⟨[(0,Ab 2097184 v49),(1,iV r46.1),(5,iV p17)],[],[]⟩ (Fz (by subst e50; kernel_rfl)) (Bb 4 ?_))))))))))))))))))))))))))
   obtain rfl:=sj h1
   exact kn hK1 rfl rfl
  ·obtain rfl:=sj h1
   obtain rfl:=hx1 _ rfl
   refine Nt rfl ?_
   exact jn hE1 ⟨_,_,rfl,rfl⟩

/- loop.example/g00149/laws.markDevice -/
def pB:=[X_ 2 0,i_ 4 0]
def pC:=[f_ 5 2 0,l_ 6 5 1,m_ 7 1,q_ 8 235 [.t 6,.t 7],m_ 1 8]
def pD:=[f_ 9 2 1,l_ 10 9 1,m_ 11 1,q_ 12 296 [.t 10,.t 11],m_ 1 12]
def pE:=[m_ 13 1,m_ 4 13]
def JF:Er:=⟨2,14,[.t 4],sr pB (sr pC (sr pD (rr pE)))⟩
def EN (D:Av):Prop:=∀a0 a1 r,BH a0 a1=some r→D 234 ⟨[.agg (Ak a0 (Cf 2097152) (Cf 2097185)),iV a1],[]⟩ ⟨iV r.1,[],[(0,1,r.2.1.map Im),(0,2,r.2.2.map Ao)]⟩
theorem MB (H235:fB C) (H296:FE C):EN (FO C JF):=by
 intro a0 a1 r h0
 refine f0 (At 4 [(0,.agg (Ak a0 (Cf 2097152) (Cf 2097185))),(1,iV a1),(2,.ptr 128 0)] [(128,Ak a0 (Cf 2097152) (Cf 2097185))] (Bu (Aj (st (c_ (Bx ⟨tv,tv⟩ rfl tv) (st (c_ (Bx ⟨tv,tv⟩ rfl (nl rfl)) (st (Ce rfl tv (bb h0 fun r1 e2 h0=>gg h0 fun c3 h0=>LN [] [2097152] [] (H235 a0.held a1 r1 e2) (ar (Ek (OP (fun _=>rfl)) rfl)) (sw ⟨[(0,.agg [Au 2097152 r1.2,Ab 2097185 a0.Aa]),(2,.ptr 128 0),(8,iV r1.1)],[(128,[Au 2097152 r1.2,Ab 2097185 a0.Aa])],[]⟩ (fg ⟨congrArg (fun z=>some ((.agg [z,Ab 2097185 a0.Aa]:V))) (Qp c3),rfl,rfl,tv⟩ ⟨congrArg (fun z=>some (([z,Ab 2097185 a0.Aa]:List V))) (Qp c3),tv⟩) (Ce rfl tv (o_ (At 1 [(0,.agg [Au 2097152 r1.2,Ab 2097185 a0.Aa]),(1,iV r1.1),(2,.ptr 128 0)] [(128,[Au 2097152 r1.2,Ab 2097185 a0.Aa])] (Bu (Aj (st (c_ (Bx ⟨tv,tv⟩ rfl tv) (st (c_ (Bx ⟨tv,tv⟩ rfl (nl rfl)) (st (Ce rfl tv (bb h0 fun r4 e5 h0=>gg h0 fun c6 h0=>NX [] [2097185] [] (H296 a0.Aa r1.1 r4 e5) (sw ⟨[(0,.agg [Au 2097152 r1.2,Ab 2097185 r4.2]),(12,iV r4.1)],[],[]⟩ (fg ⟨congrArg (fun z=>some ((.agg [Au 2097152 r1.2,z]:V))) (Qp c6),rfl,tv⟩ tv) (Ce rfl tv (o_ (At 6 [(0,.agg [Au 2097152 r1.2,Ab 2097185 r4.2]),(4,iV r4.1)] [] ?_)))))))))))))))))))))))))))
 obtain rfl:=sj h0
 exact Wa (Iv rfl rfl rfl rfl rfl ⟨⟨rfl,Zz (fun _=>rfl)⟩,⟨⟨rfl,Zz (fun _=>rfl)⟩,tv⟩⟩)

/- loop.example/g00149/laws.heldByteS -/
def uX:=[i_ 4 0]
def uY:=[i_ 5 0]
def uZ:=[m_ 6 5,m_ 7 0,n_ 8 7,b_ .lss 9 6 8]
def vA:=[m_ 12 0,m_ 13 5,x_ 14 12 13 1,l_ 15 14 1,m_ 16 1,iQ 17 (.conv .u8 (.t 16)),b_ .neq 18 15 17]
def vB:=[i_ 4 (-1)]
def vC:=[m_ 19 1,B_ .add 20 19 1,m_ 1 20]
def vD:=[m_ 10 5,B_ .add 11 10 1,m_ 5 11]
def uW:IR:=(.seq (sr uZ (.ite (.t 9) .skip (.exit 0))) (.seq (.block 1 (.seq (sr vA (iz 18 (rr vB))) (.reg vC))) (.reg vD)))
def vE:=[m_ 21 1,m_ 4 21]
def JZ:Er:=⟨2,22,[.t 4],sr uX (.seq (sr uY (No 0 uW)) (rr vE))⟩
def nB (D:Av):Prop:=∀a0 a1 r,jW a0 a1=some r→D 297 ⟨[Em a0,iV a1],[]⟩ ⟨iV r,[],[]⟩
theorem MV:nB (FO C JZ):=by
 intro a0 a1 r h0
 refine f0 (At 8 [(0,Em a0),(1,iV a1),(5,iV 0)] [] (Bp (bb h0 fun r18 e19 h0=>Cw (R:=(fun S=>∃p13:Int,.inl p13=r18∧S=⟨[(1,iV p13)],[],[]⟩)) (Lt a0) (fun s S=>match s with | (p5,p6)=>S=⟨[(0,Em a0),(1,iV p5),(5,iV p6)],[],[]⟩) e19 _ (Fz (by kernel_rfl)) rfl 0 (fun _=>rfl) ?_ ?_)))
 ·rintro S _ hfg ⟨p13,rfl,rfl⟩
  refine Fs _ hfg ?_
  obtain rfl:=sj h0
  exact Dt 5
 ·rintro ⟨p5,p6⟩ o1 _ K1 rfl h1 hx1 hK1 hE1 hR1
  refine Bb 4 (Aj (Gr rfl (o_ (At 2 [(0,Em a0),(1,iV p5),(5,iV p6),(9,.bool (decide (p6<(a0.length:Int))))] [] (Cv h1 (fun c14 h1=>?_) (fun c14 h1=>?_))))))
  ·refine Bb 8 (Aj (bb h1 fun y15 e16 h1=>aO rfl rfl e16 (o_ (Bb 2 (Aj (st (c_ (OO (Bx ⟨tv,tv⟩ rfl tv)) (o_ (At 2 [(0,Em a0),(1,iV p5),(5,iV p6),(18,.bool (((y15).toNat:Int) != ((b8 p5).toNat:Int)))] [] (Cv h1 (fun c17 h1=>?_) (fun c17 h1=>?_)))))))))))
   ·obtain rfl:=sj h1
    obtain rfl:=hx1 _ rfl
    obtain rfl:=sj h0
    exact lK 4 hR1
   ·refine At 7 [(0,Em a0),(1,iV (wi (p5+1))),(5,iV p6)] [] (Bb 4 ?_)
    obtain rfl:=sj h1
    exact kn hK1 rfl rfl
  ·obtain rfl:=sj h1
   obtain rfl:=hx1 _ rfl
   refine Nt rfl ?_
   exact jn hE1 ⟨_,rfl,rfl⟩

/- loop.example/g00149/laws.heldSectorS -/
def vG:=[i_ 4 0]
def vH:=[i_ 5 0]
def vI:=[m_ 6 5,m_ 7 0,n_ 8 7,b_ .lss 9 6 8]
def vJ:=[m_ 12 0,m_ 13 5,x_ 14 12 13 2,f_ 15 14 0,l_ 16 15 1,m_ 17 1,b_ .neq 18 16 17]
def vK:=[i_ 4 (-1)]
def vL:=[m_ 19 1,B_ .add 20 19 1,m_ 1 20]
def vM:=[m_ 21 0,m_ 22 5,x_ 23 21 22 2,f_ 24 23 1,l_ 25 24 1,m_ 26 1,q_ 27 297 [.t 25,.t 26],m_ 1 27]
def vN:=[m_ 28 1,B_ .lss 29 28 0]
def vO:=[i_ 4 (-1)]
def vP:=[m_ 10 5,B_ .add 11 10 1,m_ 5 11]
def vF:IR:=(.seq (sr vI (.ite (.t 9) .skip (.exit 0))) (.seq (.block 1 (.seq (sr vJ (iz 18 (rr vK))) (sr vL (sr vM (sr vN (iz 29 (rr vO))))))) (.reg vP)))
def iN:=[m_ 30 1,m_ 4 30]
def KA:Er:=⟨2,31,[.t 4],sr vG (.seq (sr vH (No 0 vF)) (rr iN))⟩
def FF (D:Av):Prop:=∀a0 a1 r,BY a0 a1=some r→D 298 ⟨[Al a0,iV a1],[]⟩ ⟨iV r,[],[]⟩
theorem MW (H297:nB C):FF (FO C KA):=by
 intro a0 a1 r h0
 refine f0 (At 8 [(0,Al a0),(1,iV a1),(5,iV 0)] [] (Bp (bb h0 fun r33 e34 h0=>Cw (R:=(fun S=>∃p23:Int,.inl p23=r33∧S=⟨[(1,iV p23)],[],[]⟩)) (Lu a0) (fun s S=>match s with | (p10,p11)=>S=⟨[(0,Al a0),(1,iV p10),(5,iV p11)],[],[]⟩) e34 _ (Fz (by kernel_rfl)) rfl 0 (fun _=>rfl) ?_ ?_)))
 ·rintro S _ hfg ⟨p23,rfl,rfl⟩
  refine Fs _ hfg ?_
  obtain rfl:=sj h0
  exact Dt 5
 ·rintro ⟨p10,p11⟩ o1 _ K1 rfl h1 hx1 hK1 hE1 hR1
  refine Bb 4 (Aj (Gr rfl (o_ (At 2 [(0,Al a0),(1,iV p10),(5,iV p11),(9,.bool (decide (p11<(a0.length:Int))))] [] (Cv h1 (fun c24 h1=>?_) (fun c24 h1=>?_))))))
  ·refine Bb 8 (Aj (bb h1 fun y25 e26 h1=>aO rfl rfl e26 (o_ (At 5 [(0,Al a0),(1,iV p10),(5,iV p11),(18,.bool (y25.at_ != p10))] [] (Cv h1 (fun c27 h1=>?_) (fun c27 h1=>?_))))))
   ·obtain rfl:=sj h1
    obtain rfl:=hx1 _ rfl
    obtain rfl:=sj h0
    exact lK 4 hR1
   ·refine At 7 [(0,Al a0),(1,iV (wi (p10+1))),(5,iV p11)] [] (Bb 3 (Aj (bb h1 fun y28 e29 h1=>aO rfl rfl e29 (o_ (Bb 3 (Aj (bb h1 fun r30 e31 h1=>Rv (H297 y28.data (wi (p10+1)) r30 e31) (o_ (At 7 [(0,Al a0),(1,iV r30),(5,iV p11),(29,.bool (decide (r30<0)))] [] (Cv h1 (fun c32 h1=>?_) (fun c32 h1=>?_)))))))))))
    ·obtain rfl:=sj h1
     obtain rfl:=hx1 _ rfl
     obtain rfl:=sj h0
     exact lK 4 hR1
    ·refine Bb 7 ?_
     obtain rfl:=sj h1
     exact kn hK1 rfl rfl
  ·obtain rfl:=sj h1
   obtain rfl:=hx1 _ rfl
   refine Nt rfl ?_
   exact jn hE1 ⟨_,rfl,rfl⟩

/- loop.example/g00149/laws.heldDevice -/
def pO:=[X_ 2 0,i_ 4 0]
def pP:=[f_ 5 2 0,l_ 6 5 1,m_ 7 1,q_ 8 297 [.t 6,.t 7],m_ 1 8]
def pQ:=[m_ 9 1,B_ .lss 10 9 0]
def pR:=[i_ 4 (-1)]
def pS:=[f_ 11 2 1,l_ 12 11 1,m_ 13 1,q_ 14 298 [.t 12,.t 13],m_ 1 14]
def pU:=[m_ 15 1,B_ .lss 16 15 0]
def pV:=[i_ 4 (-1)]
def pW:=[m_ 17 1,m_ 4 17]
def JH:Er:=⟨2,18,[.t 4],sr pO (sr pP (.seq (sr pQ (iz 10 (rr pR))) (sr pS (.seq (sr pU (iz 16 (rr pV))) (rr pW)))))⟩
def EO (D:Av):Prop:=∀a0 a1 r,jT a0 a1=some r→D 236 ⟨[.agg (Ah a0),iV a1],[]⟩ ⟨iV r,[],[]⟩
theorem MD (H297:nB C) (H298:FF C):EO (FO C JH):=by
 intro a0 a1 r h0
 refine f0 (At 4 [(1,iV a1),(2,.ptr 128 0)] [(128,Ah a0)] (Bb 4 (Aj (bb h0 fun r1 e2 h0=>Rv (H297 a0.held a1 r1 e2) (o_ (At 8 [(1,iV r1),(2,.ptr 128 0),(10,.bool (decide (r1<0)))] [(128,Ah a0)] (Cv h0 (fun c3 h0=>?_) (fun c3 h0=>?_))))))))
 ·obtain rfl:=sj h0
  exact Dt 4
 ·refine Bb 6 (Aj (bb h0 fun r4 e5 h0=>Rv (H298 a0.Aa r1 r4 e5) (o_ (At 8 [(1,iV r4),(16,.bool (decide (r4<0)))] [] (Cv h0 (fun c6 h0=>?_) (fun c6 h0=>?_))))))
  ·obtain rfl:=sj h0
   exact Dt 4
  ·obtain rfl:=sj h0
   exact Dt 7

/- loop.example/g00149/laws.szByteS -/
def tC:=[i_ 4 0]
def tD:=[m_ 5 1,m_ 6 0,n_ 7 6,b_ .sub 8 5 7,m_ 1 8]
def tE:=[m_ 9 1,B_ .lss 10 9 0]
def tF:=[i_ 4 (-1)]
def tG:=[m_ 11 1,m_ 4 11]
def JT:Er:=⟨2,12,[.t 4],sr tC (sr tD (.seq (sr tE (iz 10 (rr tF))) (rr tG)))⟩
def EZ (D:Av):Prop:=∀a0 a1 r,jV a0 a1=some r→D 276 ⟨[Em a0,iV a1],[]⟩ ⟨iV r,[],[]⟩
theorem MP:EZ (FO C JT):=by
 intro a0 a1 r h0
 refine f0 (At 3 [(0,Em a0),(1,iV a1)] [] (Bb 3 (Aj (Gr rfl (o_ (At 9 [(1,iV (wi (a1-(a0.length:Int)))),(10,.bool (decide ((wi (a1-(a0.length:Int)))<0)))] [] (Cv h0 (fun c1 h0=>?_) (fun c1 h0=>?_))))))))
 ·obtain rfl:=sj h0
  exact Dt 4
 ·obtain rfl:=sj h0
  exact Dt 7

/- loop.example/g00149/laws.szBoolS -/
def zB:=[i_ 4 0]
def zC:=[m_ 5 1,m_ 6 0,n_ 7 6,b_ .sub 8 5 7,m_ 1 8]
def zD:=[m_ 9 1,B_ .lss 10 9 0]
def zE:=[i_ 4 (-1)]
def zF:=[m_ 11 1,m_ 4 11]
def KN:Er:=⟨2,12,[.t 4],sr zB (sr zC (.seq (sr zD (iz 10 (rr zE))) (rr zF)))⟩
def FP (D:Av):Prop:=∀a0 a1 r,kC a0 a1=some r→D 354 ⟨[lB a0,iV a1],[]⟩ ⟨iV r,[],[]⟩
theorem NL:FP (FO C KN):=by
 intro a0 a1 r h0
 refine f0 (At 3 [(0,lB a0),(1,iV a1)] [] (Bb 3 (Aj (Gr rfl (o_ (At 9 [(1,iV (wi (a1-(a0.length:Int)))),(10,.bool (decide ((wi (a1-(a0.length:Int)))<0)))] [] (Cv h0 (fun c1 h0=>?_) (fun c1 h0=>?_))))))))
 ·obtain rfl:=sj h0
  exact Dt 4
 ·obtain rfl:=sj h0
  exact Dt 7

/- loop.example/g00149/laws.szDevAct -/
def vY:=[X_ 2 0,i_ 4 0]
def vZ:=[f_ 5 2 2,l_ 6 5 1,m_ 7 1,q_ 8 276 [.t 6,.t 7],m_ 1 8]
def wA:=[m_ 9 1,B_ .lss 10 9 0]
def wB:=[i_ 4 (-1)]
def wC:=[f_ 11 2 3,l_ 12 11 1,m_ 13 1,q_ 14 354 [.t 12,.t 13],m_ 1 14]
def wD:=[m_ 15 1,B_ .lss 16 15 0]
def wE:=[i_ 4 (-1)]
def wF:=[m_ 17 1,m_ 4 17]
def KC:Er:=⟨2,18,[.t 4],sr vY (sr vZ (.seq (sr wA (iz 10 (rr wB))) (sr wC (.seq (sr wD (iz 16 (rr wE))) (rr wF)))))⟩
def FG (D:Av):Prop:=∀a0 a1 r,HK a0 a1=some r→D 307 ⟨[.agg (Ap a0),iV a1],[]⟩ ⟨iV r,[],[]⟩
theorem MY (H276:EZ C) (H354:FP C):FG (FO C KC):=by
 intro a0 a1 r h0
 refine f0 (At 4 [(1,iV a1),(2,.ptr 128 0)] [(128,Ap a0)] (Bb 4 (Aj (bb h0 fun r1 e2 h0=>Rv (H276 a0.data a1 r1 e2) (o_ (At 8 [(1,iV r1),(2,.ptr 128 0),(10,.bool (decide (r1<0)))] [(128,Ap a0)] (Cv h0 (fun c3 h0=>?_) (fun c3 h0=>?_))))))))
 ·obtain rfl:=sj h0
  exact Dt 4
 ·refine Bb 6 (Aj (bb h0 fun r4 e5 h0=>Rv (H354 a0.keep r1 r4 e5) (o_ (At 8 [(1,iV r4),(16,.bool (decide (r4<0)))] [] (Cv h0 (fun c6 h0=>?_) (fun c6 h0=>?_))))))
  ·obtain rfl:=sj h0
   exact Dt 4
  ·obtain rfl:=sj h0
   exact Dt 7

/- loop.example/g00149/laws.szDevActS -/
def pY:=[i_ 4 0]
def pZ:=[m_ 6 1,m_ 7 0,n_ 8 7,b_ .sub 9 6 8,m_ 1 9]
def qA:=[m_ 10 1,B_ .lss 11 10 0]
def qB:=[i_ 4 (-1)]
def qC:=[i_ 5 0]
def qD:=[m_ 12 5,m_ 13 0,n_ 14 13,b_ .lss 15 12 14]
def qE:=[m_ 18 0,m_ 19 5,x_ 20 18 19 4,L_ 21 20 4,m_ 22 1,q_ 23 307 [.t 21,.t 22],m_ 1 23]
def qF:=[m_ 24 1,B_ .lss 25 24 0]
def qG:=[i_ 4 (-1)]
def qH:=[m_ 16 5,B_ .add 17 16 1,m_ 5 17]
def pX:IR:=(.seq (sr qD (.ite (.t 15) .skip (.exit 0))) (.seq (.block 1 (sr qE (sr qF (iz 25 (rr qG))))) (.reg qH)))
def iE:=[m_ 26 1,m_ 4 26]
def JI:Er:=⟨2,27,[.t 4],sr pY (sr pZ (.seq (sr qA (iz 11 (rr qB))) (.seq (sr qC (No 0 pX)) (rr iE))))⟩
def EP (D:Av):Prop:=∀a0 a1 r,BI a0 a1=some r→D 244 ⟨[Ai a0,iV a1],[]⟩ ⟨iV r,[],[]⟩
theorem ME (H307:FG C):EP (FO C JI):=by
 intro a0 a1 r h0
 refine f0 (At 3 [(0,Ai a0),(1,iV a1)] [] (Bb 3 (Aj (Gr rfl (o_ (At 9 [(0,Ai a0),(1,iV (wi (a1-(a0.length:Int)))),(11,.bool (decide ((wi (a1-(a0.length:Int)))<0)))] [] (Cv h0 (fun c1 h0=>?_) (fun c1 h0=>?_))))))))
 ·obtain rfl:=sj h0
  exact Dt 4
 ·refine At 6 [(0,Ai a0),(1,iV (wi (a1-(a0.length:Int)))),(5,iV 0)] [] (Bp (bb h0 fun r25 e26 h0=>Cw (R:=(fun S=>∃p18:Int,.inl p18=r25∧S=⟨[(1,iV p18)],[],[]⟩)) (Nz a0) (fun s S=>match s with | (p8,p9)=>S=⟨[(0,Ai a0),(1,iV p8),(5,iV p9)],[],[]⟩) e26 _ (Fz (by kernel_rfl)) rfl 0 (fun _=>rfl) ?_ ?_))
  ·rintro S _ hfg ⟨p18,rfl,rfl⟩
   refine Fs _ hfg ?_
   obtain rfl:=sj h0
   exact Dt 5
  ·rintro ⟨p8,p9⟩ o1 _ K1 rfl h1 hx1 hK1 hE1 hR1
   refine Bb 4 (Aj (Gr rfl (o_ (At 2 [(0,Ai a0),(1,iV p8),(5,iV p9),(15,.bool (decide (p9<(a0.length:Int))))] [] (Cv h1 (fun c19 h1=>?_) (fun c19 h1=>?_))))))
   ·refine Bb 7 (Aj (bb h1 fun y20 e21 h1=>aO rfl rfl e21 (o_ (Bb 2 (Aj (bb h1 fun r22 e23 h1=>Rv (H307 y20 p8 r22 e23) (o_ (At 7 [(0,Ai a0),(1,iV r22),(5,iV p9),(25,.bool (decide (r22<0)))] [] (Cv h1 (fun c24 h1=>?_) (fun c24 h1=>?_))))))))))
    ·obtain rfl:=sj h1
     obtain rfl:=hx1 _ rfl
     obtain rfl:=sj h0
     exact lK 4 hR1
    ·refine Bb 7 ?_
     obtain rfl:=sj h1
     exact kn hK1 rfl rfl
   ·obtain rfl:=sj h1
    obtain rfl:=hx1 _ rfl
    refine Nt rfl ?_
    exact jn hE1 ⟨_,rfl,rfl⟩

/- loop.example/g00149/spec.l01Own -/
def tW:=[X_ 1 0,a_ 2 [.own 129 0 1 [],.own 130 0 2 []]]
def tX:List Bg:=[⟨some 5,.mkS 1 [.int .u8 0] 0 [],none⟩,f_ 6 1 0,l_ 7 6 1,⟨some 8,.app 1 1 (.t 5) (.t 7),none⟩,⟨some 9,.p (.build [.own 577 0 1 [],.own 578 0 2 []] [(0,1,.t 8)]),none⟩,a_ 3 [.own 193 0 1 [],.own 194 0 2 []],s_ 3 9 2]
def tY:=[i_ 4 0]
def tZ:=[m_ 10 4,f_ 11 1 1,l_ 12 11 1,n_ 13 12,b_ .lss 14 10 13]
def uA:=tk [f_ 17 3 1,l_ 18 17 1,f_ 19 1 1,l_ 20 19 1,m_ 21 4,x_ 22 20 21 2,f_ 23 22 0,l_ 24 23 1,f_ 26 1 1,l_ 27 26 1,m_ 28 4,x_ 29 27 28 2,f_ 30 29 1,l_ 31 30 1] (.alt [l_ 31 30 1,f_ 30 29 1,x_ 29 27 28 2,m_ 28 4,l_ 27 26 1,f_ 26 1 1,l_ 24 23 1,f_ 23 22 0,x_ 22 20 21 2,m_ 21 4,l_ 20 19 1,f_ 19 1 1,l_ 18 17 1,f_ 17 3 1] ⟨some 25,.mkS 1 [.int .u8 0] 0 [],none⟩ (.alt [l_ 24 23 1,f_ 23 22 0,x_ 22 20 21 2,m_ 21 4,l_ 20 19 1,f_ 19 1 1,l_ 18 17 1,f_ 17 3 1] ⟨some 32,.app 1 1 (.t 25) (.t 31),none⟩ (tk [⟨some 33,.p (.build [iV 0,.own 2114 0 1 []] [(0,1,.t 24),(1,1,.t 32)]),none⟩] (.alt [l_ 18 17 1,f_ 17 3 1] ⟨some 34,.mkS 2 [iV 0,.lst 1 []] 1 [(0,.t 33)],none⟩ (.alt [] ⟨some 35,.app 2 32 (.t 18) (.t 34),none⟩ (tk [f_ 36 3 1] (.alt [] (s_ 36 35 1) .fin .stop)) .stop) .stop)) .stop) .stop)
def uB:=[m_ 15 4,B_ .add 16 15 1,m_ 4 16]
def tV:IR:=(.seq (sr tZ (.ite (.t 14) .skip (.exit 0))) (.seq (.block 1 (.draw uA)) (.reg uB)))
def uC:=[L_ 37 3 2,s_ 2 37 2]
def JW:Er:=⟨1,38,[.cell 2 2 true],sr tW (sr tX (.seq (sr tY (No 0 tV)) (rr uC)))⟩
def FC (D:Av):Prop:=∀a0 r,BT a0=some r→D 293 ⟨[.agg (Ah a0)],[]⟩ ⟨.agg (Ak r (Cf 0) (Cf 1)),[],[]⟩
abbrev Tv:=fun x0 (r:List (Nat×List V))=>(64,Ah x0)::(128,[Au 129 [],Ab 130 []])::r
abbrev Wu:=fun (r:List (Nat×V))=>(1,.ptr 64 0)::(2,.ptr 128 0)::(3,.ptr 192 0)::r
theorem MS:FC (FO C JW):=by
 intro a0 r h0
 refine f0 (At 4 [(1,.ptr 64 0),(2,.ptr 128 0)] (Tv a0 []) (Bb 4 (Aj (gg h0 fun c1 h0=>st (Ms (e:=Im) (l0:=([]:List UInt8)) (l1:=a0.held) rfl rfl tv rfl (by decide) c1 (st (c_ (v:=.agg [Au 320 (([]:List UInt8)++a0.held),Ab 578 []]) (Bx ⟨tv,tv⟩ rfl ⟨⟨rfl,rfl,nl rfl⟩,tv⟩) (o_ (At 8 (Wu [(4,iV 0)]) (Tv a0 [(192,[Au 320 (([]:List UInt8)++a0.held),Ab 578 []])]) (Bp (bb h0 fun r28 e29 h0=>Cw (R:=(fun S=>∃p20:List Ac,p20=r28∧S=⟨[(2,.ptr 128 0),(3,.ptr 192 0)],[(128,[Au 129 [],Ab 130 []]),(192,[Au 320 (([]:List UInt8)++a0.held),Ab 578 p20])],[]⟩)) (Lr a0) (fun s S=>match s with | (p9,p10)=>S=⟨Wu [(4,iV p9)],Tv a0 [(192,[Au 320 (([]:List UInt8)++a0.held),Ab 578 p10])],[]⟩) e29 _ (Fz (by kernel_rfl)) rfl 0 (fun _=>rfl) ?_ ?_)))))))))))
 ·rintro S _ hfg ⟨p20,rfl,rfl⟩
  refine Fs _ hfg ?_
  obtain rfl:=sj h0
  exact Dt 5
 ·rintro ⟨p9,p10⟩ o1 _ K1 rfl h1 hx1 hK1 hE1 hR1
  refine Bb 5 (Aj (Gr rfl (o_ (At 2 (Wu [(4,iV p9),(14,.bool (decide (p9<(a0.Aa.length:Int))))]) (Tv a0 [(192,[Au 320 (([]:List UInt8)++a0.held),Ab 578 p10])]) (Cv h1 (fun c21 h1=>?_) (fun c21 h1=>?_))))))
  ·refine aD 4 (bb h1 fun y22 e23 h1=>gg h1 fun c24 h1=>gg h1 fun c25 h1=>Bb 5 (Cr (d_ (eP rfl rfl rfl e23 (Bb 5 (Cr (d_ (eP rfl rfl rfl e23 (Bb 2 (Cr (Do (Yl tv tv (dw [(1,.ptr 64 0),(2,.ptr 128 0),(3,.ptr 192 0),(4,iV p9),(17,.ptr 192 1),(18,Ab 578 p10),(19,.ptr 64 1),(20,Al a0.Aa),(21,iV p9),(22,.iptr (Ao y22)),(23,.iptr (Ao y22)),(24,iV y22.at_),(25,Au 1600 []),(26,.ptr 64 1),(27,Al a0.Aa),(28,iV p9),(29,.iptr (Ao y22)),(30,.iptr [Em y22.data]),(31,Em y22.data)] [(64,Ah a0),(128,[Au 129 [],Ab 130 []]),(192,[Au 320 (([]:List UInt8)++a0.held),Ab 578 p10])] ⟨⟨.inl tv,Az (Bx ⟨tv,tv⟩ rfl (nl rfl)) rfl⟩,⟨.inl tv,Az (Bx ⟨tv,tv⟩ rfl (nl rfl)) rfl⟩,⟨.inl tv,Az (LP rfl rfl e23) rfl⟩,⟨.inl tv,Az (Xl (v:=iV p9) rfl tv) rfl⟩,⟨.inl tv,Az (Bx ⟨tv,tv⟩ rfl (nl rfl)) rfl⟩,⟨.inl tv,Az (Bx ⟨tv,tv⟩ rfl tv) rfl⟩,⟨.inl tv,Az (Bx ⟨tv,tv⟩ rfl (nl rfl)) rfl⟩,⟨.inl tv,Az (Bx ⟨tv,tv⟩ rfl (nl rfl)) rfl⟩,⟨.inl tv,Az (LP rfl rfl e23) rfl⟩,⟨.inl tv,Az (Xl (v:=iV p9) rfl tv) rfl⟩,⟨.inl tv,Az (Bx ⟨tv,tv⟩ rfl (nl rfl)) rfl⟩,⟨.inl tv,Az (Bx ⟨tv,tv⟩ rfl tv) rfl⟩,⟨.inl tv,Az (Bx ⟨tv,tv⟩ rfl (nl rfl)) rfl⟩,⟨.inl tv,Az (Bx ⟨tv,tv⟩ rfl tv) rfl⟩,tv⟩ ?_)) Cd)))))))))))
   refine Do (Ms (e:=Im) (l0:=([]:List UInt8)) (l1:=y22.data) rfl rfl tv rfl (by decide) c24 (d0 ⟨⟨.inl tv,Az (Bx ⟨tv,tv⟩ rfl (nl rfl)) rfl⟩,⟨.inl tv,Az (Bx ⟨tv,tv⟩ rfl (nl rfl)) rfl⟩,⟨.inl tv,Az (LP rfl rfl e23) rfl⟩,⟨.inl tv,Az (Xl (v:=iV p9) rfl tv) rfl⟩,⟨.inl tv,Az (Bx ⟨tv,tv⟩ rfl (nl rfl)) rfl⟩,⟨.inl tv,Az (Bx ⟨tv,tv⟩ rfl tv) rfl⟩,⟨.inl tv,Az (Bx ⟨tv,tv⟩ rfl (nl rfl)) rfl⟩,⟨.inl tv,Az (Bx ⟨tv,tv⟩ rfl tv) rfl⟩,tv⟩ (Ck tv (c_ (v:=.agg [iV y22.at_,Au 1600 (([]:List UInt8)++y22.data)]) (Bx ⟨tv,tv,tv⟩ rfl ⟨⟨rfl,rfl,nl rfl⟩,⟨rfl,rfl,nl rfl⟩,tv⟩) (⟨tv,Do (Yl ⟨tv,tv⟩ ⟨⟨nl rfl,rfl,rfl⟩,tv⟩ (d0 hB (Do (Ms (e:=Ao) (l0:=p10) (l1:=([Ac.mk y22.at_ (([]:List UInt8)++y22.data)]:List Ac)) rfl rfl tv rfl (by decide) c25 (d0 tv (Ck tv (c_ (Bx ⟨tv,tv⟩ rfl tv) (⟨tv,Do (Jz rfl rfl tv rfl rfl rfl (nl rfl) (d0 tv (dC (cV (bv h1 fun v26 e27 h1=>Fs ⟨Wu [(4,iV p9)],Tv a0 [(192,[Au 320 (([]:List UInt8)++a0.held),Ab 578 v26])],[]⟩ (Fz (by subst e27; kernel_rfl)) (Bb 4 ?_)))))) Cd⟩))))) Cd))) Cd⟩))))) Cd
   obtain rfl:=sj h1
   exact kn hK1 rfl rfl
  ·obtain rfl:=sj h1
   obtain rfl:=hx1 _ rfl
   refine Nt rfl ?_
   exact jn hE1 ⟨_,rfl,rfl⟩

/- loop.example/g00149/spec.l01Fits -/
def tH:=[k_ 4 (.bool false)]
def tI:=[m_ 5 0,B_ .geq 6 5 0,m_ 7 6,mT 7 8 1,pT 7 9 (.bin .leq (.t 8) (.c (iV 4096))),pa 10 7 9,m_ 11 10,mT 11 12 0,mT 11 13 1,pT 11 14 (.bin .sub (.c (iV 4096)) (.t 13)),pT 11 15 (.bin .leq (.t 12) (.t 14)),pa 16 11 15,m_ 4 16]
def JU:Er:=⟨2,17,[.t 4],sr tH (rr tI)⟩
def FA (D:Av):Prop:=∀a0 a1 r,BQ a0 a1=some r→D 291 ⟨[iV a0,iV a1],[]⟩ ⟨.bool r,[],[]⟩
theorem MQ:FA (FO C JU):=by
 intro a0 a1 r h0
 refine f0 (At 3 [(0,iV a0),(1,iV a1)] [] (KX 15 (bv h0 fun v1 e2 h0=>Fs ⟨[(4,.bool v1)],[],[]⟩ (Fz (by subst e2; kernel_rfl)) ?_)))
 obtain rfl:=sj h0
 exact Wa (Iv rfl rfl rfl rfl rfl tv)

/- loop.example/g00149/spec.l01Put -/
def yV:List Bg:=[X_ 3 1,⟨some 4,.nilS 1,none⟩]
def yW:List Bg:=[⟨some 6,.mkS 1 [.int .u8 0] 0 [],none⟩,m_ 7 0,⟨some 8,.app 1 1 (.t 6) (.t 7),none⟩,m_ 5 8]
def yX:=[m_ 9 5,n_ 10 9,f_ 11 3 0,l_ 12 11 1,B_ .add 13 12 1,B_ .mul 14 13 32,b_ .lss 15 10 14]
def yY:List Bg:=[m_ 16 5,⟨some 17,.appz 1 1 [.int .u8 0] (.t 16) (.c (iV 32)),none⟩,m_ 5 17]
def yU:IR:=(.seq (sr yX (.ite (.t 15) .skip (.exit 0))) (.block 1 (.reg yY)))
def yZ:=tk [m_ 18 5,f_ 19 3 0,l_ 20 19 1,B_ .mul 21 20 32,⟨some 22,.p (.slice (.t 18) (some (.t 21)) none 1),none⟩,f_ 23 3 1,l_ 24 23 1] (.alt [] ⟨some 25,.copy 1 (.t 22) (.t 24),none⟩ .fin .stop)
def zA:=[m_ 26 5,m_ 4 26]
def KM:Er:=⟨2,27,[.t 4],sr yV (sr yW (.seq (No 0 yU) (sd yZ (rr zA))))⟩
def nE (D:Av):Prop:=∀a0 a1 r,kB a0 a1=some r→D 352 ⟨[Em a0,.agg (Ao a1)],[]⟩ ⟨Au 0 r,[],[]⟩
theorem NK:nE (FO C KM):=by
 intro a0 a1 r h0
 refine f0 (At 4 [(0,Em a0),(3,.ptr 192 0)] [(192,Ao a1)] (Bb 3 (Aj (gg h0 fun c1 h0=>st (Ms (e:=Im) (l0:=([]:List UInt8)) (l1:=a0) rfl rfl tv rfl (by decide) c1 (o_ (At 2 [(3,.ptr 192 0),(5,Au 384 (([]:List UInt8)++a0))] [(192,Ao a1)] (Bu (Bp (bb h0 fun r20 e21 h0=>Cw (R:=(fun S=>∃p14:List UInt8,p14=r20∧S=⟨[(3,.ptr 192 0),(5,Au 384 p14)],[(192,Ao a1)],[]⟩)) (Om a1) (fun s S=>match s with | p7=>S=⟨[(3,.ptr 192 0),(5,Au 384 p7)],[(192,Ao a1)],[]⟩) e21 _ (Fz (by kernel_rfl)) rfl 0 (fun _=>rfl) ?_ ?_))))))))))
 ·rintro S _ hfg ⟨p14,rfl,rfl⟩
  refine Fs _ hfg (Bu (bb h0 fun s22 e23 h0=>Bb 4 (Cr (Ck tv (c_ (Jd (e:=Im) (y:=s22) rfl rfl tv ⟨tv,tv⟩ rfl rfl e23) (⟨tv,d_ (Bb 2 (Cr (Do (copy_ (e:=Im) (l1:=a1.data) rfl rfl tv rfl (d0 tv (dC (Fs ⟨[(5,Au 384 (ovl p14 ((wi (a1.at_*32)).toNat) (a1.data.take s22.length)))],[],[]⟩ (fg ⟨congrArg (fun z=>some ((.own 384 0 1 z:V))) Ib,tv⟩ tv) (Bb 4 (bv h0 fun v24 e25 h0=>Fs ⟨[(4,Au 384 v24)],[],[]⟩ (Fz (by subst e25; kernel_rfl)) ?_)))))) Cd)))⟩))))))
  obtain rfl:=sj h0
  exact Wa (Iv rfl rfl rfl rfl rfl tv)
 ·rintro p7 o1 _ K1 rfl h1 hx1 hK1 hE1 hR1
  unfold Om at h1
  refine Bb 3 (Aj (eX rfl (o_ (Bb 6 (bv h1 fun v15 e16 h1=>Fs ⟨[(3,.ptr 192 0),(5,Au 384 p7),(15,.bool v15)],[(192,Ao a1)],[]⟩ (Fz (by subst e16; kernel_rfl)) (Cv h1 (fun c17 h1=>?_) (fun c17 h1=>?_)))))))
  ·refine Bb 4 (Aj (gg h1 fun c18 h1=>gg h1 fun c19 h1=>st (fJ (e:=Im) (l0:=p7) (0:UInt8) rfl rfl rfl (by decide) c18 c19 (st (Ce rfl tv (Pa (cV ?_)))))))
   obtain rfl:=sj h1
   exact kn hK1 rfl rfl
  ·obtain rfl:=sj h1
   obtain rfl:=hx1 _ rfl
   refine Nt rfl ?_
   exact jn hE1 ⟨_,rfl,rfl⟩

/- loop.example/g00149/spec.l01Read -/
def vR:List Bg:=[X_ 1 0,⟨some 2,.nilS 1,none⟩]
def vS:List Bg:=[⟨some 5,.mkS 1 [.int .u8 0] 0 [],none⟩,f_ 6 1 0,l_ 7 6 1,⟨some 8,.app 1 1 (.t 5) (.t 7),none⟩,m_ 3 8]
def vT:=[i_ 4 0]
def vU:=[m_ 9 4,f_ 10 1 1,l_ 11 10 1,n_ 12 11,b_ .lss 13 9 12]
def vV:=[m_ 16 3,f_ 17 1 1,l_ 18 17 1,m_ 19 4,x_ 20 18 19 2,L_ 21 20 2,q_ 22 352 [.t 16,.t 21],m_ 3 22]
def vW:=[m_ 14 4,B_ .add 15 14 1,m_ 4 15]
def vQ:IR:=(.seq (sr vU (.ite (.t 13) .skip (.exit 0))) (.seq (.block 1 (.reg vV)) (.reg vW)))
def vX:=[m_ 23 3,m_ 2 23]
def KB:Er:=⟨1,24,[.t 2],sr vR (sr vS (.seq (sr vT (No 0 vQ)) (rr vX)))⟩
def nC (D:Av):Prop:=∀a0 r,jX a0=some r→D 303 ⟨[.agg (Ah a0)],[]⟩ ⟨Au 0 r,[],[]⟩
theorem MX (H352:nE C):nC (FO C KB):=by
 intro a0 r h0
 refine f0 (At 4 [(1,.ptr 64 0)] [(64,Ah a0)] (Bb 4 (Aj (gg h0 fun c1 h0=>st (Ms (e:=Im) (l0:=([]:List UInt8)) (l1:=a0.held) rfl rfl tv rfl (by decide) c1 (o_ (At 7 [(1,.ptr 64 0),(3,Au 320 (([]:List UInt8)++a0.held)),(4,iV 0)] [(64,Ah a0)] (Bp (bb h0 fun r22 e23 h0=>Cw (R:=(fun S=>∃p16:List UInt8,p16=r22∧S=⟨[(3,Au 320 p16)],[],[]⟩)) (Of a0) (fun s S=>match s with | (p7,p8)=>S=⟨[(1,.ptr 64 0),(3,Au 320 p7),(4,iV p8)],[(64,Ah a0)],[]⟩) e23 _ (Fz (by kernel_rfl)) rfl 0 (fun _=>rfl) ?_ ?_)))))))))
 ·rintro S _ hfg ⟨p16,rfl,rfl⟩
  refine Fs _ hfg ?_
  obtain rfl:=sj h0
  exact Dt 5
 ·rintro ⟨p7,p8⟩ o1 _ K1 rfl h1 hx1 hK1 hE1 hR1
  refine Bb 5 (Aj (Gr rfl (o_ (At 2 [(1,.ptr 64 0),(3,Au 320 p7),(4,iV p8),(13,.bool (decide (p8<(a0.Aa.length:Int))))] [(64,Ah a0)] (Cv h1 (fun c17 h1=>?_) (fun c17 h1=>?_))))))
  ·refine Bb 8 (Aj (bb h1 fun y18 e19 h1=>aO rfl rfl e19 (st (c_ (v:=.agg (Ao y18)) (Bx ⟨tv,tv⟩ rfl (nl rfl)) (bb h1 fun r20 e21 h1=>Ru (H352 p7 y18 r20 e21) (af rfl) (o_ (At 3 [(1,.ptr 64 0),(3,Au 1408 r20),(4,iV p8)] [(64,Ah a0)] (Bb 4 ?_))))))))
   obtain rfl:=sj h1
   exact hK1 _ rfl _ _ (Ge [] [(1408,320)] rfl (by kernel_rfl)) rfl
  ·obtain rfl:=sj h1
   obtain rfl:=hx1 _ rfl
   refine Nt rfl ?_
   exact jn hE1 ⟨_,rfl,rfl⟩

/- loop.example/g00149/spec.l01Write -/
def tL:=[X_ 3 0,a_ 6 [.own 385 0 1 [],.own 386 0 2 []]]
def tM:=[L_ 10 3 2,q_ 11 303 [.t 10],m_ 7 11]
def tN:=[m_ 12 7,n_ 13 12,m_ 14 1,m_ 15 2,n_ 16 15,b_ .add 17 14 16,b_ .lss 18 13 17,m_ 19 18,mF 19 20 7,pF 19 21 (.len (.t 20)),pF 19 22 (.bin .rem (.t 21) (.c (iV 32))),pF 19 23 (.bin .neq (.t 22) (.c (iV 0))),po 24 19 23]
def tO:List Bg:=[m_ 25 7,⟨some 26,.mkS 1 [.int .u8 0] 1 [(0,.c (.int .u8 0))],none⟩,⟨some 27,.app 1 1 (.t 25) (.t 26),none⟩,m_ 7 27]
def tJ:IR:=(.seq (sr tN (.ite (.t 24) .skip (.exit 0))) (.block 1 (.reg tO)))
def tP:List Bg:=[m_ 28 7,m_ 29 1,⟨some 30,.p (.slice (.t 28) (some (.t 29)) none 1),none⟩,m_ 31 2,⟨some 32,.copy 1 (.t 30) (.t 31),none⟩]
def Xs:DP:=.alt [l_ 34 33 1,f_ 33 3 0] ⟨some 38,.app 2 32 (.t 35) (.t 37),none⟩ (tk [⟨some 39,.p (.build [.own 2497 0 1 [],.own 2498 0 2 []] [(0,1,.t 34),(1,1,.t 38)]),none⟩] (.alt [] (s_ 8 39 2) .fin .stop)) .stop
def tQ:=tk [f_ 33 3 0,l_ 34 33 1,f_ 36 3 1,l_ 37 36 1] (.alt [l_ 37 36 1,f_ 36 3 1,l_ 34 33 1,f_ 33 3 0] ⟨some 35,.mkS 2 [iV 0,.lst 1 []] 0 [],none⟩ (.alt [l_ 34 33 1,f_ 33 3 0] ⟨some 38,.app 2 32 (.t 35) (.t 37),none⟩ (tk [⟨some 39,.p (.build [.own 2497 0 1 [],.own 2498 0 2 []] [(0,1,.t 34),(1,1,.t 38)]),none⟩] (.alt [⟨some 39,.p (.build [.own 2497 0 1 [],.own 2498 0 2 []] [(0,1,.t 34),(1,1,.t 38)]),none⟩,l_ 34 33 1,f_ 33 3 0] (a_ 8 [.own 513 0 1 [],.own 514 0 2 []]) (.alt [] (s_ 8 39 2) .fin .stop) .stop)) (.alt [l_ 37 36 1,f_ 36 3 1,l_ 34 33 1,f_ 33 3 0] (a_ 8 [.own 513 0 1 [],.own 514 0 2 []]) Xs .stop)) (.alt [l_ 37 36 1,f_ 36 3 1,l_ 34 33 1,f_ 33 3 0] (a_ 8 [.own 513 0 1 [],.own 514 0 2 []]) (.alt [l_ 37 36 1,f_ 36 3 1,l_ 34 33 1,f_ 33 3 0] ⟨some 35,.mkS 2 [iV 0,.lst 1 []] 0 [],none⟩ Xs .stop) .stop))
def tR:=[m_ 40 2,n_ 41 40,B_ .eql 42 41 0]
def tS:=[L_ 43 8 2,s_ 6 43 2]
def tT:=[m_ 44 1,B_ .quo 45 44 32,m_ 9 45]
def tU:=[m_ 46 9,B_ .mul 47 46 32,m_ 48 1,m_ 49 2,n_ 50 49,b_ .add 51 48 50,b_ .lss 52 47 51]
def iK:=tk [f_ 55 8 1,l_ 56 55 1,m_ 57 9,m_ 59 7,m_ 60 9,B_ .mul 61 60 32,m_ 62 9,B_ .add 63 62 1,B_ .mul 64 63 32,⟨some 65,.p (.slice (.t 59) (some (.t 61)) (some (.t 64)) 1),none⟩] (.alt [⟨some 65,.p (.slice (.t 59) (some (.t 61)) (some (.t 64)) 1),none⟩,B_ .mul 64 63 32,B_ .add 63 62 1,m_ 62 9,B_ .mul 61 60 32,m_ 60 9,m_ 59 7,m_ 57 9,l_ 56 55 1,f_ 55 8 1] ⟨some 58,.mkS 1 [.int .u8 0] 0 [],none⟩ (.alt [m_ 57 9,l_ 56 55 1,f_ 55 8 1] ⟨some 66,.app 1 1 (.t 58) (.t 65),none⟩ (tk [⟨some 67,.p (.build [iV 0,.own 4290 0 1 []] [(0,1,.t 57),(1,1,.t 66)]),none⟩] (.alt [l_ 56 55 1,f_ 55 8 1] ⟨some 68,.mkS 2 [iV 0,.lst 1 []] 1 [(0,.t 67)],none⟩ (.alt [] ⟨some 69,.app 2 32 (.t 56) (.t 68),none⟩ (tk [f_ 70 8 1] (.alt [] (s_ 70 69 1) .fin .stop)) .stop) .stop)) .stop) .stop)
def iL:=[m_ 53 9,B_ .add 54 53 1,m_ 9 54]
def tK:IR:=(.seq (sr tU (.ite (.t 52) .skip (.exit 2))) (.seq (.block 3 (.draw iK)) (.reg iL)))
def iM:=[L_ 71 8 2,s_ 6 71 2]
def JV:Er:=⟨3,72,[.cell 6 2 true],sr tL (sr tM (.seq (No 0 tJ) (sr tP (sd tQ (.seq (sr tR (iz 42 (rr tS))) (.seq (sr tT (No 2 tK)) (rr iM)))))))⟩
def FB (D:Av):Prop:=∀a0 a1 a2 r,BR a0 a1 a2=some r→D 292 ⟨[.agg (Ah a0),iV a1,Em a2],[]⟩ ⟨.agg (Ak r u_ (Cf 0)),[],[]⟩
abbrev Gm:=fun (r:List (Nat×List V))=>(384,[Au 385 [],Ab 386 []])::r
abbrev Hu:=fun x0 x1 (r:List (Nat×V))=>(1,iV x0)::(2,Em x1)::(6,.ptr 384 0)::r
theorem MR (H303:nC C):FB (FO C JV):=by
 intro a0 a1 a2 r h0
 refine f0 (At 4 (Hu a1 a2 [(3,.ptr 192 0)]) (Gm [(192,Ah a0)]) (Bu (Aj (st (c_ (v:=.agg (Ah a0)) (Bx ⟨tv,tv⟩ rfl (nl rfl)) (bb h0 fun r1 e2 h0=>Ru (H303 a0 r1 e2) (af rfl) (o_ (At 2 (Hu a1 a2 [(3,.ptr 192 0),(7,Au 704 r1)]) (Gm [(192,Ah a0)]) (Bu (Bp (bb h0 fun r18 e19 h0=>Cw (R:=(fun S=>∃p13:List UInt8,p13=r18∧S=⟨Hu a1 a2 [(3,.ptr 192 0),(7,Au 704 p13)],Gm [(192,Ah a0)],[]⟩)) (Od a1 a2) (fun s S=>match s with | p7=>S=⟨Hu a1 a2 [(3,.ptr 192 0),(7,Au 704 p7)],Gm [(192,Ah a0)],[]⟩) e19 _ (Fz (by kernel_rfl)) rfl 0 (fun _=>rfl) ?_ ?_)))))))))))
 ·rintro S _ hfg ⟨p13,rfl,rfl⟩
  refine Fs _ hfg (Bu (Aj (st (Ce rfl tv (st (Ce rfl tv (bb h0 fun s20 e21 h0=>st (c_ (Jd (e:=Im) (y:=s20) rfl rfl tv ⟨tv,tv⟩ rfl rfl e21) (st (Ce rfl tv (st (copy_ (e:=Im) (l1:=a2) rfl rfl tv rfl (Pa (Fs ⟨[(1,iV a1),(2,Em a2),(3,.ptr 192 0),(6,.ptr 384 0),(7,Au 704 (ovl p13 a1.toNat (a2.take s20.length)))],[(192,Ah a0),(384,[Au 385 [],Ab 386 []])],[]⟩ (fg ⟨rfl,rfl,rfl,rfl,congrArg (fun z=>some ((.own 704 0 1 z:V))) Ib,tv⟩ ⟨rfl,rfl,tv⟩) (Bu (gg h0 fun c22 h0=>DX (fun S=>S=⟨Hu a1 a2 [(7,Au 704 (ovl p13 a1.toNat (a2.take s20.length))),(8,.ptr 512 0)],Gm [(512,[Em a0.held,Ab 2240 (([]:List Ac)++a0.Aa)])],[]⟩) ?_ (fun J23=>?_)))))))))))))))))
  ·rintro _ rfl
   refine Bu (Bu (Aj (st (Ce rfl tv (Gr rfl (o_ (At 2 (Hu a1 a2 [(7,Au 704 (ovl p13 a1.toNat (a2.take s20.length))),(8,.ptr 512 0),(42,.bool ((a2.length:Int)==0))]) (Gm [(512,[Em a0.held,Ab 2240 (([]:List Ac)++a0.Aa)])]) (Cv h0 (fun c24 h0=>?_) (fun c24 h0=>?_)))))))))
   ·obtain rfl:=sj h0
    exact Dt 5
   ·refine aH (eY (Bu (Bu (Aj (st (Ce rfl tv (st (c_ (Bx ⟨tv,tv,tv⟩ rfl (by decide)) (o_ (At 2 (Hu a1 a2 [(7,Au 704 (ovl p13 a1.toNat (a2.take s20.length))),(8,.ptr 512 0),(9,iV (wi ((a1).tdiv 32)))]) (Gm [(512,[Em a0.held,Ab 2240 (([]:List Ac)++a0.Aa)])]) (Bp (bb h0 fun r53 e54 h0=>Cw (R:=(fun S=>∃p45:List Ac,p45=r53∧S=⟨[(6,.ptr 384 0),(8,.ptr 512 0)],Gm [(512,[Em a0.held,Ab 2240 p45])],[]⟩)) (Lq a1 a2 p13 s20) (fun s S=>match s with | (p34,p35)=>S=⟨Hu a1 a2 [(7,Au 704 (ovl p13 a1.toNat (a2.take s20.length))),(8,.ptr 512 0),(9,iV p34)],Gm [(512,[Em a0.held,Ab 2240 p35])],[]⟩) e54 _ (Fz (by kernel_rfl)) rfl 2 (fun _=>rfl) ?_ ?_))))))))))))
    ·rintro S _ hfg ⟨p45,rfl,rfl⟩
     refine Fs _ hfg ?_
     obtain rfl:=sj h0
     exact Dt 5
    ·rintro ⟨p34,p35⟩ o1 _ K1 rfl h1 hx1 hK1 hE1 hR1
     unfold Lq at h1
     refine Bu (Bu (Aj (st (Ce rfl tv (st (c_ (Bx t3 rfl tv) (st (Ce rfl tv (st (Ce rfl tv (Gr rfl (st (c_ (Bx t3 rfl tv) (st (c_ (Bx t3 rfl tv) (Pa (bv h1 fun v46 e47 h1=>Fs ⟨Hu a1 a2 [(7,Au 704 (ovl p13 a1.toNat (a2.take s20.length))),(8,.ptr 512 0),(9,iV p34),(52,.bool v46)],Gm [(512,[Em a0.held,Ab 2240 p35])],[]⟩ (Fz (by subst e47; kernel_rfl)) (Cv h1 (fun c48 h1=>?_) (fun c48 h1=>?_)))))))))))))))))))
     ·refine aD 4 (bb h1 fun s49 e50 h1=>gg h1 fun c51 h1=>gg h1 fun c52 h1=>Cr (Ck tv (c_ (Bx ⟨tv,tv⟩ rfl tv) (⟨tv,Ck tv (c_ (Bx ⟨tv,tv⟩ rfl (nl rfl)) (⟨tv,Ck tv (Ce rfl tv (⟨tv,Ck tv (Ce rfl tv (⟨tv,Ck tv (Ce rfl tv (⟨tv,Ck tv (c_ (Bx t3 rfl tv) (⟨tv,Ck tv (Ce rfl tv (⟨tv,Ck tv (c_ (Bx t3 rfl tv) (⟨tv,Ck tv (c_ (Bx t3 rfl tv) (⟨tv,Ck tv (c_ (Jd (e:=Im) (y:=s49) rfl rfl tv ⟨tv,tv,tv⟩ rfl rfl e50) (⟨tv,Do (Yl tv tv (d0 ⟨⟨.inl tv,Az (Jd (e:=Im) (y:=s49) rfl rfl tv ⟨tv,tv,tv⟩ rfl rfl e50) rfl⟩,⟨.inl tv,Az (Bx t3 rfl tv) rfl⟩,⟨.inl tv,Az (Bx t3 rfl tv) rfl⟩,⟨.inl tv,Az (Xl (v:=iV p34) rfl tv) rfl⟩,⟨.inl tv,Az (Bx t3 rfl tv) rfl⟩,⟨.inl tv,Az (Xl (v:=iV p34) rfl tv) rfl⟩,⟨.inl tv,Az (Xl (v:=Au 704 (ovl p13 a1.toNat (a2.take s20.length))) rfl tv) rfl⟩,⟨.inl tv,Az (Xl (v:=iV p34) rfl tv) rfl⟩,⟨.inl tv,Az (Bx ⟨tv,tv⟩ rfl (nl rfl)) rfl⟩,⟨.inl tv,Az (Bx ⟨tv,tv⟩ rfl tv) rfl⟩,tv⟩ (Do (Ms (e:=Im) (l0:=([]:List UInt8)) (l1:=s49) rfl rfl tv rfl (by decide) c51 (dw [(1,iV a1),(2,Em a2),(6,.ptr 384 0),(7,Au 704 (ovl p13 a1.toNat (a2.take s20.length))),(8,.ptr 512 0),(9,iV p34),(55,.ptr 512 1),(56,Ab 2240 p35),(57,iV p34),(66,Au 3712 (([]:List UInt8)++s49))] [(384,[Au 385 [],Ab 386 []]),(512,[Em a0.held,Ab 2240 p35])] hB (Ck tv (c_ (v:=.agg [iV p34,Au 3712 (([]:List UInt8)++s49)]) (Bx ⟨tv,tv,tv⟩ rfl ⟨⟨rfl,rfl,nl rfl⟩,⟨rfl,rfl,nl rfl⟩,tv⟩) (⟨tv,Do (Yl ⟨tv,tv⟩ ⟨⟨nl rfl,rfl,rfl⟩,tv⟩ (d0 hB (Do (Ms (e:=Ao) (l0:=p35) (l1:=([Ac.mk p34 (([]:List UInt8)++s49)]:List Ac)) rfl rfl tv rfl (by decide) c52 (d0 tv ?_)) Cd))) Cd⟩))))) Cd))) Cd⟩))⟩))⟩))⟩))⟩))⟩))⟩))⟩))⟩))⟩))))
      refine Ck tv (c_ (Bx ⟨tv,tv⟩ rfl tv) (⟨tv,Do (Jz rfl rfl tv rfl rfl rfl (nl rfl) (d0 tv (d_ (At 2 (Hu a1 a2 [(7,Au 704 (ovl p13 a1.toNat (a2.take s20.length))),(8,.ptr 512 0),(9,iV p34)]) (Gm [(512,[Em a0.held,.own 2240 0 2 ((p35++([Ac.mk p34 (([]:List UInt8)++s49)]:List Ac)).map Ao)])]) (Aj (st (Ce rfl tv (st (c_ (Bx t3 rfl tv) (st (Ce rfl tv (Pa ?_)))))))))))) Cd⟩))
      obtain rfl:=sj h1
      exact kn hK1 rfl rfl
     ·obtain rfl:=sj h1
      obtain rfl:=hx1 _ rfl
      refine Nt rfl ?_
      exact jn hE1 ⟨_,rfl,rfl⟩
  ·refine Ck tv (c_ (Bx ⟨tv,tv⟩ rfl tv) ?_)
   refine ⟨tv,Ck tv (c_ (Bx ⟨tv,tv⟩ rfl (nl rfl)) (⟨tv,Ck tv (c_ (Bx ⟨tv,tv⟩ rfl tv) (⟨tv,Ck tv (c_ (Bx ⟨tv,tv⟩ rfl (nl rfl)) (⟨tv,Do (Yl tv tv ?_) ?_⟩))⟩))⟩))⟩
   ·refine d0 hB ?_
    refine Do (Ms (e:=Ao) (l0:=([]:List Ac)) (l1:=a0.Aa) rfl rfl tv rfl (by decide) c22 ?_) ?_
    ·refine d0 hB ?_
     refine Ck tv (c_ (v:=.agg [Em a0.held,Ab 2240 (([]:List Ac)++a0.Aa)]) (Bx ⟨tv,tv,tv⟩ rfl ⟨⟨rfl,rfl,nl rfl⟩,⟨rfl,rfl,nl rfl⟩,tv⟩) (⟨tv,Do (Gk (d0 ⟨⟨.inl tv,Az (Bx ⟨tv,tv,tv⟩ rfl ⟨⟨rfl,rfl,nl rfl⟩,⟨rfl,rfl,nl rfl⟩,tv⟩) rfl⟩,⟨.inl tv,Az (Bx ⟨tv,tv⟩ rfl (nl rfl)) rfl⟩,⟨.inl tv,Az (Bx ⟨tv,tv⟩ rfl tv) rfl⟩,tv⟩ (Do (Jz rfl rfl tv rfl rfl rfl (nl rfl) (d0 tv (dC ?_))) Cd))) Cd⟩))
     exact jn J23 rfl
    ·refine Do (Gk ?_) Cd
     refine d0 hB (Do (Ms (e:=Ao) (l0:=([]:List Ac)) (l1:=a0.Aa) rfl rfl tv rfl (by decide) c22 (d0 hB (Ck tv (c_ (v:=.agg [Em a0.held,Ab 2240 (([]:List Ac)++a0.Aa)]) (Bx ⟨tv,tv,tv⟩ rfl ⟨⟨rfl,rfl,nl rfl⟩,⟨rfl,rfl,nl rfl⟩,tv⟩) (⟨tv,Do (Jz rfl rfl tv rfl rfl rfl (nl rfl) (d0 tv (dC ?_))) Cd⟩))))) Cd)
     exact jn J23 rfl
   ·refine Do (Gk ?_) Cd
    refine d0 hB (Do (Yl tv tv (d0 hB (Do (Ms (e:=Ao) (l0:=([]:List Ac)) (l1:=a0.Aa) rfl rfl tv rfl (by decide) c22 (d0 hB (Ck tv (c_ (v:=.agg [Em a0.held,Ab 2240 (([]:List Ac)++a0.Aa)]) (Bx ⟨tv,tv,tv⟩ rfl ⟨⟨rfl,rfl,nl rfl⟩,⟨rfl,rfl,nl rfl⟩,tv⟩) (⟨tv,Do (Jz rfl rfl tv rfl rfl rfl (nl rfl) (d0 tv (dC ?_))) Cd⟩))))) Cd))) Cd)
    exact jn J23 rfl
 ·rintro p7 o1 _ K1 rfl h1 hx1 hK1 hE1 hR1
  unfold Od at h1
  refine Bu (Bu (Aj (st (Ce rfl tv (eX rfl (st (Ce rfl tv (st (Ce rfl tv (Gr rfl (st (c_ (Bx t3 rfl tv) (st (c_ (Bx t3 rfl tv) (st (Ce rfl tv (st (Po (u:=Au 704 p7) rfl (fun hg=>(Xl (v:=Au 704 p7) rfl tv)) (st (Po (u:=iV (p7.length:Int)) rfl (fun hg=>(KT (e:=Im) (l0:=p7) rfl rfl (fun _=>hg))) (st (Po (u:=iV (((p7.length:Int)).tmod 32)) rfl (fun hg=>(Bx ⟨(fun _=>hg),tv,tv⟩ rfl (by decide))) (st (Po (u:=.bool ((((p7.length:Int)).tmod 32) != 0)) rfl (fun hg=>(Bx ⟨(fun _=>hg),tv,tv⟩ rfl tv)) (st (Pd rfl rfl rfl tv (fun h=>BA h) rfl (Pa (bv h1 fun v14 e15 h1=>Fs ⟨Hu a1 a2 [(3,.ptr 192 0),(7,Au 704 p7),(24,.bool v14)],Gm [(192,Ah a0)],[]⟩ (Fz (by subst e15; kernel_rfl)) (Cv h1 (fun c16 h1=>?_) (fun c16 h1=>?_))))))))))))))))))))))))))))))
  ·refine aH (eY (Bp (Aj (st (Ce rfl tv (st (Yl ⟨tv,tv⟩ ⟨⟨nl rfl,rfl,rfl⟩,tv⟩ (gg h1 fun c17 h1=>st (Ms (e:=Im) (l0:=p7) (l1:=([(0:UInt8)]:List UInt8)) rfl rfl tv rfl (by decide) c17 (st (Ce rfl tv (Pa (cV ?_)))))))))))))
   obtain rfl:=sj h1
   exact kn hK1 rfl rfl
  ·obtain rfl:=sj h1
   obtain rfl:=hx1 _ rfl
   refine Nt rfl ?_
   exact jn hE1 ⟨_,rfl,rfl⟩

/- loop.example/g00149/spec.l01Crash -/
def zH:=[X_ 2 0,a_ 4 [.own 257 0 1 [],.own 258 0 2 []]]
def zI:List Bg:=[⟨some 7,.mkS 1 [.int .u8 0] 0 [],none⟩,f_ 8 2 0,l_ 9 8 1,⟨some 10,.app 1 1 (.t 7) (.t 9),none⟩,m_ 5 10]
def zJ:=[i_ 6 0]
def zK:=[m_ 11 6,f_ 12 2 1,l_ 13 12 1,n_ 14 13,b_ .lss 15 11 14]
def zL:=[m_ 18 6,m_ 19 1,n_ 20 19,b_ .lss 21 18 20,m_ 22 21,mT 22 23 1,mT 22 24 6,xT 22 25 23 24 1,lT 22 26 25 1 false,pa 27 22 26]
def zM:=[m_ 28 5,f_ 29 2 1,l_ 30 29 1,m_ 31 6,x_ 32 30 31 2,L_ 33 32 2,q_ 34 352 [.t 28,.t 33],m_ 5 34]
def zN:=[m_ 16 6,B_ .add 17 16 1,m_ 6 17]
def zG:IR:=(.seq (sr zK (.ite (.t 15) .skip (.exit 0))) (.seq (.block 1 (sr zL (iz 27 (.reg zM)))) (.reg zN)))
def zO:List Bg:=[m_ 35 5,⟨some 36,.p (.build [.own 2305 0 1 [],.own 2306 0 2 []] [(0,1,.t 35)]),none⟩,s_ 4 36 2]
def KO:Er:=⟨2,37,[.cell 4 2 true],sr zH (sr zI (.seq (sr zJ (No 0 zG)) (rr zO)))⟩
def FR (D:Av):Prop:=∀a0 a1 r,CI a0 a1=some r→D 355 ⟨[.agg (Ah a0),lB a1],[]⟩ ⟨.agg (Ak r (Cf 0) (Cf 1)),[],[]⟩
abbrev Ql:=fun x0 (r:List (Nat×List V))=>(128,Ah x0)::(256,[Au 257 [],Ab 258 []])::r
abbrev Qm:=fun x0 (r:List (Nat×V))=>(1,lB x0)::(2,.ptr 128 0)::(4,.ptr 256 0)::r
theorem NM (H352:nE C):FR (FO C KO):=by
 intro a0 a1 r h0
 refine f0 (At 4 (Qm a1 []) (Ql a0 []) (Bb 4 (Aj (gg h0 fun c1 h0=>st (Ms (e:=Im) (l0:=([]:List UInt8)) (l1:=a0.held) rfl rfl tv rfl (by decide) c1 (o_ (At 7 (Qm a1 [(5,Au 448 (([]:List UInt8)++a0.held)),(6,iV 0)]) (Ql a0 []) (Bp (bb h0 fun r42 e43 h0=>Cw (R:=(fun S=>∃p24:List UInt8,p24=r42∧S=⟨[(4,.ptr 256 0),(5,Au 448 p24)],[(256,[Au 257 [],Ab 258 []])],[]⟩)) (Lv a0 a1) (fun s S=>match s with | (p11,p12)=>S=⟨Qm a1 [(5,Au 448 p11),(6,iV p12)],Ql a0 [],[]⟩) e43 _ (Fz (by kernel_rfl)) rfl 0 (fun _=>rfl) ?_ ?_)))))))))
 ·rintro S _ hfg ⟨p24,rfl,rfl⟩
  refine Fs _ hfg (Bu (Aj (st (Ce rfl tv (st (c_ (v:=.agg [Au 448 p24,Ab 2306 []]) (Bx ⟨tv,tv⟩ rfl ⟨⟨rfl,rfl,nl rfl⟩,tv⟩) (o_ ?_)))))))
  obtain rfl:=sj h0
  exact Dt 3
 ·rintro ⟨p11,p12⟩ o1 _ K1 rfl h1 hx1 hK1 hE1 hR1
  refine Bb 5 (Aj (Gr rfl (o_ (At 2 (Qm a1 [(5,Au 448 p11),(6,iV p12),(15,.bool (decide (p12<(a0.Aa.length:Int))))]) (Ql a0 []) (Cv h1 (fun c25 h1=>?_) (fun c25 h1=>?_))))))
  ·refine aD 3 (Zj (fun S=>∃p33:List UInt8,S=⟨Qm a1 [(5,Au 2176 p33),(6,iV p12)],Ql a0 [],[]⟩∧Sa p12 p33=some o1) ?_ (fun J34=>?_))
   ·rintro _ ⟨p33,rfl,h1⟩
    refine Bb 5 ?_
    obtain rfl:=sj h1
    exact hK1 _ rfl _ _ (Ge [] [(2176,448)] rfl (by kernel_rfl)) rfl
   ·refine Bu ?_
    refine Bb 2 (Aj (Gr rfl (o_ (KX 4 (Aj (bb h1 fun y35 e36 h1=>st (Po (u:=.iptr [.bool y35]) rfl (fun hg=>(jF (e:=eB) (y:=y35) rfl rfl (fun _=>hg) rfl rfl (fun _=>hg) (ip hg e36))) (o_ (OQ 3 (Qm a1 [(5,Au 448 p11),(6,iV p12),(27,.bool (bif (decide (p12<(a1.length:Int))) then y35 else false))]) (Ql a0 []) (Cv h1 (fun IK h1=>?_) (fun IK h1=>?_)))))))))))
    ·refine Bb 4 (Aj (bb h1 fun y38 e39 h1=>aO rfl rfl e39 (st (c_ (v:=.agg (Ao y38)) (Bx ⟨tv,tv⟩ rfl (nl rfl)) (bb h1 fun r40 e41 h1=>Ru (H352 p11 y38 r40 e41) (af rfl) (st (Ce rfl tv (Pa (cV ?_)))))))))
     exact jn J34 ⟨_,rfl,h1⟩
    ·refine aH (cV ?_)
     exact J34 _ _ (Ge [] [(448,2176)] rfl (by kernel_rfl)) ⟨_,rfl,h1⟩
  ·obtain rfl:=sj h1
   obtain rfl:=hx1 _ rfl
   refine Nt rfl ?_
   exact jn hE1 ⟨_,rfl,rfl⟩

/- loop.example/g00149/spec.l01Act -/
def wG:=[X_ 2 0,X_ 3 1,a_ 4 [.own 257 0 1 [],.own 258 0 2 []],i_ 5 0]
def wH:=[f_ 7 3 0,l_ 8 7 1]
def wI:=[B_ .eql 10 8 1,m_ 9 10]
def wJ:=[f_ 11 3 1,l_ 12 11 1,f_ 13 3 2,l_ 14 13 1,n_ 15 14,q_ 16 291 [.t 12,.t 15],N_ 17 16]
def wK:=[L_ 18 2 2,s_ 4 18 2,i_ 5 9]
def wL:=[L_ 19 2 2,f_ 20 3 1,l_ 21 20 1,f_ 22 3 2,l_ 23 22 1,q_ 24 292 [.t 19,.t 21,.t 23],a_ 6 [.own 385 0 1 [],.own 386 0 2 []],s_ 6 24 2]
def wM:=[f_ 25 6 1,l_ 26 25 1,n_ 27 26,B_ .gtr 28 27 4096]
def wN:=[L_ 29 2 2,s_ 4 29 2,i_ 5 6]
def wO:=[L_ 30 6 2,s_ 4 30 2,i_ 5 0]
def wP:=[B_ .eql 32 8 2,m_ 31 32]
def iO:List Bg:=[L_ 33 2 2,q_ 34 303 [.t 33],⟨some 35,.p (.build [.own 2241 0 1 [],.own 2242 0 2 []] [(0,1,.t 34)]),none⟩,s_ 4 35 2,i_ 5 0]
def iP:=[B_ .eql 37 8 3,m_ 36 37]
def iR:=[L_ 38 2 2,f_ 39 3 3,l_ 40 39 1,q_ 41 355 [.t 38,.t 40],s_ 4 41 2,i_ 5 0]
def iS:=[L_ 42 2 2,s_ 4 42 2,i_ 5 16]
def KD:Er:=⟨2,43,[.cell 4 2 true,.t 5],sr wG (.seq (sr wH (.block 0 (sr wI (.ite (.t 9) (.seq (sr wJ (iz 17 (rr wK))) (sr wL (.seq (sr wM (iz 28 (rr wN))) (rr wO)))) (sr wP (.ite (.t 31) (rr iO) (sr iP (iz 36 (rr iR))))))))) (rr iS))⟩
def FH (D:Av):Prop:=∀a0 a1 r,jY a0 a1=some r→D 308 ⟨[.agg (Ah a0),.agg (Ap a1)],[]⟩ ⟨.tup [.agg (Ah r.1),iV r.2],[],[]⟩
abbrev Qj:=fun x0 (r:List (Nat×List V))=>(128,Ah x0)::(256,[Au 257 [],Ab 258 []])::r
abbrev Wv:=fun (r:List (Nat×V))=>(2,.ptr 128 0)::(3,.ptr 192 0)::(4,.ptr 256 0)::r
theorem MZ (H291:FA C) (H292:FB C) (H303:nC C) (H355:FR C):FH (FO C KD):=by
 intro a0 a1 r h0
 refine f0 (At 18 (Wv [(8,iV a1.kind),(9,.bool (a1.kind==1))]) (Qj a0 [(192,Ap a1)]) (Cv h0 (fun c1 h0=>?_) (fun c1 h0=>?_)))
 ·refine Bb 6 (Aj (Gr rfl (bb h0 fun r2 e3 h0=>Rv (H291 a1.at_ (a1.data.length:Int) r2 e3) (o_ (At 2 (Wv [(17,.bool (!r2))]) (Qj a0 [(192,Ap a1)]) (Cv h0 (fun c4 h0=>?_) (fun c4 h0=>?_)))))))
  ·obtain rfl:=sj h0
   exact Dt 6
  ·refine Bb 8 (Aj (bb h0 fun r5 e6 h0=>st (Kh (r:=.agg (Ak r5 u_ (Cf 0))) true (H292 a0 a1.at_ a1.data r5 e6) ⟨tv,tv,tv,tv⟩ rfl rfl (fun h=>nomatch h) (o_ (At 3 [(2,.ptr 128 0),(4,.ptr 256 0),(6,.ptr 384 0)] (Qj a0 [(384,Ak r5 u_ (Cf 1536))]) (Bb 4 (Aj (eX rfl (o_ (At 2 [(2,.ptr 128 0),(4,.ptr 256 0),(6,.ptr 384 0),(28,.bool (decide ((r5.Aa.length:Int)>4096)))] (Qj a0 [(384,Ak r5 u_ (Cf 1536))]) (Cv h0 (fun c7 h0=>?_) (fun c7 h0=>?_))))))))))))
   ·obtain rfl:=sj h0
    exact Dt 6
   ·obtain rfl:=sj h0
    exact Dt 8 [1536]
 ·refine At 4 (Wv [(8,iV a1.kind),(31,.bool (a1.kind==2))]) (Qj a0 [(192,Ap a1)]) (Cv h0 (fun c8 h0=>?_) (fun c8 h0=>?_))
  ·refine Bb 2 (Aj (bb h0 fun r9 e10 h0=>Ru (H303 a0 r9 e10) (af rfl) (st (c_ (v:=.agg [Au 2176 r9,Ab 2242 []]) (Bx ⟨tv,tv⟩ rfl ⟨⟨rfl,rfl,nl rfl⟩,tv⟩) (o_ ?_)))))
   obtain rfl:=sj h0
   exact Dt 4 [2176,2242]
  ·refine At 4 (Wv [(36,.bool (a1.kind==3))]) (Qj a0 [(192,Ap a1)]) (Cv h0 (fun c11 h0=>?_) (fun c11 h0=>?_))
   ·refine Bb 4 (Aj (bb h0 fun r12 e13 h0=>st (Kh (r:=.agg (Ak r12 (Cf 0) (Cf 1))) true (H355 a0 a1.keep r12 e13) ⟨tv,tv,tv⟩ rfl rfl (fun h=>nomatch h) (o_ ?_))))
    obtain rfl:=sj h0
    exact Dt 4 [2624,2625]
   ·obtain rfl:=sj h0
    exact Dt 9

/- loop.example/g00149/spec.DeviceRun -/
def qJ:List Bg:=[⟨some 2,.nilS 1,none⟩,a_ 3 [.own 193 0 1 [],.own 194 0 2 []],i_ 4 0]
def qK:=[m_ 10 0,n_ 11 10,B_ .gtr 12 11 4096]
def qL:List Bg:=[⟨some 13,.mkS 1 [iV 0] 0 [],none⟩,iQ 14 (.build [.own 897 0 1 [],.own 898 0 2 []] []),m_ 2 13,s_ 3 14 2,i_ 4 2]
def qM:=[m_ 15 0,n_ 16 15,B_ .gtr 17 16 200]
def qN:List Bg:=[⟨some 18,.mkS 1 [iV 0] 0 [],none⟩,iQ 19 (.build [.own 1217 0 1 [],.own 1218 0 2 []] []),m_ 2 18,s_ 3 19 2,i_ 4 6]
def qO:=[iQ 20 (.build [.own 1281 0 1 [],.own 1282 0 2 []] []),a_ 5 [.own 321 0 1 [],.own 322 0 2 []],s_ 5 20 2]
def qP:List Bg:=[⟨some 21,.mkS 1 [iV 0] 0 [],none⟩,m_ 6 21]
def qQ:=[i_ 7 0]
def qR:=[m_ 22 7,m_ 23 0,n_ 24 23,b_ .lss 25 22 24]
def qS:=tk [L_ 29 5 2,m_ 30 0,m_ 31 7,x_ 32 30 31 4,L_ 33 32 4] (.alt [] (q_ 34 308 [.t 29,.t 33]) (tk [m_ 28 34,e_ 35 28 0,e_ 36 28 1] (.alt [e_ 36 28 1,e_ 35 28 0,m_ 28 34] (a_ 8 [.own 513 0 1 [],.own 514 0 2 []]) (.alt [e_ 36 28 1] (s_ 8 35 2) (tk [m_ 9 36] .fin) .stop) .stop)) (.alt [L_ 33 32 4,x_ 32 30 31 4,m_ 31 7,m_ 30 0,L_ 29 5 2] (a_ 8 [.own 513 0 1 [],.own 514 0 2 []]) (.alt [] (q_ 34 308 [.t 29,.t 33]) (tk [m_ 28 34,e_ 35 28 0,e_ 36 28 1] (.alt [e_ 36 28 1] (s_ 8 35 2) (tk [m_ 9 36] .fin) .stop)) .stop) .stop))
def iF:=[L_ 37 8 2,s_ 5 37 2]
def iG:List Bg:=[m_ 38 6,m_ 39 9,⟨some 40,.mkS 1 [iV 0] 1 [(0,.t 39)],none⟩,⟨some 41,.app 1 8 (.t 38) (.t 40),none⟩,m_ 6 41]
def iH:=[m_ 26 7,B_ .add 27 26 1,m_ 7 27]
def qI:IR:=(.seq (sr qR (.ite (.t 25) .skip (.exit 0))) (.seq (.block 1 (sd qS (sr iF (.reg iG)))) (.reg iH)))
def iI:=[m_ 42 6,L_ 43 5 2,q_ 44 293 [.t 43],m_ 2 42,s_ 3 44 2,i_ 4 0]
def JJ:Er:=⟨1,45,[.t 2,.cell 3 2 true,.t 4],sr qJ (.seq (sr qK (iz 12 (rr qL))) (.seq (sr qM (iz 17 (rr qN))) (sr qO (sr qP (.seq (sr qQ (No 0 qI)) (rr iI))))))⟩
def EQ (D:Av):Prop:=∀a0 r,BJ a0=some r→D 245 ⟨[Ai a0],[]⟩ ⟨.tup [oI 0 r.1,.agg (Ak r.2.1 (Cf 1) (Cf 2)),iV r.2.2],[],[]⟩
abbrev Ht:=fun (r:List (Nat×List V))=>(192,[Au 193 [],Ab 194 []])::r
abbrev Nh:=fun x0 (r:List (Nat×V))=>(0,Ai x0)::(3,.ptr 192 0)::(5,.ptr 320 0)::r
theorem MF (H293:FC C) (H308:FH C):EQ (FO C JJ):=by
 intro a0 r h0
 refine f0 (At 5 [(0,Ai a0),(3,.ptr 192 0)] (Ht []) (Bb 3 (Aj (Gr rfl (o_ (At 2 [(0,Ai a0),(3,.ptr 192 0),(12,.bool (decide ((a0.length:Int)>4096)))] (Ht []) (Cv h0 (fun c1 h0=>?_) (fun c1 h0=>?_))))))))
 ·obtain rfl:=sj h0
  exact Dt 8
 ·refine Bb 5 (Aj (Gr rfl (o_ (At 2 [(0,Ai a0),(3,.ptr 192 0),(17,.bool (decide ((a0.length:Int)>200)))] (Ht []) (Cv h0 (fun c2 h0=>?_) (fun c2 h0=>?_))))))
  ·obtain rfl:=sj h0
   exact Dt 8
  ·refine At 17 (Nh a0 [(6,oI 1344 []),(7,iV 0)]) (Ht [(320,[Au 1281 [],Ab 1282 []])]) (Bp (bb h0 fun r35 e36 h0=>Cw (R:=(fun S=>∃p25:List Int,∃p26:List UInt8,∃p27:List Ac,(p25,p26,p27)=r35∧S=⟨[(3,.ptr 192 0),(5,.ptr 320 0),(6,oI 1344 p25)],Ht [(320,[Em p26,Al p27])],[]⟩)) (Gu a0) (fun s S=>match s with | (p10,p11,p12,p13)=>S=⟨Nh a0 [(6,oI 1344 p10),(7,iV p11)],Ht [(320,[Em p12,Al p13])],[]⟩) e36 ⟨Nh a0 [(6,oI 1344 []),(7,iV 0)],Ht [(320,[Em [],Al []])],[]⟩ (OA [1281,1282] (by kernel_rfl)) rfl 0 (fun _=>rfl) ?_ ?_))
   ·rintro S _ hfg ⟨p25,p26,p27,rfl,rfl⟩
    refine Fs _ hfg (Bb 3 (Aj (bb h0 fun r37 e38 h0=>st (Kh (r:=.agg (Ak r37 (Cf 0) (Cf 1))) true (H293 (Ae.mk p26 p27) r37 e38) ⟨tv,tv⟩ rfl rfl (fun h=>nomatch h) (o_ ?_)))))
    obtain rfl:=sj h0
    exact Dt 5
   ·rintro ⟨p10,p11,p12,p13⟩ o1 _ K1 rfl h1 hx1 hK1 hE1 hR1
    refine Bb 4 (Aj (Gr rfl (o_ (At 2 (Nh a0 [(6,oI 1344 p10),(7,iV p11),(25,.bool (decide (p11<(a0.length:Int))))]) (Ht [(320,[Em p12,Al p13])]) (Cv h1 (fun c28 h1=>?_) (fun c28 h1=>?_))))))
    ·refine aD 5 (bb h1 fun y29 e30 h1=>bb h1 fun r31 e32 h1=>DX (fun S=>S=⟨Nh a0 [(6,oI 1344 p10),(7,iV p11),(8,.ptr 512 0),(9,iV r31.2)],Ht [(320,[Em p12,Al p13]),(512,Ah r31.1)],[]⟩) ?_ (fun J33=>?_))
     ·rintro _ rfl
      refine At 4 (Nh a0 [(6,oI 1344 p10),(7,iV p11),(9,iV r31.2)]) (Ht [(320,Ah r31.1)]) (Bb 3 (Aj (gg h1 fun c34 h1=>st (Ms (e:=eI) (l0:=p10) (l1:=([r31.2]:List Int)) rfl rfl tv rfl (by decide) c34 (o_ (At 3 (Nh a0 [(6,oI 1344 (p10++([r31.2]:List Int))),(7,iV p11)]) (Ht [(320,Ah r31.1)]) (Bb 4 ?_)))))))
      obtain rfl:=sj h1
      exact kn hK1 rfl rfl
     ·refine Ck tv (c_ (v:=.agg [Em p12,Al p13]) (Bx ⟨tv,tv⟩ rfl (nl rfl)) ?_)
      refine ⟨tv,d_ (Bb 2 (Cr (d_ (eP rfl rfl rfl e30 (Cr (Ck tv (c_ (v:=.agg (Ap y29)) (Bx ⟨tv,tv⟩ rfl (nl rfl)) (⟨tv,Do (Kh (r:=.tup [.agg (Ah r31.1),iV r31.2]) true (H308 (Ae.mk p12 p13) y29 r31 e32) ⟨tv,tv,tv⟩ rfl rfl (fun h=>nomatch h) ?_) ?_⟩))))))))⟩
      ·refine dw [(0,Ai a0),(3,.ptr 192 0),(5,.ptr 320 0),(6,oI 1344 p10),(7,iV p11),(34,.tup [.agg (Ah r31.1),iV r31.2])] [(192,[Au 193 [],Ab 194 []]),(320,[Em p12,Al p13])] tv ?_
       refine d_ (Bb 3 (Cr (Do (Gk (d0 hB (Do (Jz rfl rfl tv rfl rfl rfl (nl rfl) (d0 hB (d_ (Bb 2 ?_)))) Cd))) Cd)))
       exact jn J33 rfl
      ·refine Do (Gk ?_) Cd
       refine d0 ⟨⟨.inl tv,Az (Bx ⟨tv,tv⟩ rfl (nl rfl)) rfl⟩,⟨.inl tv,Az (LP rfl rfl e30) rfl⟩,⟨.inl tv,Az (Xl (v:=iV p11) rfl tv) rfl⟩,⟨.inl tv,Az (Xl (v:=Ai a0) rfl tv) rfl⟩,⟨.inl tv,Az (Bx ⟨tv,tv⟩ rfl (nl rfl)) rfl⟩,tv⟩ (Do (Kh (r:=.tup [.agg (Ah r31.1),iV r31.2]) true (H308 (Ae.mk p12 p13) y29 r31 e32) ⟨tv,tv,tv⟩ rfl rfl (fun h=>nomatch h) (dw [(0,Ai a0),(3,.ptr 192 0),(5,.ptr 320 0),(6,oI 1344 p10),(7,iV p11),(8,.ptr 512 0),(34,.tup [.agg (Ah r31.1),iV r31.2])] [(192,[Au 193 [],Ab 194 []]),(320,[Em p12,Al p13]),(512,[Au 513 [],Ab 514 []])] tv (d_ (Bb 3 (Cr (Do (Jz rfl rfl tv rfl rfl rfl (nl rfl) (d0 hB (d_ (Bb 2 ?_)))) Cd)))))) Cd)
       exact jn J33 rfl
    ·obtain rfl:=sj h1
     obtain rfl:=hx1 _ rfl
     refine Nt rfl ?_
     exact jn hE1 ⟨_,_,_,rfl,rfl⟩

/- loop.example/g00149/laws.toByteS -/
def oD:List Bg:=[⟨some 2,.nilS 1,none⟩]
def oE:List Bg:=[m_ 5 0,n_ 6 5,⟨some 7,.make 1 1 [.int .u8 0] (.t 6) (.t 6),none⟩,m_ 3 7]
def oF:=[i_ 4 0]
def oG:=[m_ 8 4,m_ 9 0,n_ 10 9,b_ .lss 11 8 10]
def oH:=[m_ 14 3,m_ 15 4,m_ 16 0,m_ 17 4,x_ 18 16 17 1,l_ 19 18 1,x_ 20 14 15 1,s_ 20 19 1]
def oJ:=[m_ 12 4,B_ .add 13 12 1,m_ 4 13]
def oC:IR:=(.seq (sr oG (.ite (.t 11) .skip (.exit 0))) (.seq (.block 1 (.reg oH)) (.reg oJ)))
def oK:=[m_ 21 3,m_ 2 21]
def JC:Er:=⟨1,22,[.t 2],sr oD (sr oE (.seq (sr oF (No 0 oC)) (rr oK)))⟩
def EL (D:Av):Prop:=∀a0 r,BF a0=some r→D 231 ⟨[Em a0],[]⟩ ⟨Au 0 r,[],[]⟩
theorem LY:EL (FO C JC):=by
 intro a0 r h0
 refine f0 (At 3 [(0,Em a0)] [] (Bu (Aj (st (Ce rfl tv (Gr rfl (gg h0 fun c1 h0=>gg h0 fun c2 h0=>st (EB (e:=Im) (0:UInt8) rfl rfl c1 rfl c2 rfl (o_ (At 7 [(0,Em a0),(3,Au 448 (List.replicate (a0.length:Int).toNat (0:UInt8))),(4,iV 0)] [] (Bp (bb h0 fun r29 e30 h0=>Cw (R:=(fun S=>∃p21:List UInt8,p21=r29∧S=⟨[(3,Au 448 p21)],[],[]⟩)) (Ln a0) (fun s S=>match s with | (p10,p11)=>S=⟨[(0,Em a0),(3,Au 448 p10),(4,iV p11)],[],[]⟩) e30 _ (Fz (by kernel_rfl)) rfl 0 (fun _=>rfl) ?_ ?_))))))))))))
 ·rintro S _ hfg ⟨p21,rfl,rfl⟩
  refine Fs _ hfg ?_
  obtain rfl:=sj h0
  exact Dt 5
 ·rintro ⟨p10,p11⟩ o1 _ K1 rfl h1 hx1 hK1 hE1 hR1
  refine Bb 4 (Aj (Gr rfl (o_ (At 2 [(0,Em a0),(3,Au 448 p10),(4,iV p11),(11,.bool (decide (p11<(a0.length:Int))))] [] (Cv h1 (fun c22 h1=>?_) (fun c22 h1=>?_))))))
  ·refine Bb 8 (Aj (bb h1 fun y23 e24 h1=>aO rfl rfl e24 (st (c_ (Bx ⟨tv,tv⟩ rfl (nl rfl)) (bb h1 fun y25 e26 h1=>eZ rfl rfl e26 (bb h1 fun y27 e28 h1=>LI y23 rfl rfl e28 (o_ (At 2 [(0,Em a0),(3,Au 448 (p10.set p11.toNat y23)),(4,iV p11)] [] (Bb 4 ?_)))))))))
   obtain rfl:=sj h1
   exact kn hK1 rfl rfl
  ·obtain rfl:=sj h1
   obtain rfl:=hx1 _ rfl
   refine Nt rfl ?_
   exact jn hE1 ⟨_,rfl,rfl⟩

/- loop.example/g00149/laws.toBoolS -/
def zQ:List Bg:=[⟨some 2,.nilS 1,none⟩]
def zR:List Bg:=[m_ 5 0,n_ 6 5,⟨some 7,.make 1 1 [.bool false] (.t 6) (.t 6),none⟩,m_ 3 7]
def zS:=[i_ 4 0]
def zU:=[m_ 8 4,m_ 9 0,n_ 10 9,b_ .lss 11 8 10]
def zW:=[m_ 14 3,m_ 15 4,m_ 16 0,m_ 17 4,x_ 18 16 17 1,l_ 19 18 1,x_ 20 14 15 1,s_ 20 19 1]
def zX:=[m_ 12 4,B_ .add 13 12 1,m_ 4 13]
def zP:IR:=(.seq (sr zU (.ite (.t 11) .skip (.exit 0))) (.seq (.block 1 (.reg zW)) (.reg zX)))
def zY:=[m_ 21 3,m_ 2 21]
def KP:Er:=⟨1,22,[.t 2],sr zQ (sr zR (.seq (sr zS (No 0 zP)) (rr zY)))⟩
def FS (D:Av):Prop:=∀a0 r,CK a0=some r→D 356 ⟨[lB a0],[]⟩ ⟨oB 0 r,[],[]⟩
theorem NN:FS (FO C KP):=by
 intro a0 r h0
 refine f0 (At 3 [(0,lB a0)] [] (Bu (Aj (st (Ce rfl tv (Gr rfl (gg h0 fun c1 h0=>gg h0 fun c2 h0=>st (EB (e:=eB) false rfl rfl c1 rfl c2 rfl (o_ (At 7 [(0,lB a0),(3,oB 448 (List.replicate (a0.length:Int).toNat false)),(4,iV 0)] [] (Bp (bb h0 fun r29 e30 h0=>Cw (R:=(fun S=>∃p21:List Bool,p21=r29∧S=⟨[(3,oB 448 p21)],[],[]⟩)) (On a0) (fun s S=>match s with | (p10,p11)=>S=⟨[(0,lB a0),(3,oB 448 p10),(4,iV p11)],[],[]⟩) e30 _ (Fz (by kernel_rfl)) rfl 0 (fun _=>rfl) ?_ ?_))))))))))))
 ·rintro S _ hfg ⟨p21,rfl,rfl⟩
  refine Fs _ hfg ?_
  obtain rfl:=sj h0
  exact Dt 5
 ·rintro ⟨p10,p11⟩ o1 _ K1 rfl h1 hx1 hK1 hE1 hR1
  refine Bb 4 (Aj (Gr rfl (o_ (At 2 [(0,lB a0),(3,oB 448 p10),(4,iV p11),(11,.bool (decide (p11<(a0.length:Int))))] [] (Cv h1 (fun c22 h1=>?_) (fun c22 h1=>?_))))))
  ·refine Bb 8 (Aj (bb h1 fun y23 e24 h1=>aO rfl rfl e24 (st (c_ (Bx ⟨tv,tv⟩ rfl (nl rfl)) (bb h1 fun y25 e26 h1=>eZ rfl rfl e26 (bb h1 fun y27 e28 h1=>LI y23 rfl rfl e28 (o_ (At 2 [(0,lB a0),(3,oB 448 (p10.set p11.toNat y23)),(4,iV p11)] [] (Bb 4 ?_)))))))))
   obtain rfl:=sj h1
   exact kn hK1 rfl rfl
  ·obtain rfl:=sj h1
   obtain rfl:=hx1 _ rfl
   refine Nt rfl ?_
   exact jn hE1 ⟨_,rfl,rfl⟩

/- loop.example/g00149/laws.toDevAct -/
def wQ:=[X_ 1 0,a_ 2 [iV 0,iV 0,.own 131 0 1 [],.own 132 0 1 []]]
def wR:=[a_ 3 [iV 0,iV 0,.own 195 0 1 [],.own 196 0 1 []]]
def wS:=[f_ 4 1 0,l_ 5 4 1,f_ 6 3 0,s_ 6 5 1]
def wT:=[f_ 7 1 1,l_ 8 7 1,f_ 9 3 1,s_ 9 8 1]
def wU:=[f_ 10 1 2,l_ 11 10 1,q_ 12 231 [.t 11],f_ 13 3 2,s_ 13 12 1]
def wV:=[f_ 14 1 3,l_ 15 14 1,q_ 16 356 [.t 15],f_ 17 3 3,s_ 17 16 1]
def wW:=[L_ 18 3 4,s_ 2 18 4]
def KE:Er:=⟨1,19,[.cell 2 4 true],sr wQ (sr wR (sr wS (sr wT (sr wU (sr wV (rr wW))))))⟩
def FI (D:Av):Prop:=∀a0 r,CA a0=some r→D 309 ⟨[.agg (Ap a0)],[]⟩ ⟨.agg (kJ r (Cf 0) (Cf 1)),[],[]⟩
theorem NA (H231:EL C) (H356:FS C):FI (FO C KE):=by
 intro a0 r h0
 refine f0 (At 22 [(1,.ptr 64 0),(2,.ptr 128 0),(3,.ptr 192 0)] [(64,Ap a0),(128,Nq 0 0 (Cf 131) [] (Cf 132) []),(192,Nq a0.kind a0.at_ (Cf 195) [] (Cf 196) [])] (Bb 2 (Aj ?_)))
 refine st (c_ (Bx ⟨tv,tv⟩ rfl (nl rfl)) (bb h0 fun r1 e2 h0=>Ru (H231 a0.data r1 e2) (af rfl) (o_ (At 3 [(1,.ptr 64 0),(2,.ptr 128 0),(3,.ptr 192 0)] [(64,Ap a0),(128,Nq 0 0 (Cf 131) [] (Cf 132) []),(192,Nq a0.kind a0.at_ (Cf 768) r1 (Cf 196) [])] (Bb 3 (Aj (bb h0 fun r3 e4 h0=>Ru (H356 a0.keep r3 e4) (af rfl) (o_ ?_))))))))
 obtain rfl:=sj h0
 exact Dt 9

/- loop.example/g00149/laws.toDevActS -/
def qU:List Bg:=[⟨some 2,.nilS 4,none⟩]
def qV:List Bg:=[m_ 5 0,n_ 6 5,⟨some 7,.make 4 64 [iV 0,iV 0,.lst 1 [],.lst 1 []] (.t 6) (.t 6),none⟩,m_ 3 7]
def qW:=[i_ 4 0]
def qX:=[m_ 8 4,m_ 9 0,n_ 10 9,b_ .lss 11 8 10]
def qY:=[m_ 14 3,m_ 15 4,m_ 16 0,m_ 17 4,x_ 18 16 17 4,L_ 19 18 4,q_ 20 309 [.t 19],x_ 21 14 15 4,s_ 21 20 4]
def qZ:=[m_ 12 4,B_ .add 13 12 1,m_ 4 13]
def qT:IR:=(.seq (sr qX (.ite (.t 11) .skip (.exit 0))) (.seq (.block 1 (.reg qY)) (.reg qZ)))
def rA:=[m_ 22 3,m_ 2 22]
def JK:Er:=⟨1,23,[.t 2],sr qU (sr qV (.seq (sr qW (No 0 qT)) (rr rA)))⟩
def ER (D:Av):Prop:=∀a0 r,Zt a0=some r→D 246 ⟨[Ai a0],[]⟩ ⟨Ay 32 r,[],[]⟩
theorem MG (H309:FI C):ER (FO C JK):=by
 intro a0 r h0
 refine f0 (HU 3 [] [(128,160)] [(0,Ai a0)] [] (Bu (Aj (st (Ce rfl tv (Gr rfl (gg h0 fun c1 h0=>gg h0 fun c2 h0=>st (HR (e:=Ap) (Af.mk 0 0 ([]:List UInt8) ([]:List Bool)) rfl rfl c1 rfl c2 rfl (st (Ce rfl tv (Pa (bv h0 fun v3 e4 h0=>Fs ⟨[(0,Ai a0),(3,Ay 480 v3)],[],[]⟩ (Fz (by subst e4; kernel_rfl)) (At 4 [(0,Ai a0),(3,Ay 480 v3),(4,iV 0)] [] (Bp (bb h0 fun r37 e38 h0=>Cw (R:=(fun S=>∃p27:List Af,p27=r37∧S=⟨[(3,Ay 480 p27)],[],[]⟩)) (Oa a0) (fun s S=>match s with | (p14,p15)=>S=⟨[(0,Ai a0),(3,Ay 480 p14),(4,iV p15)],[],[]⟩) e38 _ (Fz (by kernel_rfl)) rfl 0 (fun _=>rfl) ?_ ?_)))))))))))))))
 ·rintro S _ hfg ⟨p27,rfl,rfl⟩
  refine Fs _ hfg ?_
  obtain rfl:=sj h0
  exact Dt 5
 ·rintro ⟨p14,p15⟩ o1 _ K1 rfl h1 hx1 hK1 hE1 hR1
  refine Bb 4 (Aj (Gr rfl (o_ (At 2 [(0,Ai a0),(3,Ay 480 p14),(4,iV p15),(11,.bool (decide (p15<(a0.length:Int))))] [] (Cv h1 (fun c28 h1=>?_) (fun c28 h1=>?_))))))
  ·refine Bb 8 (Aj (bb h1 fun y29 e30 h1=>aO rfl rfl e30 (st (c_ (v:=.agg (Ap y29)) (Bx ⟨tv,tv⟩ rfl (nl rfl)) (bb h1 fun r31 e32 h1=>Ru (H309 y29 r31 e32) (ar (Ek rfl (af (af rfl)))) (bb h1 fun y33 e34 h1=>eZ rfl rfl e34 (bb h1 fun y35 e36 h1=>st (cJ (y':=r31) rfl rfl tv rfl rfl rfl rfl e36 (nl rfl) rfl (Ek Ui (Ek Ui (Ek (aA (fun _=>rfl)) (Ek (aA (fun _=>rfl)) rfl)))) rfl rfl (Pa (cV (Fs ⟨[(0,Ai a0),(3,Ay 480 (p14.set p15.toNat r31)),(4,iV p15)],[],[]⟩ (fg ⟨rfl,congrArg (fun z=>some ((.own 480 0 4 z:V))) Gi,rfl,tv⟩ tv) (Bb 4 ?_))))))))))))
   obtain rfl:=sj h1
   exact kn hK1 rfl rfl
  ·obtain rfl:=sj h1
   obtain rfl:=hx1 _ rfl
   refine Nt rfl ?_
   exact jn hE1 ⟨_,rfl,rfl⟩

/- loop.example/g00149/laws.eqBoolS -/
def AA:=[k_ 4 (.bool false)]
def AB:=[m_ 6 0,n_ 7 6,m_ 8 1,n_ 9 8,b_ .neq 10 7 9]
def AC:=[k_ 4 (.bool false)]
def AD:=[i_ 5 0]
def AE:=[m_ 11 5,m_ 12 0,n_ 13 12,b_ .lss 14 11 13]
def AF:=tk [m_ 17 0,m_ 18 5,x_ 19 17 18 1,l_ 20 19 1,m_ 21 1,m_ 22 5,x_ 23 21 22 1,l_ 24 23 1,iQ 25 (.binB .neq (.t 20) (.t 24))] .fin
def AG:=[k_ 4 (.bool false)]
def AH:=[m_ 15 5,B_ .add 16 15 1,m_ 5 16]
def zZ:IR:=(.seq (sr AE (.ite (.t 14) .skip (.exit 0))) (.seq (.block 1 (sd AF (iz 25 (rr AG)))) (.reg AH)))
def AI:=[k_ 4 (.bool true)]
def KQ:Er:=⟨2,26,[.t 4],sr AA (.seq (sr AB (iz 10 (rr AC))) (.seq (sr AD (No 0 zZ)) (rr AI)))⟩
def FT (D:Av):Prop:=∀a0 a1 r,CM a0 a1=some r→D 357 ⟨[lB a0,lB a1],[]⟩ ⟨.bool r,[],[]⟩
theorem NO:FT (FO C KQ):=by
 intro a0 a1 r h0
 refine f0 (At 3 [(0,lB a0),(1,lB a1)] [] (Bb 3 (Aj (Gr rfl (st (Ce rfl tv (Gr rfl (o_ (At 2 [(0,lB a0),(1,lB a1),(10,.bool ((a0.length:Int) != (a1.length:Int)))] [] (Cv h0 (fun c1 h0=>?_) (fun c1 h0=>?_)))))))))))
 ·obtain rfl:=sj h0
  exact Dt 4
 ·refine At 6 [(0,lB a0),(1,lB a1),(5,iV 0)] [] (Bp (bb h0 fun r22 e23 h0=>Cw (R:=(fun S=>.inl ()=r22∧S=⟨[],[],[]⟩)) (Oo a0 a1) (fun s S=>match s with | p8=>S=⟨[(0,lB a0),(1,lB a1),(5,iV p8)],[],[]⟩) e23 _ (Fz (by kernel_rfl)) rfl 0 (fun _=>rfl) ?_ ?_))
  ·rintro S _ hfg ⟨rfl,rfl⟩
   refine Fs _ hfg ?_
   obtain rfl:=sj h0
   exact Dt 4
  ·rintro p8 o1 _ K1 rfl h1 hx1 hK1 hE1 hR1
   refine Bb 4 (Aj (Gr rfl (o_ (At 2 [(0,lB a0),(1,lB a1),(5,iV p8),(14,.bool (decide (p8<(a0.length:Int))))] [] (Cv h1 (fun c16 h1=>?_) (fun c16 h1=>?_))))))
   ·refine aD 5 (bb h1 fun y17 e18 h1=>bb h1 fun y19 e20 h1=>Bb 2 (Cr (d_ (eP rfl rfl rfl e18 (Bb 3 (Cr (d_ (eP rfl rfl rfl e20 (At 3 [(0,lB a0),(1,lB a1),(5,iV p8),(25,.bool (!(y17==y19)))] [] (Cv h1 (fun c21 h1=>?_) (fun c21 h1=>?_)))))))))))
    ·obtain rfl:=sj h1
     obtain rfl:=hx1 _ rfl
     obtain rfl:=sj h0
     exact lK 4 hR1
    ·refine Bb 7 ?_
     obtain rfl:=sj h1
     exact kn hK1 rfl rfl
   ·obtain rfl:=sj h1
    obtain rfl:=hx1 _ rfl
    refine Nt rfl ?_
    exact jn hE1 ⟨rfl,rfl⟩

/- loop.example/g00149/laws.eqDevAct -/
def wX:=[X_ 2 0,X_ 3 1,k_ 4 (.bool false)]
def wY:=[f_ 5 2 0,l_ 6 5 1,f_ 7 3 0,l_ 8 7 1,b_ .neq 9 6 8]
def wZ:=[k_ 4 (.bool false)]
def xA:=[f_ 10 2 1,l_ 11 10 1,f_ 12 3 1,l_ 13 12 1,b_ .neq 14 11 13]
def xB:=[k_ 4 (.bool false)]
def xC:=[f_ 15 2 2,l_ 16 15 1,f_ 17 3 2,l_ 18 17 1,q_ 19 233 [.t 16,.t 18],N_ 20 19]
def xD:=[k_ 4 (.bool false)]
def xE:=[f_ 21 2 3,l_ 22 21 1,f_ 23 3 3,l_ 24 23 1,q_ 25 357 [.t 22,.t 24],N_ 26 25]
def xG:=[k_ 4 (.bool false)]
def xH:=[k_ 4 (.bool true)]
def KF:Er:=⟨2,27,[.t 4],sr wX (.seq (sr wY (iz 9 (rr wZ))) (.seq (sr xA (iz 14 (rr xB))) (.seq (sr xC (iz 20 (rr xD))) (.seq (sr xE (iz 26 (rr xG))) (rr xH)))))⟩
def FJ (D:Av):Prop:=∀a0 a1 r,CB a0 a1=some r→D 310 ⟨[.agg (Ap a0),.agg (Ap a1)],[]⟩ ⟨.bool r,[],[]⟩
theorem NC (H233:fA C) (H357:FT C):FJ (FO C KF):=by
 intro a0 a1 r h0
 refine f0 (At 14 [(2,.ptr 128 0),(3,.ptr 192 0),(9,.bool (a0.kind != a1.kind))] [(128,Ap a0),(192,Ap a1)] (Cv h0 (fun c1 h0=>?_) (fun c1 h0=>?_)))
 ·obtain rfl:=sj h0
  exact Dt 4
 ·refine At 10 [(2,.ptr 128 0),(3,.ptr 192 0),(14,.bool (a0.at_ != a1.at_))] [(128,Ap a0),(192,Ap a1)] (Cv h0 (fun c2 h0=>?_) (fun c2 h0=>?_))
  ·obtain rfl:=sj h0
   exact Dt 4
  ·refine Bb 8 (Aj (bb h0 fun r3 e4 h0=>Rv (H233 a0.data a1.data r3 e4) (o_ (At 2 [(2,.ptr 128 0),(3,.ptr 192 0),(20,.bool (!r3))] [(128,Ap a0),(192,Ap a1)] (Cv h0 (fun c5 h0=>?_) (fun c5 h0=>?_))))))
   ·obtain rfl:=sj h0
    exact Dt 4
   ·refine Bb 8 (Aj (bb h0 fun r6 e7 h0=>Rv (H357 a0.keep a1.keep r6 e7) (o_ (At 2 [(26,.bool (!r6))] [] (Cv h0 (fun c8 h0=>?_) (fun c8 h0=>?_))))))
    ·obtain rfl:=sj h0
     exact Dt 4
    ·obtain rfl:=sj h0
     exact Dt 6

/- loop.example/g00149/laws.eqDevActS -/
def rC:=[k_ 4 (.bool false)]
def rD:=[m_ 6 0,n_ 7 6,m_ 8 1,n_ 9 8,b_ .neq 10 7 9]
def rE:=[k_ 4 (.bool false)]
def rF:=[i_ 5 0]
def rG:=[m_ 11 5,m_ 12 0,n_ 13 12,b_ .lss 14 11 13]
def rH:=tk [m_ 17 0,m_ 18 5,x_ 19 17 18 4,L_ 20 19 4,m_ 21 1,m_ 22 5,x_ 23 21 22 4,L_ 24 23 4] (.alt [] (q_ 25 310 [.t 20,.t 24]) (tk [N_ 26 25] .fin) .stop)
def rI:=[k_ 4 (.bool false)]
def rJ:=[m_ 15 5,B_ .add 16 15 1,m_ 5 16]
def rB:IR:=(.seq (sr rG (.ite (.t 14) .skip (.exit 0))) (.seq (.block 1 (sd rH (iz 26 (rr rI)))) (.reg rJ)))
def rK:=[k_ 4 (.bool true)]
def JL:Er:=⟨2,27,[.t 4],sr rC (.seq (sr rD (iz 10 (rr rE))) (.seq (sr rF (No 0 rB)) (rr rK)))⟩
def ES (D:Av):Prop:=∀a0 a1 r,BL a0 a1=some r→D 247 ⟨[Ai a0,Ai a1],[]⟩ ⟨.bool r,[],[]⟩
theorem MH (H310:FJ C):ES (FO C JL):=by
 intro a0 a1 r h0
 refine f0 (At 3 [(0,Ai a0),(1,Ai a1)] [] (Bb 3 (Aj (Gr rfl (st (Ce rfl tv (Gr rfl (o_ (At 2 [(0,Ai a0),(1,Ai a1),(10,.bool ((a0.length:Int) != (a1.length:Int)))] [] (Cv h0 (fun c1 h0=>?_) (fun c1 h0=>?_)))))))))))
 ·obtain rfl:=sj h0
  exact Dt 4
 ·refine At 6 [(0,Ai a0),(1,Ai a1),(5,iV 0)] [] (Bp (bb h0 fun r28 e29 h0=>Cw (R:=(fun S=>.inl ()=r28∧S=⟨[],[],[]⟩)) (Ob a0 a1) (fun s S=>match s with | p10=>S=⟨[(0,Ai a0),(1,Ai a1),(5,iV p10)],[],[]⟩) e29 _ (Fz (by kernel_rfl)) rfl 0 (fun _=>rfl) ?_ ?_))
  ·rintro S _ hfg ⟨rfl,rfl⟩
   refine Fs _ hfg ?_
   obtain rfl:=sj h0
   exact Dt 4
  ·rintro p10 o1 _ K1 rfl h1 hx1 hK1 hE1 hR1
   refine Bb 4 (Aj (Gr rfl (o_ (At 2 [(0,Ai a0),(1,Ai a1),(5,iV p10),(14,.bool (decide (p10<(a0.length:Int))))] [] (Cv h1 (fun c20 h1=>?_) (fun c20 h1=>?_))))))
   ·refine aD 5 (bb h1 fun y21 e22 h1=>bb h1 fun y23 e24 h1=>bb h1 fun r25 e26 h1=>Bb 2 (Cr (d_ (eP rfl rfl rfl e22 (Bb 3 (Cr (d_ (eP rfl rfl rfl e24 (Cr (Ck tv (c_ (v:=.agg (Ap y23)) (Bx ⟨tv,tv⟩ rfl (nl rfl)) (⟨tv,LQ (H310 y21 y23 r25 e26) rfl (dw [(0,Ai a0),(1,Ai a1),(5,iV p10),(25,.bool r25)] [] tv (d_ (At 2 [(0,Ai a0),(1,Ai a1),(5,iV p10),(26,.bool (!r25))] [] (Cv h1 (fun c27 h1=>?_) (fun c27 h1=>?_))))) Cd⟩))))))))))))
    ·obtain rfl:=sj h1
     obtain rfl:=hx1 _ rfl
     obtain rfl:=sj h0
     exact lK 4 hR1
    ·refine Bb 7 ?_
     obtain rfl:=sj h1
     exact kn hK1 rfl rfl
   ·obtain rfl:=sj h1
    obtain rfl:=hx1 _ rfl
    refine Nt rfl ?_
    exact jn hE1 ⟨rfl,rfl⟩

/- loop.example/g00149/laws.markBoolS -/
def xJ:=[i_ 4 0]
def xK:=[i_ 5 0]
def xL:=[m_ 6 5,m_ 7 0,n_ 8 7,b_ .lss 9 6 8]
def xM:=[m_ 12 0,m_ 13 5,m_ 14 1,B_ .rem 15 14 3,B_ .eql 16 15 0,x_ 17 12 13 1,s_ 17 16 1]
def xN:=[m_ 18 1,B_ .add 19 18 1,m_ 1 19]
def xO:=[m_ 10 5,B_ .add 11 10 1,m_ 5 11]
def xI:IR:=(.seq (sr xL (.ite (.t 9) .skip (.exit 0))) (.seq (.block 1 (sr xM (.reg xN))) (.reg xO)))
def xP:=[m_ 20 1,m_ 4 20]
def KG:Er:=⟨2,21,[.t 4],sr xJ (.seq (sr xK (No 0 xI)) (rr xP))⟩
def FK (D:Av):Prop:=∀a0 a1 r,CC a0 a1=some r→D 311 ⟨[oB 2097152 a0,iV a1],[]⟩ ⟨iV r.1,[],[(0,1,r.2.map eB)]⟩
theorem ND:FK (FO C KG):=by
 intro a0 a1 r h0
 refine f0 (At 8 [(0,oB 2097152 a0),(1,iV a1),(5,iV 0)] [] (Bp (bb h0 fun r24 e25 h0=>Cw (R:=(fun S=>∃p17:List Bool,∃p18:Int,(p17,p18)=r24∧S=⟨[(0,oB 2097152 p17),(1,iV p18)],[],[]⟩)) (Og) (fun s S=>match s with | (p6,p7,p8)=>S=⟨[(0,oB 2097152 p6),(1,iV p7),(5,iV p8)],[],[]⟩) e25 _ (Fz (by kernel_rfl)) rfl 0 (fun _=>rfl) ?_ ?_)))
 ·rintro S _ hfg ⟨p17,p18,rfl,rfl⟩
  refine Fs _ hfg (At 4 [(0,oB 2097152 p17),(4,iV p18)] [] ?_)
  obtain rfl:=sj h0
  exact Wa (Iv rfl rfl rfl rfl rfl ⟨⟨rfl,Zz (fun _=>rfl)⟩,tv⟩)
 ·rintro ⟨p6,p7,p8⟩ o1 _ K1 rfl h1 hx1 hK1 hE1 hR1
  refine Bb 4 (Aj (eX rfl (o_ (At 2 [(0,oB 2097152 p6),(1,iV p7),(5,iV p8),(9,.bool (decide (p8<(p6.length:Int))))] [] (Cv h1 (fun c19 h1=>?_) (fun c19 h1=>?_))))))
  ·refine Bb 8 (Aj (st (c_ (Bx ⟨tv,tv,tv⟩ rfl (by decide)) (st (c_ (Bx t3 rfl tv) (bb h1 fun y20 e21 h1=>eZ rfl rfl e21 (bb h1 fun y22 e23 h1=>LI (((p7).tmod 3)==0) rfl rfl e23 (o_ (At 7 [(0,oB 2097152 (p6.set p8.toNat (((p7).tmod 3)==0))),(1,iV (wi (p7+1))),(5,iV p8)] [] (Bb 4 ?_))))))))))
   obtain rfl:=sj h1
   exact kn hK1 rfl rfl
  ·obtain rfl:=sj h1
   obtain rfl:=hx1 _ rfl
   refine Nt rfl ?_
   exact jn hE1 ⟨_,_,rfl,rfl⟩

/- loop.example/g00149/laws.markDevActS -/
def rM:=[i_ 4 0]
def rN:=[i_ 5 0]
def rO:=[m_ 6 5,m_ 7 0,n_ 8 7,b_ .lss 9 6 8]
def rP:=[m_ 12 0,m_ 13 5,m_ 14 1,x_ 15 12 13 4,f_ 16 15 0,s_ 16 14 1]
def rQ:=[m_ 17 1,B_ .add 18 17 1,m_ 1 18]
def rR:=[m_ 19 0,m_ 20 5,m_ 21 1,x_ 22 19 20 4,f_ 23 22 1,s_ 23 21 1]
def rS:=[m_ 24 1,B_ .add 25 24 1,m_ 1 25]
def rT:=[m_ 26 0,m_ 27 5,x_ 28 26 27 4,f_ 29 28 2,l_ 30 29 1,m_ 31 1,q_ 32 235 [.t 30,.t 31],m_ 1 32]
def rU:=[m_ 33 0,m_ 34 5,x_ 35 33 34 4,f_ 36 35 3,l_ 37 36 1,m_ 38 1,q_ 39 311 [.t 37,.t 38],m_ 1 39]
def rV:=[m_ 10 5,B_ .add 11 10 1,m_ 5 11]
def rL:IR:=(.seq (sr rO (.ite (.t 9) .skip (.exit 0))) (.seq (.block 1 (sr rP (sr rQ (sr rR (sr rS (sr rT (.reg rU))))))) (.reg rV)))
def iJ:=[m_ 40 1,m_ 4 40]
def JM:Er:=⟨2,41,[.t 4],sr rM (.seq (sr rN (No 0 rL)) (rr iJ))⟩
def ET (D:Av):Prop:=∀a0 a1 r,BM a0 a1=some r→D 248 ⟨[Ay 2097184 a0,iV a1],[]⟩ ⟨iV r.1,[],[(0,4,r.2.map Ap)]⟩
theorem MI (H235:fB C) (H311:FK C):ET (FO C JM):=by
 intro a0 a1 r h0
 refine f0 (At 8 [(0,Ay 2097184 a0),(1,iV a1),(5,iV 0)] [] (Bp (bb h0 fun r92 e93 h0=>Cw (R:=(fun S=>∃p63:List Af,∃p64:Int,(p63,p64)=r92∧S=⟨[(0,Ay 2097184 p63),(1,iV p64)],[],[]⟩)) (Lo) (fun s S=>match s with | (p30,p31,p32)=>S=⟨[(0,Ay 2097184 p30),(1,iV p31),(5,iV p32)],[],[]⟩) e93 _ (Fz (by kernel_rfl)) rfl 0 (fun _=>rfl) ?_ ?_)))
 ·rintro S _ hfg ⟨p63,p64,rfl,rfl⟩
  refine Fs _ hfg (At 4 [(0,Ay 2097184 p63),(4,iV p64)] [] ?_)
  obtain rfl:=sj h0
  exact Wa (Iv rfl rfl rfl rfl rfl ⟨⟨rfl,Zz (fun _=>rfl)⟩,tv⟩)
 ·rintro ⟨p30,p31,p32⟩ o1 _ K1 rfl h1 hx1 hK1 hE1 hR1
  refine Bu (Bu (Aj (st (Ce rfl tv (st (Ce rfl tv (eX rfl (o_ (At 2 [(0,Ay 2097184 p30),(1,iV p31),(5,iV p32),(9,.bool (decide (p32<(p30.length:Int))))] [] (Cv h1 (fun c65 h1=>?_) (fun c65 h1=>?_)))))))))))
  ·refine aH (eY (Bu (Bp (Bu (Aj (st (Ce rfl tv (st (Ce rfl tv (st (Ce rfl tv (bb h1 fun y66 e67 h1=>eZ rfl rfl e67 (st (c_ (Bx ⟨tv,tv⟩ rfl tv) (bb h1 fun y68 e69 h1=>st (cJ (y':=(Af.mk p31 y68.at_ y68.data y68.keep)) rfl rfl tv rfl rfl rfl rfl e69 (nl rfl) rfl (Ek Ui rfl) rfl rfl (Pa (Fs ⟨[(0,Ay 2097184 (p30.set p32.toNat (Af.mk p31 y68.at_ y68.data y68.keep))),(1,iV p31),(5,iV p32)],[],[]⟩ (fg ⟨congrArg (fun z=>some ((.own 2097184 0 4 z:V))) Gi,rfl,rfl,tv⟩ tv) (At 5 [(0,Ay 2097184 (p30.set p32.toNat (Af.mk p31 y68.at_ y68.data y68.keep))),(1,iV (wi (p31+1))),(5,iV p32)] [] (Bu (Aj (st (Ce rfl tv (st (Ce rfl tv (st (Ce rfl tv (bb h1 fun y70 e71 h1=>eZ rfl rfl e71 (st (c_ (Bx ⟨tv,tv⟩ rfl tv) (bb h1 fun y72 e73 h1=>st (cJ (y':=(Af.mk y72.kind (wi (p31+1)) y72.data y72.keep)) rfl rfl tv rfl rfl rfl rfl e73 (nl rfl) rfl (Ek Ui rfl) rfl rfl (Pa (Fs ⟨[(0,Ay 2097184 ((p30.set p32.toNat (Af.mk p31 y68.at_ y68.data y68.keep)).set p32.toNat (Af.mk y72.kind (wi (p31+1)) y72.data y72.keep))),(1,iV (wi (p31+1))),(5,iV p32)],[],[]⟩ (fg ⟨congrArg (fun z=>some ((.own 2097184 0 4 z:V))) Gi,rfl,rfl,tv⟩ tv) (Bu (Aj (st (Ce rfl tv (st (c_ (Bx t3 rfl tv) (st (Ce rfl tv (Pa (bv h1 fun v74 e75 h1=>Fs ⟨[(0,Ay 2097184 v74),(1,iV (wi ((wi (p31+1))+1))),(5,iV p32)],[],[]⟩ (Fz (by subst e75; kernel_rfl)) (Bu (Aj (st (Ce rfl tv (st (Ce rfl tv (bb h1 fun y76 e77 h1=>eZ rfl rfl e77 (st (c_ (Bx ⟨tv,tv⟩ rfl tv) (bb h1 fun y78 e79 h1=>st (c_ (Zo (e:=Ap) (y:=y78) (v:=.nrow 2097184 (0+p32.toNat) 2 1 (y78.data.map Im)) rfl rfl tv rfl rfl e79 rfl (nl rfl) rfl) (st (Ce rfl tv (bb h1 fun r80 e81 h1=>gg h1 fun c82 h1=>st (Zk (e0:=Ap) (L0:=v74) (e:=Im) (xs:=y78.data) (xs':=r80.2) (y:=y78) (r:=iV r80.1) (H235 y78.data (wi ((wi (p31+1))+1)) r80 e81) ⟨tv,tv,tv⟩ ⟨.inl ⟨rfl,rfl⟩,⟨.inr ⟨rfl,rfl,rfl⟩,tv⟩⟩ rfl rfl e79 rfl rfl c82 (fun _=>rfl) (sw ⟨[(0,Ay 2097184 (v74.set p32.toNat (Af.mk y78.kind y78.at_ r80.2 y78.keep))),(5,iV p32),(32,iV r80.1)],[],[]⟩ (fg ⟨congrArg (fun z=>some ((z:V))) (Wy (y:=y78) (y':=(Af.mk y78.kind y78.at_ r80.2 y78.keep)) e79 rfl),rfl,rfl,tv⟩ tv) (Ce rfl tv (o_ (At 1 [(0,Ay 2097184 (v74.set p32.toNat (Af.mk y78.kind y78.at_ r80.2 y78.keep))),(1,iV r80.1),(5,iV p32)] [] (Aj (st (Ce rfl tv (st (Ce rfl tv (bb h1 fun y83 e84 h1=>eZ rfl rfl e84 (st (c_ (Bx ⟨tv,tv⟩ rfl tv) (bb h1 fun y85 e86 h1=>st (c_ (Zo (e:=Ap) (y:=y85) (v:=.nrow 2097184 (0+p32.toNat) 3 1 (y85.keep.map eB)) rfl rfl tv rfl rfl e86 rfl (nl rfl) rfl) (st (Ce rfl tv (bb h1 fun r87 e88 h1=>gg h1 fun c89 h1=>st (Zk (e0:=Ap) (L0:=v74.set p32.toNat (Af.mk y78.kind y78.at_ r80.2 y78.keep)) (e:=eB) (xs:=y85.keep) (xs':=r87.2) (y:=y85) (r:=iV r87.1) (H311 y85.keep r80.1 r87 e88) ⟨tv,tv,tv⟩ ⟨.inl ⟨rfl,rfl⟩,⟨.inr ⟨rfl,rfl,rfl⟩,tv⟩⟩ rfl rfl e86 rfl rfl c89 (fun _=>rfl) (sw ⟨[(0,Ay 2097184 ((v74.set p32.toNat (Af.mk y78.kind y78.at_ r80.2 y78.keep)).set p32.toNat (Af.mk y85.kind y85.at_ y85.data r87.2))),(5,iV p32),(39,iV r87.1)],[],[]⟩ (fg ⟨congrArg (fun z=>some ((z:V))) (Wy (y:=y85) (y':=(Af.mk y85.kind y85.at_ y85.data r87.2)) e86 rfl),rfl,rfl,tv⟩ tv) (Ce rfl tv (Pa (cV (bv h1 fun v90 e91 h1=>Fs ⟨[(0,Ay 2097184 v90),(1,iV r87.1),(5,iV p32)],[],[]⟩ (Fz (by subst e91; kernel_rfl)) (Aj (st (Ce rfl tv (st (c_ (Bx t3 rfl tv) (st (Ce rfl tv (Pa ?_))))))))))))))))))))))))))))))))))))))))))))))))))))))))))))))))))))))))))))))))))))))))))
   obtain rfl:=sj h1
   exact kn hK1 rfl rfl
  ·obtain rfl:=sj h1
   obtain rfl:=hx1 _ rfl
   refine Nt rfl ?_
   exact jn hE1 ⟨_,_,rfl,rfl⟩
end Go.Ev
