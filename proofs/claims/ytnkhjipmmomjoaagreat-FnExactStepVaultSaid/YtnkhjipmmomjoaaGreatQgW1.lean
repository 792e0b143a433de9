/- The walks of functions: the code comes to the answers that QgD tells. Written by a program of ours. -/
import Derived.Test.YtnkhjipmmomjoaaGreatQgW0
set_option linter.all false
set_option maxHeartbeats 4000000
set_option linter.unusedVariables false
set_option maxRecDepth 100000
namespace Go.Ev
variable {C:Bj}

/- cmp.Less[int] -/
def QD:=[k_ 4 (.bool false)]
def QE:List Cd:=[m_ 5 0,q_ 6 136 [.t 5],m_ 7 6,mT 7 8 1,⟨some 9,.call 136 [.t 8],some (7,true)⟩,pT 7 10 (.un .not (.t 9)),pa 11 7 10,m_ 12 11,mF 12 13 0,mF 12 14 1,pF 12 15 (.bin .lss (.t 13) (.t 14)),po 16 12 15,m_ 4 16]
def c140:Cz:=⟨2,17,[.t 4],sr QD (rr QE)⟩
def K140 (D:Bj):Prop:=∀a0 a1 r,AcX a0 a1=some r→D 140 ⟨[iV a0,iV a1],[]⟩ ⟨.bool r,[],[]⟩
theorem F140 (H136:GM C):K140 (FO C c140):=by
 intro a0 a1 r h0
 refine f0 (Ba 3 [(0,iV a0),(1,iV a1)] [] (Bt (As (st (Cj rfl tv (bb h0 fun r1 e2 h0=>Jj (H136 a0 r1 e2) (o_ (bS 2 (As (bb h0 fun r3 e4 h0=>st (Eh (r:=.bool r3) rfl false (fun hg=>H136 a1 r3 (ip hg e4)) ⟨(fun hg=>hg),tv⟩ (fun _=>rfl) (fun _=>rfl) (fun _=>rfl) (fun h=>nomatch h) (o_ (bS 9 (bv h0 fun v5 e6 h0=>Dc ⟨[(4,.bool v5)],[],[]⟩ (Dw (by subst e6; kernel_rfl)) ?_))))))))))))))
 obtain rfl:=sj h0
 exact Ka (Dx rfl rfl rfl rfl rfl tv)

/- slices.isNaN[int] -/
def QF:=[k_ 2 (.bool false)]
def QG:=[m_ 3 0,m_ 4 0,b_ .neq 5 3 4,m_ 2 5]
def c141:Cz:=⟨1,6,[.t 2],sr QF (rr QG)⟩
def K141 (D:Bj):Prop:=∀a0 r,CG a0=some r→D 141 ⟨[iV a0],[]⟩ ⟨.bool r,[],[]⟩
theorem F141:K141 (FO C c141):=by
 intro a0 r h0
 refine f0 (?_)
 obtain rfl:=sj h0
 exact Cn 11

/- slices.BinarySearch[[]int,int] -/
def LF:=[i_ 4 0,k_ 5 (.bool false)]
def LG:=[m_ 10 0,n_ 11 10,m_ 6 11]
def LH:=[m_ 12 6,i_ 7 0,m_ 8 12]
def LI:=[m_ 13 7,m_ 14 8,b_ .lss 15 13 14]
def LJ:List Cd:=[m_ 16 7,m_ 17 8,b_ .add 18 16 17,iQ 19 (.conv .u64 (.t 18)),⟨some 20,.p (.bin .shr (.t 19) (.c (.int .u64 1))),none⟩,iQ 21 (.conv .i64 (.t 20)),m_ 9 21]
def LK:=[m_ 22 0,m_ 23 9,x_ 24 22 23 1,l_ 25 24 1,m_ 26 1,q_ 27 140 [.t 25,.t 26]]
def LL:=[m_ 28 9,B_ .add 29 28 1,m_ 7 29]
def LN:=[m_ 30 9,m_ 8 30]
def LE:IR:=(.seq (sr LI (.ite (.t 15) .skip (.exit 0))) (.block 1 (sr LJ (sr LK (.ite (.t 27) (.reg LL) (.reg LN))))))
def LO:List Cd:=[m_ 31 7,m_ 32 7,m_ 33 6,b_ .lss 34 32 33,m_ 35 34,mT 35 36 0,mT 35 37 7,xT 35 38 36 37 1,lT 35 39 38 1 false,mT 35 40 1,pT 35 41 (.bin .eql (.t 39) (.t 40)),mT 35 42 41,mF 42 43 0,mF 42 44 7,xF 42 45 43 44 1,lF 42 46 45 1 false,⟨some 47,.call 141 [.t 46],some (42,false)⟩,mF 42 48 47,mT 48 49 1,⟨some 50,.call 141 [.t 49],some (48,true)⟩,⟨some 51,.pick (.t 48) (.t 50) (.c (.bool false)),some (42,false)⟩,⟨some 52,.pick (.t 42) (.c (.bool true)) (.t 51),some (35,true)⟩,pa 53 35 52,m_ 4 31,m_ 5 53]
def qE:Cz:=⟨2,54,[.t 4,.t 5],sr LF (sr LG (sr LH (.seq (Ho 0 LE) (rr LO))))⟩
def K121 (D:Bj):Prop:=∀a0 a1 r,AcO a0 a1=some r→D 121 ⟨[lI a0,iV a1],[]⟩ ⟨.tup [iV r.1,.bool r.2],[],[]⟩
theorem F121 (H140:K140 C) (H141:K141 C):K121 (FO C qE):=by
 intro a0 a1 r h0
 refine f0 (Ba 4 [(0,lI a0),(1,iV a1)] [] (Bt (As (st (Cj rfl tv (Jr rfl (o_ (Ba 8 [(0,lI a0),(1,iV a1),(6,iV (a0.length:Int)),(7,iV 0),(8,iV (a0.length:Int))] [] (Bt (Cc (bb h0 fun r30 e31 h0=>Cr (R:=(fun S=>∃p21:Int,p21=r30∧S=⟨[(0,lI a0),(1,iV a1),(6,iV (a0.length:Int)),(7,iV p21)],[],[]⟩)) (Xr a0 a1) (fun s S=>match s with | (p9,p10)=>S=⟨[(0,lI a0),(1,iV a1),(6,iV (a0.length:Int)),(7,iV p9),(8,iV p10)],[],[]⟩) e31 _ (Dw (by kernel_rfl)) rfl 0 (fun _=>rfl) ?_ ?_)))))))))))
 ·rintro S _ hfg ⟨p21,rfl,rfl⟩
  refine Dc _ hfg (Ax 6 (As (st (Bv (u:=lI a0) rfl (fun hg=>(Dm (v:=lI a0) rfl tv)) (st (Bv (u:=iV p21) rfl (fun hg=>(Dm (v:=iV p21) rfl tv)) (bb h0 fun y32 e33 h0=>st (Bv (u:=.iptr [iV y32]) rfl (fun hg=>(Nw (e:=eI) (y:=y32) rfl rfl (fun _=>hg) rfl rfl (fun _=>hg) (ip hg e33))) (st (Bv (u:=iV y32) rfl (fun hg=>(Bl ⟨(fun _=>hg),tv⟩ rfl (nl rfl))) (st (Bv (u:=iV a1) rfl (fun hg=>(Dm (v:=iV a1) rfl tv)) (st (Bv (u:=.bool (y32==a1)) rfl (fun hg=>(Bl ⟨(fun _=>hg),(fun _=>hg),tv⟩ rfl tv)) (st (Bv (u:=.bool (y32==a1)) rfl (fun hg=>(Dm (v:=.may ((decide (p21<(a0.length:Int)))==true) (.bool (y32==a1))) rfl (fun _=>hg))) (st (Bv (u:=lI a0) rfl (fun hg=>(Dm (v:=lI a0) rfl tv)) (st (Bv (u:=iV p21) rfl (fun hg=>(Dm (v:=iV p21) rfl tv)) (bb h0 fun y34 e35 h0=>st (Bv (u:=.iptr [iV y34]) rfl (fun hg=>(Nw (e:=eI) (y:=y34) rfl rfl (fun _=>hg) rfl rfl (fun _=>hg) (ip hg e35))) (st (Bv (u:=iV y34) rfl (fun hg=>(Bl ⟨(fun _=>hg),tv⟩ rfl (nl rfl))) (bb h0 fun r36 e37 h0=>st (Eh (r:=.bool r36) rfl false (fun hg=>H141 y34 r36 (ip hg e37)) ⟨(fun hg=>hg),tv⟩ (fun _=>rfl) (fun _=>rfl) (fun _=>rfl) (fun h=>nomatch h) (st (Bv (u:=.bool r36) rfl (fun hg=>(Dm (v:=.may (((decide (p21<(a0.length:Int)))==true)&&((y32==a1)==false)) (.bool r36)) rfl (fun _=>hg))) (st (Bv (u:=iV a1) rfl (fun hg=>(Dm (v:=iV a1) rfl tv)) (bb h0 fun r38 e39 h0=>st (Eh (r:=.bool r38) rfl false (fun hg=>H141 a1 r38 (ip hg e39)) ⟨(fun hg=>hg),tv⟩ (fun _=>rfl) (fun _=>rfl) (fun _=>rfl) (fun h=>nomatch h) (st (Nk (u:=.bool (bif r36 then r38 else false)) rfl (fun hg=>Sz rfl rfl (fun _=>hg) rfl rfl (fun h=>At hg (Ta h)) tv rfl) (st (Nk (u:=.bool (bif (y32==a1) then true else (bif r36 then r38 else false))) rfl (fun hg=>Sz rfl rfl (fun _=>hg) rfl rfl tv (fun h=>At hg (Uw h)) rfl) (st (Dh rfl rfl rfl (fun h=>Ta h) tv rfl (o_ (Ax 3 (bv h0 fun v40 e41 h0=>Dc ⟨[(4,iV p21),(5,.bool v40)],[],[]⟩ (Dw (by subst e41; kernel_rfl)) ?_)))))))))))))))))))))))))))))))))))))))))
  obtain rfl:=sj h0
  exact Ka (Dx rfl rfl rfl rfl rfl tv)
 ·rintro ⟨p9,p10⟩ o1 _ K1 rfl h1 hx1 hK1 hE1 hR1
  refine Ba 6 [(0,lI a0),(1,iV a1),(6,iV (a0.length:Int)),(7,iV p9),(8,iV p10),(15,.bool (decide (p9<p10)))] [] (Ch h1 (fun c22 h1=>?_) (fun c22 h1=>?_))
  ·refine Ax 8 (As (st (c_ (Bl ⟨tv,tv,tv⟩ rfl (by decide)) (o_ (Ax 3 (bv h1 fun v23 e24 h1=>Dc ⟨[(0,lI a0),(1,iV a1),(6,iV (a0.length:Int)),(7,iV p9),(8,iV p10),(9,iV v23)],[],[]⟩ (Dw (by subst e24; kernel_rfl)) (Ax 3 (As (bb h1 fun y25 e26 h1=>Nr rfl rfl e26 (o_ (Ax 2 (As (bb h1 fun r27 e28 h1=>Jj (H140 y25 a1 r27 e28) (o_ (Ba 1 [(0,lI a0),(1,iV a1),(6,iV (a0.length:Int)),(7,iV p9),(8,iV p10),(9,iV v23),(27,.bool r27)] [] (Ch h1 (fun c29 h1=>?_) (fun c29 h1=>?_)))))))))))))))))
   ·refine Ax 5 ?_
    obtain rfl:=sj h1
    exact kn hK1 rfl rfl
   ·refine Ax 4 ?_
    obtain rfl:=sj h1
    exact kn hK1 rfl rfl
  ·obtain rfl:=sj h1
   obtain rfl:=hx1 _ rfl
   refine Hq rfl ?_
   exact jn hE1 ⟨_,rfl,rfl⟩

/- slices.Insert[[]int,int] -/
def LQ:List Cd:=[⟨some 6,.nilS 1,none⟩]
def LS:List Cd:=[m_ 10 0,m_ 11 1,⟨some 12,.p (.slice (.t 10) (some (.t 11)) none 1),none⟩]
def LT:=[m_ 13 2,n_ 14 13,m_ 7 14]
def LU:=[m_ 15 7,B_ .eql 16 15 0]
def LV:=[m_ 17 0,m_ 6 17]
def LW:=[m_ 18 0,n_ 19 18,m_ 8 19]
def LX:=[m_ 20 1,m_ 21 8,b_ .eql 22 20 21]
def LY:List Cd:=[m_ 23 0,m_ 24 2,⟨some 25,.app 1 8 (.t 23) (.t 24),none⟩,m_ 6 25]
def LZ:List Cd:=[m_ 26 8,m_ 27 7,b_ .add 28 26 27,m_ 29 0,⟨some 30,.cap (.t 29),none⟩,b_ .gtr 31 28 30]
def MA:List Cd:=[m_ 32 0,m_ 33 1,⟨some 34,.p (.slice (.t 32) none (some (.t 33)) 1),none⟩,m_ 35 8,m_ 36 7,b_ .add 37 35 36,m_ 38 1,b_ .sub 39 37 38,⟨some 40,.appz 1 8 [iV 0] (.t 34) (.t 39),none⟩,m_ 9 40]
def uE:List Cd:=[m_ 41 9,m_ 42 1,⟨some 43,.p (.slice (.t 41) (some (.t 42)) none 1),none⟩,m_ 44 2,⟨some 45,.copy 1 (.t 43) (.t 44),none⟩]
def uF:=tk [m_ 46 9,m_ 47 1,m_ 48 7,b_ .add 49 47 48,⟨some 50,.p (.slice (.t 46) (some (.t 49)) none 1),none⟩,m_ 51 0,m_ 52 1,⟨some 53,.p (.slice (.t 51) (some (.t 52)) none 1),none⟩] (.alt [] ⟨some 54,.copy 1 (.t 50) (.t 53),none⟩ .fin .stop)
def uG:=[m_ 55 9,m_ 6 55]
def uH:List Cd:=[m_ 56 0,m_ 57 8,m_ 58 7,b_ .add 59 57 58,⟨some 60,.p (.slice (.t 56) none (some (.t 59)) 1),none⟩,m_ 0 60]
def uI:List Cd:=[m_ 61 2,m_ 62 0,m_ 63 1,m_ 64 7,b_ .add 65 63 64,⟨some 66,.p (.slice (.t 62) (some (.t 65)) none 1),none⟩,iQ 67 (.ovl (.t 61) (.t 66)),N_ 68 67]
def uJ:=tk [m_ 69 0,m_ 70 1,m_ 71 7,b_ .add 72 70 71,⟨some 73,.p (.slice (.t 69) (some (.t 72)) none 1),none⟩,m_ 74 0,m_ 75 1,⟨some 76,.p (.slice (.t 74) (some (.t 75)) none 1),none⟩] (.alt [] ⟨some 77,.copy 1 (.t 73) (.t 76),none⟩ .fin .stop)
def uK:List Cd:=[m_ 78 0,m_ 79 1,⟨some 80,.p (.slice (.t 78) (some (.t 79)) none 1),none⟩,m_ 81 2,⟨some 82,.copy 1 (.t 80) (.t 81),none⟩]
def uL:=[m_ 83 0,m_ 6 83]
def uM:List Cd:=[m_ 84 0,m_ 85 8,⟨some 86,.p (.slice (.t 84) (some (.t 85)) none 1),none⟩,m_ 87 2,⟨some 88,.copy 1 (.t 86) (.t 87),none⟩]
def uN:List Cd:=[m_ 89 0,m_ 90 1,⟨some 91,.p (.slice (.t 89) (some (.t 90)) none 1),none⟩,m_ 92 7,q_ 93 143 [.t 91,.t 92]]
def uO:=[m_ 94 0,m_ 6 94]
def LP:Cz:=⟨3,95,[.t 6],sr LQ (sr LS (sr LT (.seq (sr LU (iz 16 (rr LV))) (sr LW (.seq (sr LX (iz 22 (rr LY))) (.seq (sr LZ (iz 31 (sr MA (sr uE (sd uF (rr uG)))))) (sr uH (.seq (sr uI (iz 68 (sd uJ (sr uK (rr uL))))) (sr uM (sr uN (rr uO)))))))))))⟩
def K122 (D:Bj):Prop:=∀a0 a1 a2 r,g122 a0 a1 a2=some r→D 122 ⟨[oI 1024000 a0,iV a1,oI 2097152 a2],[]⟩ ⟨oI 0 r.1,[],[(0,1,r.2.map eI)]⟩
abbrev Sk:=fun x0 x1 (r:List (Nat×V))=>(0,oI 1024000 x0)::(2,oI 2097152 x1)::r
theorem F122:K122 (FO C LP):=by
 intro a0 a1 a2 r h0
 refine f0 ?_
 obtain ⟨⟨hb,hpos,hl⟩,h0⟩:=grd h0
 obtain rfl:=sj h0
 obtain ⟨i,rfl⟩:=Int.eq_ofNat_of_zero_le hb.1
 have hi:i≤a0.length:=by omega
 rw [show ((i:Nat):Int).toNat=i from rfl]
 have hbyte:(a0.length+a2.length)*8≤140737488355328:=Nat.le_trans (Nat.mul_le_mul_right 8 hl) (by decide)
 have hsm:a0.length+a2.length≤140737488355328:=by omega
 have w1:wi ((a0.length:Int)+(a2.length:Int))=((a0.length+a2.length:Nat):Int):=FU _ (by omega) (by omega)
 have w2:wi ((i:Int)+(a2.length:Int))=((i+a2.length:Nat):Int):=FU _ (by omega) (by omega)
 have w3:wi (((a0.length+a2.length:Nat):Int)-(i:Int))=((a0.length+a2.length-i:Nat):Int):=FU _ (by omega) (by omega)
 refine Ba 3 (Sk a0 a2 [(1,iV i)]) [] (Ax 3 (As (st (c_ (Ew (e:=eI) (y:=a0.drop i) rfl rfl tv ⟨tv,tv⟩ rfl rfl (cH a0 i hi)) (o_ (Ba 1 (Sk a0 a2 [(1,iV i)]) [] (Bt (As (st (Cj rfl tv (Xf rfl (o_ (Ba 2 (Sk a0 a2 [(1,iV i),(7,iV (a2.length:Int))]) [] (Ax 6 (Vq (cb:=(a2.length:Int)==0) rfl (fun h=>absurd (eq_of_beq h) (by omega)) (fun _=>(Ba 1 (Sk a0 a2 [(1,iV i),(7,iV (a2.length:Int))]) [] (Bt (As ?_)))))))))))))))))))
 refine st (Cj rfl tv (Xf rfl (o_ (Ba 2 (Sk a0 a2 [(1,iV i),(7,iV (a2.length:Int)),(8,iV (a0.length:Int))]) [] (Ax 7 (Vq (cb:=(i:Int)==(a0.length:Int)) rfl (fun h=>?_) (fun h=>?_)))))))
 ·have e1:i=a0.length:=by have:=eq_of_beq h; omega
  subst e1
  rw [List.take_length,List.drop_length,List.append_nil]
  refine Ax 3 (As (st (Kk (e:=eI) (l0:=a0) (l1:=a2) rfl rfl tv rfl (show (1024000:Nat)<1048576 by decide) hbyte (o_ (Ba 2 [(6,oI 1024000 (a0++a2)),(2,oI 2097152 a2)] [] ?_)))))
  exact Ka (Dx rfl rfl rfl rfl rfl ⟨⟨rfl,Ip (fun _=>rfl)⟩,tv⟩)
 have hlt:i<a0.length:=by
  have:(i:Int)≠(a0.length:Int):=fun h1=>by rw [h1] at h; simp at h
  omega
 have hemp:a0.map eI≠[]:=fun e1=>by
  have:=congrArg List.length e1
  simp at this
  subst this
  simp at hlt
 have hemp2:a2.map eI≠[]:=fun e1=>by
  have:=congrArg List.length e1
  simp at this
  subst this
  simp at hpos
 refine Ba 1 (Sk a0 a2 [(1,iV i),(7,iV (a2.length:Int)),(8,iV (a0.length:Int))]) [] (Ax 4 (As (st (c_ (Bl (v:=iV ((a0.length+a2.length:Nat):Int)) ⟨tv,tv,tv⟩ (congrArg (fun z=>some (True,V.int .i64 z)) w1) tv) (st (Cj rfl tv (st (cap_ (e:=eI) (l0:=a0) rfl fun c hc _ _=>(o_ (Ax 2 ?_))))))))))
 refine Dc ⟨[(31,.bool (decide (((a0.length+a2.length:Nat):Int)>(c:Int)))),(0,oI 1024000 a0),(1,iV i),(2,oI 2097152 a2),(7,iV (a2.length:Int)),(8,iV (a0.length:Int))],[],[(0,Em+(c:Int))]⟩
  (BT ⟨rfl,rfl,rfl,rfl,rfl,rfl,tv⟩ tv ⟨.inr (.inr ⟨29,Em+(c:Int),_,_,0,_,0,_,rfl,rfl,hemp,rfl,hemp,by decide,.inr ⟨rfl,rfl⟩⟩),tv⟩) ?_
 refine Vq (cb:=decide (((a0.length+a2.length:Nat):Int)>(c:Int))) rfl (fun hgt=>?_) (fun hle=>?_)
 ·have hgt':c<a0.length+a2.length:=by have:=of_decide_eq_true hgt; omega
  refine Ax 3 (As (st (c_ (Ew (e:=eI) (y:=a0.take i) rfl rfl tv ⟨tv,tv⟩ rfl rfl (by rw [show (none:Option Int).getD 0=((0:Nat):Int) from rfl]; exact slcN a0 0 i (by omega) (by omega))) (o_ (Ax 2 (As (st (c_ (Bl (v:=iV ((a0.length+a2.length:Nat):Int)) ⟨tv,tv,tv⟩ (congrArg (fun z=>some (True,V.int .i64 z)) w1) tv) (st (Cj rfl tv (st (c_ (Bl (v:=iV ((a0.length+a2.length-i:Nat):Int)) ⟨tv,tv,tv⟩ (congrArg (fun z=>some (True,V.int .i64 z)) w3) tv) (st (tA (e:=eI) (l0:=a0.take i) (c:=Em+(c:Int)-0) (t:=1024000) (default:Int) rfl rfl rfl (by decide) (Int.natCast_nonneg _) ?_ rfl (by omega) ?_ ?_))))))))))))))
  ·have e1:(a0.take i).length+(a0.length+a2.length-i)=a0.length+a2.length:=by simp; omega
   have:=Int.ofNat_le.2 hbyte
   rw [Int.natCast_mul] at this
   rw [←Int.natCast_add,e1]
   exact this
  ·have e1:(a0.take i).length=i:=by simp; omega
   rw [e1]; omega
  rw [show ((a0.length+a2.length-i:Nat):Int).toNat=a0.length+a2.length-i from rfl]
  refine o_ (Ba 2 (Sk a0 a2 [(9,oI 2560 (a0.take i++List.replicate (a0.length+a2.length-i) (default:Int))),(1,iV i),(7,iV (a2.length:Int))]) [] ?_)
  generalize hR:a0.take i++List.replicate (a0.length+a2.length-i) (default:Int)=R
  have hRl:R.length=a0.length+a2.length:=by rw [←hR]; simp; omega
  have hRt:R.take i=a0.take i:=by rw [←hR,List.take_append_of_le_length (by simp; omega),List.take_take,Nat.min_self]
  refine Ax 3 (As (st (c_ (Ew (e:=eI) (y:=R.drop i) rfl rfl tv ⟨tv,tv⟩ rfl rfl (cH R i (by omega))) (st (Cj rfl tv (st (copy_ (e:=eI) (l0:=R.drop i) (l1:=a2) (t:=2560) rfl rfl tv rfl (Ha (Dc ⟨[(9,oI 2560 (ovl R i (a2.take (R.drop i).length))),(0,oI 1024000 a0),(1,iV i),(2,oI 2097152 a2),(7,iV (a2.length:Int))],[],[]⟩ (fg ⟨congrArg (fun z=>some (V.own 2560 0 1 z)) (Jg (off:=0)),rfl,rfl,rfl,rfl,tv⟩ tv) ?_)))))))))
  have hR2l:(ovl R i (a2.take (R.drop i).length)).length=a0.length+a2.length:=by rw [gH,hRl]
  generalize hR2:ovl R i (a2.take (R.drop i).length)=R2 at hR2l
  refine Ax 4 (Bd (Ak tv (c_ (Bl (v:=iV ((i+a2.length:Nat):Int)) ⟨tv,tv,tv⟩ (congrArg (fun z=>some (True,V.int .i64 z)) w2) tv) (⟨tv,Ak tv (c_ (Ew (e:=eI) (y:=R2.drop (i+a2.length)) rfl rfl tv ⟨tv,tv⟩ rfl rfl (cH R2 (i+a2.length) (by omega))) (⟨tv,d_ (Ax 2 (Bd (Ak tv (c_ (Ew (e:=eI) (y:=a0.drop i) rfl rfl tv ⟨tv,tv⟩ rfl rfl (cH a0 i hi)) (⟨tv,Az (copy_ (e:=eI) (l0:=R2.drop (i+a2.length)) (l1:=a0.drop i) (t:=2560) rfl rfl tv rfl (d0 tv (Hc ?_))) Aq⟩)))))⟩))⟩))))
  have hfin:ovl R2 (i+a2.length) ((a0.drop i).take (R2.drop (i+a2.length)).length)=a0.take i++a2++a0.drop i:=by
   rw [←hR2]
   exact ovl_ins hRl hRt hi
  refine Dc ⟨[(9,oI 2560 (a0.take i++a2++a0.drop i)),(2,oI 2097152 a2)],[],[]⟩ (fg ⟨(congrArg (fun z=>some (V.own 2560 0 1 z)) (Jg (off:=0))).trans (congrArg (fun z=>some (V.own 2560 0 1 (z.map eI))) hfin),rfl,tv⟩ tv) (Ax 5 ?_)
  exact Ka (Dx rfl rfl rfl rfl rfl ⟨⟨rfl,Ip (fun _=>rfl)⟩,tv⟩)
 ·have hle':a0.length+a2.length≤c:=by have:=of_decide_eq_false hle; omega
  refine Lc ?_
  refine Dc ⟨[(0,oI 1024000 a0),(1,iV i),(2,oI 2097152 a2),(7,iV (a2.length:Int)),(8,iV (a0.length:Int))],[],[(0,Em+(c:Int))]⟩
   (BT ⟨rfl,rfl,rfl,rfl,rfl,tv⟩ tv ⟨.inl ⟨_,rfl,.inl rfl⟩,tv⟩) ?_
  refine Ax 4 (As (st (c_ (Bl (v:=iV ((a0.length+a2.length:Nat):Int)) ⟨tv,tv,tv⟩ (congrArg (fun z=>some (True,V.int .i64 z)) w1) tv) (st (c_ (pP (e:=eI) (l0:=a0) (t:=1024000) (sz:=1) (H:=a0.length+a2.length) (c:=Em+(c:Int)) rfl rfl (Nat.le_add_right _ _) (show (0:Nat)<1 by decide) rfl (by rw [aK]; omega)) (st (Cj rfl tv (Ha ?_))))))))
  rw [Nat.add_sub_cancel_left]
  have hA0:(a0.map some++List.replicate a2.length none).length=a0.length+a2.length:=by simp
  have hA1:(a0.map some++List.replicate a2.length none).take i=(a0.take i).map some:=by rw [List.take_append_of_le_length (by simpa using hi),List.map_take]
  have hA2:((a0.map some++List.replicate a2.length none).drop i).take (a0.length-i)=(a0.drop i).map some:=by
   rw [List.drop_append_of_le_length (by simpa using hi),←List.map_drop,List.take_append_of_le_length (by simp),List.take_of_length_le (by simp)]
  generalize (a0.map some++List.replicate a2.length none:List (Option (Int)))=A at hA0 hA1 hA2
  refine Ba 0 [(0,.own 1024000 0 1 (A.map (eo eI 1))),(1,iV i),(2,oI 2097152 a2),(7,iV (a2.length:Int)),(8,iV (a0.length:Int))] [] (Ax 6 (As (st (c_ (Bl (v:=iV ((i+a2.length:Nat):Int)) ⟨tv,tv,tv⟩ (congrArg (fun z=>some (True,V.int .i64 z)) w2) tv) (st (c_ (Ew (e:=eo eI 1) (y:=A.drop (i+a2.length)) rfl rfl tv ⟨tv,tv⟩ rfl rfl (cH A (i+a2.length) (by omega))) (st (c_ (covl rfl rfl (by decide) hemp2 (fun e1=>?_)) ?_))))))))
  ·have:=congrArg List.length e1
   simp at this
   omega
  refine o_ (Ba 2 [(68,.bool true),(0,.own 1024000 0 1 (A.map (eo eI 1))),(1,iV i),(2,oI 2097152 a2),(7,iV (a2.length:Int)),(8,iV (a0.length:Int))] [] (Vq (cb:=true) rfl (fun _=>(Ax 4 (Bd (Ak tv (c_ (Bl (v:=iV ((i+a2.length:Nat):Int)) ⟨tv,tv,tv⟩ (congrArg (fun z=>some (True,V.int .i64 z)) w2) tv) (⟨tv,Ak tv (c_ (Ew (e:=eo eI 1) (y:=A.drop (i+a2.length)) rfl rfl tv ⟨tv,tv⟩ rfl rfl (cH A (i+a2.length) (by omega))) (⟨tv,d_ (Ax 2 (Bd (Ak tv (c_ (Ew (e:=eo eI 1) (y:=A.drop i) rfl rfl tv ⟨tv,tv⟩ rfl rfl (cH A i (by omega))) (⟨tv,Az (copy_ (e:=eo eI 1) (l0:=A.drop (i+a2.length)) (l1:=A.drop i) (t:=1024000) rfl rfl tv rfl (d0 tv (Hc ?_))) Aq⟩)))))⟩))⟩)))))) (fun h=>by cases h)))
  have hB:(A.drop i).take (A.drop (i+a2.length)).length=(a0.drop i).map some:=by
   rw [←hA2]; congr 1; simp; omega
  rw [hB]
  refine Dc ⟨[(0,.own 1024000 0 1 ((ovl A (i+a2.length) ((a0.drop i).map some)).map (eo eI 1))),(1,iV i),(2,oI 2097152 a2)],[],[]⟩ (fg ⟨congrArg (fun z=>some (V.own 1024000 0 1 z)) (Jg (off:=0)),rfl,rfl,tv⟩ tv) ?_
  have hR2l:(ovl A (i+a2.length) ((a0.drop i).map some)).length=a0.length+a2.length:=by rw [gH,hA0]
  have hfin:ovl (ovl A (i+a2.length) ((a0.drop i).map some)) i (a2.map some)=(a0.take i++a2++a0.drop i).map some:=EH hA0 hA1 hi
  generalize ovl A (i+a2.length) ((a0.drop i).map some)=R2 at hR2l hfin
  refine Ax 3 (As (st (c_ (Ew (e:=eo eI 1) (y:=R2.drop i) rfl rfl tv ⟨tv,tv⟩ rfl rfl (cH R2 i (by omega))) (st (Cj rfl tv (st (copy_ (e:=eo eI 1) (l0:=R2.drop i) (l1:=a2.map some) (t:=1024000) rfl rfl tv (congrArg (fun z=>some (1,z)) (Xo a2)) (Ha ?_))))))))
  have hT:(a2.map some).take (R2.drop i).length=a2.map some:=List.take_of_length_le (by simp; omega)
  rw [hT]
  refine Dc ⟨[(0,oI 1024000 (a0.take i++a2++a0.drop i)),(2,oI 2097152 a2)],[],[]⟩
   (fg ⟨(congrArg (fun z=>some (V.own 1024000 0 1 z)) (Jg (off:=0))).trans (congrArg (fun z=>some (V.own 1024000 0 1 z)) ((congrArg (List.map (eo eI 1)) hfin).trans (Xo _).symm)),rfl,tv⟩ tv) ?_
  refine Ax 5 ?_
  exact Ka (Dx rfl rfl rfl rfl rfl ⟨⟨rfl,Ip (fun _=>rfl)⟩,tv⟩)


/- slices.Delete[[]int,int] -/
def MB:List Cd:=[⟨some 6,.nilS 1,none⟩]
def MC:List Cd:=[m_ 8 0,m_ 9 1,m_ 10 2,m_ 11 0,n_ 12 11,⟨some 13,.chk3 (.t 8) (.t 9) (.t 10) (.t 12),none⟩]
def MD:=[m_ 14 1,m_ 15 2,b_ .eql 16 14 15]
def ME:=[m_ 17 0,m_ 6 17]
def MF:=[m_ 18 0,n_ 19 18,m_ 7 19]
def MG:=tk [m_ 20 0,m_ 21 1,⟨some 22,.p (.slice (.t 20) none (some (.t 21)) 1),none⟩,m_ 23 0,m_ 24 2,⟨some 25,.p (.slice (.t 23) (some (.t 24)) none 1),none⟩] (.alt [] ⟨some 26,.app 1 8 (.t 22) (.t 25),none⟩ (.alt [] (m_ 0 26) .fin .stop) .stop)
def MH:List Cd:=[m_ 27 0,m_ 28 0,n_ 29 28,m_ 30 7,⟨some 31,.p (.slice (.t 27) (some (.t 29)) (some (.t 30)) 1),none⟩,⟨none,.clear 1 [iV 0] (.t 31),none⟩]
def MI:=[m_ 32 0,m_ 6 32]
def c123:Cz:=⟨3,33,[.t 6],sr MB (sr MC (.seq (sr MD (iz 16 (rr ME))) (sr MF (sd MG (sr MH (rr MI))))))⟩
def K123 (D:Bj):Prop:=∀a0 a1 a2 r,g123 a0 a1 a2=some r→D 123 ⟨[oI 1024000 a0,iV a1,iV a2],[]⟩ ⟨oI 0 r,[],[]⟩
theorem F123:K123 (FO C c123):=by
 intro a0 a1 a2 r h0
 refine f0 ?_
 obtain ⟨⟨hb,hl⟩,h0⟩:=grd h0
 obtain rfl:=sj h0
 obtain ⟨i,rfl⟩:=Int.eq_ofNat_of_zero_le hb.1
 obtain ⟨j,rfl⟩:=Int.eq_ofNat_of_zero_le (Int.le_trans hb.1 hb.2.1)
 have hij:i≤j:=by omega
 have hx63:(a0.length:Int)<Em:=by have:=hl; simp only [Em]; omega
 have hj:j≤a0.length:=by omega
 rw [show ((i:Nat):Int).toNat=i from rfl,show ((j:Nat):Int).toNat=j from rfl]
 refine Ba 3 [(0,oI 1024000 a0),(1,iV i),(2,iV j)] [] (Bt (As (st (Cj rfl tv (st (Cj rfl tv (st (Cj rfl tv (st (Cj rfl tv (Xf rfl (st (chk3O (e:=eI) (l0:=a0) rfl rfl rfl rfl ⟨by omega,by omega,by omega,Int.le_refl _⟩ (o_ (Ba 1 [(0,oI 1024000 a0),(1,iV i),(2,iV j)] [] (Bt (Bt (As (st (Cj rfl tv (st (Cj rfl tv (st (c_ (Bl t3 rfl tv) (Ha (eF (Vq (cb:=(i:Int)==(j:Int)) rfl (fun h=>?_) (fun h=>?_))))))))))))))))))))))))))))
 ·have e1:i=j:=by have:=eq_of_beq h; omega
  subst e1
  rw [List.take_append_drop]
  refine Bt (As (st (Cj rfl tv (st (Cj rfl tv (Ha (eF ?_)))))))
  exact Ka (Dx rfl rfl rfl rfl rfl tv)
 ·have hne:i≠j:=fun e1=>by subst e1; simp at h
  have hemp:a0.map eI≠[]:=fun e1=>by
   have:=congrArg List.length e1
   simp at this
   subst this
   simp at hj
   omega
  refine Ba 1 [(0,oI 1024000 a0),(1,iV i),(2,iV j)] [] (Bt (As (st (Cj rfl tv (Xf rfl (st (Cj rfl tv (Ha (Dc ⟨[(0,oI 1024000 a0),(1,iV i),(2,iV j),(7,iV (a0.length:Int))],[],[(0,(a0.length:Int))]⟩ (BT ⟨rfl,rfl,rfl,rfl,tv⟩ tv ⟨.inr (.inl ⟨_,_,_,_,rfl,hemp,by simp,hx63,by decide⟩),tv⟩) (Bt (Bd (Ak tv (Cj rfl tv (⟨tv,Ak tv (Cj rfl tv (⟨tv,Ak tv (c_ (Ew (e:=eI) (y:=a0.take i) rfl rfl tv ⟨tv,tv⟩ rfl rfl (by rw [show (none:Option Int).getD 0=((0:Nat):Int) from rfl]; exact slcN a0 0 i (by omega) (by omega))) (⟨tv,Ak tv (Cj rfl tv (⟨tv,Ak tv (Cj rfl tv (⟨tv,Ak tv (c_ (Ew (e:=eI) (y:=a0.drop j) rfl rfl tv ⟨tv,tv⟩ rfl rfl (cH a0 j hj)) (⟨tv,Az (appc_ (e:=eI) (l0:=a0.take i) (l1:=a0.drop j) (t:=1024000) (sz:=1) (vy:=.own 1024000 (0+j) 1 ((a0.drop j).map eI)) (c:=(a0.length:Int)-0) rfl rfl tv rfl (show (1024000:Nat)<1048576 by decide) ?_ rfl ?_ ?_) Aq⟩))⟩))⟩))⟩))⟩))⟩))))))))))))))
  ·have:(a0.take i).length+(a0.drop j).length≤a0.length:=by simp; omega
   exact Nat.le_trans (Nat.mul_le_mul_right 8 this) (Nat.le_trans (Nat.mul_le_mul_right 8 hl) (by decide))
  ·rw [Lp (show (a0.length:Int)-0<Em by omega)]; simp; omega
  refine d0 tv (Az (Cj rfl tv (d0 tv (Hc ?_))) Aq)
  generalize hR:a0.take i++a0.drop j=R
  have hRl:R.length≤a0.length:=by rw [←hR]; simp; omega
  refine Dc ⟨[(0,oI 1024000 R),(7,iV (a0.length:Int))],[],[(0,(a0.length:Int)-0)]⟩ (BT ⟨rfl,rfl,tv⟩ tv ⟨.inl ⟨_,rfl,.inl rfl⟩,tv⟩) (Bt (As (st (Cj rfl tv (st (Cj rfl tv (Xf rfl (st (Cj rfl tv (st (c_ (eA (e:=eI) (R:=R) (t:=1024000) (sz:=1) (L:=R.length) (H:=a0.length) (c:=(a0.length:Int)-0) rfl rfl rfl rfl hRl (show (0:Nat)<1 by decide) rfl (by rw [Lp (show (a0.length:Int)-0<Em by omega)]; omega)) (st (iM rfl (Ha (Dc ⟨[(0,oI 1024000 R)],[],[]⟩ (fg ⟨past1 (Nat.le_refl _),tv⟩ tv) (Bt (As (st (Cj rfl tv (st (Cj rfl tv (Ha (eF ?_)))))))))))))))))))))))
  exact Ka (Dx rfl rfl rfl rfl rfl tv)

/- loop.example/g00149/impl.call -/
def c89_r0:List Cd:=[⟨some 8,.nilS 1,none⟩,i_ 9 0]
def c89_r1:=[m_ 13 0,q_ 14 120 [.t 13],m_ 10 14]
def c89_r2:=[m_ 15 3,B_ .eql 16 15 1]
def c89_r3:=[m_ 17 10,m_ 8 17,i_ 9 13]
def c89_r4:=[m_ 19 10,m_ 20 1,q_ 21 121 [.t 19,.t 20],m_ 18 21,e_ 22 18 0,e_ 23 18 1,m_ 11 22,m_ 12 23]
def c89_r5:=[m_ 25 2,m_ 26 25,mT 26 27 12,pT 26 28 (.un .not (.t 27)),pa 29 26 28,m_ 24 29]
def c89_r6:List Cd:=[m_ 30 10,m_ 31 11,m_ 32 1,⟨some 33,.mkS 1 [iV 0] 1 [(0,.t 32)],none⟩,q_ 34 122 [.t 30,.t 31,.t 33],m_ 10 34]
def c89_r7:=[m_ 36 2,N_ 37 36,m_ 38 37,mT 38 39 12,pa 40 38 39,m_ 35 40]
def c89_r8:=[m_ 41 10,m_ 42 11,m_ 43 11,B_ .add 44 43 1,q_ 45 123 [.t 41,.t 42,.t 44],m_ 10 45]
def c89_r9:=[m_ 46 3,B_ .eql 47 46 2]
def AcA:=[m_ 48 10,m_ 8 48,i_ 9 15]
def AcB:=[m_ 49 10,m_ 8 49,i_ 9 0]
def c89:Cz:=⟨4,50,[.t 8,.t 9],sr c89_r0 (sr c89_r1 (.seq (sr c89_r2 (iz 16 (rr c89_r3))) (sr c89_r4 (.seq (.block 0 (sr c89_r5 (.ite (.t 24) (.reg c89_r6) (sr c89_r7 (iz 35 (.reg c89_r8)))))) (.seq (sr c89_r9 (iz 47 (rr AcA))) (rr AcB))))))⟩
def K89 (D:Bj):Prop:=∀a0 a1 a2 a3 r,g89 a0 a1 a2 a3=some r→D 89 ⟨[lI a0,iV a1,.bool a2,iV a3],[]⟩ ⟨.tup [oI 0 r.1,iV r.2],[],[]⟩
theorem F89 (H120:GK C) (H121:K121 C) (H122:K122 C) (H123:K123 C):K89 (FO C c89):=by
 intro a0 a1 a2 a3 r h0
 refine f0 (Ba 4 [(0,lI a0),(1,iV a1),(2,.bool a2),(3,iV a3)] [] (Bt (As (st (Cj rfl tv (bb h0 fun r1 e2 h0=>Qf (H120 a0 r1 e2) (af rfl) (o_ (Ba 8 [(1,iV a1),(2,.bool a2),(3,iV a3),(10,oI 896 r1),(16,.bool (a3==1))] [] (Ch h0 (fun c3 h0=>?_) (fun c3 h0=>?_))))))))))
 ·obtain rfl:=sj h0
  exact Cn 6
 ·refine Ax 5 (As (bb h0 fun r4 e5 h0=>Jj (H121 r1 a1 r4 e5) (o_ (Ba 6 [(1,iV a1),(2,.bool a2),(3,iV a3),(10,oI 896 r1),(11,iV r4.1),(12,.bool r4.2)] [] (Bt (Jk (fun S=>∃p13:List Int,S=⟨[(3,iV a3),(10,oI 2176 p13)],[],[]⟩∧Vm a3 p13=some r) ?_ (fun J15=>?_)))))))
  ·rintro _ ⟨p13,rfl,h0⟩
   refine Ba 6 [(10,oI 2176 p13),(47,.bool (a3==2))] [] (Ch h0 (fun c14 h0=>?_) (fun c14 h0=>?_))
   ·obtain rfl:=sj h0
    exact Cn 6
   ·obtain rfl:=sj h0
    exact Cn 8
  ·refine Bt ?_
   refine sR 7 [(1,iV a1),(2,.bool a2),(3,iV a3),(10,oI 896 r1),(11,iV r4.1),(12,.bool r4.2),(24,.bool (bif a2 then (!r4.2) else false))] [] (Ch h0 (fun c16 h0=>?_) (fun c16 h0=>?_))
   ·refine Ax 4 (As (bb h0 fun r17 e18 h0=>gg h0 fun yJ h0=>Xd [] [2112] [896] (H122 r1 r4.1 ([a1]:List Int) r17 e18) (At (af rfl) (At (Wi (fun _=>rfl)) rfl)) (st (Cj rfl tv (Ha (Su ?_))))))
    exact jn J15 ⟨_,rfl,h0⟩
   ·refine sR 8 [(3,iV a3),(10,oI 896 r1),(11,iV r4.1),(35,.bool (bif (!a2) then r4.2 else false))] [] (Ch h0 (fun kP h0=>?_) (fun kP h0=>?_))
    ·refine Ax 4 (As (bb h0 fun r21 e22 h0=>Xd [] [] [896] (H123 r1 r4.1 (wi (r4.1+1)) r21 e22) (At (af rfl) rfl) (st (Cj rfl tv (Ha (Su ?_))))))
     exact J15 _ _ (eV [] [(2880,2176)] rfl (by kernel_rfl)) ⟨_,rfl,h0⟩
    ·refine Lc (Su ?_)
     exact J15 _ _ (eV [] [(896,2176)] rfl (by kernel_rfl)) ⟨_,rfl,h0⟩

/- (*loop.example/g00149/impl.runner).call -/
def Abq:=[i_ 6 0]
def Abr:=[i_ 7 0]
def Abs:=tk [m_ 10 0,iQ 11 (.nilc (.t 10)),f_ 12 11 13,l_ 13 12 1,m_ 14 0,iQ 15 (.nilc (.t 14)),f_ 16 15 6,f_ 17 16 5,l_ 18 17 1,n_ 19 18,b_ .lss 20 13 19] .fin
def Abt:=tk [m_ 21 0,iQ 22 (.nilc (.t 21)),f_ 23 22 6,f_ 24 23 5,l_ 25 24 1,m_ 26 0,iQ 27 (.nilc (.t 26)),f_ 28 27 13,l_ 29 28 1,x_ 30 25 29 1,l_ 31 30 1,m_ 7 31] .fin
def Abu:=[m_ 32 0,iQ 33 (.nilc (.t 32)),f_ 34 33 13,l_ 35 34 1,B_ .add 36 35 1,iQ 37 (.nilc (.t 32)),f_ 38 37 13,s_ 38 36 1]
def Abv:=[m_ 40 0,iQ 41 (.nilc (.t 40)),f_ 42 41 0,f_ 43 42 4,l_ 44 43 1,m_ 45 1,m_ 46 2,m_ 47 7,q_ 48 89 [.t 44,.t 45,.t 46,.t 47],m_ 39 48,e_ 49 39 0,e_ 50 39 1,m_ 8 49,m_ 9 50]
def Abw:=[m_ 51 0,m_ 52 8,iQ 53 (.nilc (.t 51)),f_ 54 53 0,f_ 55 54 4,s_ 55 52 1]
def Abx:=[m_ 56 9,m_ 6 56]
def c471:Cz:=⟨3,57,[.t 6],sr Abq (sr Abr (.seq (sd Abs (iz 20 (.draw Abt))) (sr Abu (sr Abv (sr Abw (rr Abx))))))⟩
def GS (D:Bj):Prop:=∀a0 a1 a2 r,fK a0 a1 a2=some r→D 471 ⟨[.ptr 1048576 0,iV a1,.bool a2],[Fm a0 (Ai 1024000) (Ai 1024001) (Ai 1024002) u_]⟩ ⟨iV r.1,[Fm r.2 (Ai 0) (Ai 1) (Ai 2) u_],[]⟩
abbrev mU:=fun x0 (r:List (Nat×List V))=>(1048576,Fm x0 (Ai 1024000) (Ai 1024001) (Ai 1024002) u_)::r
theorem F471 (H89:K89 C):GS (FO C c471):=by
 intro a0 a1 a2 r h0
 refine f0 (Ba 7 [(0,.ptr 1048576 0),(1,iV a1),(2,.bool a2),(7,iV 0)] (mU a0 []) (Ax 10 (Bd (Ak tv (c_ (Bl ⟨tv,tv⟩ rfl (nl rfl)) ?_)))))
 refine ⟨tv,Ak tv (c_ (Wf (e:=eI) (l0:=a0.a.Bu) rfl rfl tv) (⟨tv,d_ (Ba 2 [(0,.ptr 1048576 0),(1,iV a1),(2,.bool a2),(7,iV 0),(20,.bool (decide (a0.Gm<(a0.a.Bu.length:Int))))] (mU a0 []) (Ld (cb:=(decide (a0.Gm<(a0.a.Bu.length:Int)))) (fun S=>∃p4:Int,S=⟨[(0,.ptr 1048576 0),(1,iV a1),(2,.bool a2),(7,iV p4)],mU a0 [],[]⟩∧Tv a0 a1 a2 p4=some r) rfl ?_ (fun c8 J7=>?_) (fun c8 J7=>?_)))⟩))⟩
 ·rintro _ ⟨p4,rfl,h0⟩
  refine Ba 11 [(0,.ptr 1048576 0),(1,iV a1),(2,.bool a2),(7,iV p4)] [(1048576,Cv a0.v.Ac.clock a0.v.Ac.next (Ai 1024000) a0.v.Ac.Ae (Ai 1024001) a0.v.Ab (Ai 1024002) a0.v.Ah a0.v.An a0.a.kind a0.a.id a0.a.ttl a0.a.Dr a0.a.clock u_ a0.a.Bu a0.a.stop (wi (a0.Gm+1)))] (Ax 9 (As (bb h0 fun r5 e6 h0=>Qf (H89 a0.v.Ah a1 a2 p4 r5 e6) (af (At rfl rfl)) (o_ ?_))))
  obtain rfl:=sj h0
  exact Cn 21
 ·replace h0:=ip c8 h0
  refine bb h0 fun y9 e10 h0=>Ax 9 (Bd (d_ (sI rfl rfl rfl e10 (Ax 3 ?_))))
  exact jn J7 ⟨_,rfl,h0⟩
 ·replace h0:=aB c8 h0
  refine Lc ?_
  exact jn J7 ⟨_,rfl,h0⟩

/- (loop.example/g00149/impl.Vault).issue -/
def AaC:=[X_ 2 0,X_ 3 1,a_ 4 (zV 259 260 261),a_ 5 [iV 0,iV 0]]
def AaD:=[f_ 12 2 0,L_ 13 12 3,f_ 14 3 2,l_ 15 14 1,f_ 16 3 3,l_ 17 16 1,q_ 18 71 [.t 13,.t 15,.t 17],m_ 11 18,e_ 19 11 0,e_ 20 11 1,e_ 21 11 2,a_ 6 (zT 387),s_ 6 19 3,m_ 7 20,m_ 8 21]
def AaE:=[m_ 22 8,B_ .eql 23 22 0,m_ 24 23,fT 24 25 2 3,lT 24 26 25 1 false,pT 24 27 (.len (.t 26)),pT 24 28 (.bin .eql (.t 27) (.c (iV 40))),pa 29 24 28]
def AaF:=[i_ 8 9]
def AaG:=[m_ 30 8,B_ .neq 31 30 0]
def AaH:=[L_ 32 2 6,m_ 33 8,q_ 34 464 [.t 32,.t 33],e_ 35 34 0,e_ 36 34 1,s_ 4 35 6,s_ 5 36 2]
def AaI:List Cd:=[L_ 37 2 6,L_ 38 3 7,⟨some 39,.p (.build [iV 0,iV 0,.own 2499 0 4 [],.own 2500 0 2 [],.own 2501 0 1 [],.bool false,iV 0,iV 0,iV 0,iV 0,iV 0,.own 2508 0 1 [],iV 0,iV 0] [(0,6,.t 37),(6,7,.t 38)]),none⟩,X_ 40 39,m_ 9 40]
def AaJ:=[m_ 41 9,iQ 42 (.nilc (.t 41)),f_ 43 42 0,f_ 44 43 0,f_ 45 44 1,l_ 46 45 1,B_ .add 47 46 1,iQ 48 (.nilc (.t 41)),f_ 49 48 0,f_ 50 49 0,f_ 51 50 1,s_ 51 47 1]
def AaK:List Cd:=[m_ 52 9,m_ 53 9,iQ 54 (.nilc (.t 53)),f_ 55 54 0,f_ 56 55 3,l_ 57 56 1,m_ 58 7,⟨some 59,.p (.build [iV 0,.bool false] [(0,1,.t 58)]),none⟩,⟨some 60,.mkS 2 [iV 0,.bool false] 1 [(0,.t 59)],none⟩,⟨some 61,.app 2 16 (.t 57) (.t 60),none⟩,iQ 62 (.nilc (.t 52)),f_ 63 62 0,f_ 64 63 3,s_ 64 61 1]
def AaL:=[f_ 65 3 6,l_ 66 65 1,B_ .eql 67 66 1]
def AG:=[m_ 68 9,iQ 69 (.nilc (.t 68)),f_ 70 69 0,L_ 71 70 6,q_ 72 470 [.t 71],e_ 73 72 0,e_ 74 72 1,s_ 4 73 6,s_ 5 74 2]
def AH:=[m_ 75 9,m_ 76 7,q_ 77 471 [.t 75,.t 76,.c (.bool true)],m_ 8 77]
def AI:=[f_ 78 3 6,l_ 79 78 1,B_ .eql 80 79 2]
def AJ:=[m_ 81 9,iQ 82 (.nilc (.t 81)),f_ 83 82 0,L_ 84 83 6,q_ 85 470 [.t 84],e_ 86 85 0,e_ 87 85 1,s_ 4 86 6,s_ 5 87 2]
def AK:=[m_ 88 9,iQ 89 (.nilc (.t 88)),f_ 90 89 0,f_ 91 90 3,l_ 92 91 1,n_ 93 92,B_ .sub 94 93 1,m_ 10 94]
def AL:=[m_ 95 8,B_ .neq 96 95 0]
def AM:List Cd:=[m_ 97 9,iQ 98 (.nilc (.t 97)),f_ 99 98 0,f_ 100 99 3,l_ 101 100 1,m_ 102 10,x_ 103 101 102 2,f_ 104 103 1,⟨none,.store (.t 104) (.c (.bool true)) 1,none⟩]
def AN:=[m_ 105 9,iQ 106 (.nilc (.t 105)),f_ 107 106 0,L_ 108 107 6,m_ 109 8,q_ 110 464 [.t 108,.t 109],e_ 111 110 0,e_ 112 110 1,s_ 4 111 6,s_ 5 112 2]
def AO:List Cd:=[m_ 113 9,m_ 114 9,iQ 115 (.nilc (.t 114)),f_ 116 115 0,f_ 117 116 3,l_ 118 117 1,m_ 119 10,⟨some 120,.p (.slice (.t 118) none (some (.t 119)) 2),none⟩,iQ 121 (.nilc (.t 113)),f_ 122 121 0,f_ 123 122 3,s_ 123 120 1]
def AP:=[m_ 124 9,L_ 125 6 3,iQ 126 (.nilc (.t 124)),f_ 127 126 0,f_ 128 127 0,s_ 128 125 3]
def AQ:List Cd:=[m_ 129 9,iQ 130 (.nilc (.t 129)),f_ 131 130 0,L_ 132 131 6,m_ 133 7,⟨some 134,.p (.build [iV 0,iV 0] [(1,1,.t 133)]),none⟩,s_ 4 132 6,s_ 5 134 2]
def c465:Cz:=⟨2,135,[.cell 4 6 true,.cell 5 2 true],sr AaC (sr AaD (.seq (sr AaE (iz 29 (.reg AaF))) (.seq (sr AaG (iz 31 (rr AaH))) (sr AaI (sr AaJ (sr AaK (.seq (sr AaL (iz 67 (rr AG))) (sr AH (.seq (sr AI (iz 80 (rr AJ))) (sr AK (.seq (sr AL (iz 96 (sr AM (rr AN)))) (sr AO (sr AP (rr AQ))))))))))))))⟩
def K465 (D:Bj):Prop:=∀a0 a1 r,AdB a0 a1=some r→D 465 ⟨[.agg (Al a0 (Ai 1024000) (Ai 1024001) (Ai 1024002)),.agg (Am a1)],[]⟩ ⟨.tup [.agg (Al r.1 (Ai 0) (Ai 1) (Ai 2)),.agg (Af r.2)],[],[]⟩
abbrev Kv:=fun (r:List (Nat×List V))=>(256,Ao 0 0 (Ai 259) [] (Ai 260) [] (Ai 261) [] false)::(320,[iV 0,iV 0])::r
abbrev Pq:=fun x0 (r:List (Nat×V))=>(4,.ptr 256 0)::(5,.ptr 320 0)::(6,.ptr 384 0)::(7,iV x0)::r
theorem F465 (H71:K71 C) (H464:sU C) (H470:GR C) (H471:GS C):K465 (FO C c465):=by
 intro a0 a1 r h0
 refine f0 (Ba 6 [(2,.ptr 128 0),(3,.ptr 192 0),(4,.ptr 256 0),(5,.ptr 320 0)] (Kv [(128,Al a0 (Ai 1024000) (Ai 1024001) (Ai 1024002)),(192,Am a1)]) (Ax 7 (As (bb h0 fun r1 e2 h0=>Qf (H71 a0.Ac a1.ttl a1.Dr r1 e2) (ar (At rfl (af (ar (At rfl rfl))))) (o_ (Ba 9 (Pq r1.2.1 [(2,.ptr 128 0),(3,.ptr 192 0),(8,iV r1.2.2)]) (Kv [(128,Al a0 (Ai 1024000) (Ai 1024001) (Ai 1024002)),(192,Am a1),(384,Cm r1.1 (Ai 1152))]) (Ax 5 (As (st (Bv (u:=.ptr 128 3) rfl (fun hg=>(Bl ⟨tv,tv⟩ rfl tv)) (st (Bv (u:=Bo 1024001 a0.Ab) rfl (fun hg=>(Bl ⟨(fun _=>hg),tv⟩ rfl (nl rfl))) (st (Bv (u:=iV (a0.Ab.length:Int)) rfl (fun hg=>(clenO (e:=Bq) (l0:=a0.Ab) rfl rfl (fun _=>hg))) (st (Bv (u:=.bool ((a0.Ab.length:Int)==40)) rfl (fun hg=>(Bl ⟨(fun _=>hg),tv,tv⟩ rfl tv)) (st (Dh rfl rfl rfl (fun h=>Ta h) tv rfl (o_ (Ba 1 (Pq r1.2.1 [(2,.ptr 128 0),(3,.ptr 192 0),(8,iV r1.2.2),(29,.bool (bif (r1.2.2==0) then ((a0.Ab.length:Int)==40) else false))]) (Kv [(128,Al a0 (Ai 1024000) (Ai 1024001) (Ai 1024002)),(192,Am a1),(384,Cm r1.1 (Ai 1152))]) (Ld (cb:=(bif (r1.2.2==0) then ((a0.Ab.length:Int)==40) else false)) (fun S=>∃p4:Int,S=⟨Pq r1.2.1 [(2,.ptr 128 0),(3,.ptr 192 0),(8,iV p4)],Kv [(128,Al a0 (Ai 1024000) (Ai 1024001) (Ai 1024002)),(192,Am a1),(384,Cm r1.1 (Ai 1152))],[]⟩∧Jx a0 a1 r1 p4=some r) rfl ?_ (fun cP J26=>?_) (fun cP J26=>?_))))))))))))))))))))))
 ·rintro _ ⟨p4,rfl,h0⟩
  refine Ba 6 (Pq r1.2.1 [(2,.ptr 128 0),(3,.ptr 192 0),(8,iV p4),(31,.bool (p4 != 0))]) (Kv [(128,Al a0 (Ai 1024000) (Ai 1024001) (Ai 1024002)),(192,Am a1),(384,Cm r1.1 (Ai 1152))]) (Ch h0 (fun c5 h0=>?_) (fun c5 h0=>?_))
  ·refine Ax 3 (As (bb h0 fun r6 e7 h0=>Xd [] [] [1024000,1024001,1024002] (H464 a0 p4 r6 e7) (At (ar (At rfl (af (af (af (ar (At rfl (At rfl rfl)))))))) rfl) (o_ ?_)))
   obtain rfl:=sj h0
   exact Cn 6
  ·refine Ax 5 (As (st (c_ (v:=.agg (Cv a0.Ac.clock a0.Ac.next (Ai 1024000) a0.Ac.Ae (Ai 1024001) a0.Ab (Ai 1024002) a0.Ah a0.An a1.kind a1.id a1.ttl a1.Dr a1.clock u_ a1.Bu a1.stop 0)) (Bl ⟨tv,tv,tv⟩ rfl ⟨⟨rfl,rfl,nl rfl⟩,⟨rfl,rfl,nl rfl⟩,tv⟩) (o_ (Ba 18 (Pq r1.2.1 [(3,.ptr 192 0),(9,.ptr 2560 0)]) (Kv [(192,Am a1),(384,Cm r1.1 (Ai 1152)),(2560,Cv a0.Ac.clock (wi (a0.Ac.next+1)) (Ai 1024000) a0.Ac.Ae (Ai 1024001) a0.Ab (Ai 1024002) a0.Ah a0.An a1.kind a1.id a1.ttl a1.Dr a1.clock u_ a1.Bu a1.stop 0)]) (Ax 3 (As ?_)))))))
   refine o_ (Ax 5 (As (st (c_ (v:=.agg [iV r1.2.1,.bool false]) (Bl ⟨tv,tv⟩ rfl ⟨⟨rfl,rfl,nl rfl⟩,tv⟩) (st (gB ⟨tv,tv⟩ ⟨⟨nl rfl,rfl,rfl⟩,tv⟩ (gg h0 fun c8 h0=>st (Kk (e:=Bq) (l0:=a0.Ab) (l1:=([Aj.mk r1.2.1 false]:List Aj)) rfl rfl tv rfl (by decide) c8 (o_ (Ba 12 (Pq r1.2.1 [(3,.ptr 192 0),(9,.ptr 2560 0),(67,.bool (a1.stop==1))]) (Kv [(192,Am a1),(384,Cm r1.1 (Ai 1152)),(2560,[iV a0.Ac.clock,iV (wi (a0.Ac.next+1)),Ag 1024000 a0.Ac.Ae,Bo 1024001 (a0.Ab++([Aj.mk r1.2.1 false]:List Aj)),oI 1024002 a0.Ah,.bool a0.An,iV a1.kind,iV a1.id,iV a1.ttl,iV a1.Dr,iV a1.clock,lI a1.Bu,iV a1.stop,iV 0])]) (Ch h0 (fun c9 h0=>?_) (fun c9 h0=>?_))))))))))))
   ·refine Ax 5 (As (bb h0 fun r10 e11 h0=>Xd [] [] [1024000,1024001,1024002] (H470 (Ap.mk (Ar.mk a0.Ac.clock (wi (a0.Ac.next+1)) a0.Ac.Ae) (a0.Ab++([Aj.mk r1.2.1 false]:List Aj)) a0.Ah a0.An) r10 e11) (At (ar (At rfl (af (af (af (ar (At rfl (At rfl rfl)))))))) rfl) (o_ ?_)))
    obtain rfl:=sj h0
    exact Cn 6
   ·refine Ax 5 (As (bb h0 fun r12 e13 h0=>c2_ [2560] [] [1024000,1024001,1024002] (H471 (Cx.mk (Ap.mk (Ar.mk a0.Ac.clock (wi (a0.Ac.next+1)) a0.Ac.Ae) (a0.Ab++([Aj.mk r1.2.1 false]:List Aj)) a0.Ah a0.An) a1 0) r1.2.1 true r12 e13) (o_ (Ba 9 (Pq r1.2.1 [(8,iV r12.1),(9,.ptr 2560 0),(80,.bool (a1.stop==2))]) (Kv [(384,Cm r1.1 (Ai 1152)),(2560,Fm r12.2 (Ai 4928) (Ai 4929) (Ai 4930) u_)]) (Ch h0 (fun c14 h0=>?_) (fun c14 h0=>?_))))))
    ·refine Ax 5 (As (bb h0 fun r15 e16 h0=>Xd [] [] [4928,4929,4930] (H470 r12.2.v r15 e16) (At (ar (At rfl (af (af (af (ar (At rfl (At rfl rfl)))))))) rfl) (o_ ?_)))
     obtain rfl:=sj h0
     exact Cn 6
    ·refine Ax 8 (As (Xf rfl (o_ (Ba 9 (Pq r1.2.1 [(8,iV r12.1),(9,.ptr 2560 0),(10,iV (wi ((r12.2.v.Ab.length:Int)-1))),(96,.bool (r12.1 != 0))]) (Kv [(384,Cm r1.1 (Ai 1152)),(2560,Fm r12.2 (Ai 4928) (Ai 4929) (Ai 4930) u_)]) (Ch h0 (fun oA h0=>?_) (fun oA h0=>?_))))))
     ·refine Ax 7 (As (bb h0 fun y18 e19 h0=>Wa rfl rfl e19 (st (c_ (Bl ⟨tv,tv⟩ rfl tv) (bb h0 fun y20 e21 h0=>gQ (Aj.mk y20.Ay true) rfl rfl e21 (o_ (Ba 1 [(4,.ptr 256 0),(5,.ptr 320 0),(8,iV r12.1),(9,.ptr 2560 0)] (Kv [(2560,Cv r12.2.v.Ac.clock r12.2.v.Ac.next (Ai 4928) r12.2.v.Ac.Ae (Ai 4929) (r12.2.v.Ab.set ((wi ((r12.2.v.Ab.length:Int)-1)).toNat) (Aj.mk y20.Ay true)) (Ai 4930) r12.2.v.Ah r12.2.v.An r12.2.a.kind r12.2.a.id r12.2.a.ttl r12.2.a.Dr r12.2.a.clock u_ r12.2.a.Bu r12.2.a.stop r12.2.Gm)]) (Ax 6 (As (bb h0 fun r22 e23 h0=>Xd [] [] [4928,4929,4930] (H464 (Ap.mk r12.2.v.Ac (r12.2.v.Ab.set ((wi ((r12.2.v.Ab.length:Int)-1)).toNat) (Aj.mk y20.Ay true)) r12.2.v.Ah r12.2.v.An) r12.1 r22 e23) (At (ar (At rfl (af (af (af (ar (At rfl (At rfl rfl)))))))) rfl) (o_ ?_)))))))))))
      obtain rfl:=sj h0
      exact Cn 6
     ·refine Ax 10 (As (bb h0 fun s24 e25 h0=>st (c_ (Ew (e:=Bq) (y:=s24) rfl rfl tv ⟨tv,tv⟩ rfl rfl e25) (o_ (Ba 14 [(4,.ptr 256 0),(5,.ptr 320 0),(7,iV r1.2.1),(9,.ptr 2560 0)] (Kv [(2560,Cv r1.1.clock r1.1.next (Ai 1152) r1.1.Ae (Ai 4929) s24 (Ai 4930) r12.2.v.Ah r12.2.v.An r12.2.a.kind r12.2.a.id r12.2.a.ttl r12.2.a.Dr r12.2.a.clock u_ r12.2.a.Bu r12.2.a.stop r12.2.Gm)]) (Ax 6 (As (st (c_ (v:=.agg [iV 0,iV r1.2.1]) (Bl ⟨tv,tv⟩ rfl ⟨⟨rfl,rfl,nl rfl⟩,tv⟩) (o_ ?_))))))))))
      obtain rfl:=sj h0
      exact Cn 4
 ·replace h0:=ip cP h0
  refine As (st (DZ tv (Ha ?_)))
  exact jn J26 ⟨_,rfl,h0⟩
 ·replace h0:=aB cP h0
  refine Lc ?_
  exact jn J26 ⟨_,rfl,h0⟩

/- (loop.example/g00149/impl.Vault).turned -/
def AaM:=[X_ 3 0,X_ 4 1,a_ 6 (zV 387 388 389),a_ 7 [iV 0,iV 0]]
def AaN:=[m_ 8 2,B_ .neq 9 8 0]
def AaO:=[L_ 10 3 6,m_ 11 2,q_ 12 464 [.t 10,.t 11],e_ 13 12 0,e_ 14 12 1,s_ 6 13 6,s_ 7 14 2]
def AaP:=[L_ 15 4 3,f_ 16 3 0,s_ 16 15 3]
def AaQ:=[L_ 17 3 6,iQ 18 (.build [iV 0,iV 0] []),s_ 6 17 6,s_ 7 18 2]
def c466:Cz:=⟨3,19,[.cell 6 6 true,.cell 7 2 true],sr AaM (.seq (sr AaN (iz 9 (rr AaO))) (sr AaP (rr AaQ)))⟩
def K466 (D:Bj):Prop:=∀a0 a1 a2 r,CP a0 a1 a2=some r→D 466 ⟨[.agg (Al a0 (Ai 1024000) (Ai 1024001) (Ai 1024002)),.agg (Cm a1 (Ai 1024003)),iV a2],[]⟩ ⟨.tup [.agg (Al r.1 (Ai 0) (Ai 1) (Ai 2)),.agg (Af r.2)],[],[]⟩
theorem F466 (H464:sU C):K466 (FO C c466):=by
 intro a0 a1 a2 r h0
 refine f0 (Ba 12 [(2,iV a2),(3,.ptr 192 0),(4,.ptr 256 0),(6,.ptr 384 0),(7,.ptr 448 0),(9,.bool (a2 != 0))] [(192,Al a0 (Ai 1024000) (Ai 1024001) (Ai 1024002)),(256,Cm a1 (Ai 1024003)),(384,Ao 0 0 (Ai 387) [] (Ai 388) [] (Ai 389) [] false),(448,[iV 0,iV 0])] (Ch h0 (fun c1 h0=>?_) (fun c1 h0=>?_)))
 ·refine Ax 3 (As (bb h0 fun r2 e3 h0=>Xd [] [] [1024000,1024001,1024002] (H464 a0 a2 r2 e3) (At (ar (At rfl (af (af (af (ar (At rfl (At rfl rfl)))))))) rfl) (o_ ?_)))
  obtain rfl:=sj h0
  exact Cn 6
 ·obtain rfl:=sj h0
  exact Cn 15

/- slices.Delete[[]loop.example/g00149/impl.Lease,loop.example/g00149/impl.Lease] -/
def KO:List Cd:=[⟨some 6,.nilS 4,none⟩]
def KP:List Cd:=[m_ 8 0,m_ 9 1,m_ 10 2,m_ 11 0,n_ 12 11,⟨some 13,.chk3 (.t 8) (.t 9) (.t 10) (.t 12),none⟩]
def KQ:=[m_ 14 1,m_ 15 2,b_ .eql 16 14 15]
def KR:=[m_ 17 0,m_ 6 17]
def KS:=[m_ 18 0,n_ 19 18,m_ 7 19]
def KT:=tk [m_ 20 0,m_ 21 1,⟨some 22,.p (.slice (.t 20) none (some (.t 21)) 4),none⟩,m_ 23 0,m_ 24 2,⟨some 25,.p (.slice (.t 23) (some (.t 24)) none 4),none⟩] (.alt [] ⟨some 26,.app 4 32 (.t 22) (.t 25),none⟩ (.alt [] (m_ 0 26) .fin .stop) .stop)
def KU:List Cd:=[m_ 27 0,m_ 28 0,n_ 29 28,m_ 30 7,⟨some 31,.p (.slice (.t 27) (some (.t 29)) (some (.t 30)) 4),none⟩,⟨none,.clear 4 [iV 0,iV 0,iV 0,.bool false] (.t 31),none⟩]
def KV:=[m_ 32 0,m_ 6 32]
def c115:Cz:=⟨3,33,[.t 6],sr KO (sr KP (.seq (sr KQ (iz 16 (rr KR))) (sr KS (sd KT (sr KU (rr KV))))))⟩
def K115 (D:Bj):Prop:=∀a0 a1 a2 r,g115 a0 a1 a2=some r→D 115 ⟨[Ag 1024000 a0,iV a1,iV a2],[]⟩ ⟨Ag 0 r,[],[]⟩
theorem F115:K115 (FO C c115):=by
 intro a0 a1 a2 r h0
 refine f0 ?_
 obtain ⟨⟨hb,hl⟩,h0⟩:=grd h0
 obtain rfl:=sj h0
 obtain ⟨i,rfl⟩:=Int.eq_ofNat_of_zero_le hb.1
 obtain ⟨j,rfl⟩:=Int.eq_ofNat_of_zero_le (Int.le_trans hb.1 hb.2.1)
 have hij:i≤j:=by omega
 have hx63:(a0.length:Int)<Em:=by have:=hl; simp only [Em]; omega
 have hj:j≤a0.length:=by omega
 rw [show ((i:Nat):Int).toNat=i from rfl,show ((j:Nat):Int).toNat=j from rfl]
 refine Ba 3 [(0,Ag 1024000 a0),(1,iV i),(2,iV j)] [] (Bt (As (st (Cj rfl tv (st (Cj rfl tv (st (Cj rfl tv (st (Cj rfl tv (Xf rfl (st (chk3O (e:=Ad) (l0:=a0) rfl rfl rfl rfl ⟨by omega,by omega,by omega,Int.le_refl _⟩ (o_ (Ba 1 [(0,Ag 1024000 a0),(1,iV i),(2,iV j)] [] (Bt (Bt (As (st (Cj rfl tv (st (Cj rfl tv (st (c_ (Bl t3 rfl tv) (Ha (eF (Vq (cb:=(i:Int)==(j:Int)) rfl (fun h=>?_) (fun h=>?_))))))))))))))))))))))))))))
 ·have e1:i=j:=by have:=eq_of_beq h; omega
  subst e1
  rw [List.take_append_drop]
  refine Bt (As (st (Cj rfl tv (st (Cj rfl tv (Ha (eF ?_)))))))
  exact Ka (Dx rfl rfl rfl rfl rfl tv)
 ·have hne:i≠j:=fun e1=>by subst e1; simp at h
  have hemp:a0.map Ad≠[]:=fun e1=>by
   have:=congrArg List.length e1
   simp at this
   subst this
   simp at hj
   omega
  refine Ba 1 [(0,Ag 1024000 a0),(1,iV i),(2,iV j)] [] (Bt (As (st (Cj rfl tv (Xf rfl (st (Cj rfl tv (Ha (Dc ⟨[(0,Ag 1024000 a0),(1,iV i),(2,iV j),(7,iV (a0.length:Int))],[],[(0,(a0.length:Int))]⟩ (BT ⟨rfl,rfl,rfl,rfl,tv⟩ tv ⟨.inr (.inl ⟨_,_,_,_,rfl,hemp,by simp,hx63,by decide⟩),tv⟩) (Bt (Bd (Ak tv (Cj rfl tv (⟨tv,Ak tv (Cj rfl tv (⟨tv,Ak tv (c_ (Ew (e:=Ad) (y:=a0.take i) rfl rfl tv ⟨tv,tv⟩ rfl rfl (by rw [show (none:Option Int).getD 0=((0:Nat):Int) from rfl]; exact slcN a0 0 i (by omega) (by omega))) (⟨tv,Ak tv (Cj rfl tv (⟨tv,Ak tv (Cj rfl tv (⟨tv,Ak tv (c_ (Ew (e:=Ad) (y:=a0.drop j) rfl rfl tv ⟨tv,tv⟩ rfl rfl (cH a0 j hj)) (⟨tv,Az (appc_ (e:=Ad) (l0:=a0.take i) (l1:=a0.drop j) (t:=1024000) (sz:=4) (vy:=.own 1024000 (0+j) 4 ((a0.drop j).map Ad)) (c:=(a0.length:Int)-0) rfl rfl tv rfl (show (1024000:Nat)<1048576 by decide) ?_ rfl ?_ ?_) Aq⟩))⟩))⟩))⟩))⟩))⟩))))))))))))))
  ·have:(a0.take i).length+(a0.drop j).length≤a0.length:=by simp; omega
   exact Nat.le_trans (Nat.mul_le_mul_right 32 this) (Nat.le_trans (Nat.mul_le_mul_right 32 hl) (by decide))
  ·rw [Lp (show (a0.length:Int)-0<Em by omega)]; simp; omega
  refine d0 tv (Az (Cj rfl tv (d0 tv (Hc ?_))) Aq)
  generalize hR:a0.take i++a0.drop j=R
  have hRl:R.length≤a0.length:=by rw [←hR]; simp; omega
  refine Dc ⟨[(0,Ag 1024000 R),(7,iV (a0.length:Int))],[],[(0,(a0.length:Int)-0)]⟩ (BT ⟨rfl,rfl,tv⟩ tv ⟨.inl ⟨_,rfl,.inl rfl⟩,tv⟩) (Bt (As (st (Cj rfl tv (st (Cj rfl tv (Xf rfl (st (Cj rfl tv (st (c_ (eA (e:=Ad) (R:=R) (t:=1024000) (sz:=4) (L:=R.length) (H:=a0.length) (c:=(a0.length:Int)-0) rfl rfl rfl rfl hRl (show (0:Nat)<4 by decide) rfl (by rw [Lp (show (a0.length:Int)-0<Em by omega)]; omega)) (st (iM rfl (Ha (Dc ⟨[(0,Ag 1024000 R)],[],[]⟩ (fg ⟨past1 (Nat.le_refl _),tv⟩ tv) (Bt (As (st (Cj rfl tv (st (Cj rfl tv (Ha (eF ?_)))))))))))))))))))))))
  exact Ka (Dx rfl rfl rfl rfl rfl tv)

/- (loop.example/g00149/impl.Table).without -/
def c78_r0:=[X_ 2 0,a_ 4 (zT 259)]
def c78_r1:=[L_ 6 2 3,q_ 7 112 [.t 6],a_ 5 (zT 323),s_ 5 7 3]
def c78_r2:=[f_ 8 5 2,l_ 9 8 1,m_ 10 1,m_ 11 1,B_ .add 12 11 1,q_ 13 115 [.t 9,.t 10,.t 12],f_ 14 5 2,s_ 14 13 1]
def c78_r3:=[L_ 15 5 3,s_ 4 15 3]
def c78:Cz:=⟨2,16,[.cell 4 3 true],sr c78_r0 (sr c78_r1 (sr c78_r2 (rr c78_r3)))⟩
def K78 (D:Bj):Prop:=∀a0 a1 r,g78 a0 a1=some r→D 78 ⟨[.agg (Bb a0),iV a1],[]⟩ ⟨.agg (Cm r (Ai 0)),[],[]⟩
theorem F78 (H112:hP C) (H115:K115 C):K78 (FO C c78):=by
 intro a0 a1 r h0
 refine f0 (Ba 4 [(1,iV a1),(2,.ptr 128 0),(4,.ptr 256 0)] [(128,Bb a0),(256,Br 0 0 (Ai 259) [])] (Ax 2 (As (bb h0 fun r1 e2 h0=>Qf (H112 a0 r1 e2) (ar (At rfl (af rfl))) (o_ (Ba 3 [(1,iV a1),(4,.ptr 256 0),(5,.ptr 320 0)] [(256,Br 0 0 (Ai 259) []),(320,Cm r1 (Ai 448))] (Ax 6 (As (bb h0 fun r3 e4 h0=>Xd [] [] [448] (H115 r1.Ae a1 (wi (a1+1)) r3 e4) (At (af rfl) rfl) (o_ ?_))))))))))
 obtain rfl:=sj h0
 exact Cn 9

/- cmp.Or[int] -/
def JD:=[i_ 2 0]
def JE:=[i_ 3 0]
def JF:=[m_ 6 0,n_ 7 6,i_ 8 0]
def JG:=[b_ .lss 9 8 7]
def JH:=[x_ 10 6 8 1,l_ 11 10 1,m_ 5 11]
def JI:=[m_ 12 5,m_ 13 3,b_ .neq 14 12 13]
def JJ:=[m_ 15 5,m_ 2 15]
def JK:=[B_ .add 16 8 1,m_ 8 16]
def JC:IR:=(sr JG (.seq (.ite (.t 9) .skip (.exit 0)) (.seq (.block 1 (sr JH (sr JI (iz 14 (rr JJ))))) (.reg JK))))
def JL:=[m_ 17 3,m_ 2 17]
def c109:Cz:=⟨1,18,[.t 2],sr JD (sr JE (.seq (sr JF (Ho 0 JC)) (rr JL)))⟩
def K109 (D:Bj):Prop:=∀a0 r,AcM a0=some r→D 109 ⟨[lI a0],[]⟩ ⟨iV r,[],[]⟩
theorem F109:K109 (FO C c109):=by
 intro a0 r h0
 refine f0 (Ba 7 [(0,lI a0),(3,iV 0)] [] (Ax 3 (As (Jr rfl (o_ (Ba 2 [(3,iV 0),(6,lI a0),(7,iV (a0.length:Int)),(8,iV 0)] [] (Cc (bb h0 fun r15 e16 h0=>Cr (R:=(fun S=>.inl ()=r15∧S=⟨[(3,iV 0)],[],[]⟩)) (Td a0) (fun s S=>match s with | p5=>S=⟨[(3,iV 0),(6,lI a0),(7,iV (a0.length:Int)),(8,iV p5)],[],[]⟩) e16 _ (Dw (by kernel_rfl)) rfl 0 (fun _=>rfl) ?_ ?_))))))))
 ·rintro S _ hfg ⟨rfl,rfl⟩
  refine Dc _ hfg ?_
  obtain rfl:=sj h0
  exact Cn 5
 ·rintro p5 o1 _ K1 rfl h1 hx1 hK1 hE1 hR1
  refine Ba 3 [(3,iV 0),(6,lI a0),(7,iV (a0.length:Int)),(8,iV p5),(9,.bool (decide (p5<(a0.length:Int))))] [] (Bt (Ch h1 (fun c11 h1=>?_) (fun c11 h1=>?_)))
  ·refine Lr 5 (As (bb h1 fun y12 e13 h1=>Nr rfl rfl e13 (o_ (Ba 9 [(3,iV 0),(5,iV y12),(6,lI a0),(7,iV (a0.length:Int)),(8,iV p5),(14,.bool (y12 != 0))] [] (Ch h1 (fun c14 h1=>?_) (fun c14 h1=>?_))))))
   ·obtain rfl:=sj h1
    obtain rfl:=hx1 _ rfl
    obtain rfl:=sj h0
    exact Wv 5 hR1
   ·refine Ax 6 ?_
    obtain rfl:=sj h1
    exact kn hK1 rfl rfl
  ·obtain rfl:=sj h1
   obtain rfl:=hx1 _ rfl
   refine Hq rfl ?_
   exact jn hE1 ⟨rfl,rfl⟩

/- loop.example/g00149/impl.byTime -/
def c69_r0:=[X_ 2 0,X_ 3 1,i_ 4 0]
def c69_r1:=tk [f_ 5 2 1,l_ 6 5 1,f_ 7 3 1,l_ 8 7 1,f_ 10 2 0,l_ 11 10 1,f_ 12 3 0,l_ 13 12 1] (.alt [l_ 13 12 1,f_ 12 3 0,l_ 11 10 1,f_ 10 2 0] (q_ 9 110 [.t 6,.t 8]) (.alt [] (q_ 14 110 [.t 11,.t 13]) (.alt [] ⟨some 15,.mkS 1 [iV 0] 2 [(0,.t 9),(1,.t 14)],none⟩ (.alt [] (q_ 16 109 [.t 15]) (tk [m_ 4 16] .fin) .stop) .stop) .stop) .stop)
def c69:Cz:=⟨2,17,[.t 4],sr c69_r0 (sd c69_r1 .ret)⟩
def K69 (D:Bj):Prop:=∀a0 a1 r,g69 a0 a1=some r→D 69 ⟨[.agg (Ad a0),.agg (Ad a1)],[]⟩ ⟨iV r,[],[]⟩
theorem F69 (H109:K109 C) (H110:GJ C):K69 (FO C c69):=by
 intro a0 a1 r h0
 refine f0 (Ba 5 [(2,.ptr 128 0),(3,.ptr 192 0)] [(128,Ad a0),(192,Ad a1)] (Bt (bb h0 fun r1 e2 h0=>bb h0 fun r3 e4 h0=>bb h0 fun r5 e6 h0=>Ax 8 (Bd (Gh (H110 a0.Bg a1.Bg r1 e2) rfl (dw [(2,.ptr 128 0),(3,.ptr 192 0),(9,iV r1),(10,.ptr 128 0),(11,iV a0.id),(12,.ptr 192 0),(13,iV a1.id)] [(128,Ad a0),(192,Ad a1)] hB (Gh (H110 a0.id a1.id r3 e4) rfl (dw [(9,iV r1),(14,iV r3)] [] tv (Az (gB ⟨tv,tv,tv⟩ ⟨⟨nl rfl,rfl,rfl⟩,⟨nl rfl,rfl,rfl⟩,tv⟩ (d0 tv (Gh (H109 ([r1,r3]:List Int) r5 e6) rfl (dw [(16,iV r5)] [] tv (d_ (Ba 2 [(4,iV r5)] [] ?_))) Aq))) Aq)) Aq)) Aq)))))
 obtain rfl:=sj h0
 exact Ka (Dx rfl rfl rfl rfl rfl tv)

/- slices.insertionSortCmpFunc[loop.example/g00149/impl.Lease] -/
def RH:=[m_ 10 1,B_ .add 11 10 1,m_ 8 11]
def RI:=[m_ 12 8,m_ 13 2,b_ .lss 14 12 13]
def RJ:=[m_ 17 8,m_ 9 17]
def RK:=tk [m_ 18 9,m_ 19 1,b_ .gtr 20 18 19,m_ 21 20,mT 21 22 3,mT 21 23 0,mT 21 24 9,xT 21 25 23 24 4,lT 21 26 25 4 true,mT 21 27 0,mT 21 28 9,pT 21 29 (.bin .sub (.t 28) (.c (iV 1))),xT 21 30 27 29 4,lT 21 31 30 4 true] (.alt [] ⟨some 32,.callv (.t 22) [.t 26,.t 31],some (21,true)⟩ (tk [pT 21 33 (.bin .lss (.t 32) (.c (iV 0))),pa 34 21 33] .fin) .stop)
def RL:=tk [m_ 37 0,m_ 38 9,m_ 39 0,m_ 40 9,B_ .sub 41 40 1,m_ 42 0,m_ 43 9,B_ .sub 44 43 1,x_ 45 42 44 4,L_ 46 45 4,m_ 47 0,m_ 48 9,x_ 49 47 48 4,L_ 50 49 4,x_ 51 37 38 4] (.alt [B_ .sub 41 40 1,m_ 40 9,m_ 39 0] (s_ 51 46 4) (tk [x_ 52 39 41 4] (.alt [] (s_ 52 50 4) .fin .stop)) .stop)
def RM:=[m_ 35 9,B_ .sub 36 35 1,m_ 9 36]
def RF:IR:=(.seq (sd RK (.ite (.t 34) .skip (.exit 2))) (.seq (.block 3 (.draw RL)) (.reg RM)))
def RN:=[m_ 15 8,B_ .add 16 15 1,m_ 8 16]
def RG:IR:=(.seq (sr RI (.ite (.t 14) .skip (.exit 0))) (.seq (.block 1 (sr RJ (Ho 2 RF))) (.reg RN)))
def c148:Cz:=⟨4,53,[],sr RH (Ho 0 RG)⟩
def K148 (C:Bj) (D:Bj:=C):Prop:=∀(a0:List Aa) (a1:Int) (a2:Int) (f3:Nat) (k3:List V) (is3:Aa→Aa→Option Int) (hs3:Io k3) (hf3:∀(x0:Aa) (x1:Aa) r,is3 x0 x1=some r→C f3 ⟨.agg (Ad x0) :: .agg (Ad x1)::k3,[]⟩ ⟨iV r,[],[]⟩) (r:(List Aa)),Ada a0 a1 a2 is3=some r→D 148 ⟨[Ag 2097152 a0,iV a1,iV a2,.clo f3 k3],[]⟩ ⟨.tup [],[],[(0,4,r.map Ad)]⟩
abbrev Sl:=fun x0 x1 x2 x3 x4 (r:List (Nat×V))=>(1,iV x0)::(2,iV x1)::(3,.clo x2 x3)::(8,iV x4)::r
theorem F148:K148 C (FO C c148):=by
 intro a0 a1 a2 f3 k3 is3 hs3 hf3 r h0
 refine f0 (Ba 5 [(0,Ag 2097152 a0),(1,iV a1),(2,iV a2),(3,.clo f3 k3),(8,iV (wi (a1+1)))] [] (Cc (bb h0 fun r189 e190 h0=>Cr (R:=(fun S=>∃p111:List Aa,p111=r189∧S=⟨[(0,Ag 2097152 p111)],[],[]⟩)) (Xv a1 a2 is3) (fun s S=>match s with | (p55,p56)=>S=⟨Sl a1 a2 f3 k3 p56 [(0,Ag 2097152 p55)],[],[]⟩) e190 _ (Dw (by kernel_rfl)) rfl 0 (fun _=>rfl) ?_ ?_)))
 ·rintro S _ hfg ⟨p111,rfl,rfl⟩
  obtain rfl:=sj h0
  exact bF (bE hfg (Dx rfl rfl rfl rfl rfl ⟨⟨rfl,Ip (fun _=>rfl)⟩,tv⟩))
 ·rintro ⟨p55,p56⟩ o1 _ K1 rfl h1 hx1 hK1 hE1 hR1
  refine Ba 6 (Sl a1 a2 f3 k3 p56 [(0,Ag 2097152 p55),(14,.bool (decide (p56<a2)))]) [] (Ch h1 (fun iE h1=>?_) (fun iE h1=>?_))
  ·refine Ba 8 (Sl a1 a2 f3 k3 p56 [(0,Ag 2097152 p55),(9,iV p56)]) [] (Cc (bb h1 fun r187 e188 h1=>Cr (R:=(fun S=>∃p163:List Aa,p163=r187∧S=⟨Sl a1 a2 f3 k3 p56 [(0,Ag 2097152 p163)],[],[]⟩)) (Xw a1 is3) (fun s S=>match s with | (p136,p137)=>S=⟨Sl a1 a2 f3 k3 p56 [(0,Ag 2097152 p136),(9,iV p137)],[],[]⟩) e188 _ (Dw (by kernel_rfl)) rfl 2 (fun _=>rfl) ?_ ?_))
   ·rintro S _ hfg ⟨p163,rfl,rfl⟩
    refine Su (Dc ⟨Sl a1 a2 f3 k3 p56 [(0,Ag 2097152 p163)],[],[]⟩ (sQ hfg ⟨rfl,rfl,rfl,rfl,rfl,tv⟩ tv) (Ax 4 ?_))
    obtain rfl:=sj h1
    exact kn hK1 rfl rfl
   ·rintro ⟨p136,p137⟩ o2 _ K2 rfl h2 hx2 hK2 hE2 hR2
    refine Bt (Bt (bb h2 fun y164 e165 h2=>bb h2 fun y166 e167 h2=>bb h2 fun y168 e169 h2=>bb h2 fun y170 e171 h2=>bb h2 fun r172 e173 h2=>Ax 4 (Bd (Ak tv (Bv (u:=.clo f3 k3) rfl (fun hg=>(Dm (v:=.clo f3 k3) rfl tv)) (⟨tv,Ak tv (Bv (u:=Ag 2097152 p136) rfl (fun hg=>(Dm (v:=Ag 2097152 p136) rfl tv)) (⟨tv,Ak tv (Bv (u:=iV p137) rfl (fun hg=>(Dm (v:=iV p137) rfl tv)) (⟨tv,Ak tv (Bv (u:=.optr 2097152 4 (0+p137.toNat) 0) rfl (fun hg=>(Gx (e:=Ad) (y:=y164) rfl rfl (fun _=>hg) rfl rfl (fun _=>hg) (ip hg e165))) (⟨tv,Cf (Bv (u:=.agg (Ad y166)) rfl (fun hg=>(Bn (e:=Ad) (y:=y166) (v:=.agg (Ad y166)) rfl rfl (fun _=>hg) rfl rfl (ip hg e167) rfl (nl rfl) rfl)) (⟨⟨Bw (v:=.agg (Ad y166)) rfl (fun hg=>(Bn (e:=Ad) (y:=y166) (v:=.agg (Ad y166)) rfl rfl (fun _=>hg) rfl rfl (ip hg e167) rfl (nl rfl) rfl)) rfl,tv⟩,Ak tv (Bv (u:=Ag 2097152 p136) rfl (fun hg=>(Dm (v:=Ag 2097152 p136) rfl tv)) (⟨⟨Bw (v:=.agg (Ad y166)) rfl (fun hg=>(Bn (e:=Ad) (y:=y166) (v:=.agg (Ad y166)) rfl rfl (fun _=>hg) rfl rfl (ip hg e167) rfl (nl rfl) rfl)) rfl,tv⟩,Ak tv (Bv (u:=iV p137) rfl (fun hg=>(Dm (v:=iV p137) rfl tv)) (⟨⟨Bw (v:=.agg (Ad y166)) rfl (fun hg=>(Bn (e:=Ad) (y:=y166) (v:=.agg (Ad y166)) rfl rfl (fun _=>hg) rfl rfl (ip hg e167) rfl (nl rfl) rfl)) rfl,tv⟩,Ak tv (Bv (u:=iV (wi (p137-1))) rfl (fun hg=>(Bl ⟨(fun _=>hg),tv,tv⟩ rfl tv)) (⟨⟨Bw (v:=.agg (Ad y166)) rfl (fun hg=>(Bn (e:=Ad) (y:=y166) (v:=.agg (Ad y166)) rfl rfl (fun _=>hg) rfl rfl (ip hg e167) rfl (nl rfl) rfl)) rfl,tv⟩,Ak tv (Bv (u:=.optr 2097152 4 (0+((wi (p137-1)).toNat)) 0) rfl (fun hg=>(Gx (e:=Ad) (y:=y168) rfl rfl (fun _=>hg) rfl rfl (fun _=>hg) (ip hg e169))) (⟨⟨Bw (v:=.agg (Ad y166)) rfl (fun hg=>(Bn (e:=Ad) (y:=y166) (v:=.agg (Ad y166)) rfl rfl (fun _=>hg) rfl rfl (ip hg e167) rfl (nl rfl) rfl)) rfl,tv⟩,Cf (Bv (u:=.agg (Ad y170)) rfl (fun hg=>(Bn (e:=Ad) (y:=y170) (v:=.agg (Ad y170)) rfl rfl (fun _=>hg) rfl rfl (ip hg e171) rfl (nl rfl) rfl)) (⟨⟨Bw (v:=.agg (Ad y170)) rfl (fun hg=>(Bn (e:=Ad) (y:=y170) (v:=.agg (Ad y170)) rfl rfl (fun _=>hg) rfl rfl (ip hg e171) rfl (nl rfl) rfl)) rfl,Bw (v:=.agg (Ad y166)) rfl (fun hg=>(Bn (e:=Ad) (y:=y166) (v:=.agg (Ad y166)) rfl rfl (fun _=>hg) rfl rfl (ip hg e167) rfl (nl rfl) rfl)) rfl,tv⟩,Az (Ie (r:=iV r172) rfl rfl rfl (fun hg=>hg) false (fun hg=>hf3 _ _ r172 (ip hg e173)) ⟨(fun hg=>hg),(fun hg=>hg),tv⟩ (fun _=>(ar (At rfl hs3.2.2.1))) (fun _=>(Be rfl (Be rfl (hs3.2.1 _ _ _ _ _)))) (fun _=>rfl) (fun h=>nomatch h) (dw [(0,Ag 2097152 p136),(1,iV a1),(2,iV a2),(3,.clo f3 k3),(8,iV p56),(9,iV p137),(21,.bool (decide (p137>a1))),(32,.may ((decide (p137>a1))==true) (iV r172))] [] tv ?_)) Aq⟩))⟩))⟩))⟩))⟩))⟩))⟩))⟩))⟩))⟩))))))
    refine Ak tv (Bv (u:=.bool (decide (r172<0))) rfl (fun hg=>(Bl ⟨(fun _=>hg),tv,tv⟩ rfl tv)) (⟨tv,Ak tv (Dh rfl rfl rfl (fun h=>Ta h) tv rfl (⟨tv,d_ (Ba 1 (Sl a1 a2 f3 k3 p56 [(0,Ag 2097152 p136),(9,iV p137),(34,.bool (bif (decide (p137>a1)) then (decide (r172<0)) else false))]) [] (Ch h2 (fun c174 h2=>?_) (fun c174 h2=>?_)))⟩))⟩))
    ·refine Lr 4 (bb h2 fun y175 e176 h2=>bb h2 fun y177 e178 h2=>bb h2 fun y179 e180 h2=>bb h2 fun y181 e182 h2=>bb h2 fun y183 e184 h2=>bb h2 fun y185 e186 h2=>Ax 8 (Bd (d_ (Yq rfl rfl rfl e176 (Bd (Cf (c_ (Ny rfl rfl e178) (⟨⟨Cy rfl rfl e178 rfl,tv⟩,Ak tv (Cj rfl tv (⟨⟨Cy rfl rfl e178 rfl,tv⟩,Ak tv (Cj rfl tv (⟨⟨Cy rfl rfl e178 rfl,tv⟩,Ak tv (c_ (Kc rfl rfl e180) (⟨⟨Cy rfl rfl e178 rfl,tv⟩,Cf (c_ (Ny rfl rfl e182) (⟨⟨Cy rfl rfl e182 rfl,Cy rfl rfl e178 rfl,tv⟩,Ak tv (c_ (Kc rfl rfl e180) (⟨⟨Cy rfl rfl e182 rfl,Cy rfl rfl e178 rfl,tv⟩,?_⟩))⟩))⟩))⟩))⟩))⟩))))))))
     refine Az (He (y':=y177) rfl rfl tv rfl rfl rfl rfl e182 (nl rfl) rfl rfl rfl rfl (iP ⟨[(0,Ag 2097152 (p136.set p137.toNat y177)),(1,iV a1),(2,iV a2),(3,.clo f3 k3),(8,iV p56),(9,iV p137),(39,Ag 2097152 (p136.set p137.toNat y177)),(40,iV p137),(41,iV (wi (p137-1))),(50,.agg (Ad y181))],[],[]⟩ (fg ⟨congrArg (fun z=>some ((.own 2097152 0 4 z:V))) Bf,rfl,rfl,rfl,rfl,rfl,congrArg (fun z=>some ((.own 2097152 0 4 z:V))) Bf,rfl,rfl,rfl,tv⟩ tv) ⟨[],⟨⟨.inl tv,Bs (Bl t3 rfl tv) rfl⟩,⟨.inl tv,Bs (Dm (v:=iV p137) rfl tv) rfl⟩,⟨.inl tv,Bs (Dm (v:=Ag 2097152 (p136.set p137.toNat y177)) rfl tv) rfl⟩,tv⟩,tv,d_ (Yq rfl rfl rfl e184 (Bd (Az (He (y':=y181) rfl rfl tv rfl rfl rfl rfl e186 (nl rfl) rfl rfl rfl rfl (d0 tv (Hc (Su (Dc ⟨[(0,Ag 2097152 ((p136.set p137.toNat y177).set ((wi (p137-1)).toNat) y181)),(1,iV a1),(2,iV a2),(3,.clo f3 k3),(8,iV p56),(9,iV p137)],[],[]⟩ (fg ⟨congrArg (fun z=>some ((.own 2097152 0 4 z:V))) Bf,rfl,rfl,rfl,rfl,rfl,tv⟩ tv) (Ax 4 ?_)))))) Aq)))⟩)) Aq
     obtain rfl:=sj h2
     exact kn hK2 rfl rfl
    ·obtain rfl:=sj h2
     obtain rfl:=hx2 _ rfl
     refine Hq rfl ?_
     exact jn hE2 ⟨_,rfl,rfl⟩
  ·obtain rfl:=sj h1
   obtain rfl:=hx1 _ rfl
   refine Hq rfl ?_
   exact jn hE1 ⟨_,rfl,rfl⟩

/- slices.siftDownCmpFunc[loop.example/g00149/impl.Lease] -/
def VT:=[m_ 12 1,m_ 10 12]
def VU:List Cd:=[m_ 13 10,⟨some 14,.p (.bin .mul (.c (iV 2)) (.t 13)),none⟩,B_ .add 15 14 1,m_ 11 15]
def VV:=[m_ 16 11,m_ 17 2,b_ .geq 18 16 17]
def VW:=tk [m_ 19 11,B_ .add 20 19 1,m_ 21 2,b_ .lss 22 20 21,m_ 23 22,mT 23 24 4,mT 23 25 0,mT 23 26 3,mT 23 27 11,pT 23 28 (.bin .add (.t 26) (.t 27)),xT 23 29 25 28 4,lT 23 30 29 4 true,mT 23 31 0,mT 23 32 3,mT 23 33 11,pT 23 34 (.bin .add (.t 32) (.t 33)),pT 23 35 (.bin .add (.t 34) (.c (iV 1))),xT 23 36 31 35 4,lT 23 37 36 4 true] (.alt [] ⟨some 38,.callv (.t 24) [.t 30,.t 37],some (23,true)⟩ (tk [pT 23 39 (.bin .lss (.t 38) (.c (iV 0))),pa 40 23 39] .fin) .stop)
def VX:=[m_ 41 11,B_ .add 42 41 1,m_ 11 42]
def VY:=tk [m_ 43 4,m_ 44 0,m_ 45 3,m_ 46 10,b_ .add 47 45 46,x_ 48 44 47 4,L_ 49 48 4,m_ 50 0,m_ 51 3,m_ 52 11,b_ .add 53 51 52,x_ 54 50 53 4,L_ 55 54 4] (.alt [] ⟨some 56,.callv (.t 43) [.t 49,.t 55],none⟩ (tk [B_ .lss 57 56 0,N_ 58 57] .fin) .stop)
def VZ:=tk [m_ 59 0,m_ 60 3,m_ 61 10,b_ .add 62 60 61,m_ 63 0,m_ 64 3,m_ 65 11,b_ .add 66 64 65,m_ 67 0,m_ 68 3,m_ 69 11,b_ .add 70 68 69,x_ 71 67 70 4,L_ 72 71 4,m_ 73 0,m_ 74 3,m_ 75 10,b_ .add 76 74 75,x_ 77 73 76 4,L_ 78 77 4,x_ 79 59 62 4] (.alt [b_ .add 66 64 65,m_ 65 11,m_ 64 3,m_ 63 0] (s_ 79 72 4) (tk [x_ 80 63 66 4] (.alt [] (s_ 80 78 4) .fin .stop)) .stop)
def WA:=[m_ 81 11,m_ 10 81]
def VS:IR:=(.block 1 (sr VU (.seq (sr VV (iz 18 (.exit 0))) (.seq (sd VW (iz 40 (.reg VX))) (.seq (sd VY (iz 58 .ret)) (sd VZ (.reg WA)))))))
def c159:Cz:=⟨5,82,[],sr VT (Ho 0 VS)⟩
def K159 (C:Bj) (D:Bj:=C):Prop:=∀(a0:List Aa) (a1:Int) (a2:Int) (a3:Int) (f4:Nat) (k4:List V) (is4:Aa→Aa→Option Int) (hs4:Io k4) (hf4:∀(x0:Aa) (x1:Aa) r,is4 x0 x1=some r→C f4 ⟨.agg (Ad x0) :: .agg (Ad x1)::k4,[]⟩ ⟨iV r,[],[]⟩) (r:(List Aa)),CI a0 a1 a2 a3 is4=some r→D 159 ⟨[Ag 2097152 a0,iV a1,iV a2,iV a3,.clo f4 k4],[]⟩ ⟨.tup [],[],[(0,4,r.map Ad)]⟩
abbrev gD:=fun x0 x1 x2 x3 x4 x5 (r:List (Nat×V))=>(0,Ag 2097152 x0)::(2,iV x1)::(3,iV x2)::(4,.clo x3 x4)::(10,iV x5)::r
theorem F159:K159 C (FO C c159):=by
 intro a0 a1 a2 a3 f4 k4 is4 hs4 hf4 r h0
 refine f0 (Ba 4 [(0,Ag 2097152 a0),(2,iV a2),(3,iV a3),(4,.clo f4 k4),(10,iV a1)] [] (Cc (bb h0 fun r122 e123 h0=>Cr (R:=(fun S=>∃p81:List Aa,.inl p81=r122∧S=⟨[(0,Ag 2097152 p81)],[],[]⟩)) (Yk a2 a3 is4) (fun s S=>match s with | (p39,p40)=>S=⟨gD p39 a2 a3 f4 k4 p40 [],[],[]⟩) e123 _ (Dw (by kernel_rfl)) rfl 0 (fun _=>rfl) ?_ ?_)))
 ·rintro S _ hfg ⟨p81,rfl,rfl⟩
  obtain rfl:=sj h0
  exact bF (bE hfg (Dx rfl rfl rfl rfl rfl ⟨⟨rfl,Ip (fun _=>rfl)⟩,tv⟩))
 ·rintro ⟨p39,p40⟩ o1 _ K1 rfl h1 hx1 hK1 hE1 hR1
  refine Ba 14 (gD p39 a2 a3 f4 k4 p40 [(11,iV (wi ((wi (2*p40))+1))),(18,.bool (decide ((wi ((wi (2*p40))+1))≥a2)))]) [] (Ch h1 (fun c82 h1=>?_) (fun c82 h1=>?_))
  ·obtain rfl:=sj h1
   obtain rfl:=hx1 _ rfl
   refine Hq rfl ?_
   exact jn hE1 ⟨_,rfl,rfl⟩
  ·refine Lr 4 (bb h1 fun y83 e84 h1=>bb h1 fun y85 e86 h1=>bb h1 fun y87 e88 h1=>bb h1 fun y89 e90 h1=>bb h1 fun r91 e92 h1=>Ax 5 (Bd (Ak tv (Bv (u:=.clo f4 k4) rfl (fun hg=>(Dm (v:=.clo f4 k4) rfl tv)) (⟨tv,Ak tv (Bv (u:=Ag 2097152 p39) rfl (fun hg=>(Dm (v:=Ag 2097152 p39) rfl tv)) (⟨tv,Ak tv (Bv (u:=iV a3) rfl (fun hg=>(Dm (v:=iV a3) rfl tv)) (⟨tv,Ak tv (Bv (u:=iV (wi ((wi (2*p40))+1))) rfl (fun hg=>(Dm (v:=iV (wi ((wi (2*p40))+1))) rfl tv)) (⟨tv,Ak tv (Bv (u:=iV (wi (a3+(wi ((wi (2*p40))+1))))) rfl (fun hg=>(Bl ⟨(fun _=>hg),(fun _=>hg),tv⟩ rfl tv)) (⟨tv,Ak tv (Bv (u:=.optr 2097152 4 (0+((wi (a3+(wi ((wi (2*p40))+1)))).toNat)) 0) rfl (fun hg=>(Gx (e:=Ad) (y:=y83) rfl rfl (fun _=>hg) rfl rfl (fun _=>hg) (ip hg e84))) (⟨tv,Cf (Bv (u:=.agg (Ad y85)) rfl (fun hg=>(Bn (e:=Ad) (y:=y85) (v:=.agg (Ad y85)) rfl rfl (fun _=>hg) rfl rfl (ip hg e86) rfl (nl rfl) rfl)) (⟨⟨Bw (v:=.agg (Ad y85)) rfl (fun hg=>(Bn (e:=Ad) (y:=y85) (v:=.agg (Ad y85)) rfl rfl (fun _=>hg) rfl rfl (ip hg e86) rfl (nl rfl) rfl)) rfl,tv⟩,Ak tv (Bv (u:=Ag 2097152 p39) rfl (fun hg=>(Dm (v:=Ag 2097152 p39) rfl tv)) (⟨⟨Bw (v:=.agg (Ad y85)) rfl (fun hg=>(Bn (e:=Ad) (y:=y85) (v:=.agg (Ad y85)) rfl rfl (fun _=>hg) rfl rfl (ip hg e86) rfl (nl rfl) rfl)) rfl,tv⟩,Ak tv (Bv (u:=iV a3) rfl (fun hg=>(Dm (v:=iV a3) rfl tv)) (⟨⟨Bw (v:=.agg (Ad y85)) rfl (fun hg=>(Bn (e:=Ad) (y:=y85) (v:=.agg (Ad y85)) rfl rfl (fun _=>hg) rfl rfl (ip hg e86) rfl (nl rfl) rfl)) rfl,tv⟩,Ak tv (Bv (u:=iV (wi ((wi (2*p40))+1))) rfl (fun hg=>(Dm (v:=iV (wi ((wi (2*p40))+1))) rfl tv)) (⟨⟨Bw (v:=.agg (Ad y85)) rfl (fun hg=>(Bn (e:=Ad) (y:=y85) (v:=.agg (Ad y85)) rfl rfl (fun _=>hg) rfl rfl (ip hg e86) rfl (nl rfl) rfl)) rfl,tv⟩,?_⟩))⟩))⟩))⟩))⟩))⟩))⟩))⟩))⟩))⟩)))))
   refine Ak tv (Bv (u:=iV (wi (a3+(wi ((wi (2*p40))+1))))) rfl (fun hg=>(Bl ⟨(fun _=>hg),(fun _=>hg),tv⟩ rfl tv)) (⟨⟨Bw (v:=.agg (Ad y85)) rfl (fun hg=>(Bn (e:=Ad) (y:=y85) (v:=.agg (Ad y85)) rfl rfl (fun _=>hg) rfl rfl (ip hg e86) rfl (nl rfl) rfl)) rfl,tv⟩,Ak tv (Bv (u:=iV (wi ((wi (a3+(wi ((wi (2*p40))+1))))+1))) rfl (fun hg=>(Bl ⟨(fun _=>hg),tv,tv⟩ rfl tv)) (⟨⟨Bw (v:=.agg (Ad y85)) rfl (fun hg=>(Bn (e:=Ad) (y:=y85) (v:=.agg (Ad y85)) rfl rfl (fun _=>hg) rfl rfl (ip hg e86) rfl (nl rfl) rfl)) rfl,tv⟩,Ak tv (Bv (u:=.optr 2097152 4 (0+((wi ((wi (a3+(wi ((wi (2*p40))+1))))+1)).toNat)) 0) rfl (fun hg=>(Gx (e:=Ad) (y:=y87) rfl rfl (fun _=>hg) rfl rfl (fun _=>hg) (ip hg e88))) (⟨⟨Bw (v:=.agg (Ad y85)) rfl (fun hg=>(Bn (e:=Ad) (y:=y85) (v:=.agg (Ad y85)) rfl rfl (fun _=>hg) rfl rfl (ip hg e86) rfl (nl rfl) rfl)) rfl,tv⟩,Cf (Bv (u:=.agg (Ad y89)) rfl (fun hg=>(Bn (e:=Ad) (y:=y89) (v:=.agg (Ad y89)) rfl rfl (fun _=>hg) rfl rfl (ip hg e90) rfl (nl rfl) rfl)) (⟨⟨Bw (v:=.agg (Ad y89)) rfl (fun hg=>(Bn (e:=Ad) (y:=y89) (v:=.agg (Ad y89)) rfl rfl (fun _=>hg) rfl rfl (ip hg e90) rfl (nl rfl) rfl)) rfl,Bw (v:=.agg (Ad y85)) rfl (fun hg=>(Bn (e:=Ad) (y:=y85) (v:=.agg (Ad y85)) rfl rfl (fun _=>hg) rfl rfl (ip hg e86) rfl (nl rfl) rfl)) rfl,tv⟩,Az (Ie (r:=iV r91) rfl rfl rfl (fun hg=>hg) false (fun hg=>hf4 _ _ r91 (ip hg e92)) ⟨(fun hg=>hg),(fun hg=>hg),tv⟩ (fun _=>(ar (At rfl hs4.2.2.1))) (fun _=>(Be rfl (Be rfl (hs4.2.1 _ _ _ _ _)))) (fun _=>rfl) (fun h=>nomatch h) (dw [(0,Ag 2097152 p39),(2,iV a2),(3,iV a3),(4,.clo f4 k4),(10,iV p40),(11,iV (wi ((wi (2*p40))+1))),(23,.bool (decide ((wi ((wi ((wi (2*p40))+1))+1))<a2))),(38,.may ((decide ((wi ((wi ((wi (2*p40))+1))+1))<a2))==true) (iV r91))] [] tv (Ak tv (Bv (u:=.bool (decide (r91<0))) rfl (fun hg=>(Bl ⟨(fun _=>hg),tv,tv⟩ rfl tv)) (⟨tv,Ak tv (Dh rfl rfl rfl (fun h=>Ta h) tv rfl (⟨tv,Hc (bv h1 fun v93 e94 h1=>Dc ⟨[(0,Ag 2097152 p39),(2,iV a2),(3,iV a3),(4,.clo f4 k4),(10,iV p40),(11,iV (wi ((wi (2*p40))+1))),(40,.bool v93)],[],[]⟩ (fg ⟨(by subst e94; rfl),(by subst e94; rfl),(by subst e94; rfl),(by subst e94; rfl),(by subst e94; rfl),(by subst e94; rfl),(by subst e94; rfl),tv⟩ tv) (Ld (cb:=v93) (fun S=>∃p96:Int,S=⟨gD p39 a2 a3 f4 k4 p40 [(11,iV p96)],[],[]⟩∧Mz a3 is4 p39 p40 p96=some o1) rfl ?_ (fun qE J120=>?_) (fun qE J120=>?_)))⟩))⟩))))) Aq⟩))⟩))⟩))⟩))
   ·rintro _ ⟨p96,rfl,h1⟩
    refine Lr 3 (bb h1 fun y97 e98 h1=>bb h1 fun y99 e100 h1=>bb h1 fun y101 e102 h1=>bb h1 fun y103 e104 h1=>bb h1 fun r105 e106 h1=>Ax 5 (Bd (d_ (Yq rfl rfl rfl e98 (Bd (Cf (c_ (Ny rfl rfl e100) (⟨⟨Cy rfl rfl e100 rfl,tv⟩,Ak tv (Cj rfl tv (⟨⟨Cy rfl rfl e100 rfl,tv⟩,Ak tv (Cj rfl tv (⟨⟨Cy rfl rfl e100 rfl,tv⟩,Ak tv (Cj rfl tv (⟨⟨Cy rfl rfl e100 rfl,tv⟩,Ak tv (c_ (Bl t3 rfl tv) (⟨⟨Cy rfl rfl e100 rfl,tv⟩,Ak tv (c_ (Kc rfl rfl e102) (⟨⟨Cy rfl rfl e100 rfl,tv⟩,Cf (c_ (Ny rfl rfl e104) (⟨⟨Cy rfl rfl e104 rfl,Cy rfl rfl e100 rfl,tv⟩,Az (Gt (r:=iV r105) rfl false (hf4 _ _ r105 e106) ⟨tv,tv,tv⟩ (ar (At rfl hs4.2.2.1)) (Be rfl (Be rfl (hs4.2.1 _ _ _ _ _))) (fun _=>rfl) (dw [(0,Ag 2097152 p39),(2,iV a2),(3,iV a3),(4,.clo f4 k4),(10,iV p40),(11,iV p96),(56,iV r105)] [] tv (Ak tv (c_ (Bl t3 rfl tv) (⟨tv,?_⟩))))) Aq⟩))⟩))⟩))⟩))⟩))⟩))⟩))))))))
    refine d_ (Ba 2 (gD p39 a2 a3 f4 k4 p40 [(11,iV p96),(58,.bool (!(decide (r105<0))))]) [] (Ch h1 (fun IF h1=>?_) (fun IF h1=>?_)))
    ·obtain rfl:=sj h1
     obtain rfl:=hx1 _ rfl
     obtain rfl:=sj h0
     exact Ka (hR1 _ (Dx rfl rfl rfl rfl rfl ⟨⟨rfl,Ip (fun _=>rfl)⟩,tv⟩))
    ·refine Lr 3 (bb h1 fun y108 e109 h1=>bb h1 fun y110 e111 h1=>bb h1 fun y112 e113 h1=>bb h1 fun y114 e115 h1=>bb h1 fun y116 e117 h1=>bb h1 fun y118 e119 h1=>Ax 12 (Bd (d_ (Yq rfl rfl rfl e109 (Bd (Cf (c_ (Ny rfl rfl e111) (⟨⟨Cy rfl rfl e111 rfl,tv⟩,Ak tv (Cj rfl tv (⟨⟨Cy rfl rfl e111 rfl,tv⟩,?_⟩))⟩))))))))
     refine Ak tv (Cj rfl tv (⟨⟨Cy rfl rfl e111 rfl,tv⟩,Ak tv (Cj rfl tv (⟨⟨Cy rfl rfl e111 rfl,tv⟩,Ak tv (c_ (Bl t3 rfl tv) (⟨⟨Cy rfl rfl e111 rfl,tv⟩,Ak tv (c_ (Kc rfl rfl e113) (⟨⟨Cy rfl rfl e111 rfl,tv⟩,Cf (c_ (Ny rfl rfl e115) (⟨⟨Cy rfl rfl e115 rfl,Cy rfl rfl e111 rfl,tv⟩,Ak tv (c_ (Kc rfl rfl e113) (⟨⟨Cy rfl rfl e115 rfl,Cy rfl rfl e111 rfl,tv⟩,Az (He (y':=y110) rfl rfl tv rfl rfl rfl rfl e115 (nl rfl) rfl rfl rfl rfl (iP ⟨[(0,Ag 2097152 (p39.set ((wi (a3+p40)).toNat) y110)),(2,iV a2),(3,iV a3),(4,.clo f4 k4),(11,iV p96),(63,Ag 2097152 (p39.set ((wi (a3+p40)).toNat) y110)),(64,iV a3),(65,iV p96),(66,iV (wi (a3+p96))),(78,.agg (Ad y114))],[],[]⟩ (fg ⟨congrArg (fun z=>some ((.own 2097152 0 4 z:V))) Bf,rfl,rfl,rfl,rfl,congrArg (fun z=>some ((.own 2097152 0 4 z:V))) Bf,rfl,rfl,rfl,rfl,tv⟩ tv) ⟨[],⟨⟨.inl tv,Bs (Bl t3 rfl tv) rfl⟩,⟨.inl tv,Bs (Dm (v:=iV p96) rfl tv) rfl⟩,⟨.inl tv,Bs (Dm (v:=iV a3) rfl tv) rfl⟩,⟨.inl tv,Bs (Dm (v:=Ag 2097152 (p39.set ((wi (a3+p40)).toNat) y110)) rfl tv) rfl⟩,tv⟩,tv,Ak tv (c_ (Kc rfl rfl e117) (⟨tv,Az (He (y':=y114) rfl rfl tv rfl rfl rfl rfl e119 (nl rfl) rfl rfl rfl rfl (d0 tv (Hc (Dc ⟨[(0,.own 2097152 0 4 (((p39.set ((wi (a3+p40)).toNat) y110).set ((wi (a3+p96)).toNat) y114).map Ad)),(2,iV a2),(3,iV a3),(4,.clo f4 k4),(11,iV p96)],[],[]⟩ (fg ⟨congrArg (fun z=>some ((.own 2097152 0 4 z:V))) Bf,rfl,rfl,rfl,rfl,tv⟩ tv) (As (st (Cj rfl tv (st (Cj rfl tv (Ha (Su ?_))))))))))) Aq⟩))⟩)) Aq⟩))⟩))⟩))⟩))⟩))⟩))
     obtain rfl:=sj h1
     exact kn hK1 rfl rfl
   ·replace h1:=ip qE h1
    refine Ax 4 ?_
    exact jn J120 ⟨_,rfl,h1⟩
   ·replace h1:=aB qE h1
    refine Lc ?_
    exact jn J120 ⟨_,rfl,h1⟩

/- slices.heapSortCmpFunc[loop.example/g00149/impl.Lease] -/
def RU:=[m_ 13 1,m_ 8 13]
def RX:=[i_ 9 0]
def RY:=[m_ 14 2,m_ 15 1,b_ .sub 16 14 15,m_ 10 16]
def RZ:=[m_ 17 10,B_ .sub 18 17 1,B_ .quo 19 18 2,m_ 11 19]
def SA:=[m_ 20 11,B_ .geq 21 20 0]
def SB:=[m_ 24 0,m_ 25 11,m_ 26 10,m_ 27 8,m_ 28 3,q_ 29 159 [.t 24,.t 25,.t 26,.t 27,.t 28]]
def SC:=[m_ 22 11,B_ .sub 23 22 1,m_ 11 23]
def RR:IR:=(.seq (sr SA (.ite (.t 21) .skip (.exit 0))) (.seq (.block 1 (.reg SB)) (.reg SC)))
def SD:=[m_ 30 10,B_ .sub 31 30 1,m_ 12 31]
def SE:=[m_ 32 12,B_ .geq 33 32 0]
def SF:=tk [m_ 36 0,m_ 37 8,m_ 38 0,m_ 39 8,m_ 40 12,b_ .add 41 39 40,m_ 42 0,m_ 43 8,m_ 44 12,b_ .add 45 43 44,x_ 46 42 45 4,L_ 47 46 4,m_ 48 0,m_ 49 8,x_ 50 48 49 4,L_ 51 50 4,x_ 52 36 37 4] (.alt [b_ .add 41 39 40,m_ 40 12,m_ 39 8,m_ 38 0] (s_ 52 47 4) (tk [x_ 53 38 41 4] (.alt [] (s_ 53 51 4) .fin .stop)) .stop)
def wR:=[m_ 54 0,m_ 55 9,m_ 56 12,m_ 57 8,m_ 58 3,q_ 59 159 [.t 54,.t 55,.t 56,.t 57,.t 58]]
def wS:=[m_ 34 12,B_ .sub 35 34 1,m_ 12 35]
def RS:IR:=(.seq (sr SE (.ite (.t 33) .skip (.exit 2))) (.seq (.block 3 (sd SF (.reg wR))) (.reg wS)))
def c149:Cz:=⟨4,60,[],sr RU (sr RX (sr RY (.seq (sr RZ (Ho 0 RR)) (sr SD (Ho 2 RS)))))⟩
def K149 (C:Bj) (D:Bj:=C):Prop:=∀(a0:List Aa) (a1:Int) (a2:Int) (f3:Nat) (k3:List V) (is3:Aa→Aa→Option Int) (hs3:Io k3) (hf3:∀(x0:Aa) (x1:Aa) r,is3 x0 x1=some r→C f3 ⟨.agg (Ad x0) :: .agg (Ad x1)::k3,[]⟩ ⟨iV r,[],[]⟩) (r:(List Aa)),Adb a0 a1 a2 is3=some r→D 149 ⟨[Ag 2097152 a0,iV a1,iV a2,.clo f3 k3],[]⟩ ⟨.tup [],[],[(0,4,r.map Ad)]⟩
abbrev Po:=fun x0 x1 x2 (r:List (Nat×V))=>(3,.clo x0 x1)::(8,iV x2)::(9,iV 0)::r
theorem F149 (H159:K159 C):K149 C (FO C c149):=by
 intro a0 a1 a2 f3 k3 is3 hs3 hf3 r h0
 refine f0 (Ba 15 (Po f3 k3 a1 [(0,Ag 2097152 a0),(10,iV (wi (a2-a1)))]) [] (Bt (Bt (As (st (Cj rfl tv (st (c_ (Bl t3 rfl tv) (st (c_ (Bl ⟨tv,tv,tv⟩ rfl (by decide)) (st (Cj rfl tv (Ha (bv h0 fun v1 e2 h0=>Dc ⟨[(0,Ag 2097152 a0),(3,.clo f3 k3),(8,iV a1),(9,iV 0),(10,iV (wi (a2-a1))),(11,iV v1)],[],[]⟩ (fg ⟨(by subst e2; rfl),(by subst e2; rfl),(by subst e2; rfl),(by subst e2; rfl),(by subst e2; rfl),(by subst e2; rfl),tv⟩ tv) (Cc (bb h0 fun r20 e21 h0=>Cr (R:=(fun S=>∃p15:List Aa,p15=r20∧S=⟨Po f3 k3 a1 [(0,Ag 2097152 p15),(10,iV (wi (a2-a1)))],[],[]⟩)) (Xx a1 a2 is3) (fun s S=>match s with | (p7,p8)=>S=⟨Po f3 k3 a1 [(0,Ag 2097152 p7),(10,iV (wi (a2-a1))),(11,iV p8)],[],[]⟩) e21 _ (Dw (by kernel_rfl)) rfl 0 (fun _=>rfl) ?_ ?_))))))))))))))))
 ·rintro S _ hfg ⟨p15,rfl,rfl⟩
  refine Dc ⟨Po f3 k3 a1 [(0,Ag 2097152 p15),(10,iV (wi (a2-a1)))],[],[]⟩ (sQ hfg ⟨rfl,rfl,rfl,rfl,rfl,tv⟩ tv) (Ba 5 (Po f3 k3 a1 [(0,Ag 2097152 p15),(12,iV (wi ((wi (a2-a1))-1)))]) [] (Cc (bb h0 fun r75 e76 h0=>Cr (R:=(fun S=>∃p58:List Aa,p58=r75∧S=⟨[(0,Ag 2097152 p58)],[],[]⟩)) (Xy a1 is3) (fun s S=>match s with | (p38,p39)=>S=⟨Po f3 k3 a1 [(0,Ag 2097152 p38),(12,iV p39)],[],[]⟩) e76 _ (Dw (by kernel_rfl)) rfl 2 (fun _=>rfl) ?_ ?_)))
  ·rintro S _ hfg ⟨p58,rfl,rfl⟩
   obtain rfl:=sj h0
   exact bF (bE hfg (Dx rfl rfl rfl rfl rfl ⟨⟨rfl,Ip (fun _=>rfl)⟩,tv⟩))
  ·rintro ⟨p38,p39⟩ o1 _ K1 rfl h1 hx1 hK1 hE1 hR1
   refine Ba 5 (Po f3 k3 a1 [(0,Ag 2097152 p38),(12,iV p39),(33,.bool (decide (p39≥0)))]) [] (Ch h1 (fun c59 h1=>?_) (fun c59 h1=>?_))
   ·refine Lr 5 (bb h1 fun y60 e61 h1=>bb h1 fun y62 e63 h1=>bb h1 fun y64 e65 h1=>bb h1 fun y66 e67 h1=>bb h1 fun y68 e69 h1=>bb h1 fun y70 e71 h1=>Bd (Ak tv (Cj rfl tv (⟨tv,Ak tv (Cj rfl tv (⟨tv,Ak tv (Cj rfl tv (⟨tv,Ak tv (Cj rfl tv (⟨tv,Ak tv (Cj rfl tv (⟨tv,Ak tv (c_ (Bl t3 rfl tv) (⟨tv,Ak tv (Cj rfl tv (⟨tv,Ak tv (Cj rfl tv (⟨tv,Ak tv (Cj rfl tv (⟨tv,Ak tv (c_ (Bl t3 rfl tv) (⟨tv,d_ (Yq rfl rfl rfl e61 (Bd (Cf (c_ (Ny rfl rfl e63) (⟨⟨Cy rfl rfl e63 rfl,tv⟩,Ak tv (Cj rfl tv (⟨⟨Cy rfl rfl e63 rfl,tv⟩,Ak tv (Cj rfl tv (⟨⟨Cy rfl rfl e63 rfl,tv⟩,Ak tv (c_ (Kc rfl rfl e65) (⟨⟨Cy rfl rfl e63 rfl,tv⟩,?_⟩))⟩))⟩))⟩)))))⟩))⟩))⟩))⟩))⟩))⟩))⟩))⟩))⟩))⟩))))
    refine Cf (c_ (Ny rfl rfl e67) (⟨⟨Cy rfl rfl e67 rfl,Cy rfl rfl e63 rfl,tv⟩,Ak tv (c_ (Kc rfl rfl e65) (⟨⟨Cy rfl rfl e67 rfl,Cy rfl rfl e63 rfl,tv⟩,Az (He (y':=y62) rfl rfl tv rfl rfl rfl rfl e67 (nl rfl) rfl rfl rfl rfl (iP ⟨[(0,Ag 2097152 (p38.set a1.toNat y62)),(3,.clo f3 k3),(8,iV a1),(9,iV 0),(12,iV p39),(38,Ag 2097152 (p38.set a1.toNat y62)),(39,iV a1),(40,iV p39),(41,iV (wi (a1+p39))),(51,.agg (Ad y66))],[],[]⟩ (fg ⟨congrArg (fun z=>some ((.own 2097152 0 4 z:V))) Bf,rfl,rfl,rfl,rfl,congrArg (fun z=>some ((.own 2097152 0 4 z:V))) Bf,rfl,rfl,rfl,rfl,tv⟩ tv) ⟨[],⟨⟨.inl tv,Bs (Bl t3 rfl tv) rfl⟩,⟨.inl tv,Bs (Dm (v:=iV p39) rfl tv) rfl⟩,⟨.inl tv,Bs (Dm (v:=iV a1) rfl tv) rfl⟩,⟨.inl tv,Bs (Dm (v:=Ag 2097152 (p38.set a1.toNat y62)) rfl tv) rfl⟩,tv⟩,tv,Ak tv (c_ (Kc rfl rfl e69) (⟨tv,Az (He (y':=y66) rfl rfl tv rfl rfl rfl rfl e71 (nl rfl) rfl rfl rfl rfl (d0 tv (Hc (Dc ⟨[(0,Ag 2097152 ((p38.set a1.toNat y62).set ((wi (a1+p39)).toNat) y66)),(3,.clo f3 k3),(8,iV a1),(9,iV 0),(12,iV p39)],[],[]⟩ (fg ⟨congrArg (fun z=>some ((.own 2097152 0 4 z:V))) Bf,rfl,rfl,rfl,rfl,tv⟩ tv) (As (st (Cj rfl tv (st (Cj rfl tv (st (Cj rfl tv (st (Cj rfl tv (st (Cj rfl tv (bb h1 fun r72 e73 h1=>gg h1 fun c74 h1=>st (Ed [] [2097152] [] false (H159 ((p38.set a1.toNat y62).set ((wi (a1+p39)).toNat) y66) 0 p39 a1 f3 k3 is3 hs3 hf3 r72 e73) ⟨tv,tv,tv,tv,tv,tv⟩ (by kernel_rfl) (congrArg (fun z=>Gj.mk z []) (Be rfl (Be rfl (Be rfl (Be rfl (Be (Eo hs3) rfl)))))) (by kernel_rfl) (by kernel_rfl) (fun _=>At rfl (At (Wi (fun _=>rfl)) rfl)) (Ha (Su (Dc ⟨[(0,Ag 2097152 r72),(3,.clo f3 k3),(8,iV a1),(9,iV 0),(12,iV p39)],[],[]⟩ (fg ⟨congrArg (fun z=>some ((z:V))) (Ep c74),rfl,rfl,rfl,rfl,tv⟩ tv) (As (st (Cj rfl tv (st (c_ (Bl t3 rfl tv) (st (Cj rfl tv (Ha ?_)))))))))))))))))))))))))))) Aq⟩))⟩)) Aq⟩))⟩))
    obtain rfl:=sj h1
    exact kn hK1 rfl rfl
   ·obtain rfl:=sj h1
    obtain rfl:=hx1 _ rfl
    refine Hq rfl ?_
    exact jn hE1 ⟨_,rfl,rfl⟩
 ·rintro ⟨p7,p8⟩ o1 _ K1 rfl h1 hx1 hK1 hE1 hR1
  refine Ba 5 (Po f3 k3 a1 [(0,Ag 2097152 p7),(10,iV (wi (a2-a1))),(11,iV p8),(21,.bool (decide (p8≥0)))]) [] (Ch h1 (fun c16 h1=>?_) (fun c16 h1=>?_))
  ·refine Lc (eF (Bt (Cc (As (st (Cj rfl tv (st (Cj rfl tv (st (Cj rfl tv (st (Cj rfl tv (st (Cj rfl tv (bb h1 fun r17 e18 h1=>gg h1 fun yJ h1=>st (Ed [] [2097152] [] false (H159 p7 p8 (wi (a2-a1)) a1 f3 k3 is3 hs3 hf3 r17 e18) ⟨tv,tv,tv,tv,tv,tv⟩ (by kernel_rfl) (congrArg (fun z=>Gj.mk z []) (Be rfl (Be rfl (Be rfl (Be rfl (Be (Eo hs3) rfl)))))) (by kernel_rfl) (by kernel_rfl) (fun _=>At rfl (At (Wi (fun _=>rfl)) rfl)) (Ha (Su (Dc ⟨[(0,Ag 2097152 r17),(3,.clo f3 k3),(8,iV a1),(9,iV 0),(10,iV (wi (a2-a1))),(11,iV p8)],[],[]⟩ (fg ⟨congrArg (fun z=>some ((z:V))) (Ep yJ),rfl,rfl,rfl,rfl,rfl,tv⟩ tv) (As (st (Cj rfl tv (st (c_ (Bl t3 rfl tv) (st (Cj rfl tv (Ha ?_)))))))))))))))))))))))))))
   obtain rfl:=sj h1
   exact kn hK1 rfl rfl
  ·obtain rfl:=sj h1
   obtain rfl:=hx1 _ rfl
   refine Hq rfl ?_
   exact jn hE1 ⟨_,rfl,rfl⟩

/- math/bits.Len32 -/
def VA:=[i_ 2 0]
def VB:List Cd:=[m_ 3 0,⟨some 4,.p (.bin .geq (.t 3) (.c (.int .u32 65536))),none⟩]
def VC:List Cd:=[m_ 5 0,⟨some 6,.p (.bin .shr (.t 5) (.c (.int .u64 16))),none⟩,m_ 0 6]
def VD:=[i_ 2 16]
def VE:List Cd:=[m_ 7 0,⟨some 8,.p (.bin .geq (.t 7) (.c (.int .u32 256))),none⟩]
def VF:List Cd:=[m_ 9 0,⟨some 10,.p (.bin .shr (.t 9) (.c (.int .u64 8))),none⟩,m_ 0 10]
def VG:=[m_ 11 2,B_ .add 12 11 8,m_ 2 12]
def VH:List Cd:=[m_ 13 2,m_ 14 0,iQ 15 (.conv .u8 (.t 14)),⟨some 16,.p (.idxStr (.c (.str [0,1,2,2,3,3,3,3,4,4,4,4,4,4,4,4,5,5,5,5,5,5,5,5,5,5,5,5,5,5,5,5,6,6,6,6,6,6,6,6,6,6,6,6,6,6,6,6,6,6,6,6,6,6,6,6,6,6,6,6,6,6,6,6,7,7,7,7,7,7,7,7,7,7,7,7,7,7,7,7,7,7,7,7,7,7,7,7,7,7,7,7,7,7,7,7,7,7,7,7,7,7,7,7,7,7,7,7,7,7,7,7,7,7,7,7,7,7,7,7,7,7,7,7,7,7,7,7,8,8,8,8,8,8,8,8,8,8,8,8,8,8,8,8,8,8,8,8,8,8,8,8,8,8,8,8,8,8,8,8,8,8,8,8,8,8,8,8,8,8,8,8,8,8,8,8,8,8,8,8,8,8,8,8,8,8,8,8,8,8,8,8,8,8,8,8,8,8,8,8,8,8,8,8,8,8,8,8,8,8,8,8,8,8,8,8,8,8,8,8,8,8,8,8,8,8,8,8,8,8,8,8,8,8,8,8,8,8,8,8,8,8,8,8,8,8,8,8,8,8,8,8,8,8,8,8])) (.t 15)),none⟩,iQ 17 (.conv .i64 (.t 16)),b_ .add 18 13 17,m_ 2 18]
def UZ:Cz:=⟨1,19,[.t 2],sr VA (.seq (sr VB (iz 4 (sr VC (.reg VD)))) (.seq (sr VE (iz 8 (sr VF (.reg VG)))) (rr VH)))⟩
def K156 (D:Bj):Prop:=∀a0 r,g156 a0=some r→D 156 ⟨[.int .u32 a0],[]⟩ ⟨iV r,[],[]⟩
theorem F156:K156 (FO C UZ):=by
 intro a0 r h0
 refine f0 (Ba 9 [(0,.int .u32 a0),(2,iV 0),(4,.bool (decide (a0≥65536)))] [] (Ld (cb:=(decide (a0≥65536))) (fun S=>∃p2:Int,∃p3:Int,S=⟨[(0,.int .u32 p2),(2,iV p3)],[],[]⟩∧fD p2 p3=some r) rfl ?_ (fun c12 J11=>?_) (fun c12 J11=>?_)))
 ·rintro _ ⟨p2,p3,rfl,h0⟩
  refine Ba 6 [(0,.int .u32 p2),(2,iV p3),(8,.bool (decide (p2≥256)))] [] (Ld (cb:=(decide (p2≥256))) (fun S=>∃p5:Int,∃p6:Int,S=⟨[(0,.int .u32 p5),(2,iV p6)],[],[]⟩∧fE p5 p6=some r) rfl ?_ (fun c10 J9=>?_) (fun c10 J9=>?_))
  ·rintro _ ⟨p5,p6,rfl,h0⟩
   refine Ax 4 (As (st (c_ (cb8 (Bl ⟨tv,tv⟩ rfl tv)) (bb h0 fun y7 e8 h0=>st (c_ (cidxS (y:=y7) rfl rfl tv rfl rfl tv e8) (o_ ?_))))))
   obtain rfl:=sj h0
   exact Cn 5
  ·replace h0:=ip c10 h0
   refine Bt (As (st (Cj rfl tv (st (c_ (Bl ⟨tv,tv,tv⟩ rfl (by decide)) (o_ (Ba 2 [(0,.int .u32 (Nd .u32 p2 8)),(2,iV p3)] [] (Ax 4 ?_))))))))
   exact jn J9 ⟨_,_,rfl,h0⟩
  ·replace h0:=aB c10 h0
   refine Lc ?_
   exact jn J9 ⟨_,_,rfl,h0⟩
 ·replace h0:=ip c12 h0
  refine Bt (As (st (Cj rfl tv (st (c_ (Bl ⟨tv,tv,tv⟩ rfl (by decide)) (o_ (Ba 2 [(0,.int .u32 (Nd .u32 a0 16))] [] (As (st (DZ tv (Ha ?_)))))))))))
  exact jn J11 ⟨_,_,rfl,h0⟩
 ·replace h0:=aB c12 h0
  refine Lc ?_
  exact jn J11 ⟨_,_,rfl,h0⟩

/- math/bits.Len64 -/
def VI:=[i_ 2 0]
def VJ:List Cd:=[m_ 3 0,⟨some 4,.p (.bin .geq (.t 3) (.c (.int .u64 4294967296))),none⟩]
def VK:List Cd:=[m_ 5 0,⟨some 6,.p (.bin .shr (.t 5) (.c (.int .u64 32))),none⟩,m_ 0 6]
def VL:=[i_ 2 32]
def VM:List Cd:=[m_ 7 0,⟨some 8,.p (.bin .geq (.t 7) (.c (.int .u64 65536))),none⟩]
def VN:List Cd:=[m_ 9 0,⟨some 10,.p (.bin .shr (.t 9) (.c (.int .u64 16))),none⟩,m_ 0 10]
def VO:=[m_ 11 2,B_ .add 12 11 16,m_ 2 12]
def VP:List Cd:=[m_ 13 0,⟨some 14,.p (.bin .geq (.t 13) (.c (.int .u64 256))),none⟩]
def VQ:List Cd:=[m_ 15 0,⟨some 16,.p (.bin .shr (.t 15) (.c (.int .u64 8))),none⟩,m_ 0 16]
def VR:=[m_ 17 2,B_ .add 18 17 8,m_ 2 18]
def yI:List Cd:=[m_ 19 2,m_ 20 0,iQ 21 (.conv .u8 (.t 20)),⟨some 22,.p (.idxStr (.c (.str [0,1,2,2,3,3,3,3,4,4,4,4,4,4,4,4,5,5,5,5,5,5,5,5,5,5,5,5,5,5,5,5,6,6,6,6,6,6,6,6,6,6,6,6,6,6,6,6,6,6,6,6,6,6,6,6,6,6,6,6,6,6,6,6,7,7,7,7,7,7,7,7,7,7,7,7,7,7,7,7,7,7,7,7,7,7,7,7,7,7,7,7,7,7,7,7,7,7,7,7,7,7,7,7,7,7,7,7,7,7,7,7,7,7,7,7,7,7,7,7,7,7,7,7,7,7,7,7,8,8,8,8,8,8,8,8,8,8,8,8,8,8,8,8,8,8,8,8,8,8,8,8,8,8,8,8,8,8,8,8,8,8,8,8,8,8,8,8,8,8,8,8,8,8,8,8,8,8,8,8,8,8,8,8,8,8,8,8,8,8,8,8,8,8,8,8,8,8,8,8,8,8,8,8,8,8,8,8,8,8,8,8,8,8,8,8,8,8,8,8,8,8,8,8,8,8,8,8,8,8,8,8,8,8,8,8,8,8,8,8,8,8,8,8,8,8,8,8,8,8,8,8,8,8,8,8])) (.t 21)),none⟩,iQ 23 (.conv .i64 (.t 22)),b_ .add 24 19 23,m_ 2 24]
def c157:Cz:=⟨1,25,[.t 2],sr VI (.seq (sr VJ (iz 4 (sr VK (.reg VL)))) (.seq (sr VM (iz 8 (sr VN (.reg VO)))) (.seq (sr VP (iz 14 (sr VQ (.reg VR)))) (rr yI))))⟩
def K157 (D:Bj):Prop:=∀a0 r,Ado a0=some r→D 157 ⟨[.int .u64 a0],[]⟩ ⟨iV r,[],[]⟩
theorem F157:K157 (FO C c157):=by
 intro a0 r h0
 refine f0 (Ba 9 [(0,.int .u64 a0),(2,iV 0),(4,.bool (decide (a0≥4294967296)))] [] (Ld (cb:=(decide (a0≥4294967296))) (fun S=>∃p2:Int,∃p3:Int,S=⟨[(0,.int .u64 p2),(2,iV p3)],[],[]⟩∧Yj p2 p3=some r) rfl ?_ (fun oA J16=>?_) (fun oA J16=>?_)))
 ·rintro _ ⟨p2,p3,rfl,h0⟩
  refine Ba 6 [(0,.int .u64 p2),(2,iV p3),(8,.bool (decide (p2≥65536)))] [] (Ld (cb:=(decide (p2≥65536))) (fun S=>∃p5:Int,∃p6:Int,S=⟨[(0,.int .u64 p5),(2,iV p6)],[],[]⟩∧Tp p5 p6=some r) rfl ?_ (fun c15 J14=>?_) (fun c15 J14=>?_))
  ·rintro _ ⟨p5,p6,rfl,h0⟩
   refine Ba 6 [(0,.int .u64 p5),(2,iV p6),(14,.bool (decide (p5≥256)))] [] (Ld (cb:=(decide (p5≥256))) (fun S=>∃p8:Int,∃p9:Int,S=⟨[(0,.int .u64 p8),(2,iV p9)],[],[]⟩∧Tq p8 p9=some r) rfl ?_ (fun c13 J12=>?_) (fun c13 J12=>?_))
   ·rintro _ ⟨p8,p9,rfl,h0⟩
    refine Ax 4 (As (st (c_ (cb8 (Bl ⟨tv,tv⟩ rfl tv)) (bb h0 fun y10 e11 h0=>st (c_ (cidxS (y:=y10) rfl rfl tv rfl rfl tv e11) (o_ ?_))))))
    obtain rfl:=sj h0
    exact Cn 5
   ·replace h0:=ip c13 h0
    refine Bt (As (st (Cj rfl tv (st (c_ (Bl ⟨tv,tv,tv⟩ rfl (by decide)) (o_ (Ba 2 [(0,.int .u64 (Nd .u64 p5 8)),(2,iV p6)] [] (Ax 4 ?_))))))))
    exact jn J12 ⟨_,_,rfl,h0⟩
   ·replace h0:=aB c13 h0
    refine Lc ?_
    exact jn J12 ⟨_,_,rfl,h0⟩
  ·replace h0:=ip c15 h0
   refine Bt (As (st (Cj rfl tv (st (c_ (Bl ⟨tv,tv,tv⟩ rfl (by decide)) (o_ (Ba 2 [(0,.int .u64 (Nd .u64 p2 16)),(2,iV p3)] [] (Ax 4 ?_))))))))
   exact jn J14 ⟨_,_,rfl,h0⟩
  ·replace h0:=aB c15 h0
   refine Lc ?_
   exact jn J14 ⟨_,_,rfl,h0⟩
 ·replace h0:=ip oA h0
  refine Bt (As (st (Cj rfl tv (st (c_ (Bl ⟨tv,tv,tv⟩ rfl (by decide)) (o_ (Ba 2 [(0,.int .u64 (Nd .u64 a0 32))] [] (As (st (DZ tv (Ha ?_)))))))))))
  exact jn J16 ⟨_,_,rfl,h0⟩
 ·replace h0:=aB oA h0
  refine Lc ?_
  exact jn J16 ⟨_,_,rfl,h0⟩

/- math/bits.Len -/
def QA:=[i_ 2 0]
def QB:=[m_ 3 0,iQ 4 (.conv .u32 (.t 3)),q_ 5 156 [.t 4],m_ 2 5]
def QC:=[m_ 6 0,q_ 7 157 [.t 6],m_ 2 7]
def PZ:Cz:=⟨1,8,[.t 2],sr QA (.seq (.ite (.c (.bool false)) (rr QB) .skip) (rr QC))⟩
def GN (D:Bj):Prop:=∀a0 r,CF a0=some r→D 138 ⟨[.int .u64 a0],[]⟩ ⟨iV r,[],[]⟩
theorem F138 (H156:K156 C) (H157:K157 C):GN (FO C PZ):=by
 intro a0 r h0
 refine f0 (Ba 3 [(0,.int .u64 a0)] [] (Bt (Ch h0 (fun c1 h0=>?_) (fun c1 h0=>?_))))
 ·refine Ax 3 (As (bb h0 fun r2 e3 h0=>Jj (H156 (IntKind.u32.wrap a0) r2 e3) (o_ ?_)))
  obtain rfl:=sj h0
  exact Cn 3
 ·refine Ax 4 (As (bb h0 fun r4 e5 h0=>Jj (H157 a0 r4 e5) (o_ ?_)))
  obtain rfl:=sj h0
  exact Cn 3

/- slices.nextPowerOfTwo -/
def WB:=[k_ 2 (.int .u64 0)]
def WC:List Cd:=[m_ 3 0,iQ 4 (.conv .u64 (.t 3)),q_ 5 138 [.t 4],⟨some 6,.p (.bin .shl (.c (.int .u64 1)) (.t 5)),none⟩,m_ 2 6]
def c160:Cz:=⟨1,7,[.t 2],sr WB (rr WC)⟩
def K160 (D:Bj):Prop:=∀a0 r,Adp a0=some r→D 160 ⟨[iV a0],[]⟩ ⟨.int .u64 r,[],[]⟩
theorem F160 (H138:GN C):K160 (FO C c160):=by
 intro a0 r h0
 refine f0 (Ba 3 [(0,iV a0)] [] (Ax 3 (As (bb h0 fun r1 e2 h0=>Jj (H138 (IntKind.u64.wrap a0) r1 e2) (gg h0 fun c3 h0=>st (c_ (Bl ⟨tv,tv,tv⟩ rfl c3) (o_ ?_)))))))
 obtain rfl:=sj h0
 exact Cn 3

/- (*slices.xorshift).Next -/
def WE:=[k_ 2 (.int .u64 0)]
def WF:=tk [m_ 3 0,iQ 4 (.nilc (.t 3)),l_ 5 4 1,m_ 6 0,iQ 7 (.nilc (.t 6)),l_ 8 7 1,⟨some 9,.p (.bin .shl (.t 8) (.c (.int .u64 13))),none⟩,b_ .xor 10 5 9,iQ 11 (.nilc (.t 3))] (.alt [] (s_ 11 10 1) .fin .stop)
def WG:=tk [m_ 12 0,iQ 13 (.nilc (.t 12)),l_ 14 13 1,m_ 15 0,iQ 16 (.nilc (.t 15)),l_ 17 16 1,⟨some 18,.p (.bin .shr (.t 17) (.c (.int .u64 7))),none⟩,b_ .xor 19 14 18,iQ 20 (.nilc (.t 12))] (.alt [] (s_ 20 19 1) .fin .stop)
def WH:=tk [m_ 21 0,iQ 22 (.nilc (.t 21)),l_ 23 22 1,m_ 24 0,iQ 25 (.nilc (.t 24)),l_ 26 25 1,⟨some 27,.p (.bin .shl (.t 26) (.c (.int .u64 17))),none⟩,b_ .xor 28 23 27,iQ 29 (.nilc (.t 21))] (.alt [] (s_ 29 28 1) .fin .stop)
def WI:=[m_ 30 0,iQ 31 (.nilc (.t 30)),l_ 32 31 1,m_ 2 32]
def c161:Cz:=⟨1,33,[.t 2],sr WE (sd WF (sd WG (sd WH (rr WI))))⟩
def K161 (D:Bj):Prop:=∀a0 r,Adr a0=some r→D 161 ⟨[.ptr 1048576 0],[[.int .u64 a0]]⟩ ⟨.int .u64 r.1,[[.int .u64 r.2]],[]⟩
theorem F161:K161 (FO C c161):=by
 intro a0 r h0
 refine f0 (Ba 3 [(0,.ptr 1048576 0)] [(1048576,[.int .u64 a0])] (Bt (Bd (Ak tv (Cj rfl tv (⟨tv,Ak tv (c_ (Bl ⟨tv,tv⟩ rfl tv) (⟨tv,Ak tv (c_ (Bl ⟨tv,tv⟩ rfl (nl rfl)) (⟨tv,Ak tv (Cj rfl tv (⟨tv,Ak tv (c_ (Bl ⟨tv,tv⟩ rfl tv) (⟨tv,Ak tv (c_ (Bl ⟨tv,tv⟩ rfl (nl rfl)) (⟨tv,Ak tv (c_ (Bl ⟨tv,tv,tv⟩ rfl (by decide)) (⟨tv,Ak tv (c_ (Bl t3 rfl tv) (⟨tv,Ak tv (c_ (Bl ⟨tv,tv⟩ rfl tv) (⟨tv,Az (Cl rfl rfl tv rfl rfl rfl (nl rfl) (d0 tv (d_ (Ba 1 [(0,.ptr 1048576 0)] [(1048576,[.int .u64 (bZ .u64 a0 (fY .u64 a0 13))])] (Bt ?_))))) Aq⟩))⟩))⟩))⟩))⟩))⟩))⟩))⟩))⟩))))))
 refine Bd (Ak tv (Cj rfl tv (⟨tv,Ak tv (c_ (Bl ⟨tv,tv⟩ rfl tv) (⟨tv,Ak tv (c_ (Bl ⟨tv,tv⟩ rfl (nl rfl)) (⟨tv,Ak tv (Cj rfl tv (⟨tv,Ak tv (c_ (Bl ⟨tv,tv⟩ rfl tv) (⟨tv,Ak tv (c_ (Bl ⟨tv,tv⟩ rfl (nl rfl)) (⟨tv,Ak tv (c_ (Bl ⟨tv,tv,tv⟩ rfl (by decide)) (⟨tv,Ak tv (c_ (Bl t3 rfl tv) (⟨tv,Ak tv (c_ (Bl ⟨tv,tv⟩ rfl tv) (⟨tv,Az (Cl rfl rfl tv rfl rfl rfl (nl rfl) (d0 tv (Hc (bv h0 fun v1 e2 h0=>Dc ⟨[(0,.ptr 1048576 0)],[(1048576,[.int .u64 v1])],[]⟩ (Dw (by subst e2; kernel_rfl)) (Bt (Bd (Ak tv (Cj rfl tv (⟨tv,Ak tv (c_ (Bl ⟨tv,tv⟩ rfl tv) (⟨tv,Ak tv (c_ (Bl ⟨tv,tv⟩ rfl (nl rfl)) (⟨tv,Ak tv (Cj rfl tv (⟨tv,Ak tv (c_ (Bl ⟨tv,tv⟩ rfl tv) (⟨tv,Ak tv (c_ (Bl ⟨tv,tv⟩ rfl (nl rfl)) (⟨tv,Ak tv (c_ (Bl ⟨tv,tv,tv⟩ rfl (by decide)) (⟨tv,Ak tv (c_ (Bl t3 rfl tv) (⟨tv,Ak tv (c_ (Bl ⟨tv,tv⟩ rfl tv) (⟨tv,Az (Cl rfl rfl tv rfl rfl rfl (nl rfl) (d0 tv (d_ (Ba 1 [(0,.ptr 1048576 0)] [(1048576,[.int .u64 (bZ .u64 v1 (fY .u64 v1 17))])] (Bt (As (st (Cj rfl tv (st (c_ (Bl ⟨tv,tv⟩ rfl tv) (st (c_ (Bl ⟨tv,tv⟩ rfl (nl rfl)) (st (Cj rfl tv ?_)))))))))))))) Aq⟩))⟩))⟩))⟩))⟩))⟩))⟩))⟩))⟩))))))))) Aq⟩))⟩))⟩))⟩))⟩))⟩))⟩))⟩))⟩)))
 refine o_ ?_
 obtain rfl:=sj h0
 exact Cn 2

/- slices.breakPatternsCmpFunc[loop.example/g00149/impl.Lease] -/
def SH:=[m_ 13 2,m_ 14 1,b_ .sub 15 13 14,m_ 8 15]
def SI:=[m_ 16 8,B_ .geq 17 16 8]
def SJ:=[m_ 18 8,iQ 19 (.conv .u64 (.t 18)),a_ 9 [.int .u64 0],s_ 9 19 1]
def SK:=[m_ 20 8,q_ 21 160 [.t 20],m_ 10 21]
def SL:=[m_ 22 1,m_ 23 8,B_ .quo 24 23 4,B_ .mul 25 24 2,b_ .add 26 22 25,B_ .sub 27 26 1,m_ 11 27]
def SM:=[m_ 28 11,m_ 29 1,m_ 30 8,B_ .quo 31 30 4,B_ .mul 32 31 2,b_ .add 33 29 32,B_ .add 34 33 1,b_ .leq 35 28 34]
def SN:List Cd:=[q_ 38 161 [.t 9],m_ 39 10,⟨some 40,.p (.bin .sub (.t 39) (.c (.int .u64 1))),none⟩,b_ .and 41 38 40,iQ 42 (.conv .i64 (.t 41)),m_ 12 42]
def SO:=[m_ 43 12,m_ 44 8,b_ .geq 45 43 44]
def SP:=[m_ 46 12,m_ 47 8,b_ .sub 48 46 47,m_ 12 48]
def SQ:=tk [m_ 49 0,m_ 50 11,m_ 51 0,m_ 52 1,m_ 53 12,b_ .add 54 52 53,m_ 55 0,m_ 56 1,m_ 57 12,b_ .add 58 56 57,x_ 59 55 58 4,L_ 60 59 4,m_ 61 0,m_ 62 11,x_ 63 61 62 4,L_ 64 63 4,x_ 65 49 50 4] (.alt [b_ .add 54 52 53,m_ 53 12,m_ 52 1,m_ 51 0] (s_ 65 60 4) (tk [x_ 66 51 54 4] (.alt [] (s_ 66 64 4) .fin .stop)) .stop)
def wT:=[m_ 36 11,B_ .add 37 36 1,m_ 11 37]
def SG:IR:=(.seq (sr SM (.ite (.t 35) .skip (.exit 0))) (.seq (.block 1 (sr SN (.seq (sr SO (iz 45 (.reg SP))) (.draw SQ)))) (.reg wT)))
def c150:Cz:=⟨4,67,[],sr SH (sr SI (iz 17 (sr SJ (sr SK (sr SL (Ho 0 SG))))))⟩
def K150 (C:Bj) (D:Bj:=C):Prop:=∀(a0:List Aa) (a1:Int) (a2:Int) (f3:Nat) (k3:List V) (is3:Aa→Aa→Option Int) (hs3:Io k3) (hf3:∀(x0:Aa) (x1:Aa) r,is3 x0 x1=some r→C f3 ⟨.agg (Ad x0) :: .agg (Ad x1)::k3,[]⟩ ⟨iV r,[],[]⟩) (r:(List Aa)),qX a0 a1 a2 is3=some r→D 150 ⟨[Ag 2097152 a0,iV a1,iV a2,.clo f3 k3],[]⟩ ⟨.tup [],[],[(0,4,r.map Ad)]⟩
abbrev Vt:=fun x0 x1 x2 (r:List (Nat×V))=>(0,Ag 2097152 x0)::(1,iV x1)::(9,.ptr 576 0)::(11,iV x2)::r
theorem F150 (H160:K160 C) (H161:K161 C):K150 C (FO C c150):=by
 intro a0 a1 a2 f3 k3 is3 hs3 hf3 r h0
 refine f0 (Ba 11 [(0,Ag 2097152 a0),(1,iV a1),(8,iV (wi (a2-a1))),(17,.bool (decide ((wi (a2-a1))≥8)))] [] (Ch h0 (fun c1 h0=>?_) (fun c1 h0=>?_)))
 ·refine Ba 6 [(0,Ag 2097152 a0),(1,iV a1),(8,iV (wi (a2-a1))),(9,.ptr 576 0)] [(576,[.int .u64 (IntKind.u64.wrap (wi (a2-a1)))])] (Bt (As (st (Cj rfl tv (bb h0 fun r2 e3 h0=>Jj (H160 (wi (a2-a1)) r2 e3) (o_ (Ba 2 [(0,Ag 2097152 a0),(1,iV a1),(8,iV (wi (a2-a1))),(9,.ptr 576 0),(10,.int .u64 r2)] [(576,[.int .u64 (IntKind.u64.wrap (wi (a2-a1)))])] (Ax 3 (As (st (c_ (Bl ⟨tv,tv,tv⟩ rfl (by decide)) (o_ (Ax 5 (bv h0 fun v4 e5 h0=>Dc ⟨[(0,Ag 2097152 a0),(1,iV a1),(8,iV (wi (a2-a1))),(9,.ptr 576 0),(10,.int .u64 r2),(11,iV v4)],[(576,[.int .u64 (IntKind.u64.wrap (wi (a2-a1)))])],[]⟩ (Dw (by subst e5; kernel_rfl)) (Cc (bb h0 fun r78 e79 h0=>Cr (R:=(fun S=>∃p54:List Aa,p54=r78∧S=⟨[(0,Ag 2097152 p54)],[],[]⟩)) (Ti a1 a2 r2) (fun s S=>match s with | (p27,p28,p29)=>S=⟨Vt p27 a1 p28 [(8,iV (wi (a2-a1))),(10,.int .u64 r2)],[(576,[.int .u64 p29])],[]⟩) e79 _ (Dw (by kernel_rfl)) rfl 0 (fun _=>rfl) ?_ ?_))))))))))))))))
  ·rintro S _ hfg ⟨p54,rfl,rfl⟩
   obtain rfl:=sj h0
   exact bF (bE hfg (Dx rfl rfl rfl rfl rfl ⟨⟨rfl,Ip (fun _=>rfl)⟩,tv⟩))
  ·rintro ⟨p27,p28,p29⟩ o1 _ K1 rfl h1 hx1 hK1 hE1 hR1
   unfold Ti at h1
   refine Ax 5 (As (st (c_ (Bl ⟨tv,tv,tv⟩ rfl (by decide)) (o_ (Ax 5 (bv h1 fun v55 e56 h1=>Dc ⟨Vt p27 a1 p28 [(8,iV (wi (a2-a1))),(10,.int .u64 r2),(35,.bool v55)],[(576,[.int .u64 p29])],[]⟩ (Dw (by subst e56; kernel_rfl)) (Ch h1 (fun c57 h1=>?_) (fun c57 h1=>?_))))))))
   ·refine Lr 5 (As (bb h1 fun r58 e59 h1=>Xd [576] [] [] (H161 p29 r58 e59) (At rfl rfl) (sw ⟨Vt p27 a1 p28 [(8,iV (wi (a2-a1))),(10,.int .u64 r2),(38,.int .u64 r58.1)],[(576,[.int .u64 r58.2])],[]⟩ (Dw (by kernel_rfl)) (Cj rfl tv (o_ (Ba 5 (Vt p27 a1 p28 [(8,iV (wi (a2-a1))),(10,.int .u64 r2),(12,iV (wi (fV .u64 r58.1 (IntKind.u64.wrap (r2-1)))))]) [(576,[.int .u64 r58.2])] (Ax 6 (bv h1 fun v60 e61 h1=>Dc ⟨Vt p27 a1 p28 [(8,iV (wi (a2-a1))),(10,.int .u64 r2),(12,iV (wi (fV .u64 r58.1 (IntKind.u64.wrap (r2-1))))),(45,.bool v60)],[(576,[.int .u64 r58.2])],[]⟩ (Dw (by subst e61; kernel_rfl)) (Ld (cb:=v60) (fun S=>∃p63:Int,S=⟨Vt p27 a1 p28 [(8,iV (wi (a2-a1))),(10,.int .u64 r2),(12,iV p63)],[(576,[.int .u64 r58.2])],[]⟩∧Th a1 p27 p28 r58 p63=some o1) rfl ?_ (fun c77 J76=>?_) (fun c77 J76=>?_))))))))))
    ·rintro _ ⟨p63,rfl,h1⟩
     refine Lr 1 (bb h1 fun y64 e65 h1=>bb h1 fun y66 e67 h1=>bb h1 fun y68 e69 h1=>bb h1 fun y70 e71 h1=>bb h1 fun y72 e73 h1=>bb h1 fun y74 e75 h1=>Ax 10 (Bd (d_ (Yq rfl rfl rfl e65 (Bd (Cf (c_ (Ny rfl rfl e67) (⟨⟨Cy rfl rfl e67 rfl,tv⟩,Ak tv (Cj rfl tv (⟨⟨Cy rfl rfl e67 rfl,tv⟩,Ak tv (Cj rfl tv (⟨⟨Cy rfl rfl e67 rfl,tv⟩,Ak tv (c_ (Kc rfl rfl e69) (⟨⟨Cy rfl rfl e67 rfl,tv⟩,?_⟩))⟩))⟩))⟩))))))))
     refine Cf (c_ (Ny rfl rfl e71) (⟨⟨Cy rfl rfl e71 rfl,Cy rfl rfl e67 rfl,tv⟩,Ak tv (c_ (Kc rfl rfl e69) (⟨⟨Cy rfl rfl e71 rfl,Cy rfl rfl e67 rfl,tv⟩,Az (He (y':=y66) rfl rfl tv rfl rfl rfl rfl e71 (nl rfl) rfl rfl rfl rfl (iP ⟨[(0,Ag 2097152 (p27.set p28.toNat y66)),(1,iV a1),(8,iV (wi (a2-a1))),(9,.ptr 576 0),(10,.int .u64 r2),(11,iV p28),(12,iV p63),(51,Ag 2097152 (p27.set p28.toNat y66)),(52,iV a1),(53,iV p63),(54,iV (wi (a1+p63))),(64,.agg (Ad y70))],[(576,[.int .u64 r58.2])],[]⟩ (fg ⟨congrArg (fun z=>some ((.own 2097152 0 4 z:V))) Bf,rfl,rfl,rfl,rfl,rfl,rfl,congrArg (fun z=>some ((.own 2097152 0 4 z:V))) Bf,rfl,rfl,rfl,rfl,tv⟩ ⟨rfl,tv⟩) ⟨[],⟨⟨.inl tv,Bs (Bl t3 rfl tv) rfl⟩,⟨.inl tv,Bs (Dm (v:=iV p63) rfl tv) rfl⟩,⟨.inl tv,Bs (Dm (v:=iV a1) rfl tv) rfl⟩,⟨.inl tv,Bs (Dm (v:=Ag 2097152 (p27.set p28.toNat y66)) rfl tv) rfl⟩,tv⟩,tv,Ak tv (c_ (Kc rfl rfl e73) (⟨tv,Az (He (y':=y70) rfl rfl tv rfl rfl rfl rfl e75 (nl rfl) rfl rfl rfl rfl (d0 tv (Hc (Su (Dc ⟨[(0,Ag 2097152 ((p27.set p28.toNat y66).set ((wi (a1+p63)).toNat) y70)),(1,iV a1),(8,iV (wi (a2-a1))),(9,.ptr 576 0),(10,.int .u64 r2),(11,iV p28)],[(576,[.int .u64 r58.2])],[]⟩ (fg ⟨congrArg (fun z=>some ((.own 2097152 0 4 z:V))) Bf,rfl,rfl,rfl,rfl,rfl,tv⟩ ⟨rfl,tv⟩) (As (st (Cj rfl tv (st (c_ (Bl t3 rfl tv) (st (Cj rfl tv (Ha ?_))))))))))))) Aq⟩))⟩)) Aq⟩))⟩))
     obtain rfl:=sj h1
     exact kn hK1 rfl rfl
    ·replace h1:=ip c77 h1
     refine Ax 5 ?_
     exact jn J76 ⟨_,rfl,h1⟩
    ·replace h1:=aB c77 h1
     refine Lc ?_
     exact jn J76 ⟨_,rfl,h1⟩
   ·obtain rfl:=sj h1
    obtain rfl:=hx1 _ rfl
    refine Hq rfl ?_
    exact jn hE1 ⟨_,rfl,rfl⟩
 ·refine Lc ?_
  obtain rfl:=sj h0
  exact bF (Dx rfl rfl rfl rfl rfl ⟨⟨rfl,Ip (fun _=>rfl)⟩,tv⟩)

/- slices.order2CmpFunc[loop.example/g00149/impl.Lease] -/
def WS:=[i_ 10 0,i_ 11 0]
def WT:=tk [m_ 12 4,m_ 13 0,m_ 14 2,x_ 15 13 14 4,L_ 16 15 4,m_ 17 0,m_ 18 1,x_ 19 17 18 4,L_ 20 19 4] (.alt [] ⟨some 21,.callv (.t 12) [.t 16,.t 20],none⟩ (tk [B_ .lss 22 21 0] .fin) .stop)
def WU:=[m_ 23 3,iQ 24 (.nilc (.t 23)),l_ 25 24 1,B_ .add 26 25 1,iQ 27 (.nilc (.t 23)),s_ 27 26 1]
def WV:=[m_ 28 2,m_ 29 1,m_ 10 28,m_ 11 29]
def WW:=[m_ 30 1,m_ 31 2,m_ 10 30,m_ 11 31]
def c165:Cz:=⟨5,32,[.t 10,.t 11],sr WS (.seq (sd WT (iz 22 (sr WU (rr WV)))) (rr WW))⟩
def K165 (C:Bj) (D:Bj:=C):Prop:=∀(a0:List Aa) (a1:Int) (a2:Int) (a3:Int) (f4:Nat) (k4:List V) (is4:Aa→Aa→Option Int) (hs4:Io k4) (hf4:∀(x0:Aa) (x1:Aa) r,is4 x0 x1=some r→C f4 ⟨.agg (Ad x0) :: .agg (Ad x1)::k4,[]⟩ ⟨iV r,[],[]⟩) (r:Int×Int×Int),qZ a0 a1 a2 a3 is4=some r→D 165 ⟨[Bp a0,iV a1,iV a2,.ptr 1048576 0,.clo f4 k4],[[iV a3]]⟩ ⟨.tup [iV r.1,iV r.2.1],[[iV r.2.2]],[]⟩
theorem F165:K165 C (FO C c165):=by
 intro a0 a1 a2 a3 f4 k4 is4 hs4 hf4 r h0
 refine f0 (Ba 4 [(0,Bp a0),(1,iV a1),(2,iV a2),(3,.ptr 1048576 0),(4,.clo f4 k4)] [(1048576,[iV a3])] (Bt (Bt (bb h0 fun y1 e2 h0=>bb h0 fun y3 e4 h0=>bb h0 fun r5 e6 h0=>Ax 3 (Bd (d_ (sI rfl rfl rfl e2 (Ax 3 (Bd (d_ (sI rfl rfl rfl e4 (Bd (Ak tv (c_ (v:=.agg (Ad y3)) (Bl ⟨tv,tv⟩ rfl (nl rfl)) (⟨tv,Az (Gt (r:=iV r5) rfl false (hf4 _ _ r5 e6) ⟨tv,tv,tv⟩ (ar (At rfl hs4.2.2.1)) (Be rfl (Be rfl (hs4.2.1 _ _ _ _ _))) (fun _=>rfl) (dw [(1,iV a1),(2,iV a2),(3,.ptr 1048576 0),(21,iV r5)] [(1048576,[iV a3])] tv (d_ (Ba 2 [(1,iV a1),(2,iV a2),(3,.ptr 1048576 0),(22,.bool (decide (r5<0)))] [(1048576,[iV a3])] (Ch h0 (fun c7 h0=>?_) (fun c7 h0=>?_)))))) Aq⟩)))))))))))))))
 ·obtain rfl:=sj h0
  exact Cn 16
 ·obtain rfl:=sj h0
  exact Cn 9

/- slices.medianCmpFunc[loop.example/g00149/impl.Lease] -/
def WN:=[i_ 12 0]
def WO:=[m_ 14 0,m_ 15 1,m_ 16 2,m_ 17 4,m_ 18 5,q_ 19 165 [.t 14,.t 15,.t 16,.t 17,.t 18],m_ 13 19,e_ 20 13 0,e_ 21 13 1,m_ 1 20,m_ 2 21]
def WP:=[m_ 23 0,m_ 24 2,m_ 25 3,m_ 26 4,m_ 27 5,q_ 28 165 [.t 23,.t 24,.t 25,.t 26,.t 27],m_ 22 28,e_ 29 22 0,e_ 30 22 1,m_ 2 29,m_ 3 30]
def WQ:=[m_ 32 0,m_ 33 1,m_ 34 2,m_ 35 4,m_ 36 5,q_ 37 165 [.t 32,.t 33,.t 34,.t 35,.t 36],m_ 31 37,e_ 38 31 0,e_ 39 31 1,m_ 1 38,m_ 2 39]
def WR:=[m_ 40 2,m_ 12 40]
def c163:Cz:=⟨6,41,[.t 12],sr WN (sr WO (sr WP (sr WQ (rr WR))))⟩
def GP (C:Bj) (D:Bj:=C):Prop:=∀(a0:List Aa) (a1:Int) (a2:Int) (a3:Int) (a4:Int) (f5:Nat) (k5:List V) (is5:Aa→Aa→Option Int) (hs5:Io k5) (hf5:∀(x0:Aa) (x1:Aa) r,is5 x0 x1=some r→C f5 ⟨.agg (Ad x0) :: .agg (Ad x1)::k5,[]⟩ ⟨iV r,[],[]⟩) (r:Int×Int),CJ a0 a1 a2 a3 a4 is5=some r→D 163 ⟨[Bp a0,iV a1,iV a2,iV a3,.ptr 1048576 0,.clo f5 k5],[[iV a4]]⟩ ⟨iV r.1,[[iV r.2]],[]⟩
theorem F163 (H165:K165 C):GP C (FO C c163):=by
 intro a0 a1 a2 a3 a4 f5 k5 is5 hs5 hf5 r h0
 refine f0 (Ba 3 [(0,Bp a0),(1,iV a1),(2,iV a2),(3,iV a3),(4,.ptr 1048576 0),(5,.clo f5 k5)] [(1048576,[iV a4])] (Ax 6 (As (bb h0 fun r1 e2 h0=>st (Ed [1048576] [] [] false (H165 a0 a1 a2 a4 f5 k5 is5 hs5 hf5 r1 e2) ⟨tv,tv,tv,tv,tv,tv⟩ (by kernel_rfl) (congrArg (fun z=>Gj.mk z [[iV a4]]) (Be rfl (Be rfl (Be rfl (Be rfl (Be (Eo hs5) rfl)))))) (by kernel_rfl) (by kernel_rfl) (fun _=>At rfl rfl) (o_ (Ba 6 [(0,Bp a0),(1,iV r1.1),(2,iV r1.2.1),(3,iV a3),(4,.ptr 1048576 0),(5,.clo f5 k5)] [(1048576,[iV r1.2.2])] (Ax 6 (As (bb h0 fun r3 e4 h0=>st (Ed [1048576] [] [] false (H165 a0 r1.2.1 a3 r1.2.2 f5 k5 is5 hs5 hf5 r3 e4) ⟨tv,tv,tv,tv,tv,tv⟩ (by kernel_rfl) (congrArg (fun z=>Gj.mk z [[iV r1.2.2]]) (Be rfl (Be rfl (Be rfl (Be rfl (Be (Eo hs5) rfl)))))) (by kernel_rfl) (by kernel_rfl) (fun _=>At rfl rfl) (o_ (Ba 6 [(0,Bp a0),(1,iV r1.1),(2,iV r3.1),(4,.ptr 1048576 0),(5,.clo f5 k5)] [(1048576,[iV r3.2.2])] (Ax 6 (As (bb h0 fun r5 e6 h0=>st (Ed [1048576] [] [] false (H165 a0 r1.1 r3.1 r3.2.2 f5 k5 is5 hs5 hf5 r5 e6) ⟨tv,tv,tv,tv,tv,tv⟩ (by kernel_rfl) (congrArg (fun z=>Gj.mk z [[iV r3.2.2]]) (Be rfl (Be rfl (Be rfl (Be rfl (Be (Eo hs5) rfl)))))) (by kernel_rfl) (by kernel_rfl) (fun _=>At rfl rfl) (o_ ?_))))))))))))))))))
 obtain rfl:=sj h0
 exact Cn 12

/- slices.medianAdjacentCmpFunc[loop.example/g00149/impl.Lease] -/
def WK:=[i_ 8 0]
def WM:=[m_ 9 0,m_ 10 1,B_ .sub 11 10 1,m_ 12 1,m_ 13 1,B_ .add 14 13 1,m_ 15 2,m_ 16 3,q_ 17 163 [.t 9,.t 11,.t 12,.t 14,.t 15,.t 16],m_ 8 17]
def WJ:Cz:=⟨4,18,[.t 8],sr WK (rr WM)⟩
def K162 (C:Bj) (D:Bj:=C):Prop:=∀(a0:List Aa) (a1:Int) (a2:Int) (f3:Nat) (k3:List V) (is3:Aa→Aa→Option Int) (hs3:Io k3) (hf3:∀(x0:Aa) (x1:Aa) r,is3 x0 x1=some r→C f3 ⟨.agg (Ad x0) :: .agg (Ad x1)::k3,[]⟩ ⟨iV r,[],[]⟩) (r:Int×Int),qY a0 a1 a2 is3=some r→D 162 ⟨[Bp a0,iV a1,.ptr 1048576 0,.clo f3 k3],[[iV a2]]⟩ ⟨iV r.1,[[iV r.2]],[]⟩
theorem F162 (H163:GP C):K162 C (FO C WJ):=by
 intro a0 a1 a2 f3 k3 is3 hs3 hf3 r h0
 refine f0 (Ba 3 [(0,Bp a0),(1,iV a1),(2,.ptr 1048576 0),(3,.clo f3 k3)] [(1048576,[iV a2])] (Ax 9 (As (bb h0 fun r1 e2 h0=>st (Ed [1048576] [] [] false (H163 a0 (wi (a1-1)) a1 (wi (a1+1)) a2 f3 k3 is3 hs3 hf3 r1 e2) ⟨tv,tv,tv,tv,tv,tv,tv⟩ (by kernel_rfl) (congrArg (fun z=>Gj.mk z [[iV a2]]) (Be rfl (Be rfl (Be rfl (Be rfl (Be rfl (Be (Eo hs3) rfl))))))) (by kernel_rfl) (by kernel_rfl) (fun _=>At rfl rfl) (o_ ?_))))))
 obtain rfl:=sj h0
 exact Cn 3

/- slices.choosePivotCmpFunc[loop.example/g00149/impl.Lease] -/
def SR:=[i_ 8 0,i_ 9 0]
def SS:=[m_ 15 2,m_ 16 1,b_ .sub 17 15 16,m_ 10 17]
def ST:=[a_ 11 [iV 0]]
def SU:=[m_ 18 1,m_ 19 10,B_ .quo 20 19 4,B_ .mul 21 20 1,b_ .add 22 18 21,m_ 12 22]
def SV:=[m_ 23 1,m_ 24 10,B_ .quo 25 24 4,B_ .mul 26 25 2,b_ .add 27 23 26,m_ 13 27]
def SW:=[m_ 28 1,m_ 29 10,B_ .quo 30 29 4,B_ .mul 31 30 3,b_ .add 32 28 31,m_ 14 32]
def SX:=[m_ 33 10,B_ .geq 34 33 8]
def SY:=[m_ 35 10,B_ .geq 36 35 50]
def SZ:=[m_ 37 0,m_ 38 12,m_ 39 3,q_ 40 162 [.t 37,.t 38,.t 11,.t 39],m_ 12 40]
def TA:=[m_ 41 0,m_ 42 13,m_ 43 3,q_ 44 162 [.t 41,.t 42,.t 11,.t 43],m_ 13 44]
def wU:=[m_ 45 0,m_ 46 14,m_ 47 3,q_ 48 162 [.t 45,.t 46,.t 11,.t 47],m_ 14 48]
def wV:=[m_ 49 0,m_ 50 12,m_ 51 13,m_ 52 14,m_ 53 3,q_ 54 163 [.t 49,.t 50,.t 51,.t 52,.t 11,.t 53],m_ 13 54]
def wW:=[l_ 55 11 1]
def wX:=[B_ .eql 58 55 0,m_ 57 58]
def wY:=[m_ 59 13,m_ 8 59,i_ 9 1]
def wZ:=[B_ .eql 61 55 12,m_ 60 61]
def xA:=[m_ 62 13,m_ 8 62,i_ 9 2]
def xB:=[m_ 56 13,m_ 8 56,i_ 9 0]
def c151:Cz:=⟨4,63,[.t 8,.t 9],sr SR (sr SS (sr ST (sr SU (sr SV (sr SW (.seq (sr SX (iz 34 (.seq (sr SY (iz 36 (sr SZ (sr TA (.reg wU))))) (.reg wV)))) (sr wW (.block 0 (sr wX (.ite (.t 57) (rr wY) (sr wZ (.ite (.t 60) (rr xA) (rr xB)))))))))))))⟩
def K151 (C:Bj) (D:Bj:=C):Prop:=∀(a0:List Aa) (a1:Int) (a2:Int) (f3:Nat) (k3:List V) (is3:Aa→Aa→Option Int) (hs3:Io k3) (hf3:∀(x0:Aa) (x1:Aa) r,is3 x0 x1=some r→C f3 ⟨.agg (Ad x0) :: .agg (Ad x1)::k3,[]⟩ ⟨iV r,[],[]⟩) (r:Int×Int),Adf a0 a1 a2 is3=some r→D 151 ⟨[Bp a0,iV a1,iV a2,.clo f3 k3],[]⟩ ⟨.tup [iV r.1,iV r.2],[],[]⟩
abbrev aT:=fun x0 x1 x2 (r:List (Nat×V))=>(0,Bp x0)::(3,.clo x1 x2)::(11,.ptr 704 0)::r
theorem F151 (H162:K162 C) (H163:GP C):K151 C (FO C c151):=by
 intro a0 a1 a2 f3 k3 is3 hs3 hf3 r h0
 refine f0 (Ba 11 [(0,Bp a0),(1,iV a1),(3,.clo f3 k3),(10,iV (wi (a2-a1)))] [] (Bt (As (st (Ce (Ha (Dc ⟨[(0,Bp a0),(1,iV a1),(3,.clo f3 k3),(10,iV (wi (a2-a1))),(11,.ptr 704 0)],[(704,[iV 0])],[]⟩ (fg ⟨rfl,rfl,congrArg (fun z=>some z) (iR hs3),rfl,rfl,tv⟩ ⟨rfl,tv⟩) (Ax 3 (As (st (c_ (Bl ⟨tv,tv,tv⟩ rfl (by decide)) (o_ (Ax 4 (bv h0 fun v1 e2 h0=>Dc ⟨[(0,Bp a0),(1,iV a1),(3,.clo f3 k3),(10,iV (wi (a2-a1))),(11,.ptr 704 0),(12,iV v1)],[(704,[iV 0])],[]⟩ (fg ⟨(by subst e2; rfl),(by subst e2; rfl),(by subst e2; rfl),(by subst e2; rfl),(by subst e2; rfl),(by subst e2; rfl),tv⟩ ⟨(by subst e2; rfl),tv⟩) (Ax 3 (As (st (c_ (Bl ⟨tv,tv,tv⟩ rfl (by decide)) (o_ (Ax 4 (bv h0 fun v3 e4 h0=>Dc ⟨[(0,Bp a0),(1,iV a1),(3,.clo f3 k3),(10,iV (wi (a2-a1))),(11,.ptr 704 0),(12,iV v1),(13,iV v3)],[(704,[iV 0])],[]⟩ (fg ⟨(by subst e4; rfl),(by subst e4; rfl),(by subst e4; rfl),(by subst e4; rfl),(by subst e4; rfl),(by subst e4; rfl),(by subst e4; rfl),tv⟩ ⟨(by subst e4; rfl),tv⟩) (Ax 3 (As (st (c_ (Bl ⟨tv,tv,tv⟩ rfl (by decide)) (o_ (Ax 4 (bv h0 fun v5 e6 h0=>Dc ⟨[(0,Bp a0),(3,.clo f3 k3),(10,iV (wi (a2-a1))),(11,.ptr 704 0),(12,iV v1),(13,iV v3),(14,iV v5)],[(704,[iV 0])],[]⟩ (fg ⟨(by subst e6; rfl),(by subst e6; rfl),(by subst e6; rfl),(by subst e6; rfl),(by subst e6; rfl),(by subst e6; rfl),(by subst e6; rfl),tv⟩ ⟨(by subst e6; rfl),tv⟩) (Ba 5 (aT a0 f3 k3 [(10,iV (wi (a2-a1))),(12,iV v1),(13,iV v3),(14,iV v5),(34,.bool (decide ((wi (a2-a1))≥8)))]) [(704,[iV 0])] (Ld (cb:=(decide ((wi (a2-a1))≥8))) (fun S=>∃p21:Int,∃p22:Int,S=⟨[(11,.ptr 704 0),(13,iV p21)],[(704,[iV p22])],[]⟩∧Tj p21 p22=some r) rfl ?_ (fun oB J25=>?_) (fun oB J25=>?_)))))))))))))))))))))))))))))))
 ·rintro _ ⟨p21,p22,rfl,h0⟩
  refine Ba 10 [(13,iV p21),(55,iV p22),(57,.bool (p22==0))] [] (Ch h0 (fun c23 h0=>?_) (fun c23 h0=>?_))
  ·obtain rfl:=sj h0
   exact Cn 6
  ·refine Ba 4 [(13,iV p21),(60,.bool (p22==12))] [] (Ch h0 (fun c24 h0=>?_) (fun c24 h0=>?_))
   ·obtain rfl:=sj h0
    exact Cn 6
   ·obtain rfl:=sj h0
    exact Cn 6
 ·replace h0:=ip oB h0
  refine Ba 5 (aT a0 f3 k3 [(12,iV v1),(13,iV v3),(14,iV v5),(36,.bool (decide ((wi (a2-a1))≥50)))]) [(704,[iV 0])] (Ld (cb:=(decide ((wi (a2-a1))≥50))) (fun S=>∃p34:Int,∃p35:Int,∃p36:Int,∃p37:Int,S=⟨aT a0 f3 k3 [(12,iV p34),(13,iV p35),(14,iV p36)],[(704,[iV p37])],[]⟩∧Tl a0 is3 p34 p35 p36 p37=some r) rfl ?_ (fun c41 J40=>?_) (fun c41 J40=>?_))
  ·rintro _ ⟨p34,p35,p36,p37,rfl,h0⟩
   refine Ax 6 (As (bb h0 fun r38 e39 h0=>st (Ed [704] [] [] false (H163 a0 p34 p35 p36 p37 f3 k3 is3 hs3 hf3 r38 e39) ⟨tv,tv,tv,tv,tv,tv,tv⟩ (by kernel_rfl) (congrArg (fun z=>Gj.mk z [[iV p37]]) (Be rfl (Be rfl (Be rfl (Be rfl (Be rfl (Be (Eo hs3) rfl))))))) (by kernel_rfl) (by kernel_rfl) (fun _=>At rfl rfl) (st (Cj rfl tv (Ha ?_))))))
   exact jn J25 ⟨_,_,rfl,h0⟩
  ·replace h0:=ip c41 h0
   refine Ax 4 (As (bb h0 fun r42 e43 h0=>st (Ed [704] [] [] false (H162 a0 v1 0 f3 k3 is3 hs3 hf3 r42 e43) ⟨tv,tv,tv,tv,tv⟩ (by kernel_rfl) (congrArg (fun z=>Gj.mk z [[iV 0]]) (Be rfl (Be rfl (Be rfl (Be (Eo hs3) rfl))))) (by kernel_rfl) (by kernel_rfl) (fun _=>At rfl rfl) (o_ (Ba 2 (aT a0 f3 k3 [(12,iV r42.1),(13,iV v3),(14,iV v5)]) [(704,[iV r42.2])] (Ax 4 (As (bb h0 fun r44 e45 h0=>st (Ed [704] [] [] false (H162 a0 v3 r42.2 f3 k3 is3 hs3 hf3 r44 e45) ⟨tv,tv,tv,tv,tv⟩ (by kernel_rfl) (congrArg (fun z=>Gj.mk z [[iV r42.2]]) (Be rfl (Be rfl (Be rfl (Be (Eo hs3) rfl))))) (by kernel_rfl) (by kernel_rfl) (fun _=>At rfl rfl) (o_ (Ba 2 (aT a0 f3 k3 [(12,iV r42.1),(13,iV r44.1),(14,iV v5)]) [(704,[iV r44.2])] (Ax 3 (As (bb h0 fun r46 e47 h0=>st (Ed [704] [] [] false (H162 a0 v5 r44.2 f3 k3 is3 hs3 hf3 r46 e47) ⟨tv,tv,tv,tv,tv⟩ (by kernel_rfl) (congrArg (fun z=>Gj.mk z [[iV r44.2]]) (Be rfl (Be rfl (Be rfl (Be (Eo hs3) rfl))))) (by kernel_rfl) (by kernel_rfl) (fun _=>At rfl rfl) (st (Cj rfl tv (Ha ?_))))))))))))))))))
   exact jn J40 ⟨_,_,_,_,rfl,h0⟩
  ·replace h0:=aB c41 h0
   refine Lc ?_
   exact jn J40 ⟨_,_,_,_,rfl,h0⟩
 ·replace h0:=aB oB h0
  refine Lc ?_
  exact jn J25 ⟨_,_,rfl,h0⟩

/- slices.reverseRangeCmpFunc[loop.example/g00149/impl.Lease] -/
def TC:=[m_ 10 1,m_ 8 10]
def TD:=[m_ 11 2,B_ .sub 12 11 1,m_ 9 12]
def TE:=[m_ 13 8,m_ 14 9,b_ .lss 15 13 14]
def TF:=tk [m_ 16 0,m_ 17 8,m_ 18 0,m_ 19 9,m_ 20 0,m_ 21 9,x_ 22 20 21 4,L_ 23 22 4,m_ 24 0,m_ 25 8,x_ 26 24 25 4,L_ 27 26 4,x_ 28 16 17 4] (.alt [m_ 19 9,m_ 18 0] (s_ 28 23 4) (tk [x_ 29 18 19 4] (.alt [] (s_ 29 27 4) .fin .stop)) .stop)
def TG:=[m_ 30 8,B_ .add 31 30 1,m_ 8 31]
def TH:=[m_ 32 9,B_ .sub 33 32 1,m_ 9 33]
def TB:IR:=(.seq (sr TE (.ite (.t 15) .skip (.exit 0))) (.block 1 (sd TF (sr TG (.reg TH)))))
def c152:Cz:=⟨4,34,[],sr TC (sr TD (Ho 0 TB))⟩
def K152 (C:Bj) (D:Bj:=C):Prop:=∀(a0:List Aa) (a1:Int) (a2:Int) (f3:Nat) (k3:List V) (is3:Aa→Aa→Option Int) (hs3:Io k3) (hf3:∀(x0:Aa) (x1:Aa) r,is3 x0 x1=some r→C f3 ⟨.agg (Ad x0) :: .agg (Ad x1)::k3,[]⟩ ⟨iV r,[],[]⟩) (r:(List Aa)),Adh a0 a1 a2 is3=some r→D 152 ⟨[Ag 2097152 a0,iV a1,iV a2,.clo f3 k3],[]⟩ ⟨.tup [],[],[(0,4,r.map Ad)]⟩
theorem F152:K152 C (FO C c152):=by
 intro a0 a1 a2 f3 k3 is3 hs3 hf3 r h0
 refine f0 (Ba 10 [(0,Ag 2097152 a0),(8,iV a1),(9,iV (wi (a2-1)))] [] (Cc (bb h0 fun r47 e48 h0=>Cr (R:=(fun S=>∃p33:List Aa,p33=r47∧S=⟨[(0,Ag 2097152 p33)],[],[]⟩)) (Xz) (fun s S=>match s with | (p14,p15,p16)=>S=⟨[(0,Ag 2097152 p14),(8,iV p15),(9,iV p16)],[],[]⟩) e48 _ (Dw (by kernel_rfl)) rfl 0 (fun _=>rfl) ?_ ?_)))
 ·rintro S _ hfg ⟨p33,rfl,rfl⟩
  obtain rfl:=sj h0
  exact bF (bE hfg (Dx rfl rfl rfl rfl rfl ⟨⟨rfl,Ip (fun _=>rfl)⟩,tv⟩))
 ·rintro ⟨p14,p15,p16⟩ o1 _ K1 rfl h1 hx1 hK1 hE1 hR1
  refine Ba 6 [(0,Ag 2097152 p14),(8,iV p15),(9,iV p16),(15,.bool (decide (p15<p16)))] [] (Ch h1 (fun c34 h1=>?_) (fun c34 h1=>?_))
  ·refine Lr 4 (bb h1 fun y35 e36 h1=>bb h1 fun y37 e38 h1=>bb h1 fun y39 e40 h1=>bb h1 fun y41 e42 h1=>bb h1 fun y43 e44 h1=>bb h1 fun y45 e46 h1=>Ax 6 (Bd (d_ (Yq rfl rfl rfl e36 (Bd (Cf (c_ (Ny rfl rfl e38) (⟨⟨Cy rfl rfl e38 rfl,tv⟩,Ak tv (Cj rfl tv (⟨⟨Cy rfl rfl e38 rfl,tv⟩,Ak tv (Cj rfl tv (⟨⟨Cy rfl rfl e38 rfl,tv⟩,Ak tv (c_ (Kc rfl rfl e40) (⟨⟨Cy rfl rfl e38 rfl,tv⟩,Cf (c_ (Ny rfl rfl e42) (⟨⟨Cy rfl rfl e42 rfl,Cy rfl rfl e38 rfl,tv⟩,Ak tv (c_ (Kc rfl rfl e40) (⟨⟨Cy rfl rfl e42 rfl,Cy rfl rfl e38 rfl,tv⟩,Az (He (y':=y37) rfl rfl tv rfl rfl rfl rfl e42 (nl rfl) rfl rfl rfl rfl (iP ⟨[(0,Ag 2097152 (p14.set p15.toNat y37)),(8,iV p15),(9,iV p16),(18,Ag 2097152 (p14.set p15.toNat y37)),(19,iV p16),(27,.agg (Ad y41))],[],[]⟩ (fg ⟨congrArg (fun z=>some ((.own 2097152 0 4 z:V))) Bf,rfl,rfl,congrArg (fun z=>some ((.own 2097152 0 4 z:V))) Bf,rfl,rfl,tv⟩ tv) ⟨[],⟨⟨.inl tv,Bs (Dm (v:=iV p16) rfl tv) rfl⟩,⟨.inl tv,Bs (Dm (v:=Ag 2097152 (p14.set p15.toNat y37)) rfl tv) rfl⟩,tv⟩,tv,Ak tv (c_ (Kc rfl rfl e44) (⟨tv,?_⟩))⟩)) Aq⟩))⟩))⟩))⟩))⟩))⟩))))))))
   refine Az (He (y':=y41) rfl rfl tv rfl rfl rfl rfl e46 (nl rfl) rfl rfl rfl rfl (d0 tv (Hc (Dc ⟨[(0,Ag 2097152 ((p14.set p15.toNat y37).set p16.toNat y41)),(8,iV p15),(9,iV p16)],[],[]⟩ (fg ⟨congrArg (fun z=>some ((.own 2097152 0 4 z:V))) Bf,rfl,rfl,tv⟩ tv) (Ba 5 [(0,Ag 2097152 ((p14.set p15.toNat y37).set p16.toNat y41)),(8,iV (wi (p15+1))),(9,iV p16)] [] (Ax 5 ?_)))))) Aq
   obtain rfl:=sj h1
   exact kn hK1 rfl rfl
  ·obtain rfl:=sj h1
   obtain rfl:=hx1 _ rfl
   refine Hq rfl ?_
   exact jn hE1 ⟨_,rfl,rfl⟩

/- slices.partialInsertionSortCmpFunc[loop.example/g00149/impl.Lease] -/
def TM:=[k_ 8 (.bool false)]
def TN:=[m_ 13 1,B_ .add 14 13 1,m_ 9 14]
def TO:=[i_ 10 0]
def TP:=[m_ 15 10,B_ .lss 16 15 5]
def TQ:=tk [m_ 19 9,m_ 20 2,b_ .lss 21 19 20,m_ 22 21,mT 22 23 3,mT 22 24 0,mT 22 25 9,xT 22 26 24 25 4,lT 22 27 26 4 true,mT 22 28 0,mT 22 29 9,pT 22 30 (.bin .sub (.t 29) (.c (iV 1))),xT 22 31 28 30 4,lT 22 32 31 4 true] (.alt [] ⟨some 33,.callv (.t 23) [.t 27,.t 32],some (22,true)⟩ (tk [pT 22 34 (.bin .lss (.t 33) (.c (iV 0))),pT 22 35 (.un .not (.t 34)),pa 36 22 35] .fin) .stop)
def TR:=[m_ 37 9,B_ .add 38 37 1,m_ 9 38]
def TI:IR:=(.seq (sd TQ (.ite (.t 36) .skip (.exit 2))) (.block 3 (.reg TR)))
def TT:=[m_ 39 9,m_ 40 2,b_ .eql 41 39 40]
def TU:=[k_ 8 (.bool true)]
def TV:=[m_ 42 2,m_ 43 1,b_ .sub 44 42 43,B_ .lss 45 44 50]
def TW:=[k_ 8 (.bool false)]
def xC:=tk [m_ 46 0,m_ 47 9,m_ 48 0,m_ 49 9,B_ .sub 50 49 1,m_ 51 0,m_ 52 9,B_ .sub 53 52 1,x_ 54 51 53 4,L_ 55 54 4,m_ 56 0,m_ 57 9,x_ 58 56 57 4,L_ 59 58 4,x_ 60 46 47 4] (.alt [B_ .sub 50 49 1,m_ 49 9,m_ 48 0] (s_ 60 55 4) (tk [x_ 61 48 50 4] (.alt [] (s_ 61 59 4) .fin .stop)) .stop)
def xD:=[m_ 62 9,m_ 63 1,b_ .sub 64 62 63,B_ .geq 65 64 2]
def xE:=[m_ 66 9,B_ .sub 67 66 1,m_ 11 67]
def xG:=[m_ 68 11,B_ .geq 69 68 1]
def xH:=tk [m_ 72 3,m_ 73 0,m_ 74 11,x_ 75 73 74 4,L_ 76 75 4,m_ 77 0,m_ 78 11,B_ .sub 79 78 1,x_ 80 77 79 4,L_ 81 80 4] (.alt [] ⟨some 82,.callv (.t 72) [.t 76,.t 81],none⟩ (tk [B_ .lss 83 82 0,N_ 84 83] .fin) .stop)
def xI:=tk [m_ 85 0,m_ 86 11,m_ 87 0,m_ 88 11,B_ .sub 89 88 1,m_ 90 0,m_ 91 11,B_ .sub 92 91 1,x_ 93 90 92 4,L_ 94 93 4,m_ 95 0,m_ 96 11,x_ 97 95 96 4,L_ 98 97 4,x_ 99 85 86 4] (.alt [B_ .sub 89 88 1,m_ 88 11,m_ 87 0] (s_ 99 94 4) (tk [x_ 100 87 89 4] (.alt [] (s_ 100 98 4) .fin .stop)) .stop)
def xJ:=[m_ 70 11,B_ .sub 71 70 1,m_ 11 71]
def TJ:IR:=(.seq (sr xG (.ite (.t 69) .skip (.exit 4))) (.seq (.block 5 (.seq (sd xH (iz 84 (.exit 4))) (.draw xI))) (.reg xJ)))
def xK:=[m_ 101 2,m_ 102 9,b_ .sub 103 101 102,B_ .geq 104 103 2]
def xL:=[m_ 105 9,B_ .add 106 105 1,m_ 12 106]
def xM:=[m_ 107 12,m_ 108 2,b_ .lss 109 107 108]
def xN:=tk [m_ 112 3,m_ 113 0,m_ 114 12,x_ 115 113 114 4,L_ 116 115 4,m_ 117 0,m_ 118 12,B_ .sub 119 118 1,x_ 120 117 119 4,L_ 121 120 4] (.alt [] ⟨some 122,.callv (.t 112) [.t 116,.t 121],none⟩ (tk [B_ .lss 123 122 0,N_ 124 123] .fin) .stop)
def xO:=tk [m_ 125 0,m_ 126 12,m_ 127 0,m_ 128 12,B_ .sub 129 128 1,m_ 130 0,m_ 131 12,B_ .sub 132 131 1,x_ 133 130 132 4,L_ 134 133 4,m_ 135 0,m_ 136 12,x_ 137 135 136 4,L_ 138 137 4,x_ 139 125 126 4] (.alt [B_ .sub 129 128 1,m_ 128 12,m_ 127 0] (s_ 139 134 4) (tk [x_ 140 127 129 4] (.alt [] (s_ 140 138 4) .fin .stop)) .stop)
def xP:=[m_ 110 12,B_ .add 111 110 1,m_ 12 111]
def TK:IR:=(.seq (sr xM (.ite (.t 109) .skip (.exit 6))) (.seq (.block 7 (.seq (sd xN (iz 124 (.exit 6))) (.draw xO))) (.reg xP)))
def xQ:=[m_ 17 10,B_ .add 18 17 1,m_ 10 18]
def TL:IR:=(.seq (sr TP (.ite (.t 16) .skip (.exit 0))) (.seq (.block 1 (.seq (Ho 2 TI) (.seq (sr TT (iz 41 (rr TU))) (.seq (sr TV (iz 45 (rr TW))) (sd xC (.seq (sr xD (iz 65 (sr xE (Ho 4 TJ)))) (sr xK (iz 104 (sr xL (Ho 6 TK)))))))))) (.reg xQ)))
def xR:=[k_ 8 (.bool false)]
def c153:Cz:=⟨4,141,[.t 8],sr TM (sr TN (.seq (sr TO (Ho 0 TL)) (rr xR)))⟩
def K153 (C:Bj) (D:Bj:=C):Prop:=∀(a0:List Aa) (a1:Int) (a2:Int) (f3:Nat) (k3:List V) (is3:Aa→Aa→Option Int) (hs3:Io k3) (hf3:∀(x0:Aa) (x1:Aa) r,is3 x0 x1=some r→C f3 ⟨.agg (Ad x0) :: .agg (Ad x1)::k3,[]⟩ ⟨iV r,[],[]⟩) (r:Bool×(List Aa)),Adj a0 a1 a2 is3=some r→D 153 ⟨[Ag 2097152 a0,iV a1,iV a2,.clo f3 k3],[]⟩ ⟨.bool r.1,[],[(0,4,r.2.map Ad)]⟩
abbrev Et:=fun x0 x1 x2 x3 x4 (r:List (Nat×V))=>(1,iV x0)::(2,iV x1)::(3,.clo x2 x3)::(10,iV x4)::r
theorem F153:K153 C (FO C c153):=by
 intro a0 a1 a2 f3 k3 is3 hs3 hf3 r h0
 refine f0 (Ba 14 [(0,Ag 2097152 a0),(1,iV a1),(2,iV a2),(3,.clo f3 k3),(9,iV (wi (a1+1))),(10,iV 0)] [] (Cc (bb h0 fun r738 e739 h0=>Cr (R:=(fun S=>∃p313:List Aa,.inl p313=r738∧S=⟨[(0,Ag 2097152 p313)],[],[]⟩)) (Yb a1 a2 is3) (fun s S=>match s with | (p154,p155,p156)=>S=⟨Et a1 a2 f3 k3 p156 [(0,Ag 2097152 p154),(9,iV p155)],[],[]⟩) e739 _ (Dw (by kernel_rfl)) rfl 0 (fun _=>rfl) ?_ ?_)))
 ·rintro S _ hfg ⟨p313,rfl,rfl⟩
  refine Dc _ hfg (Ba 3 [(0,Ag 2097152 p313),(8,.bool false)] [] ?_)
  obtain rfl:=sj h0
  exact Ka (Dx rfl rfl rfl rfl rfl ⟨⟨rfl,Ip (fun _=>rfl)⟩,tv⟩)
 ·rintro ⟨p154,p155,p156⟩ o1 _ K1 rfl h1 hx1 hK1 hE1 hR1
  refine Ba 5 (Et a1 a2 f3 k3 p156 [(0,Ag 2097152 p154),(9,iV p155),(16,.bool (decide (p156<5)))]) [] (Ch h1 (fun c314 h1=>?_) (fun c314 h1=>?_))
  ·refine Lr 3 (Jk (fun S=>∃p465:List Aa,∃p466:Int,S=⟨Et a1 a2 f3 k3 p156 [(0,Ag 2097152 p465),(9,iV p466)],[],[]⟩∧Ya p156 p465 p466=some o1) ?_ (fun J467=>?_))
   ·rintro _ ⟨p465,p466,rfl,h1⟩
    refine Ax 5 ?_
    obtain rfl:=sj h1
    exact kn hK1 rfl rfl
   ·refine Bt ?_
    refine Cc (bb h1 fun r504 e505 h1=>Cr (R:=(fun S=>∃p492:Int,p492=r504∧S=⟨Et a1 a2 f3 k3 p156 [(0,Ag 2097152 p154),(9,iV p492)],[],[]⟩)) (Yc a2 is3 p154) (fun s S=>match s with | p479=>S=⟨Et a1 a2 f3 k3 p156 [(0,Ag 2097152 p154),(9,iV p479)],[],[]⟩) e505 _ (Dw (by kernel_rfl)) rfl 2 (fun _=>rfl) ?_ ?_)
    ·rintro S _ hfg ⟨p492,rfl,rfl⟩
     refine Dc ⟨Et a1 a2 f3 k3 p156 [(0,Ag 2097152 p154),(9,iV p492)],[],[]⟩ (sQ hfg ⟨rfl,rfl,rfl,rfl,rfl,rfl,tv⟩ tv) (Ba 6 (Et a1 a2 f3 k3 p156 [(0,Ag 2097152 p154),(9,iV p492),(41,.bool (p492==a2))]) [] (Ch h1 (fun c506 h1=>?_) (fun c506 h1=>?_)))
     ·refine Ba 3 [(0,Ag 2097152 p154),(8,.bool true)] [] ?_
      obtain rfl:=sj h1
      obtain rfl:=hx1 _ rfl
      obtain rfl:=sj h0
      exact Ka (hR1 _ (Dx rfl rfl rfl rfl rfl ⟨⟨rfl,Ip (fun _=>rfl)⟩,tv⟩))
     ·refine Ba 9 (Et a1 a2 f3 k3 p156 [(0,Ag 2097152 p154),(9,iV p492),(45,.bool (decide ((wi (a2-a1))<50)))]) [] (Ch h1 (fun c507 h1=>?_) (fun c507 h1=>?_))
      ·refine Ba 3 [(0,Ag 2097152 p154),(8,.bool false)] [] ?_
       obtain rfl:=sj h1
       obtain rfl:=hx1 _ rfl
       obtain rfl:=sj h0
       exact Ka (hR1 _ (Dx rfl rfl rfl rfl rfl ⟨⟨rfl,Ip (fun _=>rfl)⟩,tv⟩))
      ·refine Lr 3 (bb h1 fun y508 e509 h1=>bb h1 fun y510 e511 h1=>bb h1 fun y512 e513 h1=>bb h1 fun y514 e515 h1=>bb h1 fun y516 e517 h1=>bb h1 fun y518 e519 h1=>Ax 8 (Bd (d_ (Yq rfl rfl rfl e509 (Bd (Cf (c_ (Ny rfl rfl e511) (⟨⟨Cy rfl rfl e511 rfl,tv⟩,Ak tv (Cj rfl tv (⟨⟨Cy rfl rfl e511 rfl,tv⟩,Ak tv (Cj rfl tv (⟨⟨Cy rfl rfl e511 rfl,tv⟩,Ak tv (c_ (Kc rfl rfl e513) (⟨⟨Cy rfl rfl e511 rfl,tv⟩,Cf (c_ (Ny rfl rfl e515) (⟨⟨Cy rfl rfl e515 rfl,Cy rfl rfl e511 rfl,tv⟩,Ak tv (c_ (Kc rfl rfl e513) (⟨⟨Cy rfl rfl e515 rfl,Cy rfl rfl e511 rfl,tv⟩,?_⟩))⟩))⟩))⟩))⟩))⟩))))))))
       refine Az (He (y':=y510) rfl rfl tv rfl rfl rfl rfl e515 (nl rfl) rfl rfl rfl rfl (iP ⟨[(0,Ag 2097152 (p154.set p492.toNat y510)),(1,iV a1),(2,iV a2),(3,.clo f3 k3),(9,iV p492),(10,iV p156),(48,Ag 2097152 (p154.set p492.toNat y510)),(49,iV p492),(50,iV (wi (p492-1))),(59,.agg (Ad y514))],[],[]⟩ (fg ⟨congrArg (fun z=>some ((.own 2097152 0 4 z:V))) Bf,rfl,rfl,rfl,rfl,rfl,congrArg (fun z=>some ((.own 2097152 0 4 z:V))) Bf,rfl,rfl,rfl,tv⟩ tv) ⟨[],⟨⟨.inl tv,Bs (Bl t3 rfl tv) rfl⟩,⟨.inl tv,Bs (Dm (v:=iV p492) rfl tv) rfl⟩,⟨.inl tv,Bs (Dm (v:=Ag 2097152 (p154.set p492.toNat y510)) rfl tv) rfl⟩,tv⟩,tv,d_ (Yq rfl rfl rfl e517 (Bd (Az (He (y':=y514) rfl rfl tv rfl rfl rfl rfl e519 (nl rfl) rfl rfl rfl rfl (d0 tv (Hc (Dc ⟨[(0,Ag 2097152 ((p154.set p492.toNat y510).set ((wi (p492-1)).toNat) y514)),(1,iV a1),(2,iV a2),(3,.clo f3 k3),(9,iV p492),(10,iV p156)],[],[]⟩ (fg ⟨congrArg (fun z=>some ((.own 2097152 0 4 z:V))) Bf,rfl,rfl,rfl,rfl,rfl,tv⟩ tv) (Ax 7 (bv h1 fun v520 e521 h1=>Dc ⟨[(0,Ag 2097152 v520),(1,iV a1),(2,iV a2),(3,.clo f3 k3),(9,iV p492),(10,iV p156),(65,.bool (decide ((wi (p492-a1))≥2)))],[],[]⟩ (fg ⟨(by subst e521; rfl),(by subst e521; rfl),(by subst e521; rfl),(by subst e521; rfl),(by subst e521; rfl),(by subst e521; rfl),(by subst e521; rfl),tv⟩ tv) (Ld (cb:=(decide ((wi (p492-a1))≥2))) (fun S=>∃p576:List Aa,S=⟨Et a1 a2 f3 k3 p156 [(0,Ag 2097152 p576),(9,iV p492)],[],[]⟩∧Tm a2 is3 p156 p492 p576=some o1) rfl ?_ (fun c658 J657=>?_) (fun c658 J657=>?_)))))))) Aq)))⟩)) Aq
       ·rintro _ ⟨p576,rfl,h1⟩
        refine Ba 7 (Et a1 a2 f3 k3 p156 [(0,Ag 2097152 p576),(9,iV p492),(104,.bool (decide ((wi (a2-p492))≥2)))]) [] (Ch h1 (fun c577 h1=>?_) (fun c577 h1=>?_))
        ·refine Ba 5 (Et a1 a2 f3 k3 p156 [(0,Ag 2097152 p576),(9,iV p492),(12,iV (wi (p492+1)))]) [] (Cc (bb h1 fun r655 e656 h1=>Cr (R:=(fun S=>∃p630:List Aa,p630=r655∧S=⟨Et a1 a2 f3 k3 p156 [(0,Ag 2097152 p630),(9,iV p492)],[],[]⟩)) (Yd a2 is3) (fun s S=>match s with | (p602,p603)=>S=⟨Et a1 a2 f3 k3 p156 [(0,Ag 2097152 p602),(9,iV p492),(12,iV p603)],[],[]⟩) e656 _ (Dw (by kernel_rfl)) rfl 6 (fun _=>rfl) ?_ ?_))
         ·rintro S _ hfg ⟨p630,rfl,rfl⟩
          refine Su ?_
          exact J467 _ ⟨Et a1 a2 f3 k3 p156 [(0,Ag 2097152 p630),(9,iV p492)],[],[]⟩ (sQ hfg ⟨rfl,rfl,rfl,rfl,rfl,rfl,tv⟩ tv) ⟨_,_,rfl,h1⟩
         ·rintro ⟨p602,p603⟩ o2 _ K2 rfl h2 hx2 hK2 hE2 hR2
          refine Ba 6 (Et a1 a2 f3 k3 p156 [(0,Ag 2097152 p602),(9,iV p492),(12,iV p603),(109,.bool (decide (p603<a2)))]) [] (Ch h2 (fun c631 h2=>?_) (fun c631 h2=>?_))
          ·refine Lr 6 (bb h2 fun y632 e633 h2=>bb h2 fun y634 e635 h2=>bb h2 fun y636 e637 h2=>bb h2 fun y638 e639 h2=>bb h2 fun r640 e641 h2=>Ax 3 (Bd (d_ (Yq rfl rfl rfl e633 (Bd (Cf (c_ (Ny rfl rfl e635) (⟨⟨Cy rfl rfl e635 rfl,tv⟩,Ak tv (Cj rfl tv (⟨⟨Cy rfl rfl e635 rfl,tv⟩,Ak tv (Cj rfl tv (⟨⟨Cy rfl rfl e635 rfl,tv⟩,Ak tv (c_ (Bl t3 rfl tv) (⟨⟨Cy rfl rfl e635 rfl,tv⟩,Ak tv (c_ (Kc rfl rfl e637) (⟨⟨Cy rfl rfl e635 rfl,tv⟩,Cf (c_ (Ny rfl rfl e639) (⟨⟨Cy rfl rfl e639 rfl,Cy rfl rfl e635 rfl,tv⟩,Az (Gt (r:=iV r640) rfl false (hf3 _ _ r640 e641) ⟨tv,tv,tv⟩ (ar (At rfl hs3.2.2.1)) (Be rfl (Be rfl (hs3.2.1 _ _ _ _ _))) (fun _=>rfl) (dw [(0,Ag 2097152 p602),(1,iV a1),(2,iV a2),(3,.clo f3 k3),(9,iV p492),(10,iV p156),(12,iV p603),(122,iV r640)] [] tv (Ak tv (c_ (Bl t3 rfl tv) (⟨tv,Ak tv (c_ (Bl ⟨tv,tv⟩ rfl tv) (⟨tv,Hc (Dc ⟨Et a1 a2 f3 k3 p156 [(0,Ag 2097152 p602),(9,iV p492),(12,iV p603),(124,.bool (!(decide (r640<0))))],[],[]⟩ (Dw (by kernel_rfl)) (Ch h2 (fun c642 h2=>?_) (fun c642 h2=>?_)))⟩))⟩))))) Aq⟩))⟩))⟩))⟩))⟩))⟩))))))))
           ·obtain rfl:=sj h2
            obtain rfl:=hx2 _ rfl
            refine Hq rfl ?_
            exact jn hE2 ⟨_,rfl,rfl⟩
           ·refine Lr 2 (bb h2 fun y643 e644 h2=>bb h2 fun y645 e646 h2=>bb h2 fun y647 e648 h2=>bb h2 fun y649 e650 h2=>bb h2 fun y651 e652 h2=>bb h2 fun y653 e654 h2=>Ax 8 (Bd (d_ (Yq rfl rfl rfl e644 (Bd (Cf (c_ (Ny rfl rfl e646) (⟨⟨Cy rfl rfl e646 rfl,tv⟩,Ak tv (Cj rfl tv (⟨⟨Cy rfl rfl e646 rfl,tv⟩,Ak tv (Cj rfl tv (⟨⟨Cy rfl rfl e646 rfl,tv⟩,Ak tv (c_ (Kc rfl rfl e648) (⟨⟨Cy rfl rfl e646 rfl,tv⟩,Cf (c_ (Ny rfl rfl e650) (⟨⟨Cy rfl rfl e650 rfl,Cy rfl rfl e646 rfl,tv⟩,Ak tv (c_ (Kc rfl rfl e648) (⟨⟨Cy rfl rfl e650 rfl,Cy rfl rfl e646 rfl,tv⟩,?_⟩))⟩))⟩))⟩))⟩))⟩))))))))
            refine Az (He (y':=y645) rfl rfl tv rfl rfl rfl rfl e650 (nl rfl) rfl rfl rfl rfl (iP ⟨[(0,Ag 2097152 (p602.set p603.toNat y645)),(1,iV a1),(2,iV a2),(3,.clo f3 k3),(9,iV p492),(10,iV p156),(12,iV p603),(127,Ag 2097152 (p602.set p603.toNat y645)),(128,iV p603),(129,iV (wi (p603-1))),(138,.agg (Ad y649))],[],[]⟩ (fg ⟨congrArg (fun z=>some ((.own 2097152 0 4 z:V))) Bf,rfl,rfl,rfl,rfl,rfl,rfl,congrArg (fun z=>some ((.own 2097152 0 4 z:V))) Bf,rfl,rfl,rfl,tv⟩ tv) ⟨[],⟨⟨.inl tv,Bs (Bl t3 rfl tv) rfl⟩,⟨.inl tv,Bs (Dm (v:=iV p603) rfl tv) rfl⟩,⟨.inl tv,Bs (Dm (v:=Ag 2097152 (p602.set p603.toNat y645)) rfl tv) rfl⟩,tv⟩,tv,d_ (Yq rfl rfl rfl e652 (Bd (Az (He (y':=y649) rfl rfl tv rfl rfl rfl rfl e654 (nl rfl) rfl rfl rfl rfl (d0 tv (Hc (Su (Dc ⟨[(0,Ag 2097152 ((p602.set p603.toNat y645).set ((wi (p603-1)).toNat) y649)),(1,iV a1),(2,iV a2),(3,.clo f3 k3),(9,iV p492),(10,iV p156),(12,iV p603)],[],[]⟩ (fg ⟨congrArg (fun z=>some ((.own 2097152 0 4 z:V))) Bf,rfl,rfl,rfl,rfl,rfl,rfl,tv⟩ tv) (Ax 4 ?_)))))) Aq)))⟩)) Aq
            obtain rfl:=sj h2
            exact kn hK2 rfl rfl
          ·obtain rfl:=sj h2
           obtain rfl:=hx2 _ rfl
           refine Hq rfl ?_
           exact jn hE2 ⟨_,rfl,rfl⟩
        ·refine Lc (Su ?_)
         exact jn J467 ⟨_,_,rfl,h1⟩
       ·replace h1:=ip c658 h1
        refine Ba 5 (Et a1 a2 f3 k3 p156 [(0,Ag 2097152 v520),(9,iV p492),(11,iV (wi (p492-1)))]) [] (Cc (bb h1 fun r736 e737 h1=>Cr (R:=(fun S=>∃p711:List Aa,p711=r736∧S=⟨Et a1 a2 f3 k3 p156 [(0,Ag 2097152 p711),(9,iV p492)],[],[]⟩)) (Ye is3) (fun s S=>match s with | (p683,p684)=>S=⟨Et a1 a2 f3 k3 p156 [(0,Ag 2097152 p683),(9,iV p492),(11,iV p684)],[],[]⟩) e737 _ (Dw (by kernel_rfl)) rfl 4 (fun _=>rfl) ?_ ?_))
        ·rintro S _ hfg ⟨p711,rfl,rfl⟩
         exact J657 _ ⟨Et a1 a2 f3 k3 p156 [(0,Ag 2097152 p711),(9,iV p492)],[],[]⟩ (sQ hfg ⟨rfl,rfl,rfl,rfl,rfl,rfl,tv⟩ tv) ⟨_,rfl,h1⟩
        ·rintro ⟨p683,p684⟩ o2 _ K2 rfl h2 hx2 hK2 hE2 hR2
         refine Ba 5 (Et a1 a2 f3 k3 p156 [(0,Ag 2097152 p683),(9,iV p492),(11,iV p684),(69,.bool (decide (p684≥1)))]) [] (Ch h2 (fun c712 h2=>?_) (fun c712 h2=>?_))
         ·refine Lr 6 (bb h2 fun y713 e714 h2=>bb h2 fun y715 e716 h2=>bb h2 fun y717 e718 h2=>bb h2 fun y719 e720 h2=>bb h2 fun r721 e722 h2=>Ax 3 (Bd (d_ (Yq rfl rfl rfl e714 (Bd (Cf (c_ (Ny rfl rfl e716) (⟨⟨Cy rfl rfl e716 rfl,tv⟩,Ak tv (Cj rfl tv (⟨⟨Cy rfl rfl e716 rfl,tv⟩,Ak tv (Cj rfl tv (⟨⟨Cy rfl rfl e716 rfl,tv⟩,Ak tv (c_ (Bl t3 rfl tv) (⟨⟨Cy rfl rfl e716 rfl,tv⟩,Ak tv (c_ (Kc rfl rfl e718) (⟨⟨Cy rfl rfl e716 rfl,tv⟩,Cf (c_ (Ny rfl rfl e720) (⟨⟨Cy rfl rfl e720 rfl,Cy rfl rfl e716 rfl,tv⟩,Az (Gt (r:=iV r721) rfl false (hf3 _ _ r721 e722) ⟨tv,tv,tv⟩ (ar (At rfl hs3.2.2.1)) (Be rfl (Be rfl (hs3.2.1 _ _ _ _ _))) (fun _=>rfl) (dw [(0,Ag 2097152 p683),(1,iV a1),(2,iV a2),(3,.clo f3 k3),(9,iV p492),(10,iV p156),(11,iV p684),(82,iV r721)] [] tv (Ak tv (c_ (Bl t3 rfl tv) (⟨tv,Ak tv (c_ (Bl ⟨tv,tv⟩ rfl tv) (⟨tv,Hc (Dc ⟨Et a1 a2 f3 k3 p156 [(0,Ag 2097152 p683),(9,iV p492),(11,iV p684),(84,.bool (!(decide (r721<0))))],[],[]⟩ (Dw (by kernel_rfl)) (Ch h2 (fun c723 h2=>?_) (fun c723 h2=>?_)))⟩))⟩))))) Aq⟩))⟩))⟩))⟩))⟩))⟩))))))))
          ·obtain rfl:=sj h2
           obtain rfl:=hx2 _ rfl
           refine Hq rfl ?_
           exact jn hE2 ⟨_,rfl,rfl⟩
          ·refine Lr 2 (bb h2 fun y724 e725 h2=>bb h2 fun y726 e727 h2=>bb h2 fun y728 e729 h2=>bb h2 fun y730 e731 h2=>bb h2 fun y732 e733 h2=>bb h2 fun y734 e735 h2=>Ax 8 (Bd (d_ (Yq rfl rfl rfl e725 (Bd (Cf (c_ (Ny rfl rfl e727) (⟨⟨Cy rfl rfl e727 rfl,tv⟩,Ak tv (Cj rfl tv (⟨⟨Cy rfl rfl e727 rfl,tv⟩,Ak tv (Cj rfl tv (⟨⟨Cy rfl rfl e727 rfl,tv⟩,Ak tv (c_ (Kc rfl rfl e729) (⟨⟨Cy rfl rfl e727 rfl,tv⟩,Cf (c_ (Ny rfl rfl e731) (⟨⟨Cy rfl rfl e731 rfl,Cy rfl rfl e727 rfl,tv⟩,Ak tv (c_ (Kc rfl rfl e729) (⟨⟨Cy rfl rfl e731 rfl,Cy rfl rfl e727 rfl,tv⟩,?_⟩))⟩))⟩))⟩))⟩))⟩))))))))
           refine Az (He (y':=y726) rfl rfl tv rfl rfl rfl rfl e731 (nl rfl) rfl rfl rfl rfl (iP ⟨[(0,Ag 2097152 (p683.set p684.toNat y726)),(1,iV a1),(2,iV a2),(3,.clo f3 k3),(9,iV p492),(10,iV p156),(11,iV p684),(87,Ag 2097152 (p683.set p684.toNat y726)),(88,iV p684),(89,iV (wi (p684-1))),(98,.agg (Ad y730))],[],[]⟩ (fg ⟨congrArg (fun z=>some ((.own 2097152 0 4 z:V))) Bf,rfl,rfl,rfl,rfl,rfl,rfl,congrArg (fun z=>some ((.own 2097152 0 4 z:V))) Bf,rfl,rfl,rfl,tv⟩ tv) ⟨[],⟨⟨.inl tv,Bs (Bl t3 rfl tv) rfl⟩,⟨.inl tv,Bs (Dm (v:=iV p684) rfl tv) rfl⟩,⟨.inl tv,Bs (Dm (v:=Ag 2097152 (p683.set p684.toNat y726)) rfl tv) rfl⟩,tv⟩,tv,d_ (Yq rfl rfl rfl e733 (Bd (Az (He (y':=y730) rfl rfl tv rfl rfl rfl rfl e735 (nl rfl) rfl rfl rfl rfl (d0 tv (Hc (Su (Dc ⟨[(0,Ag 2097152 ((p683.set p684.toNat y726).set ((wi (p684-1)).toNat) y730)),(1,iV a1),(2,iV a2),(3,.clo f3 k3),(9,iV p492),(10,iV p156),(11,iV p684)],[],[]⟩ (fg ⟨congrArg (fun z=>some ((.own 2097152 0 4 z:V))) Bf,rfl,rfl,rfl,rfl,rfl,rfl,tv⟩ tv) (Ax 4 ?_)))))) Aq)))⟩)) Aq
           obtain rfl:=sj h2
           exact kn hK2 rfl rfl
         ·obtain rfl:=sj h2
          obtain rfl:=hx2 _ rfl
          refine Hq rfl ?_
          exact jn hE2 ⟨_,rfl,rfl⟩
       ·replace h1:=aB c658 h1
        refine Lc ?_
        exact jn J657 ⟨_,rfl,h1⟩
    ·rintro p479 o2 _ K2 rfl h2 hx2 hK2 hE2 hR2
     refine Bt (Bt (bb h2 fun y493 e494 h2=>bb h2 fun y495 e496 h2=>bb h2 fun y497 e498 h2=>bb h2 fun y499 e500 h2=>bb h2 fun r501 e502 h2=>Ax 4 (Bd (Ak tv (Bv (u:=.clo f3 k3) rfl (fun hg=>(Dm (v:=.clo f3 k3) rfl tv)) (⟨tv,Ak tv (Bv (u:=Ag 2097152 p154) rfl (fun hg=>(Dm (v:=Ag 2097152 p154) rfl tv)) (⟨tv,Ak tv (Bv (u:=iV p479) rfl (fun hg=>(Dm (v:=iV p479) rfl tv)) (⟨tv,Ak tv (Bv (u:=.optr 2097152 4 (0+p479.toNat) 0) rfl (fun hg=>(Gx (e:=Ad) (y:=y493) rfl rfl (fun _=>hg) rfl rfl (fun _=>hg) (ip hg e494))) (⟨tv,Cf (Bv (u:=.agg (Ad y495)) rfl (fun hg=>(Bn (e:=Ad) (y:=y495) (v:=.agg (Ad y495)) rfl rfl (fun _=>hg) rfl rfl (ip hg e496) rfl (nl rfl) rfl)) (⟨⟨Bw (v:=.agg (Ad y495)) rfl (fun hg=>(Bn (e:=Ad) (y:=y495) (v:=.agg (Ad y495)) rfl rfl (fun _=>hg) rfl rfl (ip hg e496) rfl (nl rfl) rfl)) rfl,tv⟩,Ak tv (Bv (u:=Ag 2097152 p154) rfl (fun hg=>(Dm (v:=Ag 2097152 p154) rfl tv)) (⟨⟨Bw (v:=.agg (Ad y495)) rfl (fun hg=>(Bn (e:=Ad) (y:=y495) (v:=.agg (Ad y495)) rfl rfl (fun _=>hg) rfl rfl (ip hg e496) rfl (nl rfl) rfl)) rfl,tv⟩,Ak tv (Bv (u:=iV p479) rfl (fun hg=>(Dm (v:=iV p479) rfl tv)) (⟨⟨Bw (v:=.agg (Ad y495)) rfl (fun hg=>(Bn (e:=Ad) (y:=y495) (v:=.agg (Ad y495)) rfl rfl (fun _=>hg) rfl rfl (ip hg e496) rfl (nl rfl) rfl)) rfl,tv⟩,Ak tv (Bv (u:=iV (wi (p479-1))) rfl (fun hg=>(Bl ⟨(fun _=>hg),tv,tv⟩ rfl tv)) (⟨⟨Bw (v:=.agg (Ad y495)) rfl (fun hg=>(Bn (e:=Ad) (y:=y495) (v:=.agg (Ad y495)) rfl rfl (fun _=>hg) rfl rfl (ip hg e496) rfl (nl rfl) rfl)) rfl,tv⟩,Ak tv (Bv (u:=.optr 2097152 4 (0+((wi (p479-1)).toNat)) 0) rfl (fun hg=>(Gx (e:=Ad) (y:=y497) rfl rfl (fun _=>hg) rfl rfl (fun _=>hg) (ip hg e498))) (⟨⟨Bw (v:=.agg (Ad y495)) rfl (fun hg=>(Bn (e:=Ad) (y:=y495) (v:=.agg (Ad y495)) rfl rfl (fun _=>hg) rfl rfl (ip hg e496) rfl (nl rfl) rfl)) rfl,tv⟩,Cf (Bv (u:=.agg (Ad y499)) rfl (fun hg=>(Bn (e:=Ad) (y:=y499) (v:=.agg (Ad y499)) rfl rfl (fun _=>hg) rfl rfl (ip hg e500) rfl (nl rfl) rfl)) (⟨⟨Bw (v:=.agg (Ad y499)) rfl (fun hg=>(Bn (e:=Ad) (y:=y499) (v:=.agg (Ad y499)) rfl rfl (fun _=>hg) rfl rfl (ip hg e500) rfl (nl rfl) rfl)) rfl,Bw (v:=.agg (Ad y495)) rfl (fun hg=>(Bn (e:=Ad) (y:=y495) (v:=.agg (Ad y495)) rfl rfl (fun _=>hg) rfl rfl (ip hg e496) rfl (nl rfl) rfl)) rfl,tv⟩,Az (Ie (r:=iV r501) rfl rfl rfl (fun hg=>hg) false (fun hg=>hf3 _ _ r501 (ip hg e502)) ⟨(fun hg=>hg),(fun hg=>hg),tv⟩ (fun _=>(ar (At rfl hs3.2.2.1))) (fun _=>(Be rfl (Be rfl (hs3.2.1 _ _ _ _ _)))) (fun _=>rfl) (fun h=>nomatch h) (dw [(0,Ag 2097152 p154),(1,iV a1),(2,iV a2),(3,.clo f3 k3),(9,iV p479),(10,iV p156),(22,.bool (decide (p479<a2))),(33,.may ((decide (p479<a2))==true) (iV r501))] [] tv ?_)) Aq⟩))⟩))⟩))⟩))⟩))⟩))⟩))⟩))⟩))⟩))))))
     refine Ak tv (Bv (u:=.bool (decide (r501<0))) rfl (fun hg=>(Bl ⟨(fun _=>hg),tv,tv⟩ rfl tv)) (⟨tv,Ak tv (Bv (u:=.bool (!(decide (r501<0)))) rfl (fun hg=>(Bl ⟨(fun _=>hg),tv⟩ rfl tv)) (⟨tv,Ak tv (Dh rfl rfl rfl (fun h=>Ta h) tv rfl (⟨tv,d_ (Ba 1 (Et a1 a2 f3 k3 p156 [(0,Ag 2097152 p154),(9,iV p479),(36,.bool (bif (decide (p479<a2)) then (!(decide (r501<0))) else false))]) [] (Ch h2 (fun c503 h2=>?_) (fun c503 h2=>?_)))⟩))⟩))⟩))
     ·refine Ax 8 ?_
      obtain rfl:=sj h2
      exact kn hK2 rfl rfl
     ·obtain rfl:=sj h2
      obtain rfl:=hx2 _ rfl
      refine Hq rfl ?_
      exact jn hE2 ⟨_,rfl,rfl⟩
  ·obtain rfl:=sj h1
   obtain rfl:=hx1 _ rfl
   refine Hq rfl ?_
   exact jn hE1 ⟨_,rfl,rfl⟩
end Go.Ev
